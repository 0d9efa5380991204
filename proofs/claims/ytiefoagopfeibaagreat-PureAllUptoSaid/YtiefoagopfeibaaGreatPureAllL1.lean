/- A part of the proof that the law PureAll gives true for every input. -/
import Derived.Test.YtiefoagopfeibaaGreatPureAllA2
import Derived.Test.YtiefoagopfeibaaGreatPureAllA3
import Derived.Test.YtiefoagopfeibaaGreatPureAllT
import Derived.Test.YtiefoagopfeibaaGreatPureAllA4
import Derived.Test.YtiefoagopfeibaaGreatPureAllI
import Derived.Test.YtiefoagopfeibaaGreatPureAllD
/- The plain law. -/
namespace Go.Proofs.YtiefoagopfeibaaGreat
open Go.RowKit Go.Abs
def Tot {α : Type} (o : Option α) : Prop := ∃ r, o = some r
theorem af {α : Type} (x : α) : Tot (some x) := ⟨x, rfl⟩
theorem aH {α β : Type} {a : Option α} {f : α → Option β} (h : Tot a) (h2 : ∀ x, a = some x → Tot (f x)) : Tot (Option.bind a f) := by
 obtain ⟨x, rfl⟩ := h
 exact h2 x rfl
theorem aJ {α : Type} {b : Bool} {x y : Option α} (h1 : b = true → Tot x) (h2 : b = false → Tot y) : Tot (if b = true then x else y) := by
 cases b with
 | true => exact h1 rfl
 | false => exact h2 rfl
theorem fh {R S α : Type} {r : Ctl R S} {f : R → Option α} {g : S → Option α} (h1 : ∀ v, Tot (f v)) (h2 : ∀ s, Tot (g s)) : Tot (Ctl.elim r f g) := by
 cases r with
 | stop v => exact h1 v
 | next s => exact h2 s
theorem dX {ρ : Type} (F : Nat → Int → Option ρ) (len : Nat) (h1 : ∀ (n k : Nat), k < len → Tot (F n ((k + 1 : Nat) : Int)) → Tot (F (n + 1) (k : Int))) (h2 : ∀ (n k : Nat), ¬ k < len → Tot (F (n + 1) (k : Int))) :
  ∀ (n k : Nat), n + k = len + 1 → k ≤ len → Tot (F n (k : Int))
 | 0, k, h, hk => by omega
 | n + 1, k, h, hk => by
  by_cases hlt : k < len
  ·exact h1 n k hlt (dX F len h1 h2 n (k + 1) (by omega) (by omega))
  ·exact h2 n k hlt
theorem iz {σ ρ : Type} (F : Nat → σ → Int → Option ρ) (len : Nat) (h1 : ∀ (n k : Nat) (s : σ), k < len → (∀ s', Tot (F n s' ((k + 1 : Nat) : Int))) → Tot (F (n + 1) s (k : Int))) (h2 : ∀ (n k : Nat) (s : σ), ¬ k < len → Tot (F (n + 1) s (k : Int))) :
  ∀ (n k : Nat) (s : σ), n + k = len + 1 → k ≤ len → Tot (F n s (k : Int))
 | 0, k, s, h, hk => by omega
 | n + 1, k, s, h, hk => by
  by_cases hlt : k < len
  ·exact h1 n k s hlt (fun s' => iz F len h1 h2 n (k + 1) s' (by omega) (by omega))
  ·exact h2 n k s hlt
theorem cB (m : Nat) : (((m : Int) : Int) - (0)).toNat + 1 = m + 1 := by omega
def TP {α : Type} (Q : α → Prop) (o : Option α) : Prop := ∃ r, o = some r ∧ Q r
theorem dY {α : Type} {Q : α → Prop} {x : α} (h : Q x) : TP Q (some x) := ⟨x, rfl, h⟩
theorem eF {α β : Type} {R : α → Prop} {Q : β → Prop} {a : Option α} {f : α → Option β} (h : TP R a) (h2 : ∀ x, R x → TP Q (f x)) : TP Q (Option.bind a f) := by
 obtain ⟨x, rfl, hx⟩ := h
 exact h2 x hx
theorem qe {α : Type} {Q : α → Prop} {b : Bool} {x y : Option α} (h1 : b = true → TP Q x) (h2 : b = false → TP Q y) : TP Q (if b = true then x else y) := by
 cases b with
 | true => exact h1 rfl
 | false => exact h2 rfl
theorem Mw {α : Type} {o : Option α} (h : Tot o) : TP (fun _ => True) o := by obtain ⟨r, h⟩ := h; exact ⟨r, h, trivial⟩
theorem zR {α : Type} {Q : α → Prop} {o : Option α} (h : TP Q o) : Tot o := by obtain ⟨r, h, _⟩ := h; exact ⟨r, h⟩
theorem qf {σ ρ : Type} {Q : ρ → Prop} (F : Nat → σ → Int → Option ρ) (len : Nat) (I : Nat → σ → Prop) (h1 : ∀ (n k : Nat) (s : σ), k < len → I k s → (∀ s', I (k + 1) s' → TP Q (F n s' ((k + 1 : Nat) : Int))) → TP Q (F (n + 1) s (k : Int))) (h2 : ∀ (n : Nat) (s : σ), I len s → TP Q (F (n + 1) s (len : Int))) :
  ∀ (n k : Nat) (s : σ), n + k = len + 1 → k ≤ len → I k s → TP Q (F n s (k : Int))
 | 0, k, s, h, hk, _ => by omega
 | n + 1, k, s, h, hk, hi => by
  by_cases hlt : k < len
  ·exact h1 n k s hlt hi (fun s' hs' => qf F len I h1 h2 n (k + 1) s' (by omega) (by omega) hs')
  ·have : k = len := by omega
   subst this
   exact h2 n s hi
theorem dl {α : Type} {u : α → Nat} {l : List α} {y : α} : y ∈ l → u y ≤ cW u l := by
 induction l with
 | nil => intro h; simp at h
 | cons x l ih =>
  intro h
  simp only [cW]
  rcases List.mem_cons.1 h with rfl | h
  ·omega
  ·have := ih h; omega
theorem dt {α : Type} {u : α → Nat} (h : ∀ y, 1 ≤ u y) : ∀ l : List α, l.length ≤ cW u l
 | [] => Nat.le_refl _
 | x :: l => by simp only [cW, List.length_cons]; have := h x; have := dt h l; omega
theorem rn {α : Type} {u v : α → Nat} : ∀ {l : List α}, (∀ y ∈ l, u y ≤ v y) → cW u l ≤ cW v l
 | [], _ => Nat.le_refl _
 | x :: l, h => by simp only [cW]; have := h x (by simp); have := rn (l := l) (fun y hy => h y (by simp [hy])); omega
theorem pR {α : Type} (u : α → Nat) {l : List α} {k : Nat} (h : k < l.length) : cW u (l.drop k) = u l[k] + cW u (l.drop (k + 1)) := by rw [List.drop_eq_getElem_cons h]; rfl
theorem QI (s : List UInt8) : 1 ≤ List.length s + 1 := by omega
theorem UU (x : bH) : 1 ≤ iR x := by unfold iR; omega
theorem J8 (x : dU) : 1 ≤ pD x := by unfold pD; omega
theorem Sh (x : cD) : 1 ≤ fy x := by rw [xp]; omega
theorem GW (x : aQ) : 1 ≤ dc x := by rw [ud]; omega
theorem Sw (x : aI) : 1 ≤ dC x := by unfold dC; omega
theorem P8 (x : ae) : 1 ≤ de x := by unfold de; omega
theorem UF (x : bV) : x.aq.length < pd x := by unfold pd; omega
theorem UT (x : dU) : x.ax.length < pD x ∧ pd x.aO < pD x := by unfold pD; omega
theorem Uw (x : cD) : x.ax.length < fy x ∧ cW fy x.cY < fy x := by rw [xp]; omega
theorem za (x : aQ) : x.fX.length < dc x ∧ x.fY.length < dc x ∧ x.ax.length < dc x ∧ pd x.aO < dc x ∧ fy x.fE < dc x ∧ cW fy x.dH < dc x ∧ 1 + cW dc x.bM + cW dc x.dp < dc x := by rw [ud]; omega
theorem Br (x : aI) : x.ax.length < dC x ∧ pd x.ca < dC x ∧ 1 + cW pD x.ap + cW pD x.cy + cW dc x.bM < dC x := by unfold dC; omega
theorem BW (x : ae) : x.ax.length < de x ∧ cW (fun s => List.length s + 1) x.ap < de x ∧ x.di.length < de x ∧ cW iR x.ey < de x ∧ cW pD x.cm + cW dC x.ah < de x := by unfold de; omega
theorem JV : ∀ l : List cD, pt l = cW dh l
 | [] => by simp only [pt, cW]
 | x :: l => by simp only [pt, cW, JV l]
theorem lU : ∀ l : List aQ, dd l = cW dE l
 | [] => by simp only [dd, cW]
 | x :: l => by simp only [dd, cW, lU l]
theorem sS (e : cD) : dh e = 1 + cW dh e.cY := by rw [← JV]; cases e; simp only [dh]
theorem xQ (e : aQ) : dE e = 1 + dh e.fE + cW dh e.dH + cW dE e.bM + cW dE e.dp := by rw [← lU, ← lU, ← JV]; cases e; simp only [dE]
theorem UR : ∀ (n : Nat) (e : cD), dh e ≤ n → dh e ≤ fy e
 | 0, e, h => by rw [sS] at h; omega
 | n + 1, e, h => by
  rw [sS] at h
  rw [sS]
  have := (Uw e).2
  have := rn (u := dh) (v := fy) (l := e.cY) (fun y hy => UR n y (by have := dl (u := dh) hy; omega))
  omega
theorem Ky (e : cD) : dh e ≤ fy e := UR _ e (Nat.le_refl _)
theorem Uo : ∀ (n : Nat) (e : aQ), dE e ≤ n → dE e ≤ dc e
 | 0, e, h => by rw [xQ] at h; omega
 | n + 1, e, h => by
  rw [xQ] at h
  rw [xQ, ud]
  have h1 := rn (u := dh) (v := fy) (l := e.dH) (fun y _ => Ky y)
  have h2 := rn (u := dE) (v := dc) (l := e.bM) (fun y hy => Uo n y (by have := dl (u := dE) hy; omega))
  have h3 := rn (u := dE) (v := dc) (l := e.dp) (fun y hy => Uo n y (by have := dl (u := dE) hy; omega))
  have h4 := Ky e.fE
  omega
theorem OT (e : aQ) : dE e ≤ dc e := Uo _ e (Nat.le_refl _)
theorem Fj (b : Int) : Tot (jG b) := by
 unfold jG
 repeat (first | exact af _ | refine aJ (fun _ => ?_) fun _ => ?_)
theorem Pw (b : Int) : Tot (jJ b) := by
 unfold jJ
 repeat (first | exact af _ | refine aJ (fun _ => ?_) fun _ => ?_)
theorem Rh (s : List UInt8) : Tot (pT s) := by
 unfold pT
 refine aH (show Tot qM from af _) fun W hW => ?_
 have hl : W.length ≤ 9223372036854775807 := by unfold qM at hW; cases hW; simp
 rw [cB]
 refine aH ?_ fun _ _ => fh (fun _ => af _) fun _ => af _
 refine dX (lz s W) W.length (fun m k hlt ih => ?_) (fun m k hlt => ?_) _ 0 (by omega) (by omega)
 ·rw [lz, if_pos (by simpa using hlt), cq hlt, bW hlt hl, obs]
  exact aJ (fun _ => af _) fun _ => ih
 ·rw [lz, if_neg (by simpa using hlt)]; exact af _
theorem nc {s : List UInt8} (h : s.length ≤ 9223372036854775807) : Tot (dL s) := by
 unfold dL
 rw [cB]
 refine aH (aJ (fun _ => af _) fun h1 => aJ (fun _ => af _) fun _ => ?_) fun _ _ => aJ (fun _ => af _) fun _ => aH ?_ fun _ _ => fh (fun _ => af _) fun _ => af _
 ·have h0 : 0 < s.length := by simp at h1; omega
  rw [show (0 : Int) = ((0 : Nat) : Int) from rfl, cq h0, obs]
  exact aH (Fj _) fun _ _ => aJ (fun _ => af _) fun _ => aH (Rh _) fun _ _ => af _
 ·refine dX (lB s) s.length (fun m k hlt ih => ?_) (fun m k hlt => ?_) _ 0 (by omega) (by omega)
  ·rw [lB, if_pos (by simpa using hlt), cq hlt, bW hlt h]
   simp only [obs]
   exact aH (aH (Fj _) fun _ _ => aJ (fun _ => aH (Pw _) fun _ _ => af _) fun _ => af _) fun _ _ => aJ (fun _ => af _) fun _ => ih
  ·rw [lB, if_neg (by simpa using hlt)]; exact af _
theorem E7 (o : bH) (n : Int) : Tot (mC o n) := by
 unfold mC
 repeat (first | exact af _ | refine aJ (fun _ => ?_) fun _ => ?_)
theorem BV {t : bV} (n : Int) (h : t.aq.length ≤ 9223372036854775807) : Tot (kW t n) := by
 unfold kW
 rw [show (((4 : Int) : Int) - (0)).toNat + 1 = t.aK.l.length + 1 from rfl]
 refine aH (aJ (fun _ => af _) fun _ => af _) fun _ _ => aJ (fun _ => af _) fun _ => aH ?_ fun _ _ => aJ (fun _ => af _) fun _ => aH ?_ fun _ _ => fh (fun _ => af _) fun _ => af _
 ·exact aJ (fun _ => af _) fun _ => aH (nc h) fun _ _ => aJ (fun _ => af _) fun _ => aJ (fun _ => af _) fun _ => af _
 ·refine dX (ku t n) t.aK.l.length (fun m k hlt ih => ?_) (fun m k hlt => ?_) _ 0 (by omega) (by omega)
  ·have h4 : t.aK.l.length = 4 := rfl
   rw [ku, if_pos (by simp; omega), cq hlt, bW hlt (by omega), obs]
   refine aH ?_ fun _ _ => aJ (fun _ => af _) fun _ => ih
   repeat (first | exact af _ | exact E7 _ _ | refine aJ (fun _ => ?_) fun _ => ?_ | refine aH ?_ fun _ _ => ?_)
  ·have h4 : t.aK.l.length = 4 := rfl
   rw [ku, if_neg (by simp; omega)]; exact af _
theorem zn : ∀ (n : Nat) (a b : cD), dh a < n → n ≤ 9223372036854775807 → Tot (ig n a b)
 | 0, a, b, h, _ => by omega
 | n + 1, a, b, h, hn => by
  rw [sS] at h
  have hl := dt (u := dh) (fun y => by rw [sS]; omega) a.cY
  simp only [ig, cB]
  by_cases hk : ((a.cY.length : Int) != (b.cY.length : Int)) = true
  ·refine aH (a := _) (f := _) ?_ fun x hx => aJ (fun _ => af _) fun hf => ?_
   ·exact aJ (fun _ => af _) fun _ => aJ (fun _ => af _) fun _ => aJ (fun _ => af _) fun _ => af _
   ·exfalso
    subst hf
    rw [hk] at hx
    revert hx
    split
    ·intro h; cases h
    ·split
     ·intro h; cases h
     ·split
      ·intro h; cases h
      ·intro h; cases h
  ·have hlen : a.cY.length = b.cY.length := by simp at hk; omega
   refine aH (aJ (fun _ => af _) fun _ => aJ (fun _ => af _) fun _ => aJ (fun _ => af _) fun _ => af _) fun _ _ => aJ (fun _ => af _) fun _ => aH ?_ fun _ _ => fh (fun _ => af _) fun _ => af _
   refine dX (lC a b (ig n)) a.cY.length (fun m k hlt ih => ?_) (fun m k hlt => ?_) _ 0 (by omega) (by omega)
   ·rw [lC, if_pos (by simpa using hlt), cq hlt, cq (show k < b.cY.length by omega), bW hlt (by omega), obs, obs]
    have := dl (u := dh) (List.getElem_mem hlt)
    exact aH (zn n _ _ (by omega) (by omega)) fun _ _ => aJ (fun _ => af _) fun _ => ih
   ·rw [lC, if_neg (by simpa using hlt)]; exact af _
theorem Pc (k : Int) : Tot (sh k) := by
 unfold sh
 repeat (first | exact af _ | refine aJ (fun _ => ?_) fun _ => ?_ | refine aH ?_ fun _ _ => ?_)
theorem GX : ∀ (n : Nat) (e : cD), dh e < n → fy e ≤ 1048576 → Tot (jK n e)
 | 0, e, h, _ => by omega
 | n + 1, e, h, hu => by
  rw [sS] at h
  have hp := Uw e
  have hl := dt Sh e.cY
  have hN : Tot (dL e.ax) := nc (by omega)
  simp only [jK, cB]
  refine aH ?_ fun _ _ => aJ (fun _ => af _) fun _ => aH ?_ fun _ _ => fh (fun _ => af _) fun _ => af _
  ·repeat (first | exact af _ | exact hN | exact Pc _ | refine aJ (fun _ => ?_) fun _ => ?_ | refine aH ?_ fun _ _ => ?_)
  ·refine dX (lx e (jK n)) e.cY.length (fun m k hlt ih => ?_) (fun m k hlt => ?_) _ 0 (by omega) (by omega)
   ·rw [lx, if_pos (by simpa using hlt), cq hlt, bW hlt (by omega), obs, obs]
    have h1 := dl (u := dh) (List.getElem_mem hlt)
    have h2 := dl (u := fy) (List.getElem_mem hlt)
    refine aH (aH (GX n _ (by omega) (by omega)) fun _ _ => ?_) fun _ _ => aJ (fun _ => af _) fun _ => ih
    repeat (first | exact af _ | refine aJ (fun _ => ?_) fun _ => ?_)
   ·rw [lx, if_neg (by simpa using hlt)]; exact af _
theorem IV : ∀ (n : Nat) (e : cD), dh e < n → fy e ≤ 1048576 → Tot (jM n e)
 | 0, e, h, _ => by omega
 | n + 1, e, h, hu => by
  rw [sS] at h
  have hp := Uw e
  have hl := dt Sh e.cY
  simp only [jM, cB]
  refine aH ?_ fun _ _ => af _
  refine iz (lj e (jM n)) e.cY.length (fun m k s hlt ih => ?_) (fun m k s hlt => ?_) _ 0 _ (by omega) (by omega)
  ·rw [lj, if_pos (by simpa using hlt), cq hlt, bW hlt (by omega), obs]
   have h1 := dl (u := dh) (List.getElem_mem hlt)
   have h2 := dl (u := fy) (List.getElem_mem hlt)
   exact aH (IV n _ (by omega) (by omega)) fun _ _ => ih _
  ·rw [lj, if_neg (by simpa using hlt)]; exact af _
theorem yg {e : cD} (hu : fy e ≤ 1048576) : Tot (kS e) := by
 unfold kS
 exact aH (GX _ _ (by omega) hu) fun _ _ => aJ (fun _ => aH (IV _ _ (by omega) hu) fun _ _ => af _) fun _ => af _
theorem Ql (s : aQ) : TP (fun y => dh y.fE ≤ dh s.fE + 1) (qX s) := by
 unfold qX
 have b : ∀ {b : Option Bool} (_ : Tot b), TP (fun _ => True) b := fun h => Mw h
 have e1 : dh si = 1 := by rw [sS]; rfl
 refine eF (R := fun y : aQ => dh y.fE ≤ dh s.fE + 1) (eF (b ?_) fun x _ => qe (fun _ => dY (by simp)) fun _ => dY (by simp)) fun y1 h1 => ?_
 ·repeat (first | exact af _ | refine aJ (fun _ => ?_) fun _ => ?_)
 refine eF (R := fun y : aQ => dh y.fE ≤ dh s.fE + 1) (eF (b ?_) fun x _ => qe (fun _ => dY h1) fun _ => dY h1) fun y2 h2 => ?_
 ·repeat (first | exact af _ | refine aJ (fun _ => ?_) fun _ => ?_)
 refine eF (R := fun y : aQ => dh y.fE ≤ dh s.fE + 1) (eF (b ?_) fun x _ => qe (fun _ => dY h2) fun _ => dY h2) fun y3 h3 => ?_
 ·repeat (first | exact af _ | refine aJ (fun _ => ?_) fun _ => ?_)
 refine eF (R := fun y : aQ => dh y.fE ≤ dh s.fE + 1) (eF (b ?_) fun x _ => qe (fun _ => dY h3) fun _ => dY h3) fun y4 h4 => ?_
 ·repeat (first | exact af _ | refine aJ (fun _ => ?_) fun _ => ?_)
 refine eF (R := fun y : aQ => dh y.fE ≤ dh s.fE + 1) (eF (b ?_) fun x _ => qe (fun _ => dY (by show dh si ≤ _; omega)) fun _ => dY h4) fun y5 h5 => ?_
 ·repeat (first | exact af _ | refine aJ (fun _ => ?_) fun _ => ?_)
 refine eF (R := fun y : aQ => dh y.fE ≤ dh s.fE + 1) (qe (fun _ => dY h5) fun _ => dY h5) fun y6 h6 => ?_
 refine eF (R := fun y : aQ => dh y.fE ≤ dh s.fE + 1) (eF (b ?_) fun x _ => qe (fun _ => dY h6) fun _ => dY h6) fun y7 h7 => ?_
 ·repeat (first | exact af _ | refine aJ (fun _ => ?_) fun _ => ?_)
 exact qe (fun _ => dY h7) fun _ => dY h7
theorem QH {s : aQ} (hu : dc s ≤ 1048576) : Tot (rI s) := by
 unfold rI
 have hp := za s
 have hm := Ky s.fE
 have e1 : dh si = 1 := by rw [sS]; rfl
 refine zR (eF (Ql s) fun y hy => Mw ?_)
 have hS : Tot (ig (dh y.fE + dh si + 1) y.fE si) := zn _ _ _ (by omega) (by omega)
 repeat (first | exact af _ | exact hS | refine aJ (fun _ => ?_) fun _ => ?_ | refine aH ?_ fun _ _ => ?_)
theorem Nb {s : aQ} (n : Int) (hu : dc s ≤ 1048576) : Tot (qI s n) := by
 unfold qI
 have hp := za s
 have ht := UF s.aO
 have h1 : Tot (dL s.fX) := nc (by omega)
 have h2 : Tot (dL s.fY) := nc (by omega)
 have h3 : Tot (dL s.ax) := nc (by omega)
 have h4 : Tot (kW s.aO n) := BV _ (by omega)
 repeat (first | exact af _ | exact h1 | exact h2 | exact h3 | exact h4 | refine aJ (fun _ => ?_) fun _ => ?_ | refine aH ?_ fun _ _ => ?_)
theorem Pn {s : aQ} (hu : dc s ≤ 1048576) : Tot (ql s) := by
 unfold ql
 rw [cB]
 have hp := za s
 have hm := Ky s.fE
 have hl := dt Sh s.dH
 have e1 : dh si = 1 := by rw [sS]; rfl
 have hS : Tot (ig (dh s.fE + dh si + 1) s.fE si) := zn _ _ _ (by omega) (by omega)
 have hR : Tot (kS s.fE) := yg (by omega)
 have hL : Tot (jk s (s.dH.length + 1) 0) := by
  refine dX (jk s) s.dH.length (fun m k hlt ih => ?_) (fun m k hlt => ?_) _ 0 (by omega) (by omega)
  ·rw [jk, if_pos (by simpa using hlt), cq hlt, bW hlt (by omega), obs]
   have h2 := dl (u := fy) (List.getElem_mem hlt)
   exact aH (yg (by omega)) fun _ _ => aJ (fun _ => af _) fun _ => ih
  ·rw [jk, if_neg (by simpa using hlt)]; exact af _
 repeat (first | exact af _ | exact hS | exact hR | exact hL | refine aJ (fun _ => ?_) fun _ => ?_ | refine fh (fun _ => ?_) fun _ => ?_ | refine aH ?_ fun _ _ => ?_)
theorem zC : ∀ (n : Nat) (s : aQ) (p : Int), dE s < n → dc s ≤ 1048576 → Tot (gJ n s p)
 | 0, s, p, h, _ => by omega
 | n + 1, s, p, h, hu => by
  rw [xQ] at h
  have hp := za s
  have hl1 := dt GW s.bM
  have hl2 := dt GW s.dp
  simp only [gJ, cB]
  have hL1 : Tot (jS s p (gJ n) (s.bM.length + 1) 0) := by
   refine dX (jS s p (gJ n)) s.bM.length (fun m k hlt ih => ?_) (fun m k hlt => ?_) _ 0 (by omega) (by omega)
   ·rw [jS, if_pos (by simpa using hlt), cq hlt, bW hlt (by omega), obs]
    have h1 := dl (u := dE) (List.getElem_mem hlt)
    have h2 := dl (u := dc) (List.getElem_mem hlt)
    exact aH (zC n _ _ (by omega) (by omega)) fun _ _ => aJ (fun _ => af _) fun _ => ih
   ·rw [jS, if_neg (by simpa using hlt)]; exact af _
  have hL2 : Tot (jL s p (gJ n) (s.dp.length + 1) 0) := by
   refine dX (jL s p (gJ n)) s.dp.length (fun m k hlt ih => ?_) (fun m k hlt => ?_) _ 0 (by omega) (by omega)
   ·rw [jL, if_pos (by simpa using hlt), cq hlt, bW hlt (by omega), obs]
    have h1 := dl (u := dE) (List.getElem_mem hlt)
    have h2 := dl (u := dc) (List.getElem_mem hlt)
    exact aH (zC n _ _ (by omega) (by omega)) fun _ _ => aJ (fun _ => af _) fun _ => ih
   ·rw [jL, if_neg (by simpa using hlt)]; exact af _
  have h1 := QH hu
  have h2 := Nb p hu
  have h3 := Pn hu
  repeat (first | exact af _ | exact hL1 | exact hL2 | exact h1 | exact h2 | exact h3 | refine aJ (fun _ => ?_) fun _ => ?_ | refine fh (fun _ => ?_) fun _ => ?_ | refine aH ?_ fun _ _ => ?_)
theorem zE : ∀ (n : Nat) (s : aQ), dE s < n → dc s ≤ 1048576 → Tot (iC n s)
 | 0, s, h, _ => by omega
 | n + 1, s, h, hu => by
  rw [xQ] at h
  have hp := za s
  have hl1 := dt GW s.bM
  have hl2 := dt GW s.dp
  simp only [iC, cB]
  refine aH ?_ fun _ _ => aH ?_ fun _ _ => af _
  ·refine iz (lK s (iC n)) s.bM.length (fun m k x hlt ih => ?_) (fun m k x hlt => ?_) _ 0 _ (by omega) (by omega)
   ·rw [lK, if_pos (by simpa using hlt), cq hlt, bW hlt (by omega), obs]
    have h1 := dl (u := dE) (List.getElem_mem hlt)
    have h2 := dl (u := dc) (List.getElem_mem hlt)
    exact aH (zE n _ (by omega) (by omega)) fun _ _ => ih _
   ·rw [lK, if_neg (by simpa using hlt)]; exact af _
  ·refine iz (lI s (iC n)) s.dp.length (fun m k x hlt ih => ?_) (fun m k x hlt => ?_) _ 0 _ (by omega) (by omega)
   ·rw [lI, if_pos (by simpa using hlt), cq hlt, bW hlt (by omega), obs]
    have h1 := dl (u := dE) (List.getElem_mem hlt)
    have h2 := dl (u := dc) (List.getElem_mem hlt)
    exact aH (zE n _ (by omega) (by omega)) fun _ _ => ih _
   ·rw [lI, if_neg (by simpa using hlt)]; exact af _
theorem Ew {s : aQ} (p : Int) (hu : dc s ≤ 1048576) : Tot (mF s p) := by
 unfold mF
 exact aH (zC _ _ _ (by omega) hu) fun _ _ => aJ (fun _ => aH (zE _ _ (by omega) hu) fun _ _ => af _) fun _ => af _
theorem wr {t : bV} (p : Int) (hu : pd t ≤ 1048576) : Tot (io t p) := by
 unfold io
 have := UF t
 have h1 : Tot (kW t p) := BV _ (by omega)
 repeat (first | exact af _ | exact h1 | refine aJ (fun _ => ?_) fun _ => ?_ | refine aH ?_ fun _ _ => ?_)
theorem Cr {l : List dU} (m p : Int) (hu : cW pD l ≤ 1048576) : Tot (iG l m p) := by
 unfold iG
 rw [cB]
 have hl := dt J8 l
 refine aH ?_ fun _ _ => fh (fun _ => af _) fun _ => af _
 refine dX (lq l p) l.length (fun m k hlt ih => ?_) (fun m k hlt => ?_) _ 0 (by omega) (by omega)
 ·rw [lq, if_pos (by simpa using hlt), cq hlt, bW hlt (by omega), obs, obs, obs]
  have h2 := dl (u := pD) (List.getElem_mem hlt)
  have h3 := UT l[k]
  exact aH (aH (nc (by omega)) fun _ _ => aJ (fun _ => af _) fun _ => aJ (fun _ => af _) fun _ => aH (wr _ (by omega)) fun _ _ => af _) fun _ _ => aJ (fun _ => af _) fun _ => ih
 ·rw [lq, if_neg (by simpa using hlt)]; exact af _
theorem Dh : ∀ (n : Nat) (l : List aQ) (p : Int), dd l < n → cW dc l ≤ 1048576 → Tot (ia n l p)
 | 0, l, p, h, _ => by omega
 | n + 1, l, p, h, hu => by
  have hl := dt GW l
  rw [lU] at h
  simp only [ia, cB]
  refine aH ?_ fun _ _ => fh (fun _ => af _) fun _ => af _
  refine dX (ly l p (ia n)) l.length (fun m k hlt ih => ?_) (fun m k hlt => ?_) _ 0 (by omega) (by omega)
  ·rw [ly, if_pos (by simpa using hlt), cq hlt, bW hlt (by omega)]
   simp only [obs]
   have h1 := dl (u := dE) (List.getElem_mem hlt)
   have h2 := dl (u := dc) (List.getElem_mem hlt)
   have h3 := za l[k]
   rw [xQ] at h1
   have o1 : Tot (ia n l[k].bM p) := Dh n _ _ (by rw [lU]; omega) (by omega)
   have o2 : Tot (ia n l[k].dp p) := Dh n _ _ (by rw [lU]; omega) (by omega)
   have o3 : Tot (io l[k].aO p) := wr _ (by omega)
   refine aH ?_ fun _ _ => aJ (fun _ => af _) fun _ => ih
   repeat (first | exact af _ | exact o1 | exact o2 | exact o3 | refine aJ (fun _ => ?_) fun _ => ?_ | refine aH ?_ fun _ _ => ?_)
  ·rw [ly, if_neg (by simpa using hlt)]; exact af _
theorem JO {m : aI} (p : Int) (hu : dC m ≤ 1048576) : Tot (oy m p) := by
 unfold oy
 rw [cB]
 have hp := Br m
 have hl := dt GW m.bM
 have hL : Tot (iB m p (m.bM.length + 1) 0) := by
  refine dX (iB m p) m.bM.length (fun n k hlt ih => ?_) (fun n k hlt => ?_) _ 0 (by omega) (by omega)
  ·rw [iB, if_pos (by simpa using hlt), cq hlt, bW hlt (by omega), obs]
   have h2 := dl (u := dc) (List.getElem_mem hlt)
   exact aH (Ew _ (by omega)) fun _ _ => aJ (fun _ => af _) fun _ => ih
  ·rw [iB, if_neg (by simpa using hlt)]; exact af _
 have h1 : Tot (dL m.ax) := nc (by omega)
 have h2 : Tot (io m.ca p) := wr _ (by omega)
 have h3 : Tot (iG m.ap 5 p) := Cr _ _ (by omega)
 have h4 : Tot (iG m.cy 12 p) := Cr _ _ (by omega)
 have h5 : Tot (ia (dd m.bM + 1) m.bM p) := Dh _ _ _ (by omega) (by omega)
 repeat (first | exact af _ | exact hL | exact h1 | exact h2 | exact h3 | exact h4 | exact h5 | refine aJ (fun _ => ?_) fun _ => ?_ | refine fh (fun _ => ?_) fun _ => ?_ | refine aH ?_ fun _ _ => ?_)
theorem K9 {c : ae} (hu : de c ≤ 1048576) : Tot (qH c) := by
 unfold qH
 rw [cB, cB, cB]
 have hp := BW c
 have hl1 := dt QI c.ap
 have hl2 := dt UU c.ey
 have hl3 := dt Sw c.ah
 have hL1 : Tot (jt c (c.ap.length + 1) 0) := by
  refine dX (jt c) c.ap.length (fun n k hlt ih => ?_) (fun n k hlt => ?_) _ 0 (by omega) (by omega)
  ·rw [jt, if_pos (by simpa using hlt), cq hlt, bW hlt (by omega), obs]
   have h2 := dl (u := fun s => List.length s + 1) (List.getElem_mem hlt)
   exact aH (nc (by omega)) fun _ _ => aJ (fun _ => af _) fun _ => ih
  ·rw [jt, if_neg (by simpa using hlt)]; exact af _
 have hL2 : Tot (jp c (c.ey.length + 1) 0) := by
  refine dX (jp c) c.ey.length (fun n k hlt ih => ?_) (fun n k hlt => ?_) _ 0 (by omega) (by omega)
  ·rw [jp, if_pos (by simpa using hlt), cq hlt, bW hlt (by omega), obs, obs]
   refine aH (aH (E7 _ _) fun _ _ => ?_) fun _ _ => aJ (fun _ => af _) fun _ => ih
   repeat (first | exact af _ | refine aJ (fun _ => ?_) fun _ => ?_)
  ·rw [jp, if_neg (by simpa using hlt)]; exact af _
 have hL3 : Tot (jq c (c.ah.length + 1) 0) := by
  refine dX (jq c) c.ah.length (fun n k hlt ih => ?_) (fun n k hlt => ?_) _ 0 (by omega) (by omega)
  ·rw [jq, if_pos (by simpa using hlt), cq hlt, bW hlt (by omega), obs]
   have h2 := dl (u := dC) (List.getElem_mem hlt)
   exact aH (JO _ (by omega)) fun _ _ => aJ (fun _ => af _) fun _ => ih
  ·rw [jq, if_neg (by simpa using hlt)]; exact af _
 have h1 : Tot (dL c.ax) := nc (by omega)
 have h2 : Tot (dL c.di) := nc (by omega)
 have h3 : Tot (iG c.cm 12 (c.ap.length : Int)) := Cr _ _ (by omega)
 repeat (first | exact af _ | exact hL1 | exact hL2 | exact hL3 | exact h1 | exact h2 | exact h3 | refine aJ (fun _ => ?_) fun _ => ?_ | refine fh (fun _ => ?_) fun _ => ?_ | refine aH ?_ fun _ _ => ?_)
theorem zJ : ∀ (n : Nat) (s : aQ), dE s < n → dc s ≤ 1048576 → Tot (fK n s)
 | 0, s, h, _ => by omega
 | n + 1, s, h, hu => by
  rw [xQ] at h
  have hp := za s
  have hl1 := dt GW s.bM
  have hl2 := dt GW s.dp
  simp only [fK, cB]
  refine aH ?_ fun _ _ => aH ?_ fun _ _ => af _
  ·refine iz (im s (fK n)) s.bM.length (fun m k x hlt ih => ?_) (fun m k x hlt => ?_) _ 0 _ (by omega) (by omega)
   ·rw [im, if_pos (by simpa using hlt), cq hlt, bW hlt (by omega), obs]
    have h1 := dl (u := dE) (List.getElem_mem hlt)
    have h2 := dl (u := dc) (List.getElem_mem hlt)
    exact aH (zJ n _ (by omega) (by omega)) fun _ _ => ih _
   ·rw [im, if_neg (by simpa using hlt)]; exact af _
  ·refine iz (iq s (fK n)) s.dp.length (fun m k x hlt ih => ?_) (fun m k x hlt => ?_) _ 0 _ (by omega) (by omega)
   ·rw [iq, if_pos (by simpa using hlt), cq hlt, bW hlt (by omega), obs]
    have h1 := dl (u := dE) (List.getElem_mem hlt)
    have h2 := dl (u := dc) (List.getElem_mem hlt)
    exact aH (zJ n _ (by omega) (by omega)) fun _ _ => ih _
   ·rw [iq, if_neg (by simpa using hlt)]; exact af _
theorem O9 {c : ae} (hu : de c ≤ 1048576) : Tot (lY c) := by
 unfold lY
 rw [cB]
 have hp := BW c
 have hl3 := dt Sw c.ah
 refine aH ?_ fun _ _ => af _
 refine iz (kj c) c.ah.length (fun n k x hlt ih => ?_) (fun n k x hlt => ?_) _ 0 _ (by omega) (by omega)
 ·rw [kj, if_pos (by simpa using hlt), bW hlt (by omega), cq hlt, obs, Option.getD_some, cB]
  have h2 := dl (u := dC) (List.getElem_mem hlt)
  have h3 := Br c.ah[k]
  have hl := dt GW c.ah[k].bM
  refine aH ?_ fun _ _ => ih _
  refine iz (ki c (k : Int)) c.ah[k].bM.length (fun m j y hj ih2 => ?_) (fun m j y hj => ?_) _ 0 _ (by omega) (by omega)
  ·rw [ki, cq hlt, obs, if_pos (by simpa using hj), obs, cq hj, obs, bW hj (by omega)]
   have h4 := dl (u := dc) (List.getElem_mem hj)
   exact aH (zJ _ _ (by omega) (by omega)) fun _ _ => ih2 _
  ·rw [ki, cq hlt, obs, if_neg (by simpa using hj)]; exact af _
 ·rw [kj, if_neg (by simpa using hlt)]; exact af _
theorem Mo {p : List ae} (hu : cW de p ≤ 1048576) : Tot (qw p) := by
 unfold qw
 rw [cB]
 have hl := dt P8 p
 refine aH ?_ fun _ _ => fh (fun _ => af _) fun _ => af _
 refine iz (kx p) p.length (fun n k x hlt ih => ?_) (fun n k x hlt => ?_) _ 0 _ (by omega) (by omega)
 ·rw [kx, if_pos (by simpa using hlt), bW hlt (by omega), cq hlt]
  simp only [obs]
  have h2 := dl (u := de) (List.getElem_mem hlt)
  exact aH (aJ (fun _ => af _) fun _ => aH (K9 (by omega)) fun _ _ => af _) fun _ _ => aJ (fun _ => af _) fun _ => aH (O9 (by omega)) fun _ _ => ih _
 ·rw [kx, if_neg (by simpa using hlt)]; exact af _
theorem mS5 : ∀ (n : Nat) (e : aQ), dE e ≤ n → 2 * dE e ≤ dc e
 | 0, e, h => by have := xQ e; omega
 | n + 1, e, h => by
  have h1 : ∀ l : List aQ, cW dE l ≤ n → 2 * cW dE l ≤ cW dc l := by
   intro l
   induction l with
   | nil => intro _; simp [cW]
   | cons x l ih =>
    intro h
    simp only [cW] at h ⊢
    have := mS5 n x (by omega)
    have := ih (by omega)
    omega
  have hE : ∀ (k : Nat) (e : cD), dh e ≤ k → 2 * dh e ≤ fy e := by
   intro k
   induction k with
   | zero => intro e h; have := sS e; omega
   | succ k ihk =>
    intro e h
    have hL : ∀ l : List cD, cW dh l ≤ k → 2 * cW dh l ≤ cW fy l := by
     intro l
     induction l with
     | nil => intro _; simp [cW]
     | cons x l ih =>
      intro h
      simp only [cW] at h ⊢
      have := ihk x (by omega)
      have := ih (by omega)
      omega
    have h2 := sS e
    have h3 := hL e.cY (by omega)
    rw [xp, h2]; omega
  have hLE : ∀ l : List cD, 2 * cW dh l ≤ cW fy l := by
   intro l
   induction l with
   | nil => simp [cW]
   | cons x l ih => simp only [cW]; have := hE _ x (Nat.le_refl _); omega
  have h2 := xQ e
  have h3 := h1 e.bM (by omega)
  have h4 := h1 e.dp (by omega)
  have h5 := hE _ e.fE (Nat.le_refl _)
  have h6 := hLE e.dH
  rw [ud, h2]; omega
theorem mL5 (l : List aQ) : 2 * dd l ≤ cW dc l := by
 rw [lU]
 induction l with
 | nil => simp [cW]
 | cons x l ih => simp only [cW]; have := mS5 _ x (Nat.le_refl _); omega
theorem Ub {l : List cD} {e : cD} : e ∈ l → dh e ≤ pt l := by
 induction l with
 | nil => intro h; simp at h
 | cons x l ih =>
  intro h
  simp only [pt]
  rcases List.mem_cons.1 h with rfl | h
  ·omega
  ·have := ih h; omega
theorem JE {l : List aQ} {e : aQ} : e ∈ l → dE e ≤ dd l := by
 induction l with
 | nil => intro h; simp at h
 | cons x l ih =>
  intro h
  simp only [dd]
  rcases List.mem_cons.1 h with rfl | h
  ·omega
  ·have := ih h; omega
theorem UA (e : cD) : dh e = 1 + pt e.cY := by cases e; simp only [dh]
theorem SK (e : aQ) : dE e = 1 + dh e.fE + pt e.dH + dd e.bM + dd e.dp := by cases e; simp only [dE]
theorem UN {e : cD} (h : goodGExpr e) : e.cY.length ≤ maxLen ∧ ∀ y ∈ e.cY, goodGExpr y := by cases h; exact ⟨by assumption, by assumption⟩
theorem SF {e : aQ} (h : goodGStmt e) : goodGExpr e.fE ∧ jD (fun y => goodGExpr y) e.dH ∧ (e.bM.length ≤ maxLen ∧ ∀ y ∈ e.bM, goodGStmt y) ∧ (e.dp.length ≤ maxLen ∧ ∀ y ∈ e.dp, goodGStmt y) := by
 cases h
 exact ⟨by assumption, by assumption, ⟨by assumption, by assumption⟩, ⟨by assumption, by assumption⟩⟩
theorem EO : ∀ (n : Nat) (e : cD) (d : Int), goodGExpr e → dh e < n → Tot (jw n e d)
 | 0, e, d, _, h => by omega
 | n + 1, e, d, hg, hm => by
  obtain ⟨hl, hk⟩ := UN hg
  simp only [maxLen] at hl
  simp only [jw, cB]
  refine aH (aJ (fun _ => af _) (fun _ => af _)) fun x _ => aJ (fun _ => af _) fun _ => ?_
  refine aH ?_ fun lr _ => fh (fun v => af _) (fun _ => af _)
  refine dX (ln e d (jw n)) e.cY.length (fun m k hlt ih => ?_) (fun m k hlt => ?_) _ 0 (by omega) (by omega)
  ·simp only [ln]
   rw [if_pos (by simpa using hlt), cq hlt, bW hlt (by omega)]
   simp only [obs]
   have hmem := List.getElem_mem hlt
   have h1 := Ub hmem
   rw [UA] at hm
   refine aH (EO n _ _ (hk _ hmem) (by omega)) fun y _ => aJ (fun _ => af _) fun _ => ih
  ·simp only [ln]
   rw [if_neg (by simpa using hlt)]
   exact af _
theorem Cb : ∀ (n : Nat) (e : aQ) (d : Int), goodGStmt e → dE e < n → Tot (iI n e d)
 | 0, e, d, _, h => by omega
 | n + 1, e, d, hg, hm => by
  obtain ⟨hE, ⟨hal, ha⟩, ⟨hbl, hb⟩, ⟨hll, hl⟩⟩ := SF hg
  simp only [maxLen] at hal hbl hll
  rw [SK] at hm
  simp only [iI, cB]
  refine aH ?_ fun x _ => aJ (fun _ => af _) fun _ => ?_
  ·exact aJ (fun _ => af _) fun _ => aJ (fun _ => af _) fun _ => aJ (fun _ => af _) fun _ => aJ (fun _ => af _) fun _ => aH (EO _ _ _ hE (by omega)) fun _ _ => af _
  refine aH ?_ fun lr _ => fh (fun v => af _) fun _ => aH ?_ fun lr _ => fh (fun v => af _) fun _ => aH ?_ fun lr _ => fh (fun v => af _) fun _ => af _
  ·refine dX (lJ e) e.dH.length (fun m k hlt ih => ?_) (fun m k hlt => ?_) _ 0 (by omega) (by omega)
   ·simp only [lJ]
    rw [if_pos (by simpa using hlt), cq hlt, bW hlt (by omega)]
    simp only [obs]
    exact aH (EO _ _ _ (ha _ (List.getElem_mem hlt)) (by omega)) fun y _ => aJ (fun _ => af _) fun _ => ih
   ·simp only [lJ]
    rw [if_neg (by simpa using hlt)]
    exact af _
  ·refine dX (lH e d (iI n)) e.bM.length (fun m k hlt ih => ?_) (fun m k hlt => ?_) _ 0 (by omega) (by omega)
   ·simp only [lH]
    rw [if_pos (by simpa using hlt), cq hlt, bW hlt (by omega)]
    simp only [obs]
    have h1 := JE (List.getElem_mem hlt)
    exact aH (Cb n _ _ (hb _ (List.getElem_mem hlt)) (by omega)) fun y _ => aJ (fun _ => af _) fun _ => ih
   ·simp only [lH]
    rw [if_neg (by simpa using hlt)]
    exact af _
  ·refine dX (lm e d (iI n)) e.dp.length (fun m k hlt ih => ?_) (fun m k hlt => ?_) _ 0 (by omega) (by omega)
   ·simp only [lm]
    rw [if_pos (by simpa using hlt), cq hlt, bW hlt (by omega)]
    simp only [obs]
    have h1 := JE (List.getElem_mem hlt)
    exact aH (Cb n _ _ (hl _ (List.getElem_mem hlt)) (by omega)) fun y _ => aJ (fun _ => af _) fun _ => ih
   ·simp only [lm]
    rw [if_neg (by simpa using hlt)]
    exact af _
theorem CJ : ∀ (n : Nat) (e : aQ), goodGStmt e → dE e < n → Tot (fK n e)
 | 0, e, _, h => by omega
 | n + 1, e, hg, hm => by
  obtain ⟨hE, ⟨hal, ha⟩, ⟨hbl, hb⟩, ⟨hll, hl⟩⟩ := SF hg
  simp only [maxLen] at hbl hll
  rw [SK] at hm
  simp only [fK, cB]
  refine aH ?_ fun x _ => aH ?_ fun _ _ => af _
  ·refine iz (im e (fK n)) e.bM.length (fun m k s hlt ih => ?_) (fun m k s hlt => ?_) _ 0 _ (by omega) (by omega)
   ·simp only [im]
    rw [if_pos (by simpa using hlt), cq hlt, bW hlt (by omega)]
    simp only [obs]
    have h1 := JE (List.getElem_mem hlt)
    exact aH (CJ n _ (hb _ (List.getElem_mem hlt)) (by omega)) fun y _ => ih _
   ·simp only [im]
    rw [if_neg (by simpa using hlt)]
    exact af _
  ·refine iz (iq e (fK n)) e.dp.length (fun m k s hlt ih => ?_) (fun m k s hlt => ?_) _ 0 _ (by omega) (by omega)
   ·simp only [iq]
    rw [if_pos (by simpa using hlt), cq hlt, bW hlt (by omega)]
    simp only [obs]
    have h1 := JE (List.getElem_mem hlt)
    exact aH (CJ n _ (hl _ (List.getElem_mem hlt)) (by omega)) fun y _ => ih _
   ·simp only [iq]
    rw [if_neg (by simpa using hlt)]
    exact af _
theorem Ma {m : aI} (h : qk m) : Tot (nw m) := by
 have hp : m.ap.length ≤ maxLen := h.2.2.2.1.1
 have hl : m.cy.length ≤ maxLen := h.2.2.2.2.1.1
 simp only [maxLen] at hp hl
 simp only [nw, cB]
 refine aH ?_ fun x _ => aH ?_ fun _ _ => af _
 ·refine iz (je m) m.ap.length (fun n k s hlt ih => ?_) (fun n k s hlt => ?_) _ 0 _ (by omega) (by omega)
  ·simp only [je]
   rw [if_pos (by simpa using hlt), cq hlt, bW hlt (by omega)]
   simp only [obs]
   exact aH (aJ (fun _ => af _) fun _ => af _) fun y _ => ih _
  ·simp only [je]
   rw [if_neg (by simpa using hlt)]
   exact af _
 ·refine iz (jh m) m.cy.length (fun n k s hlt ih => ?_) (fun n k s hlt => ?_) _ 0 _ (by omega) (by omega)
  ·simp only [jh]
   rw [if_pos (by simpa using hlt), cq hlt, bW hlt (by omega)]
   simp only [obs]
   exact aH (aJ (fun _ => af _) fun _ => af _) fun y _ => ih _
  ·simp only [jh]
   rw [if_neg (by simpa using hlt)]
   exact af _
def Qv {S : Type} (o : Option (Ctl Bool S)) : Prop := o = some (.stop true) ∨ ∃ v, o = some (.next v)
theorem zy {α S : Type} {a : Option α} {f : α → Option (Ctl Bool S)} (h : Tot a) (h2 : ∀ x, a = some x → Qv (f x)) : Qv (Option.bind a f) := by
 obtain ⟨x, rfl⟩ := h
 exact h2 x rfl
theorem P7 {S : Type} {b : Bool} {y : Option (Ctl Bool S)} (h2 : b = false → Qv y) : Qv (if b = true then some (.stop true) else y) := by
 cases b with
 | true => exact .inl rfl
 | false => exact h2 rfl
theorem Dn {m : aI} (hg : jD (fun y => goodGStmt y) m.bM) : ∀ (n k : Nat) (x : Int), n + k = m.bM.length + 1 → k ≤ m.bM.length → Qv (lX m n x (k : Int))
 | 0, k, x, h, hk => by omega
 | n + 1, k, x, h, hk => by
  obtain ⟨hl, hb⟩ := hg
  simp only [maxLen] at hl
  simp only [lX]
  by_cases hlt : k < m.bM.length
  ·have hmem := hb _ (List.getElem_mem hlt)
   rw [if_pos (by simpa using hlt), cq hlt, bW hlt (by omega)]
   refine zy (aJ (fun _ => af _) fun _ => aH (af _) fun y hy => ?_) fun b _ => P7 fun _ => ?_
   ·cases hy
    exact aH (Cb _ _ _ hmem (by omega)) fun _ _ => af _
   ·refine zy (af _) fun y hy => ?_
    cases hy
    exact zy (CJ _ _ hmem (by omega)) fun z _ => Dn ⟨by simp only [maxLen]; omega, hb⟩ n (k + 1) _ (by omega) (by omega)
  ·rw [if_neg (by simpa using hlt)]
   exact .inr ⟨_, rfl⟩
def J3 (c : ae) : Prop := c.ap.length ≤ 20 ∧ c.ey.length ≤ 20 ∧ c.cm.length ≤ 40 ∧ c.ah.length ≤ 40 ∧ ∀ m ∈ c.ah, m.ap.length ≤ 40 ∧ m.cy.length ≤ 40 ∧ m.bM.length ≤ 500
theorem Av {c : ae} (hg : jD (fun y => qk y) c.ah) : ∀ (n k : Nat) (x : Int), n + k = c.ah.length + 1 → k ≤ c.ah.length →
  kD c n x (k : Int) = some (.stop true) ∨ ((∃ v, kD c n x (k : Int) = some (.next v)) ∧ ∀ m ∈ c.ah.drop k, m.ap.length ≤ 40 ∧ m.cy.length ≤ 40 ∧ m.bM.length ≤ 500)
 | 0, k, x, h, hk => by omega
 | n + 1, k, x, h, hk => by
  obtain ⟨hl, hb⟩ := hg
  simp only [maxLen] at hl
  simp only [kD, cB]
  by_cases hlt : k < c.ah.length
  ·have hmem := hb _ (List.getElem_mem hlt)
   rw [if_pos (by simpa using hlt), cq hlt, bW hlt (by omega)]
   simp only [obs]
   by_cases h1 : (decide ((c.ah[k].ap.length : Int) > 40)) = true
   ·rw [if_pos h1]; exact .inl rfl
   rw [if_neg h1]
   by_cases h2 : (decide ((c.ah[k].cy.length : Int) > 40)) = true
   ·rw [if_pos h2]; exact .inl rfl
   rw [if_neg h2]
   by_cases h3 : (decide ((c.ah[k].bM.length : Int) > 500)) = true
   ·rw [if_pos h3]; exact .inl rfl
   rw [if_neg h3]
   obtain ⟨u, hu⟩ := Ma hmem
   rw [hu]
   simp only [obs]
   by_cases h4 : (decide (u > 8)) = true
   ·rw [if_pos h4]; exact .inl rfl
   rw [if_neg h4]
   rcases Dn (m := c.ah[k]) hmem.2.2.2.2.2.1 (c.ah[k].bM.length + 1) 0 x (by omega) (by omega) with h5 | ⟨v, h5⟩
   ·rw [show (0 : Int) = ((0 : Nat) : Int) from rfl, h5]; exact .inl rfl
   ·rw [show (0 : Int) = ((0 : Nat) : Int) from rfl, h5]
    simp only [obs, Ctl.elim]
    rcases Av (c := c) ⟨by simp only [maxLen]; omega, hb⟩ n (k + 1) v (by omega) (by omega) with h7 | ⟨h7, h8⟩
    ·exact .inl h7
    ·refine .inr ⟨h7, fun m hm => ?_⟩
     rw [List.drop_eq_getElem_cons hlt] at hm
     rcases List.mem_cons.1 hm with rfl | hm
     ·simp at h1 h2 h3; omega
     ·exact h8 m hm
  ·rw [if_neg (by simpa using hlt), List.drop_eq_nil_of_le (by omega)]
   exact .inr ⟨⟨_, rfl⟩, fun c hc => by simp at hc⟩
theorem Ab {p : List ae} (hg : jD (fun y => rM y) p) : ∀ (n k : Nat) (x : Int), n + k = p.length + 1 → k ≤ p.length →
  ke p n x (k : Int) = some (.stop true) ∨ ((∃ v, ke p n x (k : Int) = some (.next v)) ∧ ∀ c ∈ p.drop k, p.length ≤ 30 ∧ J3 c)
 | 0, k, x, h, hk => by omega
 | n + 1, k, x, h, hk => by
  obtain ⟨hl, hb⟩ := hg
  simp only [maxLen] at hl
  simp only [ke, cB]
  by_cases hlt : k < p.length
  ·have hmem := hb _ (List.getElem_mem hlt)
   rw [if_pos (by simpa using hlt), cq hlt, bW hlt (by omega)]
   simp only [obs]
   by_cases h1 : (decide ((p.length : Int) > 30)) = true
   ·rw [if_pos h1]; exact .inl rfl
   rw [if_neg h1]
   by_cases h2 : (decide ((p[k].ap.length : Int) > 20)) = true
   ·rw [if_pos h2]; exact .inl rfl
   rw [if_neg h2]
   by_cases h3 : (decide ((p[k].ey.length : Int) > 20)) = true
   ·rw [if_pos h3]; exact .inl rfl
   rw [if_neg h3]
   by_cases h4 : (decide ((p[k].cm.length : Int) > 40)) = true
   ·rw [if_pos h4]; exact .inl rfl
   rw [if_neg h4]
   simp only [obs]
   by_cases h5 : (decide ((p[k].ah.length : Int) > 40)) = true
   ·rw [if_pos h5]; exact .inl rfl
   rw [if_neg h5]
   rcases Av (c := p[k]) hmem.2.2.2.2.2.1 (p[k].ah.length + 1) 0 x (by omega) (by omega) with h6 | ⟨⟨v, h6⟩, hm⟩
   ·rw [show (0 : Int) = ((0 : Nat) : Int) from rfl, h6]; exact .inl rfl
   ·rw [show (0 : Int) = ((0 : Nat) : Int) from rfl, h6]
    simp only [obs, Ctl.elim]
    rcases Ab (p := p) ⟨by simp only [maxLen]; omega, hb⟩ n (k + 1) v (by omega) (by omega) with h7 | ⟨h7, h8⟩
    ·exact .inl h7
    ·refine .inr ⟨h7, fun c hc => ?_⟩
     rw [List.drop_eq_getElem_cons hlt] at hc
     rcases List.mem_cons.1 hc with rfl | hc
     ·rw [List.drop_zero] at hm
      simp at h1 h2 h3 h4 h5
      exact ⟨by omega, by omega, by omega, by omega, by omega, hm⟩
     ·exact h8 c hc
  ·rw [if_neg (by simpa using hlt), List.drop_eq_nil_of_le (by omega)]
   exact .inr ⟨⟨_, rfl⟩, fun c hc => by simp at hc⟩
theorem Pk {p : List ae} (hg : jD (fun y => rM y) p) : ∃ b, qJ p = some b ∧ (b = false → p.length ≤ 30 ∧ ∀ c ∈ p, J3 c) := by
 simp only [qJ, cB]
 rcases Ab hg (p.length + 1) 0 0 (by omega) (by omega) with h | ⟨⟨v, h⟩, h2⟩
 ·rw [show (0 : Int) = ((0 : Nat) : Int) from rfl] at h ⊢
  rw [h]; exact ⟨true, rfl, fun hb => by cases hb⟩
 ·rw [show (0 : Int) = ((0 : Nat) : Int) from rfl] at h ⊢
  rw [h]
  refine ⟨_, rfl, fun _ => ?_⟩
  simp only [List.drop_zero] at h2
  refine ⟨?_, fun c hc => (h2 c hc).2⟩
  cases p with
  | nil => simp
  | cons c p => exact (h2 c (by simp)).1
def vg (m : Nat) : List bH := ⟨2, 0⟩ :: (List.range m).map fun (k : Nat) => ⟨3, (k : Int) + 1⟩
def QJ (t : bV) : Bool := decide (t.ab = 2) && decide (t.aK.a0.ab = 6)
theorem dy (t : bV) : dD t = some (QJ t) := by
 unfold dD QJ
 by_cases h : t.ab = 2
 ·rw [if_pos (by simpa using h)]; simp [h]; rfl
 ·rw [if_neg (by simpa using h)]; simp [h]
def mkC (m : Nat) : ae := { zGClass with ap := List.replicate m [] }
theorem Qz {a b : ae} (h : a.ap.length = b.ap.length) : ∀ (n : Nat) (x : List bH) (y : Int), lu a n x y = lu b n x y
 | 0, _, _ => rfl
 | n + 1, x, y => by simp only [lu, h, Qz h n]
theorem Mf {a b : ae} (h : a.ap.length = b.ap.length) : ∀ (n : Nat) (x : List bH) (y : Int), lF a n x y = lF b n x y
 | 0, _, _ => rfl
 | n + 1, x, y => by simp only [lF, h, Mf h n]
theorem SY : ∀ m : Nat, m ≤ 60 → nG (mkC m) = some (vg m) ∧ nF (mkC m) = some (vg m) := by
 have h : ∀ m : Fin 61, nG (mkC m.val) = some (vg m.val) ∧ nF (mkC m.val) = some (vg m.val) := by decide +kernel
 exact fun m hm => h ⟨m, by omega⟩
theorem xT {c : ae} (h : c.ap.length ≤ 60) : nG c = some (vg c.ap.length) ∧ nF c = some (vg c.ap.length) := by
 have hl : c.ap.length = (mkC c.ap.length).ap.length := by simp [mkC]
 obtain ⟨h1, h2⟩ := SY _ h
 unfold nG at h1 ⊢
 unfold nF at h2 ⊢
 refine ⟨?_, ?_⟩
 ·rw [← h1, ← hl]
  simp only [Qz hl]
 ·rw [← h2, ← hl]
  simp only [Mf hl]
def UK : A4 bH := ⟨am, am, am, am⟩
def NJ (c : ae) : bV := { ab := 2, aq := c.ax, fN := if c.ap.length < 3 then (c.ap.length : Int) else 3, aK := A4.cp UK (vg c.ap.length) }
theorem Px (m : Nat) : (vg m).length = m + 1 := by simp [vg]
theorem GM {c : ae} (h : c.ap.length ≤ 60) : sn c = some (NJ c) := by
 unfold sn NJ
 rw [(xT h).1, obs]
 congr 2
 rw [List.length_map, Px]
 by_cases h3 : c.ap.length < 3
 ·rw [if_pos h3, show Nat.min (c.ap.length + 1) 4 = c.ap.length + 1 from Nat.min_eq_left (by omega), show ((c.ap.length + 1 : Nat) : Int) - 1 = (c.ap.length : Int) by omega, w64 (by omega) (by omega)]; rfl
 ·rw [if_neg h3, show Nat.min (c.ap.length + 1) 4 = 4 from Nat.min_eq_right (by omega)]; rfl
theorem RQ (m : Nat) : ∃ r, vg (m + 3) = ⟨2, 0⟩ :: ⟨3, 1⟩ :: ⟨3, 2⟩ :: ⟨3, 3⟩ :: r := by
 refine ⟨(vg (m + 3)).drop 4, ?_⟩
 simp only [vg, List.range_succ_eq_map, List.map_cons, List.map_map, List.drop_succ_cons, List.drop_zero]
 rfl
theorem xF {c : ae} (h : c.ap.length ≤ 60) : pK c = some (NJ c) := by
 unfold pK NJ
 rw [(xT h).2, obs]
 have hm : c.ap.length = 0 ∨ c.ap.length = 1 ∨ c.ap.length = 2 ∨ 3 ≤ c.ap.length := by omega
 rcases hm with e | e | e | e
 ·rw [e]; rfl
 ·rw [e]; rfl
 ·rw [e]; rfl
 ·obtain ⟨k, hk⟩ : ∃ k, c.ap.length = k + 3 := ⟨c.ap.length - 3, by omega⟩
  obtain ⟨r, hr⟩ := RQ k
  rw [hk, hr, if_neg (by omega), if_neg (by omega)]
  rfl
def vf (m : aI) : List dU := m.ap ++ m.cy
theorem tl {m : aI} (h1 : m.ap.length ≤ 100) (h2 : m.cy.length ≤ 100) : jj m = some (vf m) := by
 unfold jj vf
 rw [lc (by simp; omega), obs, lc (by simp; omega), obs]
 rfl
theorem FJ {m : aI} (h1 : m.ap.length ≤ 100) (h2 : m.cy.length ≤ 100) : rE m = some (vf m) := by
 unfold rE vf jA
 generalize m.ap = p at *
 generalize m.cy = l at *
 have hL2 : ([p, l] : List (List dU)).length = 2 := rfl
 have e1 : fB [p, l] (((([p, l] : List (List dU)).length : Int) - (0)).toNat + 1) 0 0 = some ((p.length : Int) + (l.length : Int)) := by
  have w1 : ak (0 + (p.length : Int)) = (p.length : Int) := by rw [w64 (by omega) (by omega)]; omega
  have w2 : ak ((p.length : Int) + (l.length : Int)) = (p.length : Int) + (l.length : Int) := w64 (by omega) (by omega)
  have i0 : idx [p, l] 0 = some p := rfl
  have i1 : idx [p, l] (ak (0 + 1)) = some l := rfl
  have k2 : ak (ak (0 + 1) + 1) = 2 := rfl
  have k1 : ak (0 + 1) = 1 := rfl
  have n0 : ¬ ((p.length : Int) < 0) := by omega
  have n1 : ¬ ((p.length : Int) + (l.length : Int) < 0) := by omega
  show fB [p, l] (2 + 1) 0 0 = _
  simp only [fB, hL2]
  rw [if_pos (by decide), i0, obs, w1, if_neg (by simp), if_pos (by decide), i1, obs, w2, if_neg (by simpa using n1), if_neg (by decide)]
 have e2 : iM ((p.length : Int) + (l.length : Int)) = some [] := by
  unfold iM
  rw [if_neg (by simp; omega), show ak (0 - 0) = 0 from rfl, Int.sub_zero, w64 (by omega) (by omega)]
  by_cases h0 : (p.length : Int) + (l.length : Int) > 0
  ·have hz : KY ((p.length : Int) + (l.length : Int)) 120 = some () := by unfold KY; rw [if_pos ⟨by omega, by omega⟩]
   have hc : pB (List.replicate ((p.length : Int) + (l.length : Int)).toNat sk) 0 0 = some [] := by
    unfold pB
    rw [if_pos ⟨by omega, by omega, by simp; omega⟩]; simp
   rw [if_pos (by simpa using h0), hz, obs, hc, obs]
  ·rw [if_neg (by simpa using h0)]
 have e3 : fJ [p, l] (((([p, l] : List (List dU)).length : Int) - (0)).toNat + 1) [] 0 = some (p ++ l) := by
  have i0 : idx [p, l] 0 = some p := rfl
  have i1 : idx [p, l] (ak (0 + 1)) = some l := rfl
  show fJ [p, l] (2 + 1) [] 0 = _
  simp only [fJ, hL2]
  rw [if_pos (by decide), i0, obs, lc (by simp; omega), obs, if_pos (by decide), i1, obs, lc (by simp; omega), obs, if_neg (by decide)]
  simp
 rw [e1, obs, e2, obs, e3, obs, obs]
def isV (name : List UInt8) (v : dU) : Bool := v.ax == name
def uR (m : aI) (name : List UInt8) : Int := match (vf m).findIdx? (isV name) with | some i => (i : Int) | none => -1
theorem UQ {l : List dU} (hl : l.length ≤ 1000) (name : List UInt8) : fH l (fun (z4 : dU) => ll z4 name) = some (match l.findIdx? (isV name) with | some i => (i : Int) | none => -1) := by
 unfold fH
 rw [NQ (fU l (fun (z4 : dU) => ll z4 name)) (b := isV name) (by omega) (fun n x => by rw [fU]; rfl), obs]
 cases l.findIdx? (isV name) <;> rfl
theorem EH {m : aI} (h1 : m.ap.length ≤ 100) (h2 : m.cy.length ≤ 100) (name : List UInt8) : qz m name = some (uR m name) := by
 unfold qz uR vf
 rw [UQ (by omega), obs, UQ (by omega), List.findIdx?_append]
 cases hp : m.ap.findIdx? (isV name) with
 | some i => simp
 | none =>
  cases hl : m.cy.findIdx? (isV name) with
  | none => simp
  | some j =>
   have := (List.findIdx?_eq_some_iff_getElem.1 hl).1
   have e1 : ¬ ((-1 : Int) ≥ 0) := by omega
   have e2 : ¬ ((j : Int) < 0) := by omega
   simp only [decide_eq_false e1, decide_eq_false e2, Bool.false_eq_true, if_false, obs]
   rw [w64 (by omega) (by omega)]
   simp; omega
theorem vZ {m : aI} (h1 : m.ap.length ≤ 100) (h2 : m.cy.length ≤ 100) (name : List UInt8) : oe m name = some (uR m name) := by
 unfold oe uR
 have hl : (vf m).length ≤ 1000 := by unfold vf; simp; omega
 rw [tl h1 h2, obs, NQ (mI name (vf m)) (b := isV name) (by omega) (fun n x => by rw [mI]; rfl), obs]
 cases (vf m).findIdx? (isV name) <;> rfl
theorem Ik {m : aI} {name : List UInt8} (h : ¬ uR m name < 0) : ∃ v, idx (vf m) (uR m name) = some v := by
 unfold uR at *
 cases hf : (vf m).findIdx? (isV name) with
 | none => rw [hf] at h; simp at h
 | some i =>
  have hlt := (List.findIdx?_eq_some_iff_getElem.1 hf).1
  exact ⟨_, cq hlt⟩
theorem tc {c : ae} {m : aI} (hc : c.ap.length ≤ 60) (h1 : m.ap.length ≤ 100) (h2 : m.cy.length ≤ 100) (name : List UInt8) : ∃ r, nP c m name = some r ∧ kZ c m name = some r := by
 unfold nP kZ
 rw [GM hc, xF hc, EH h1 h2, vZ h1 h2, FJ h1 h2, tl h1 h2]
 by_cases hn : (name == [116, 104, 105, 115]) = true
 ·rw [if_pos hn]; exact ⟨_, rfl, rfl⟩
 ·rw [if_neg hn]; simp only [obs]
  by_cases hp : uR m name < 0
  ·rw [if_pos (by simpa using hp)]; exact ⟨_, rfl, rfl⟩
  ·obtain ⟨v, hv⟩ := Ik hp
   rw [if_neg (by simpa using hp), hv]; exact ⟨_, rfl, rfl⟩
def fiN : List ae → Nat → List UInt8 → Option Nat
 | [], _, _ => none
 | c :: t, k, name => if c.ax == name then some k else fiN t (k + 1) name
def fi (p : List ae) (name : List UInt8) : Option Nat := fiN p 0 name
def fnd (p : List ae) (name : List UInt8) : Int := match fi p name with | some i => (i : Int) | none => -1
theorem Mu : ∀ (l : List ae) (k : Nat) (name : List UInt8) (i : Nat), fiN l k name = some i → k ≤ i ∧ ∃ c, l[i - k]? = some c ∧ c.ax = name
 | [], k, name, i, h => by simp [fiN] at h
 | c :: t, k, name, i, h => by
  simp only [fiN] at h
  split at h
  ·rename_i hc
   cases h
   exact ⟨Nat.le_refl _, c, by simp, by simpa using hc⟩
  ·obtain ⟨h1, c', h2, h3⟩ := Mu t (k + 1) name i h
   refine ⟨by omega, c', ?_, h3⟩
   rw [show i - k = (i - (k + 1)) + 1 by omega, List.getElem?_cons_succ]
   exact h2
theorem LF : ∀ (l : List ae) (k : Nat) (c : ae), c ∈ l → ∃ i, fiN l k c.ax = some i
 | [], k, c, h => by simp at h
 | c' :: t, k, c, h => by
  simp only [fiN]
  split
  ·exact ⟨k, rfl⟩
  ·rename_i hc
   rcases List.mem_cons.1 h with rfl | h
   ·simp at hc
   ·exact LF t (k + 1) c h
theorem sI {p : List ae} {name : List UInt8} {i : Nat} (h : fi p name = some i) : ∃ c, p[i]? = some c ∧ c.ax = name := by
 obtain ⟨_, c, h1, h2⟩ := Mu p 0 name i h
 exact ⟨c, by simpa using h1, h2⟩
theorem Ll {p : List ae} {name : List UInt8} {i : Nat} (h : fi p name = some i) : i < p.length := by
 obtain ⟨c, h1, _⟩ := sI h
 exact (List.getElem?_eq_some_iff.1 h1).1
theorem Rz {p : List ae} {c : ae} (h : c ∈ p) : ∃ i, fi p c.ax = some i := LF p 0 c h
theorem oJ {p : List ae} {name : List UInt8} {i : Nat} (h : fi p name = some i) : fnd p name = (i : Int) := by unfold fnd; rw [h]
theorem su {p : List ae} {name : List UInt8} (h : fi p name = none) : fnd p name = -1 := by unfold fnd; rw [h]
def hit (o : Option Nat) : Ctl Int Unit := match o with | some i => .stop (i : Int) | none => .next ()
theorem Ah {p : List ae} (name : List UInt8) (hp : p.length < 9223372036854775806) : ∀ (n k : Nat), n + k = p.length + 1 → k ≤ p.length →
  fj p (fun (z1 : ae) => oH z1 name) n (k : Int) = some (hit (fiN (p.drop k) k name))
 | 0, k, h, hk => by omega
 | n + 1, k, h, hk => by
  simp only [fj]
  by_cases hlt : k < p.length
  ·rw [if_pos (by simpa using hlt), cq hlt, List.drop_eq_getElem_cons hlt]
   simp only [obs, oH, fiN]
   by_cases hc : (p[k].ax == name) = true
   ·rw [if_pos hc, if_pos hc]; rfl
   ·rw [if_neg hc, if_neg hc, bW hlt (by omega)]
    exact Ah name hp n (k + 1) (by omega) (by omega)
  ·rw [if_neg (by simpa using hlt), List.drop_eq_nil_of_le (by omega)]
   rfl
theorem tk {p : List ae} (hp : p.length < 9223372036854775806) (name : List UInt8) : mj p name = some (fnd p name) := by
 unfold mj gL
 have h := Ah name hp (p.length + 1) 0 (by omega) (by omega)
 rw [show (((p.length : Int) : Int) - (0)).toNat + 1 = p.length + 1 by omega, show (0 : Int) = ((0 : Nat) : Int) from rfl, h]
 simp only [List.drop_zero, obs]
 unfold fnd fi hit
 cases fiN p 0 name <;> rfl
theorem yJ {p : List ae} (name : List UInt8) (hp : p.length < 9223372036854775806) : ∀ (n k : Nat), n + k = p.length + 1 → k ≤ p.length →
  ni p name n (k : Int) = some (hit (fiN (p.drop k) k name))
 | 0, k, h, hk => by omega
 | n + 1, k, h, hk => by
  simp only [ni]
  by_cases hlt : k < p.length
  ·rw [if_pos (by simpa using hlt), cq hlt, List.drop_eq_getElem_cons hlt]
   simp only [obs, fiN]
   by_cases hc : (p[k].ax == name) = true
   ·rw [if_pos hc, if_pos hc]; rfl
   ·rw [if_neg hc, if_neg hc, bW hlt (by omega)]
    exact yJ name hp n (k + 1) (by omega) (by omega)
  ·rw [if_neg (by simpa using hlt), List.drop_eq_nil_of_le (by omega)]
   rfl
theorem jb {p : List ae} (hp : p.length < 9223372036854775806) (name : List UInt8) : ik p name = some (fnd p name) := by
 unfold ik
 have h := yJ name hp (p.length + 1) 0 (by omega) (by omega)
 rw [show (((p.length : Int) : Int) - (0)).toNat + 1 = p.length + 1 by omega, show (0 : Int) = ((0 : Nat) : Int) from rfl, h]
 simp only [List.drop_zero, obs]
 unfold fnd fi hit
 cases fiN p 0 name <;> rfl
def sup (p : List ae) (i : Nat) : List UInt8 := match p[i]? with | some c => c.di | none => []
def upN (p : List ae) : Nat → List UInt8 → List Nat
 | 0, _ => []
 | n + 1, name => match fi p name with
  | none => []
  | some i => if sup p i == [] then [i] else i :: upN p n (sup p i)
theorem zV {p : List ae} (hp : p.length < 9223372036854775806) : ∀ (n : Nat) (name : List UInt8), sx p n name = some ((upN p n name).map Int.ofNat)
 | 0, name => rfl
 | n + 1, name => by
  simp only [sx, upN, tk hp, obs]
  cases hf : fi p name with
  | none => rw [su hf]; simp
  | some i =>
   rw [oJ hf, if_neg (by omega)]
   obtain ⟨c, hc, _⟩ := sI hf
   have hidx : idx p (i : Int) = some c := by rw [gA]; exact hc
   rw [hidx]
   have hs : sup p i = c.di := by unfold sup; rw [hc]
   simp only [obs, hs]
   by_cases he : (c.di == []) = true
   ·rw [if_pos he, if_pos he]; rfl
   ·rw [if_neg he, if_neg he, zV hp n c.di]; rfl
theorem Iy {p : List ae} (hp : p.length < 9223372036854775806) (name : List UInt8) : zP p name = some ((upN p (p.length + 1) name).map Int.ofNat) := by
 unfold zP; rw [if_pos hp, zV hp]
def chN (p : List ae) : Nat → List Nat → List UInt8 → List Nat
 | 0, out, _ => out
 | n + 1, out, name => match fi p name with
  | none => out
  | some i => if i ∈ out then out else if sup p i == [] then out ++ [i] else chN p n (out ++ [i]) (sup p i)
def ch (p : List ae) (name : List UInt8) : List Nat := chN p (p.length + 1) [] name
theorem rz : ∀ (L : Nat) (l : List Nat), l.Nodup → (∀ x ∈ l, x < L) → l.length ≤ L
 | 0, l, _, h => by
  cases l with
  | nil => exact Nat.le_refl _
  | cons x l => have := h x (by simp); omega
 | L + 1, l, hn, h => by
  have h1 := rz L (l.erase L) (hn.erase L) (fun x hx => by
   have := (hn.mem_erase_iff.1 hx)
   have := h x this.2
   omega)
  by_cases hm : L ∈ l
  ·have := List.length_erase_of_mem hm; omega
  ·rw [List.erase_of_not_mem hm] at h1; omega
structure Way (p : List ae) (out : List Nat) (name : List UInt8) : Prop where
 nd : out.Nodup
 lt : ∀ x ∈ out, x < p.length
 nx : ∀ x ∈ out, sup p x ≠ [] ∧ (sup p x = name ∨ ∃ j, fi p (sup p x) = some j ∧ j ∈ out)
 own : ∀ x ∈ out, ∃ nm, fi p nm = some x
theorem Way.nil (p : List ae) (name : List UInt8) : Way p [] name := ⟨List.nodup_nil, by simp, by simp, by simp⟩
theorem Way.snoc {p : List ae} {out : List Nat} {name : List UInt8} {i : Nat} (h : Way p out name) (hf : fi p name = some i) (hi : i ∉ out) (hs : sup p i ≠ []) : Way p (out ++ [i]) (sup p i) := by
 refine ⟨?_, fun x hx => ?_, fun x hx => ?_, fun x hx => ?_⟩
 ·refine List.nodup_append.2 ⟨h.nd, by simp, fun a ha b hb => ?_⟩
  simp at hb; subst hb; rintro rfl; exact hi ha
 ·rcases List.mem_append.1 hx with hx | hx
  ·exact h.lt x hx
  ·simp at hx; subst hx; exact Ll hf
 ·rcases List.mem_append.1 hx with hx | hx
  ·obtain ⟨h1, h2⟩ := h.nx x hx
   refine ⟨h1, .inr ?_⟩
   rcases h2 with h2 | ⟨j, h2, h3⟩
   ·exact ⟨i, by rw [h2]; exact hf, by simp⟩
   ·exact ⟨j, h2, by simp [h3]⟩
  ·simp at hx; subst hx; exact ⟨hs, .inl rfl⟩
 ·rcases List.mem_append.1 hx with hx | hx
  ·exact h.own x hx
  ·simp at hx; subst hx; exact ⟨name, hf⟩
def Se (p : List ae) (S : List Nat) : Prop := ∀ x ∈ S, sup p x ≠ [] → ∀ j, fi p (sup p x) = some j → j ∈ S
theorem LH {p : List ae} {S : List Nat} (h : Se p S) : ∀ (n : Nat) (name : List UInt8), (∀ j, fi p name = some j → j ∈ S) → ∀ x ∈ upN p n name, x ∈ S
 | 0, name, _, x, hx => by simp [upN] at hx
 | n + 1, name, hs, x, hx => by
  simp only [upN] at hx
  cases hf : fi p name with
  | none => rw [hf] at hx; simp at hx
  | some i =>
   rw [hf] at hx
   have hi := hs i hf
   simp only at hx
   split at hx
   ·simp at hx; subst hx; exact hi
   ·rename_i he
    rcases List.mem_cons.1 hx with rfl | hx
    ·exact hi
    ·exact LH h n _ (fun j hj => h i hi (by simpa using he) j hj) x hx
theorem Ib {p : List ae} {S : List Nat} (h : ∀ x ∈ S, sup p x ≠ [] ∧ ∃ j, fi p (sup p x) = some j ∧ j ∈ S) : ∀ (n : Nat) (name : List UInt8) (i : Nat), fi p name = some i → i ∈ S → (upN p n name).length = n
 | 0, name, i, _, _ => rfl
 | n + 1, name, i, hf, hi => by
  obtain ⟨h1, j, h2, h3⟩ := h i hi
  simp only [upN, hf]
  rw [if_neg (by simpa using h1)]
  simp [Ib h n _ j h2 h3]
def JU (p : List ae) (l : List Nat) : Bool := match l.getLast? with
 | none => false
 | some i => !(sup p i == []) && (match fi p (sup p i) with | some j => decide (j ∈ l) | none => false)
theorem NZ {p : List ae} : ∀ (n : Nat) (out : List Nat) (name : List UInt8), n + out.length = p.length + 1 → Way p out name → (out = [] ∨ ∃ x, out.getLast? = some x ∧ sup p x = name) →
  ∃ R, out ++ upN p n name = chN p n out name ++ R ∧ (∀ x ∈ R, x ∈ chN p n out name) ∧ (∀ x ∈ out, x ∈ chN p n out name) ∧ (∀ j, fi p name = some j → j ∈ chN p n out name) ∧ Se p (chN p n out name) ∧ (chN p n out name).Nodup ∧ (∀ x ∈ chN p n out name, x < p.length ∧ ∃ nm, fi p nm = some x) ∧
   (JU p (chN p n out name) = decide ((upN p n name).length = n))
 | 0, out, name, hn, hw, hl => by
  exfalso
  have := rz p.length out hw.nd hw.lt
  omega
 | n + 1, out, name, hn, hw, hl => by
  have hlen := rz p.length out hw.nd hw.lt
  cases hf : fi p name with
  | none =>
   simp only [upN, chN, hf]
   refine ⟨[], by simp, by simp, fun x hx => hx, by simp, fun x hx hne j hj => ?_, hw.nd, fun x hx => ⟨hw.lt x hx, hw.own x hx⟩, ?_⟩
   ·rcases (hw.nx x hx).2 with h1 | ⟨j', h1, h2⟩
    ·rw [h1, hf] at hj; cases hj
    ·rw [h1] at hj; cases hj; exact h2
   ·have : JU p out = false := by
     unfold JU
     rcases hl with rfl | ⟨x, h1, h2⟩
     ·rfl
     ·rw [h1]; simp only [h2, hf, Bool.and_false]
    rw [this]; simp
  | some i =>
   simp only [upN, chN, hf]
   by_cases hi : i ∈ out
   ·rw [if_pos hi]
    have hround : ∀ x ∈ out, sup p x ≠ [] ∧ ∃ j, fi p (sup p x) = some j ∧ j ∈ out := by
     intro x hx
     obtain ⟨h1, h2⟩ := hw.nx x hx
     refine ⟨h1, ?_⟩
     rcases h2 with h2 | h2
     ·exact ⟨i, by rw [h2]; exact hf, hi⟩
     ·exact h2
    have hshut : Se p out := fun x hx _ j hj => by
     obtain ⟨_, j', h1, h2⟩ := hround x hx
     rw [h1] at hj; cases hj; exact h2
    have hsub := LH hshut (n + 1) name (fun j hj => by rw [hf] at hj; cases hj; exact hi)
    have hfull := Ib hround (n + 1) name i hf hi
    simp only [upN, hf] at hsub hfull
    refine ⟨_, rfl, hsub, fun x hx => hx, fun j hj => by cases hj; exact hi, hshut, hw.nd, fun x hx => ⟨hw.lt x hx, hw.own x hx⟩, ?_⟩
    rw [hfull]
    have : JU p out = true := by
     unfold JU
     rcases hl with rfl | ⟨x, h1, h2⟩
     ·simp at hi
     ·have hx : x ∈ out := List.mem_of_getLast? h1
      rw [h1]
      simp only [h2, hf, hi, decide_true, Bool.and_true]
      have := (hw.nx x hx).1
      rw [h2] at this
      simpa using this
    rw [this]; simp
   ·rw [if_neg hi]
    by_cases hs : (sup p i == []) = true
    ·rw [if_pos hs, if_pos hs]
     have hs' : sup p i = [] := by simpa using hs
     have hw2 : (out ++ [i]).Nodup := List.nodup_append.2 ⟨hw.nd, by simp, fun a ha b hb => by
      simp at hb; subst hb; rintro rfl; exact hi ha⟩
     have hlt2 : ∀ x ∈ out ++ [i], x < p.length := fun x hx => by
      rcases List.mem_append.1 hx with hx | hx
      ·exact hw.lt x hx
      ·simp at hx; subst hx; exact Ll hf
     have hlen2 := rz p.length _ hw2 hlt2
     refine ⟨[], by simp, by simp, fun x hx => by simp [hx], fun j hj => by cases hj; simp, fun x hx hne j hj => ?_, hw2, fun x hx => ⟨hlt2 x hx, ?_⟩, ?_⟩
     ·rcases List.mem_append.1 hx with hx | hx
      ·rcases (hw.nx x hx).2 with h1 | ⟨j', h1, h2⟩
       ·rw [h1, hf] at hj; cases hj; simp
       ·rw [h1] at hj; cases hj; simp [h2]
      ·simp at hx; subst hx; exact absurd hs' hne
     ·rcases List.mem_append.1 hx with hx | hx
      ·exact hw.own x hx
      ·simp at hx; subst hx; exact ⟨name, hf⟩
     ·have : JU p (out ++ [i]) = false := by
       unfold JU; simp [hs']
      rw [this]
      simp at hlen2
      simp; omega
    ·rw [if_neg hs, if_neg hs]
     have hs' : sup p i ≠ [] := by simpa using hs
     obtain ⟨R, k1, k2, k3, k4, k5, k6, k7, k8⟩ := NZ n (out ++ [i]) (sup p i) (by simp; omega) (hw.snoc hf hi hs') (.inr ⟨i, by simp, rfl⟩)
     refine ⟨R, by rw [← k1]; simp, k2, fun x hx => k3 x (by simp [hx]), fun j hj => by cases hj; exact k3 i (by simp), k5, k6, k7, ?_⟩
     rw [k8]; simp
theorem pj (p : List ae) (name : List UInt8) : ∃ R, upN p (p.length + 1) name = ch p name ++ R ∧ (∀ x ∈ R, x ∈ ch p name) ∧ (∀ j, fi p name = some j → j ∈ ch p name) ∧ Se p (ch p name) ∧ (ch p name).Nodup ∧ (∀ x ∈ ch p name, x < p.length ∧ ∃ nm, fi p nm = some x) ∧
  (JU p (ch p name) = decide ((upN p (p.length + 1) name).length = p.length + 1)) := by
 obtain ⟨R, k1, k2, k3, k4, k5, k6, k7, k8⟩ := NZ (p.length + 1) [] name (by simp) (Way.nil p name) (.inl rfl)
 exact ⟨R, by unfold ch; simpa using k1, k2, k4, k5, k6, k7, k8⟩
theorem Ju {p : List ae} {name : List UInt8} {x : Nat} : x ∈ upN p (p.length + 1) name ↔ x ∈ ch p name := by
 obtain ⟨R, k1, k2, _⟩ := pj p name
 rw [k1]
 constructor
 ·intro h
  rcases List.mem_append.1 h with h | h
  ·exact h
  ·exact k2 x h
 ·intro h; simp [h]
theorem Rk {l : List Int} (a : Int) (hp : l.length < 9223372036854775806) : ∀ (n k : Nat), n + k = l.length + 1 → k ≤ l.length →
  ∃ r, iL l a n (k : Int) = some r ∧ ((∃ v : Int, r = .stop v ∧ 0 ≤ v ∧ a ∈ l.drop k) ∨ (r = .next () ∧ a ∉ l.drop k))
 | 0, k, h, hk => by omega
 | n + 1, k, h, hk => by
  simp only [iL]
  by_cases hlt : k < l.length
  ·rw [if_pos (by simpa using hlt), cq hlt, List.drop_eq_getElem_cons hlt]
   simp only [obs]
   by_cases hc : (a == l[k]) = true
   ·rw [if_pos hc]
    have hc' : a = l[k] := by simpa using hc
    exact ⟨_, rfl, .inl ⟨_, rfl, by omega, by rw [hc']; exact List.mem_cons_self⟩⟩
   ·rw [if_neg hc, bW hlt (by omega)]
    obtain ⟨r, h1, h2⟩ := Rk a hp n (k + 1) (by omega) (by omega)
    refine ⟨r, h1, ?_⟩
    have hne : a ≠ l[k] := by simpa using hc
    rcases h2 with ⟨v, h3, h4, h5⟩ | ⟨h3, h4⟩
    ·exact .inl ⟨v, h3, h4, List.mem_cons_of_mem _ h5⟩
    ·exact .inr ⟨h3, fun hm => (List.mem_cons.1 hm).elim hne h4⟩
  ·rw [if_neg (by simpa using hlt), List.drop_eq_nil_of_le (by omega)]
   exact ⟨_, rfl, .inr ⟨rfl, by simp⟩⟩
theorem Lk {l : List Int} (hp : l.length < 9223372036854775806) (a : Int) : iQ l a = some (decide (a ∈ l)) := by
 unfold iQ mW
 obtain ⟨r, h1, h2⟩ := Rk a hp (l.length + 1) 0 (by omega) (by omega)
 rw [show (((l.length : Int) : Int) - (0)).toNat + 1 = l.length + 1 by omega, show (0 : Int) = ((0 : Nat) : Int) from rfl, h1]
 rcases h2 with ⟨v, rfl, h3, h4⟩ | ⟨rfl, h4⟩
 ·simp only [obs, Ctl.elim]
  simp only [List.drop_zero] at h4
  simp [h4, h3]
 ·simp only [obs, Ctl.elim]
  simp only [List.drop_zero] at h4
  simp [h4]
theorem uj {i : Nat} {l : List Nat} : ((i : Int) ∈ l.map Int.ofNat) ↔ i ∈ l := by
 rw [List.mem_map]
 constructor
 ·rintro ⟨j, h1, h2⟩
  have : j = i := Int.ofNat.inj h2
  exact this ▸ h1
 ·intro h; exact ⟨i, h, rfl⟩
theorem EU {p : List ae} (hp : p.length ≤ 1000000) : ∀ (n : Nat) (out : List Nat) (name : List UInt8), n + out.length = p.length + 1 →
  ∃ r, vt kq ((upN p n name).map Int.ofNat) (out.map Int.ofNat) = some r ∧ Ctl.elim r (fun x => x) (fun x => x) = (chN p n out name).map Int.ofNat
 | 0, out, name, _ => ⟨_, rfl, rfl⟩
 | n + 1, out, name, hn => by
  have hout : (out.map Int.ofNat).length < 9223372036854775806 := by simp; omega
  have hroom : li (((out.map Int.ofNat).length : Int) + (([(0 : Int)].length : Nat) : Int)) 8 = some () := lc (by simp; omega)
  simp only [upN, chN]
  cases hf : fi p name with
  | none => exact ⟨_, rfl, rfl⟩
  | some i =>
   simp only
   have hstep : ∀ rest, vt kq (((i : Nat) :: rest).map Int.ofNat) (out.map Int.ofNat) = if i ∈ out then some (.stop (out.map Int.ofNat)) else vt kq (rest.map Int.ofNat) ((out ++ [i]).map Int.ofNat) := by
    intro rest
    simp only [List.map_cons, vt, kq]
    rw [Lk hout]
    simp only [obs]
    by_cases hi : i ∈ out
    ·have : Int.ofNat i ∈ out.map Int.ofNat := uj.2 hi
     rw [if_pos hi, if_pos (by simpa using this)]
     rfl
    ·have hni : ¬ Int.ofNat i ∈ out.map Int.ofNat := fun h => hi (uj.1 h)
     rw [if_neg hi, if_neg (by simpa using hni)]
     rw [show (([Int.ofNat i].length : Nat) : Int) = (([(0 : Int)].length : Nat) : Int) from rfl, hroom]
     simp [obs, Ctl.elim]
   by_cases hi : i ∈ out
   ·rw [if_pos hi]
    split
    ·rw [hstep, if_pos hi]; exact ⟨_, rfl, rfl⟩
    ·rw [hstep, if_pos hi]; exact ⟨_, rfl, rfl⟩
   ·rw [if_neg hi]
    by_cases hs : (sup p i == []) = true
    ·rw [if_pos hs, if_pos hs, hstep, if_neg hi]
     exact ⟨_, rfl, rfl⟩
    ·rw [if_neg hs, if_neg hs, hstep, if_neg hi]
     exact EU hp n (out ++ [i]) (sup p i) (by simp; omega)
theorem Ca {p : List ae} (hp : p.length ≤ 1000000) (name : List UInt8) : qF p name = some ((ch p name).map Int.ofNat) := by
 unfold qF ue
 simp only [obs]
 rw [Iy (by omega)]
 simp only [obs]
 obtain ⟨r, h1, h2⟩ := EU hp (p.length + 1) [] name (by simp)
 rw [show ([] : List Int) = ([] : List Nat).map Int.ofNat from rfl, h1]
 unfold ch
 rw [← h2]
 cases r <;> rfl
theorem yv (p : List ae) (name : List UInt8) : (ch p name).length ≤ p.length := by
 obtain ⟨_, _, _, _, _, k6, k7, _⟩ := pj p name
 exact rz _ _ k6 (fun x hx => (k7 x hx).1)
theorem UL {p : List ae} {name : List UInt8} {i : Nat} (h : fi p name = some i) : ch p name ≠ [] := by
 obtain ⟨_, _, _, k4, _⟩ := pj p name
 intro e
 have := k4 i h
 rw [e] at this; simp at this
theorem SQ {l : List Int} (a : Int) (hp : l.length < 9223372036854775806) : ∀ (n k : Nat), n + k = l.length + 1 → k ≤ l.length →
  pc l a n (k : Int) = some (if a ∈ l.drop k then .stop true else .next ())
 | 0, k, h, hk => by omega
 | n + 1, k, h, hk => by
  simp only [pc]
  by_cases hlt : k < l.length
  ·rw [if_pos (by simpa using hlt), cq hlt, List.drop_eq_getElem_cons hlt]
   simp only [obs]
   by_cases hc : (l[k] == a) = true
   ·rw [if_pos hc]
    simp at hc
    rw [if_pos (by rw [← hc]; exact List.mem_cons_self)]
   ·rw [if_neg hc, bW hlt (by omega), SQ a hp n (k + 1) (by omega) (by omega)]
    have hne : a ≠ l[k] := fun e => hc (by simp [e])
    have e : (a ∈ l[k] :: l.drop (k + 1)) ↔ a ∈ l.drop (k + 1) := ⟨fun hm => (List.mem_cons.1 hm).resolve_left hne, List.mem_cons_of_mem _⟩
    simp only [e]
  ·rw [if_neg (by simpa using hlt), List.drop_eq_nil_of_le (by omega)]
   simp
theorem Ny {l : List Int} (hp : l.length < 9223372036854775806) (a : Int) : pM l a = some (decide (a ∈ l)) := by
 unfold pM
 have h := SQ a hp (l.length + 1) 0 (by omega) (by omega)
 rw [show (((l.length : Int) : Int) - (0)).toNat + 1 = l.length + 1 by omega, show (0 : Int) = ((0 : Nat) : Int) from rfl, h]
 simp only [obs, List.drop_zero]
 by_cases hm : a ∈ l
 ·simp [hm, Ctl.elim]
 ·simp [hm, Ctl.elim]
theorem CA {p : List ae} (hp : p.length ≤ 1000000) : ∀ (n : Nat) (out : List Nat) (name : List UInt8), n + out.length = p.length + 1 → Way p out name →
  ∃ r, mo p (n + 1) (out.map Int.ofNat) (fnd p name) = some r ∧ Ctl.elim r (fun x => x) (fun x => x) = (chN p n out name).map Int.ofNat
 | 0, out, name, hn, hw => by
  exfalso
  have := rz p.length out hw.nd hw.lt
  omega
 | n + 1, out, name, hn, hw => by
  have hout : (out.map Int.ofNat).length < 9223372036854775806 := by simp; omega
  have hroom : ∀ z : Int, li (((out.map Int.ofNat).length : Int) + (([z].length : Nat) : Int)) 8 = some () := fun z => lc (by simp; omega)
  simp only [mo]
  cases hf : fi p name with
  | none =>
   rw [su hf]
   refine ⟨.next (out.map Int.ofNat), rfl, ?_⟩
   simp [chN, hf, Ctl.elim]
  | some i =>
   rw [oJ hf, Ny hout]
   obtain ⟨c, hc, _⟩ := sI hf
   have hidx : idx p (i : Int) = some c := by rw [gA]; exact hc
   have hsup : sup p i = c.di := by unfold sup; rw [hc]
   have hd : decide ((i : Int) ≥ 0) = true := by simp
   rw [if_pos hd]
   simp only [chN, hf, obs, hroom, hidx]
   by_cases hi : i ∈ out
   ·rw [if_neg (by simpa using uj.2 hi), if_pos hi]
    exact ⟨_, rfl, rfl⟩
   ·have hni : ¬ (i : Int) ∈ out.map Int.ofNat := fun h => hi (uj.1 h)
    rw [if_pos (by simpa using hni), if_neg hi]
    have hcat : out.map Int.ofNat ++ [(i : Int)] = (out ++ [i]).map Int.ofNat := by simp
    rw [hcat, hsup]
    by_cases hs : (c.di == []) = true
    ·rw [if_pos hs, if_pos hs]
     exact ⟨_, rfl, rfl⟩
    ·rw [if_neg hs, if_neg hs, jb (by omega)]
     simp only [obs]
     have hs' : sup p i ≠ [] := by rw [hsup]; simpa using hs
     have := CA hp n (out ++ [i]) (sup p i) (by simp; omega) (hw.snoc hf hi hs')
     rw [hsup] at this
     exact this
theorem mQ {p : List ae} (hp : p.length ≤ 1000000) (name : List UInt8) : iY p name = some ((ch p name).map Int.ofNat) := by
 unfold iY
 rw [jb (by omega)]
 obtain ⟨r, h1, h2⟩ := CA hp (p.length + 1) [] name (by simp) (Way.nil p name)
 simp only [obs]
 rw [show p.length + 2 = p.length + 1 + 1 from rfl, show ([] : List Int) = ([] : List Nat).map Int.ofNat from rfl, h1]
 unfold ch
 rw [← h2]
 cases r <;> rfl
theorem CN (y : Int) : ∀ (l : List Int), ∃ r, vt (pr y) l () = some r ∧ ((r = .stop () ∧ y ∈ l) ∨ (r = .next () ∧ y ∉ l))
 | [] => ⟨_, rfl, .inr ⟨rfl, by simp⟩⟩
 | x :: l => by
  simp only [vt, pr]
  by_cases hc : (x == y) = true
  ·rw [if_pos hc]
   have hc' : x = y := by simpa using hc
   exact ⟨_, rfl, .inl ⟨rfl, by rw [hc']; exact List.mem_cons_self⟩⟩
  ·rw [if_neg hc]
   have hne : y ≠ x := fun e => hc (by simp [e])
   obtain ⟨r, h1, h2⟩ := CN y l
   refine ⟨r, h1, ?_⟩
   rcases h2 with ⟨h3, h4⟩ | ⟨h3, h4⟩
   ·exact .inl ⟨h3, List.mem_cons_of_mem _ h4⟩
   ·exact .inr ⟨h3, fun hm => (List.mem_cons.1 hm).elim hne h4⟩
def bel (p : List ae) (a b : List UInt8) : Bool := match fi p b with | some j => decide (j ∈ ch p a) | none => false
theorem OU {p : List ae} {b : List UInt8} (l : List Nat) : decide (fnd p b ∈ l.map Int.ofNat) = match fi p b with | some j => decide (j ∈ l) | none => false := by
 cases hf : fi p b with
 | none =>
  rw [su hf]
  simp only [decide_eq_false_iff_not]
  intro h
  obtain ⟨j, _, hj⟩ := List.mem_map.1 h
  have : (0 : Int) ≤ Int.ofNat j := Int.natCast_nonneg j
  omega
 | some j =>
  rw [oJ hf]
  simp only [uj]
theorem E5 {p : List ae} (hp : p.length ≤ 1000000) (a b : List UInt8) : qp p a b = some (bel p a b) := by
 unfold qp ue
 rw [tk (by omega)]
 simp only [obs, Iy (p := p) (by omega)]
 obtain ⟨r, h1, h2⟩ := CN (fnd p b) ((upN p (p.length + 1) a).map Int.ofNat)
 rw [h1]
 have hb : bel p a b = decide (fnd p b ∈ (upN p (p.length + 1) a).map Int.ofNat) := by
  rw [OU]
  unfold bel
  cases fi p b with
  | none => rfl
  | some j => simp only [Ju]
 rcases h2 with ⟨rfl, h3⟩ | ⟨rfl, h3⟩
 ·rw [hb, decide_eq_true h3]; rfl
 ·rw [hb, decide_eq_false h3]; rfl
theorem uK {p : List ae} (hp : p.length ≤ 1000000) (a b : List UInt8) : my p a b = some (bel p a b) := by
 unfold my
 rw [jb (by omega)]
 have hcl : ((ch p a).map Int.ofNat).length < 9223372036854775806 := by have := yv p a; simp; omega
 simp only [obs, mQ hp, Ny hcl, OU]
 unfold bel
 cases hf : fi p b with
 | none => rw [su hf]; rfl
 | some j => rw [oJ hf, if_pos (by simp)]
def Kc (c : ae) (name : List UInt8) : Option aI := c.ah.find? fun m => m.ax == name
def lL (p : List ae) (name : List UInt8) : List Nat → Option (List UInt8 × aI)
 | [] => none
 | i :: r => match p[i]? with
  | some c => (match Kc c name with | some m => some (c.ax, m) | none => lL p name r)
  | none => none
def MI (o : Option (List UInt8 × aI)) (z : bT) : bT × Bool := match o with | some x => ({ aq := x.1, aE := x.2 }, true) | none => (z, false)
theorem N9 {p : List ae} {c : ae} {i : Nat} (hi : p[i]? = some c) (name : List UInt8) (z : bT) (hl : c.ah.length ≤ 9223372036854775807) : ∀ (n k : Nat), n + k = c.ah.length + 1 → k ≤ c.ah.length →
  kF name p (i : Int) c n z false (k : Int) = some (match (c.ah.drop k).find? (fun m => m.ax == name) with | some m => .stop ((⟨c.ax, m⟩ : bT), true) | none => .next (z, false))
 | 0, k, h, hk => by omega
 | n + 1, k, h, hk => by
  rw [kF]
  by_cases hlt : k < c.ah.length
  ·rw [if_pos (by simpa using hlt), cq hlt, obs, List.drop_eq_getElem_cons hlt, List.find?_cons]
   unfold mZ
   by_cases hn : (c.ah[k].ax == name) = true
   ·simp only [hn, if_true, gA, hi, obs]
    rfl
   ·simp only [Bool.not_eq_true] at hn
    simp only [hn]
    rw [if_neg (by simp), obs, if_neg (by simp), bW hlt hl]
    exact N9 hi name z hl n (k + 1) (by omega) (by omega)
  ·rw [if_neg (by simpa using hlt), List.drop_eq_nil_of_le (by omega)]; rfl
theorem NU {p : List ae} (hm : ∀ c ∈ p, c.ah.length ≤ 9223372036854775807) (name : List UInt8) (z : bT) (l : List Nat) (hl : ∀ x ∈ l, x < p.length) (hll : l.length ≤ 1000000) : ∀ (n k : Nat), n + k = l.length + 1 → k ≤ l.length →
  jd p (l.map Int.ofNat) name p n z false (k : Int) = some (match lL p name (l.drop k) with | some x => .stop ((⟨x.1, x.2⟩ : bT), true) | none => .next (z, false))
 | 0, k, h, hk => by omega
 | n + 1, k, h, hk => by
  rw [jd]
  by_cases hlt : k < l.length
  ·have hx := hl l[k] (List.getElem_mem hlt)
   have hc : p[l[k]]? = some p[l[k]] := List.getElem?_eq_getElem hx
   rw [if_pos (by simpa using hlt), cq (by simpa using hlt), obs, List.getElem_map, show Int.ofNat l[k] = ((l[k] : Nat) : Int) from rfl, gA, hc, obs, cB, show (0 : Int) = ((0 : Nat) : Int) from rfl, N9 hc name z (hm _ (List.getElem_mem hx)) _ 0 (by omega) (by omega), obs, List.drop_zero, List.drop_eq_getElem_cons hlt]
   simp only [lL, hc, Kc]
   cases hf : p[l[k]].ah.find? (fun m => m.ax == name) with
   | some m => rfl
   | none =>
    show jd p (l.map Int.ofNat) name p n z false (ak ((k : Int) + 1)) = _
    rw [bW hlt (by omega)]
    exact NU hm name z l hl hll n (k + 1) (by omega) (by omega)
  ·rw [if_neg (by simpa using hlt), List.drop_eq_nil_of_le (by omega)]; rfl
def zfm : bT := { aq := [], aE := zGMethod }
theorem Az {p : List ae} (hm : ∀ c ∈ p, c.ah.length ≤ 9223372036854775807) (name : List UInt8) (l : List Nat) (hl : ∀ x ∈ l, x < p.length) (hll : l.length ≤ 1000000) : oM p (l.map Int.ofNat) name = some (MI (lL p name l) zfm) := by
 unfold oM qg
 rw [cB, show (0 : Int) = ((0 : Nat) : Int) from rfl, NU hm name _ l hl hll _ 0 (by simp) (by omega), obs, List.drop_zero]
 cases lL p name l <;> rfl
theorem KN (p : List ae) (name : List UInt8) : ∀ x ∈ ch p name, x < p.length := by
 obtain ⟨_, _, _, _, _, _, k7, _⟩ := pj p name
 exact fun x hx => (k7 x hx).1
theorem wx {p : List ae} (hp : p.length ≤ 1000000) (hm : ∀ c ∈ p, c.ah.length ≤ 9223372036854775807) (a name : List UInt8) : oo p a name = some (MI (lL p name (ch p a)) zfm) := by
 unfold oo
 have := yv p a
 rw [Ca hp, obs, Az hm name _ (KN p a) (by omega), obs]
def tW (o : Option (List UInt8 × aI)) : cn × Bool := match o with | some x => ({ aq := x.1, aE := x.2 }, true) | none => ({ aq := [], aE := zGMethod }, false)
theorem Ir (c : ae) (name : List UInt8) (hl : c.ah.length ≤ 9223372036854775807) : ∀ (n k : Nat), n + k = c.ah.length + 1 → k ≤ c.ah.length →
  oz c name n (k : Int) = some (match (c.ah.drop k).find? (fun m => m.ax == name) with | some m => .stop ((⟨c.ax, m⟩ : cn), true) | none => .next ())
 | 0, k, h, hk => by omega
 | n + 1, k, h, hk => by
  rw [oz]
  by_cases hlt : k < c.ah.length
  ·rw [if_pos (by simpa using hlt), cq hlt, obs, obs, List.drop_eq_getElem_cons hlt, List.find?_cons]
   by_cases hn : (c.ah[k].ax == name) = true
   ·simp only [hn, if_true]
   ·simp only [Bool.not_eq_true] at hn
    simp only [hn]
    rw [if_neg (by simp), bW hlt hl]
    exact Ir c name hl n (k + 1) (by omega) (by omega)
  ·rw [if_neg (by simpa using hlt), List.drop_eq_nil_of_le (by omega)]; rfl
theorem Ni (c : ae) (name : List UInt8) (hl : c.ah.length ≤ 9223372036854775807) : tU c name = some (match Kc c name with | some m => ((⟨c.ax, m⟩ : cn), true) | none => (dr, false)) := by
 unfold tU Kc
 rw [cB, show (0 : Int) = ((0 : Nat) : Int) from rfl, Ir c name hl _ 0 (by omega) (by omega), obs, List.drop_zero]
 cases c.ah.find? (fun m => m.ax == name) <;> rfl
theorem OZ {p : List ae} (hm : ∀ c ∈ p, c.ah.length ≤ 9223372036854775807) (name : List UInt8) (l : List Nat) (hl : ∀ x ∈ l, x < p.length) (hll : l.length ≤ 1000000) : ∀ (n k : Nat), n + k = l.length + 1 → k ≤ l.length →
  mu p (l.map Int.ofNat) name n (k : Int) = some (match lL p name (l.drop k) with | some x => .stop ((⟨x.1, x.2⟩ : cn), true) | none => .next ())
 | 0, k, h, hk => by omega
 | n + 1, k, h, hk => by
  rw [mu]
  by_cases hlt : k < l.length
  ·have hx := hl l[k] (List.getElem_mem hlt)
   have hc : p[l[k]]? = some p[l[k]] := List.getElem?_eq_getElem hx
   rw [if_pos (by simpa using hlt), cq (by simpa using hlt), obs, List.getElem_map, show Int.ofNat l[k] = ((l[k] : Nat) : Int) from rfl, gA, hc, obs, Ni _ _ (hm _ (List.getElem_mem hx)), obs, List.drop_eq_getElem_cons hlt]
   simp only [lL, hc]
   cases hf : Kc p[l[k]] name with
   | some m => rfl
   | none =>
    rw [if_neg (by simp), bW hlt (by omega)]
    exact OZ hm name l hl hll n (k + 1) (by omega) (by omega)
  ·rw [if_neg (by simpa using hlt), List.drop_eq_nil_of_le (by omega)]; rfl
theorem MC {p : List ae} (hm : ∀ c ∈ p, c.ah.length ≤ 9223372036854775807) (name : List UInt8) (l : List Nat) (hl : ∀ x ∈ l, x < p.length) (hll : l.length ≤ 1000000) : oq p (l.map Int.ofNat) name = some (tW (lL p name l)) := by
 unfold oq
 rw [cB, show (0 : Int) = ((0 : Nat) : Int) from rfl, OZ hm name l hl hll _ 0 (by simp) (by omega), obs, List.drop_zero]
 cases lL p name l <;> rfl
theorem nt {p : List ae} (hp : p.length ≤ 1000000) (hm : ∀ c ∈ p, c.ah.length ≤ 9223372036854775807) (a name : List UInt8) : nQ p a name = some (tW (lL p name (ch p a))) := by
 unfold nQ
 have := yv p a
 rw [mQ hp, obs, MC hm name _ (KN p a) (by omega), obs]
theorem GA {p : List ae} (hp : p.length ≤ 1000000) (hm : ∀ c ∈ p, c.ah.length ≤ 9223372036854775807) (a name : List UInt8) : sr p a name = some (tW (lL p name ((ch p a).drop 1))) := by
 unfold sr
 have := yv p a
 rw [mQ hp, obs]
 cases hch : ch p a with
 | nil => rfl
 | cons x l =>
  have hc : pB ((x :: l).map Int.ofNat) 1 ((x :: l).map Int.ofNat).length = some (((x :: l).drop 1).map Int.ofNat) := by
   unfold pB
   rw [if_pos ⟨by omega, by simp; omega, by omega⟩]
   simp
   exact List.take_of_length_le (by simp)
  rw [if_neg (by simp; omega), hc, obs, MC hm name _ (fun y hy => KN p a y (by rw [hch]; exact List.mem_of_mem_drop hy)) (by rw [hch] at this; rw [List.length_drop]; omega), obs]
theorem My {p : List ae} {c : ae} {m : aI} (hp : p.length ≤ 1000000) (hm : ∀ c ∈ p, c.ah.length ≤ 9223372036854775807) (hc : c.ap.length ≤ 60) (h1 : m.ap.length ≤ 100) (h2 : m.cy.length ≤ 100) (s : aQ) :
  ∃ o, rF p c m s = some (MI o zfm) ∧ gz ⟨p, c, m⟩ s = some (tW o) ∧ (s.ab ≠ 4 → o = none) := by
 obtain ⟨r, e1, e2⟩ := tc hc h1 h2 s.fY
 have hobj : ∃ y, il ⟨p, c, m⟩ s = some y ∧ y.1 = r.1 ∧ (y.2 = 0 → r.2 = true ∧ r.1.ab = 2) ∧ (s.ab = 4 → r.2 = true → r.1.ab = 2 → y.2 = 0) := by
  unfold il
  rw [show (ct.fC ⟨p, c, m⟩) = c from rfl, show (ct.fM ⟨p, c, m⟩) = m from rfl, e2, obs]
  cases hr : r.2 with
  | false => exact ⟨_, rfl, rfl, fun h => by simp at h, fun _ h => by cases h⟩
  | true =>
   rw [if_neg (by simp)]
   by_cases hk : r.1.ab = 2
   ·rw [if_neg (by simpa using hk), dy, obs]
    cases QJ r.1 with
    | false => exact ⟨_, rfl, rfl, fun _ => ⟨rfl, hk⟩, fun _ _ _ => rfl⟩
    | true =>
     rw [if_pos rfl, obs]
     by_cases h4 : s.ab = 4
     ·rw [if_neg (by simpa using h4)]; exact ⟨_, rfl, rfl, fun _ => ⟨rfl, hk⟩, fun _ _ _ => rfl⟩
     ·rw [if_pos (by simpa using h4)]; exact ⟨_, rfl, rfl, fun h => by simp at h, fun h => absurd h h4⟩
   ·rw [if_pos (by simpa using hk)]; exact ⟨_, rfl, rfl, fun h => by simp at h, fun _ _ h => absurd h hk⟩
 obtain ⟨y, hy, hy1, hy2, hy3⟩ := hobj
 unfold rF gz
 rw [hy, obs]
 by_cases h4 : s.ab = 4
 ·have hn4 : (s.ab != 4) = false := by simp [h4]
  have h3 : (s.ab == 4) = true := by simp [h4]
  rw [hn4, if_neg (by simp)]
  unfold jy
  simp only [e1, obs]
  by_cases hr : r.2 = true
  ·by_cases hk : r.1.ab = 2
   ·have h0 := hy3 h4 hr hk
    refine ⟨lL p s.ax (ch p r.1.aq), ?_, ?_, fun h => absurd h4 h⟩
    ·rw [if_neg (by simp [hr]), if_neg (by simpa using hk)]
     simp only [h3, if_true]
     rw [show vL true 22 = some 0 from rfl]
     simp only [obs]
     rw [if_neg (by simp), wx hp hm, obs]
    ·rw [if_neg (by simp [h0]), obs, if_neg (by simp), hy1, nt hp hm, obs]
   ·have h0 : y.2 ≠ 0 := fun h => hk (hy2 h).2
    refine ⟨none, ?_, ?_, fun _ => rfl⟩
    ·rw [if_neg (by simp [hr]), if_pos (by simpa using hk)]; rfl
    ·rw [if_pos (by simpa using h0), obs]; rfl
  ·have h0 : y.2 ≠ 0 := fun h => hr (hy2 h).1
   refine ⟨none, ?_, ?_, fun _ => rfl⟩
   ·rw [if_pos (by simpa using hr)]; rfl
   ·rw [if_pos (by simpa using h0), obs]; rfl
 ·have hn4 : (s.ab != 4) = true := by simpa using h4
  refine ⟨none, ?_, ?_, fun _ => rfl⟩
  ·rw [hn4, if_pos rfl]; rfl
  ·rw [hn4]
   have : (if (y.2 != 0) = true then some true else some true : Option Bool) = some true := by split <;> rfl
   rw [this, obs]; rfl
theorem BG : ∀ (n : Nat) (l : List aQ) (d : Int), dd l ≤ n → ∀ y ∈ dI d l, dc y.2 ≤ cW dc l
 | _, [], d, _, y, hy => by simp [dI] at hy
 | 0, x :: l, d, h, y, hy => by
  have := FG x
  simp only [dd] at h; omega
 | n + 1, x :: l, d, h, y, hy => by
  simp only [dI, sU d x, List.cons_append, List.mem_cons, List.mem_append] at hy
  simp only [dd] at h
  have h1 := FG x
  have h2 := za x
  simp only [cW]
  rcases hy with rfl | (hy | hy) | hy
  ·simp only; omega
  ·have := BG n x.bM (d + 1) (by omega) y hy; omega
  ·have := BG n x.dp (d + 1) (by omega) y hy; omega
  ·have := BG n l d (by omega) y hy; omega
theorem rr : ∀ (n : Nat) (l : List aQ) (d : Int), dd l ≤ n → (dI d l).length ≤ dd l
 | _, [], d, _ => by simp [dI]
 | 0, x :: l, d, h => by
  have := FG x
  simp only [dd] at h; omega
 | n + 1, x :: l, d, h => by
  simp only [dd] at h ⊢
  have h1 := FG x
  have a1 := rr n x.bM (d + 1) (by omega)
  have a2 := rr n x.dp (d + 1) (by omega)
  have a3 := rr n l d (by omega)
  simp only [dI, sU d x, List.cons_append, List.length_cons, List.length_append]; omega
def lnR (a : az) (y : Int × aQ) : az := { a with dB := y.1, fS := y.2 }
theorem yE : ∀ (n : Nat) (l : List aQ) (a : az), dd l < n → dd l ≤ 1048576 → 0 ≤ a.dB → a.dB + dd l ≤ 4000000 → gv n l a = some ((dI a.dB l).map (lnR a))
 | 0, l, a, h, _, _, _ => by omega
 | n + 1, l, a, h, hM, h0, hd => by
  have hlm := OH l
  have loop : ∀ (t : List aQ) (pre : List aQ) (acc : List az) (f : Nat), l = pre ++ t → t.length < f → acc.length + dd t ≤ 2000000 →
    gI l a (gv n) f acc (pre.length : Int) = some (acc ++ (dI a.dB t).map (lnR a)) := by
   intro t
   induction t with
   | nil =>
    intro pre acc f hl hf _
    cases f with
    | zero => simp at hf
    | succ f =>
     simp only [List.append_nil] at hl
     subst hl
     simp [gI, dI]
   | cons x t ih =>
    intro pre acc f hl hf hr
    cases f with
    | zero => simp at hf
    | succ f =>
     have hx : idx l (pre.length : Int) = some x := by rw [hl, cq (by simp)]; simp
     have hlt : (pre.length : Int) < (l.length : Int) := by rw [hl, List.length_append, List.length_cons]; omega
     have hmx := FG x
     simp only [qn] at hr
     have hml : dE x ≤ dd l := by
      rw [hl]
      clear ih hx hlt hf hr hlm hM hd h hl
      induction pre with
      | nil => simp only [List.nil_append, qn]; omega
      | cons y pre ihp => simp only [List.cons_append, qn]; omega
     have hw : ak (a.dB + 1) = a.dB + 1 := w64 (by omega) (by omega)
     have hw2 : ak ((pre.length : Int) + 1) = ((pre ++ [x]).length : Int) := by
      have : pre.length < l.length := by rw [hl]; simp
      rw [w64 (by omega) (by omega)]; simp
     have e1 := yE n x.bM ({ ({ a with fS := x } : az) with dB := a.dB + 1 }) (by omega) (by omega) (by simp only; omega) (by simp only; omega)
     have e2 := yE n x.dp ({ ({ a with fS := x } : az) with dB := a.dB + 1 }) (by omega) (by omega) (by simp only; omega) (by simp only; omega)
     have l1 := rr _ x.bM (a.dB + 1) (Nat.le_refl _)
     have l2 := rr _ x.dp (a.dB + 1) (Nat.le_refl _)
     rw [gI, if_pos (by simpa using hlt), hx]
     simp only [obs, hw, hw2]
     rw [lc (by simp; omega), obs, e1, obs, lc (by simp; omega), obs, e2, obs, lc (by simp; omega), obs]
     rw [ih (pre ++ [x]) _ f (by simp [hl]) (by simp at hf; omega) (by simp; omega)]
     simp only [dI, sU a.dB x, List.cons_append, List.map_cons, List.map_append, List.append_assoc, List.nil_append]
     rfl
  have := loop l [] [] ((((l.length : Int) : Int) - (0)).toNat + 1) (by simp) (by omega) (by simp; omega)
  rw [gv, show (0 : Int) = (([] : List aQ).length : Int) from rfl, show ((((l.length : Int) : Int) - ((([] : List aQ).length : Nat) : Int)).toNat + 1) = ((((l.length : Int) : Int) - (0)).toNat + 1) from rfl, this, obs]
  simp
def lnM (i k : Int) (m : aI) : List az := (dI 0 m.bM).map fun y => { aq := i, aE := k, dB := y.1, fS := y.2 }
def lnF (i : Int) : Nat → List aI → List az
 | _, [] => []
 | k, m :: ms => lnM i (k : Int) m ++ lnF i (k + 1) ms
def lnG : Nat → List ae → List az
 | _, [] => []
 | i, c :: cs => lnF (i : Int) 0 c.ah ++ lnG (i + 1) cs
theorem Ji (i k : Int) (m : aI) : (lnM i k m).length ≤ cW dc m.bM := by
 unfold lnM
 rw [List.length_map]
 have := rr _ m.bM 0 (Nat.le_refl _)
 have h2 := lU m.bM
 have h3 := rn (l := m.bM) (u := dE) (v := dc) (fun y _ => OT y)
 omega
theorem KS {p : List ae} {i : Nat} {c : ae} (hc : p[i]? = some c) (hu : cW dC c.ah ≤ 1048576) : ∀ (n k : Nat) (acc : List az), n + k = c.ah.length + 1 → k ≤ c.ah.length → acc.length + cW dC (c.ah.drop k) ≤ 4000000 →
  mN p (i : Int) n acc (k : Int) = some (acc ++ lnF (i : Int) k (c.ah.drop k))
 | 0, k, acc, h, hk, _ => by omega
 | n + 1, k, acc, h, hk, hr => by
  have hcl := dt (u := dC) (fun y => by have := Br y; omega) c.ah
  rw [mN, gA, hc, obs]
  by_cases hlt : k < c.ah.length
  ·have hm := dl (u := dC) (List.getElem_mem hlt)
   rw [pR dC hlt] at hr
   have hup := Br c.ah[k]
   have h2 := lU c.ah[k].bM
   have h3 := rn (l := c.ah[k].bM) (u := dE) (v := dc) (fun y _ => OT y)
   have hl := Ji (i : Int) (k : Int) c.ah[k]
   rw [if_pos (by simpa using hlt), obs, cq hlt]
   simp only [obs]
   rw [yE _ _ _ (by omega) (by omega) (by simp) (by simp only; omega), obs]
   rw [show (dI (az.dB { aq := (i : Int), aE := (k : Int), dB := 0, fS := gh }) c.ah[k].bM).map (lnR { aq := (i : Int), aE := (k : Int), dB := 0, fS := gh }) = lnM (i : Int) (k : Int) c.ah[k] from rfl]
   rw [lc (by omega), obs, bW hlt (by omega), KS hc hu n (k + 1) _ (by omega) (by omega) (by simp; omega), List.drop_eq_getElem_cons hlt]
   simp only [lnF, List.append_assoc]
  ·rw [if_neg (by simpa using hlt), List.drop_eq_nil_of_le (by omega)]; simp [lnF]
theorem Bu (i : Int) : ∀ (l : List aI) (k : Nat), (lnF i k l).length ≤ cW dC l
 | [], _ => by simp [lnF]
 | m :: l, k => by
  have h1 := Ji i (k : Int) m
  have h2 := Bu i l (k + 1)
  have h3 := Br m
  simp only [lnF, cW, List.length_append]; omega
theorem Mj {p : List ae} (hu : cW de p ≤ 1048576) : ∀ (n k : Nat) (acc : List az), n + k = p.length + 1 → k ≤ p.length → acc.length + cW de (p.drop k) ≤ 2000000 →
  mb p n acc (k : Int) = some (acc ++ lnG k (p.drop k))
 | 0, k, acc, h, hk, _ => by omega
 | n + 1, k, acc, h, hk, hr => by
  have hcl := dt (u := de) (fun y => by have := BW y; omega) p
  rw [mb]
  by_cases hlt : k < p.length
  ·have hm := dl (u := de) (List.getElem_mem hlt)
   rw [pR de hlt] at hr
   have hup := BW p[k]
   have hl := Bu (k : Int) p[k].ah 0
   have hc : p[k]? = some p[k] := List.getElem?_eq_getElem hlt
   rw [if_pos (by simpa using hlt), cq hlt]
   simp only [obs, Option.getD_some]
   rw [cB, show (0 : Int) = ((0 : Nat) : Int) from rfl, KS hc (by omega) _ 0 acc (by omega) (by omega) (by rw [List.drop_zero]; omega), obs, bW hlt (by omega), List.drop_zero, Mj hu n (k + 1) _ (by omega) (by omega) (by simp; omega), List.drop_eq_getElem_cons hlt]
   simp only [lnG, List.append_assoc]
  ·rw [if_neg (by simpa using hlt), List.drop_eq_nil_of_le (by omega)]; simp [lnG]
theorem vq {p : List ae} (hu : cW de p ≤ 1048576) : nR p = some (lnG 0 p) := by
 unfold nR
 rw [cB, show (0 : Int) = ((0 : Nat) : Int) from rfl, Mj hu _ 0 [] (by omega) (by omega) (by simp; omega), obs, List.drop_zero]; rfl
theorem Oz {i : Int} : ∀ {l : List aI} {k : Nat} {x : az}, x ∈ lnF i k l → x.aq = i ∧ ∃ (j : Nat) (m : aI), l[j]? = some m ∧ x.aE = ((k + j : Nat) : Int) ∧ dc x.fS ≤ cW dc m.bM
 | [], k, x, h => by simp [lnF] at h
 | m :: l, k, x, h => by
  simp only [lnF, List.mem_append] at h
  rcases h with h | h
  ·unfold lnM at h
   rw [List.mem_map] at h
   obtain ⟨y, hy, rfl⟩ := h
   exact ⟨rfl, 0, m, rfl, by simp, BG _ _ _ (Nat.le_refl _) y hy⟩
  ·obtain ⟨h1, j, m', h2, h3, h4⟩ := Oz h
   exact ⟨h1, j + 1, m', by simpa using h2, by rw [h3]; omega, h4⟩
theorem Kj : ∀ {l : List ae} {k : Nat} {x : az}, x ∈ lnG k l → ∃ (j : Nat) (c : ae), l[j]? = some c ∧ x.aq = ((k + j : Nat) : Int) ∧ ∃ (i : Nat) (m : aI), c.ah[i]? = some m ∧ x.aE = (i : Int) ∧ dc x.fS ≤ cW dc m.bM
 | [], k, x, h => by simp [lnG] at h
 | c :: l, k, x, h => by
  simp only [lnG, List.mem_append] at h
  rcases h with h | h
  ·obtain ⟨h1, j, m, h2, h3, h4⟩ := Oz h
   exact ⟨0, c, rfl, by simpa using h1, j, m, h2, by rw [h3]; omega, h4⟩
  ·obtain ⟨j, c', h1, h2, r⟩ := Kj h
   exact ⟨j + 1, c', by simpa using h1, by rw [h2]; omega, r⟩
def lnA (x : az) : cF := { aq := x.aq, aE := x.aE, dB := x.dB, fS := x.fS }
theorem Ap (i k : Int) : ∀ (rows : List (Int × aQ)) (acc : List cF), acc.length + rows.length ≤ 400000000 → vt (mz i k) rows acc = some (.next (acc ++ rows.map fun y => (⟨i, k, y.1, y.2⟩ : cF)))
 | [], acc, _ => by simp [vt]
 | (d, x) :: rows, acc, h => by
  simp only [List.length_cons] at h
  have h1 := Ap i k rows (acc ++ [(⟨i, k, d, x⟩ : cF)]) (by simp; omega)
  simp only [vt, mz]
  rw [lc (by simp; omega), obs, obs]
  exact h1.trans (by simp)
theorem wa {i : Nat} {c : ae} (hu : cW dC c.ah ≤ 1048576) : ∀ (n k : Nat) (acc : List cF), n + k = c.ah.length + 1 → k ≤ c.ah.length → acc.length + cW dC (c.ah.drop k) ≤ 4000000 →
  mv (i : Int) c n acc (k : Int) = some (acc ++ (lnF (i : Int) k (c.ah.drop k)).map lnA)
 | 0, k, acc, h, hk, _ => by omega
 | n + 1, k, acc, h, hk, hr => by
  have hcl := dt (u := dC) (fun y => by have := Br y; omega) c.ah
  rw [mv]
  by_cases hlt : k < c.ah.length
  ·have hm := dl (u := dC) (List.getElem_mem hlt)
   rw [pR dC hlt] at hr
   have hup := Br c.ah[k]
   have h2 := lU c.ah[k].bM
   have h3 := rn (l := c.ah[k].bM) (u := dE) (v := dc) (fun y _ => OT y)
   have hl := Ji (i : Int) (k : Int) c.ah[k]
   have h5 := mL5 c.ah[k].bM
   have hl' : (dI 0 c.ah[k].bM).length ≤ cW dc c.ah[k].bM := by simpa [lnM] using hl
   rw [if_pos (by simpa using hlt), cq hlt]
   simp only [obs]
   rw [show uH c.ah[k] = some c.ah[k] from rfl, obs, show ui c.ah[k] = some (dI 0 c.ah[k].bM) by unfold ui; rw [if_pos (by omega)], obs, Ap _ _ _ _ (by omega), obs]
   simp only [Ctl.elim]
   rw [bW hlt (by omega), wa hu n (k + 1) _ (by omega) (by omega) (by simp; omega), List.drop_eq_getElem_cons hlt]
   simp only [lnF, lnM, List.append_assoc, List.map_append, List.map_map]
   rfl
  ·rw [if_neg (by simpa using hlt), List.drop_eq_nil_of_le (by omega)]; simp [lnF]
theorem vu {p : List ae} (hu : cW de p ≤ 1048576) : ∀ (n k : Nat) (acc : List cF), n + k = p.length + 1 → k ≤ p.length → acc.length + cW de (p.drop k) ≤ 2000000 →
  mB p n acc (k : Int) = some (acc ++ (lnG k (p.drop k)).map lnA)
 | 0, k, acc, h, hk, _ => by omega
 | n + 1, k, acc, h, hk, hr => by
  have hcl := dt (u := de) (fun y => by have := BW y; omega) p
  rw [mB]
  by_cases hlt : k < p.length
  ·have hm := dl (u := de) (List.getElem_mem hlt)
   rw [pR de hlt] at hr
   have hup := BW p[k]
   have hl := Bu (k : Int) p[k].ah 0
   rw [if_pos (by simpa using hlt), cq hlt]
   simp only [obs]
   rw [cB, show (0 : Int) = ((0 : Nat) : Int) from rfl, wa (by omega) _ 0 acc (by omega) (by omega) (by rw [List.drop_zero]; omega), obs, bW hlt (by omega), List.drop_zero, vu hu n (k + 1) _ (by omega) (by omega) (by simp; omega), List.drop_eq_getElem_cons hlt]
   simp only [lnG, List.append_assoc, List.map_append]
  ·rw [if_neg (by simpa using hlt), List.drop_eq_nil_of_le (by omega)]; simp [lnG]
theorem Db {p : List ae} (hu : cW de p ≤ 1048576) : qQ p = some ((lnG 0 p).map lnA) := by
 unfold qQ
 rw [cB, show (0 : Int) = ((0 : Nat) : Int) from rfl, vu hu _ 0 [] (by omega) (by omega) (by simp; omega), obs, List.drop_zero]; rfl
theorem BH : ∀ (l : List ae) (k : Nat), (lnG k l).length ≤ cW de l
 | [], k => by simp [lnG]
 | c :: l, k => by
  have h1 := Bu (k : Int) c.ah 0
  have h2 := BH l (k + 1)
  have h3 := BW c
  simp only [lnG, cW, List.length_append]; omega
def Nk (s : aQ) (o : Option (List UInt8 × aI)) : Bool := decide (s.ab = 3 ∨ s.ab = 7 ∨ s.ab = 8) || (match o with | some x => !x.2.eN | none => false)
structure AtL (p : List ae) (x : az) (c : ae) (m : aI) : Prop where
 hc : idx p x.aq = some c
 hm : idx c.ah x.aE = some m
 memc : c ∈ p
 memm : m ∈ c.ah
theorem Qw {p : List ae} {x : az} (h : x ∈ lnG 0 p) : ∃ c m, AtL p x c m := by
 obtain ⟨j, c, hj, e1, i, m, hi, e2, _⟩ := Kj h
 rw [Nat.zero_add] at e1
 exact ⟨c, m, by rw [e1, gA, hj], by rw [e2, gA, hi], List.mem_of_getElem? hj, List.mem_of_getElem? hi⟩
theorem QL {p : List ae} {x : az} {c : ae} {m : aI} (h : AtL p x c m) : qN p x = some ⟨p, c, m⟩ := by
 unfold qN
 rw [h.hc, obs, obs, h.hm, obs]
structure Light (p : List ae) : Prop where
 hp : p.length ≤ 30
 hl : ∀ c ∈ p, J3 c
theorem Light.ms {p : List ae} (h : Light p) : ∀ c ∈ p, c.ah.length ≤ 9223372036854775807 := fun c hc => by have := (h.hl c hc).2.2.2.1; omega
theorem Light.one {p : List ae} (h : Light p) {x : az} {c : ae} {m : aI} (ha : AtL p x c m) : ∃ o, jF p c m x.fS = some (Nk x.fS o) ∧ gz ⟨p, c, m⟩ x.fS = some (tW o) := by
 have hc := h.hl c ha.memc
 have hm := hc.2.2.2.2 m ha.memm
 have hp := h.hp
 obtain ⟨o, e1, e2, e3⟩ := My (p := p) (c := c) (m := m) (by omega) h.ms (by have := hc.1; omega) (by omega) (by omega) x.fS
 refine ⟨o, ?_, e2⟩
 generalize x.fS = s at *
 unfold jF Nk
 by_cases k3 : s.ab = 3
 ·simp [k3]
 ·by_cases k7 : s.ab = 7
  ·simp [k7]
  ·by_cases k8 : s.ab = 8
   ·simp [k8]
   ·have a3 : (s.ab == 3) = false := by simpa using k3
    have a7 : (s.ab == 7) = false := by simpa using k7
    have a8 : (s.ab == 8) = false := by simpa using k8
    rw [a3, a7, a8]
    simp only [Bool.false_eq_true, if_false, obs]
    by_cases k4 : s.ab = 4
    ·rw [if_pos (by simpa using k4), e1, obs]
     cases o with
     | none => simp [MI, k4]
     | some x => simp [MI, k4]
    ·rw [if_neg (by simpa using k4), e3 k4]
     simp [k3, k7, k8]
theorem CT {p : List ae} (hL : Light p) {l : List az} (hl : l.length ≤ 4000000) (hm : ∀ x ∈ l, ∃ c m, AtL p x c m) : ∀ (n k : Nat), n + k = l.length + 1 → k ≤ l.length →
  ∃ r, lk p (l.map lnA) n (k : Int) = some r ∧
   ((∃ f : ce, r = .stop f ∧ f.dA = 20) ∨ (r = .next () ∧ ∀ x ∈ l.drop k, ∀ c m, AtL p x c m → m.eN = true → jF p c m x.fS = some false))
 | 0, k, h, hk => by omega
 | n + 1, k, h, hk => by
  by_cases hlt : k < l.length
  ·obtain ⟨c, m, ha⟩ := hm _ (List.getElem_mem hlt)
   obtain ⟨o, e1, _⟩ := hL.one ha
   obtain ⟨r, i1, i3⟩ := CT hL hl hm n (k + 1) (by omega) (by omega)
   have hlt' : k < (l.map lnA).length := by simpa using hlt
   have hx : idx (l.map lnA) (k : Int) = some (lnA l[k]) := by rw [cq hlt', List.getElem_map]
   rw [lk, if_pos (by simpa using hlt), hx]
   simp only [obs]
   simp only [lnA, obs]
   rw [ha.hc]
   simp only [obs]
   rw [ha.hm]
   simp only [obs]
   rw [bW hlt (by omega)]
   rw [List.drop_eq_getElem_cons hlt]
   have hun : ∀ c' m', AtL p l[k] c' m' → c' = c ∧ m' = m := by
    intro c' m' h'
    have q1 := h'.hc; rw [ha.hc] at q1; cases q1
    have q2 := h'.hm; rw [ha.hm] at q2; cases q2
    exact ⟨rfl, rfl⟩
   cases hpu : m.eN with
   | false =>
    simp only [Bool.false_eq_true, if_false, obs]
    refine ⟨r, i1, ?_⟩
    rcases i3 with i3 | ⟨i3, i4⟩
    ·exact .inl i3
    ·refine .inr ⟨i3, fun x hx => ?_⟩
     rcases List.mem_cons.1 hx with rfl | hx
     ·intro c' m' h' hp'
      obtain ⟨rfl, rfl⟩ := hun _ _ h'
      rw [hpu] at hp'; cases hp'
     ·exact i4 x hx
   | true =>
    simp only [if_true]
    rw [e1]
    simp only [obs]
    cases hb : Nk l[k].fS o with
    | true =>
     simp only [if_true]
     exact ⟨_, rfl, .inl ⟨_, rfl, rfl⟩⟩
    | false =>
     simp only [Bool.false_eq_true, if_false]
     refine ⟨r, i1, ?_⟩
     rcases i3 with i3 | ⟨i3, i4⟩
     ·exact .inl i3
     ·refine .inr ⟨i3, fun x hx => ?_⟩
      rcases List.mem_cons.1 hx with rfl | hx
      ·intro c' m' h' hp'
       obtain ⟨rfl, rfl⟩ := hun _ _ h'
       rw [e1, hb]
      ·exact i4 x hx
  ·refine ⟨.next (), ?_, .inr ⟨rfl, fun x hx => ?_⟩⟩
   ·rw [lk, if_neg (by simpa using hlt)]
   ·rw [List.drop_eq_nil_of_le (by omega)] at hx; cases hx
theorem E6 {p : List ae} (hL : Light p) (hu : cW de p ≤ 1048576) : ∃ f : ce, lb p = some f ∧ (f.dA = 0 → ∀ x ∈ lnG 0 p, ∀ c m, AtL p x c m → m.eN = true → jF p c m x.fS = some false) := by
 have hlen := BH p 0
 obtain ⟨r, h1, h3⟩ := CT hL (l := lnG 0 p) (by omega) (fun x hx => Qw hx) ((lnG 0 p).length + 1) 0 (by omega) (by omega)
 unfold lb
 rw [Db hu]
 simp only [obs, cB, List.length_map]
 rw [show (0 : Int) = ((0 : Nat) : Int) from rfl, h1]
 simp only [obs]
 rcases h3 with ⟨f, rfl, hf⟩ | ⟨rfl, h4⟩
 ·exact ⟨f, rfl, fun h => by omega⟩
 ·exact ⟨_, rfl, fun _ => h4⟩
def xr (a0 : List ae) (a1 a2 : List UInt8) : Option (List (A2 Int)) :=
 (eb a1 a2 a0 (0, (fun _ => none)) []).bind fun y3 =>
 (lg a0 a1 ((a0.map fun c => c.ah.length).foldr (· + ·) 0 + 1) y3.1.1 y3.1.2 y3.2 0).bind fun (_, _, x0) => some x0
theorem L9 (a0 : List ae) (a1 a2 : List UInt8) : od a0 a1 a2 = (xr a0 a1 a2).bind sV := by
 unfold od xr
 cases eb a1 a2 a0 (0, (fun _ => none)) [] with
 | none => rfl
 | some y =>
  simp only [obs]
  cases lg a0 a1 ((a0.map fun c => c.ah.length).foldr (· + ·) 0 + 1) y.1.1 y.1.2 y.2 0 with
  | none => rfl
  | some z =>
   obtain ⟨z1, z2, z3⟩ := z
   simp only [obs]
   cases sV z3 <;> rfl
theorem GY {l r : List (A2 Int)} (h : sV l = some r) : r.length = l.length := by
 unfold sV at h
 split at h
 ·cases h; simp
 ·cases h
def Ou (T : List UInt8) : Option Bool :=
 (uk T).bind fun y3 => (lb y3.1).bind fun y5 => if (BR y5 (⟨20, 33⟩ : ce)) then (xr y3.1 [65] [107]).bind fun l => if l.length < 4611686018427387904 then some ((l.length : Int) == 2) else none else none
theorem Nv {T : List UInt8} (h : Ou T = some true) : ((uk T).bind fun (y3 : List ae × ce) => (lb y3.1).bind fun y5 => if (BR y5 (⟨20, 33⟩ : ce)) then (od y3.1 [65] [107]).bind fun (y8 : List (A2 Int)) => some ((y8.length : Int) == 2) else none) = some true := by
 rw [← h]
 unfold Ou
 cases uk T with
 | none => rfl
 | some y3 =>
  simp only [obs]
  cases lb y3.1 with
  | none => rfl
  | some y5 =>
   simp only [obs]
   rw [L9]
   cases xr y3.1 [65] [107] with
   | none => rfl
   | some l =>
    simp only [obs]
    by_cases hl : l.length < 4611686018427387904
    ·have : sV l = some (l.mergeSort fun x y => !(ltOf cfP) y x) := by unfold sV; rw [if_pos hl]
     have h2 := GY this
     rw [this, if_pos hl]
     simp only [obs, h2]
    ·have : sV l = none := by unfold sV; rw [if_neg hl]
     rw [this, if_neg hl]
     rfl
theorem Fk : kR = some true := by
 unfold kR
 exact Nv (by decide +kernel)
theorem Ez {k : Nat} (h : k ≤ 9000000000000) : pN (k : Int) = true := by
 unfold pN
 simp only [IntKind.min, IntKind.max, IntKind.signed, IntKind.bits, Bool.and_eq_true, decide_eq_true_eq, if_true]
 omega
theorem Sa {a b c d : Int} (ha : pN a = true) (hb : pN b = true) (hc : pN c = true) (hd : pN d = true) (h : kb2 a b = kb2 c d) : a = c ∧ b = d := by
 have := keyBytes_inj (l := [.int .i64 a, .int .i64 b]) (l' := [.int .i64 c, .int .i64 d]) ⟨rfl, rfl, trivial⟩ (fun x hx => by
  rcases List.mem_cons.1 hx with rfl | hx
  ·exact ha
  ·rcases List.mem_cons.1 hx with rfl | hx
   ·exact hb
   ·cases hx) (fun x hx => by
  rcases List.mem_cons.1 hx with rfl | hx
  ·exact hc
  ·rcases List.mem_cons.1 hx with rfl | hx
   ·exact hd
   ·cases hx) h
 simp at this
 exact this
def isM (N : List UInt8) (m : aI) : Bool := m.ax == N
def plI (c : ae) (N : List UInt8) : Int := match c.ah.findIdx? (isM N) with | some k => (k : Int) | none => -1
def Nf (p : List ae) (N : List UInt8) (x : List UInt8 × aI) : A2 Int := ⟨fnd p x.1, match fi p x.1 with | some i => (match p[i]? with | some c => plI c N | none => -1) | none => -1⟩
def tgt (p : List ae) (C N : List UInt8) (c : ae) : Option (A2 Int) := if bel p c.ax C = true then (lL p N (ch p c.ax)).map (Nf p N) else none
structure Spot (p : List ae) (a : A2 Int) (i k : Nat) (c : ae) (m : aI) : Prop where
 e : a = ⟨(i : Int), (k : Int)⟩
 hc : p[i]? = some c
 hm : c.ah[k]? = some m
theorem Ig {p : List ae} {name : List UInt8} : ∀ {l : List Nat} {x : List UInt8 × aI}, lL p name l = some x → ∃ i ∈ l, ∃ c, p[i]? = some c ∧ c.ax = x.1 ∧ Kc c name = some x.2
 | [], x, h => by cases h
 | i :: r, x, h => by
  simp only [lL] at h
  split at h
  ·rename_i c hc
   split at h
   ·rename_i m hm
    cases h
    exact ⟨i, by simp, c, hc, rfl, hm⟩
   ·obtain ⟨j, hj, r⟩ := Ig h
    exact ⟨j, by simp [hj], r⟩
  ·cases h
theorem LN {α : Type} {q : α → Bool} : ∀ {l : List α} {x : α}, l.find? q = some x → ∃ k : Nat, l.findIdx? q = some k ∧ l[k]? = some x
 | [], x, h => by cases h
 | y :: l, x, h => by
  rw [List.findIdx?_cons]
  cases hq : q y with
  | true =>
   rw [List.find?_cons_of_pos hq] at h
   cases h
   exact ⟨0, by simp, rfl⟩
  | false =>
   rw [List.find?_cons_of_neg (by simp [hq])] at h
   obtain ⟨k, h1, h2⟩ := LN h
   exact ⟨k + 1, by simp [h1], by simpa using h2⟩
theorem LQ {α : Type} {q : α → Bool} : ∀ {l : List α} {k : Nat}, l.findIdx? q = some k → ∃ x, l[k]? = some x ∧ q x = true ∧ l.find? q = some x
 | [], k, h => by cases h
 | y :: l, k, h => by
  rw [List.findIdx?_cons] at h
  cases hq : q y with
  | true =>
   rw [if_pos hq] at h
   cases h
   exact ⟨y, rfl, hq, List.find?_cons_of_pos hq⟩
  | false =>
   rw [if_neg (by simp [hq])] at h
   cases hf : l.findIdx? q with
   | none => rw [hf] at h; cases h
   | some j =>
    rw [hf] at h
    cases h
    obtain ⟨x, h1, h2, h3⟩ := LQ hf
    exact ⟨x, by simpa using h1, h2, by rw [List.find?_cons_of_neg (by simp [hq])]; exact h3⟩
theorem Lv {p : List ae} {N a : List UInt8} {x : List UInt8 × aI} (h : lL p N (ch p a) = some x) : ∃ i k c', fi p x.1 = some i ∧ Spot p (Nf p N x) i k c' x.2 ∧ c'.ah.findIdx? (isM N) = some k ∧ x.2.ax = N ∧ c'.ax = x.1 ∧ i ∈ ch p a := by
 obtain ⟨i, hi, c', hc, hn, hm⟩ := Ig h
 obtain ⟨R, _, _, _, _, _, h6, _⟩ := pj p a
 obtain ⟨_, nm, hnm⟩ := h6 i hi
 obtain ⟨c2, hc2, hn2⟩ := sI hnm
 rw [hc] at hc2; cases hc2
 have hfi : fi p x.1 = some i := by rw [← hn, hn2]; exact hnm
 obtain ⟨k, hk1, hk2⟩ := LN hm
 have hk1' : c'.ah.findIdx? (isM N) = some k := hk1
 refine ⟨i, k, c', hfi, ⟨?_, hc, hk2⟩, hk1', ?_, hn, hi⟩
 ·unfold Nf plI
  rw [oJ hfi, hfi]
  simp only [hc, hk1']
 ·have := List.find?_some hm
  simpa using this
theorem DM {p : List ae} {C N : List UInt8} {c : ae} {a : A2 Int} (h : tgt p C N c = some a) : ∃ x i k c', bel p c.ax C = true ∧ lL p N (ch p c.ax) = some x ∧ fi p x.1 = some i ∧ Spot p a i k c' x.2 ∧ c'.ah.findIdx? (isM N) = some k ∧ x.2.ax = N := by
 unfold tgt at h
 split at h
 ·rename_i hb
  cases hx : lL p N (ch p c.ax) with
  | none => rw [hx] at h; cases h
  | some x =>
   rw [hx] at h
   simp only [Option.map_some, Option.some.injEq] at h
   obtain ⟨i, k, c', h1, h2, h3, h4, _⟩ := Lv hx
   exact ⟨x, i, k, c', hb, rfl, h1, h ▸ h2, h3, h4⟩
 ·cases h
theorem Ng {p : List ae} {c : ae} (hl : c.ah.length ≤ 9223372036854775807) (N : List UInt8) : fW c.ah (fun (z : aI) => gY z N) = some (plI c N) := by
 unfold fW
 rw [NQ (eW c.ah (fun (z : aI) => gY z N)) (b := isM N) (by omega) (fun n x => by rw [eW]; rfl), obs, KJ]
 rfl
def sC (l : List (A2 Int)) : Option (A2 Int) → List (A2 Int)
 | none => l
 | some a => if a ∈ l then l else l ++ [a]
def xE (p : List ae) (q : List UInt8 × List UInt8) (l : List (A2 Int)) : List (A2 Int) := p.foldl (fun l c => sC l (tgt p q.1 q.2 c)) l
def Kx (p : List ae) (a : A2 Int) : Prop := ∃ i k c m, Spot p a i k c m
structure InvR (p : List ae) (n : Nat) (met : List UInt8 → Option Int) (todo : List (A2 Int)) : Prop where
 val : ∀ a ∈ todo, Kx p a
 nd : todo.Nodup
 met : ∀ a, Kx p a → 0 ≤ (met (kb2 a.a0 a.a1)).getD 0 ∧ (met (kb2 a.a0 a.a1)).getD 0 ≤ n ∧ (a ∈ todo ↔ 1 ≤ (met (kb2 a.a0 a.a1)).getD 0)
 len : todo.length ≤ n
theorem SX {p : List ae} (hL : Light p) {a : A2 Int} (h : Kx p a) : pN a.a0 = true ∧ pN a.a1 = true := by
 obtain ⟨i, k, c, m, rfl, hc, hm⟩ := h
 obtain ⟨h1, e1⟩ := List.getElem?_eq_some_iff.1 hc
 obtain ⟨h2, _⟩ := List.getElem?_eq_some_iff.1 hm
 have := hL.hp
 have := (hL.hl c (List.mem_of_getElem? hc)).2.2.2.1
 exact ⟨Ez (by omega), Ez (by omega)⟩
theorem Ph {p : List ae} (hL : Light p) {n : Nat} {met : List UInt8 → Option Int} {todo : List (A2 Int)} (hI : InvR p n met todo) (hn : n ≤ 1000000000000) {a : A2 Int} (ha : Kx p a) :
  let v := (met (kb2 a.a0 a.a1)).getD 0
  xW met a.a0 a.a1 = some v ∧ P9 n a.a0 a.a1 = some () ∧ ak (v + 1) = v + 1 ∧ LL (v + 1) = some () ∧ xW (qK met (kb2 a.a0 a.a1) (v + 1)) a.a0 a.a1 = some (v + 1) ∧ (v + 1 = 1 ↔ a ∉ todo) ∧ InvR p (n + 1) (qK met (kb2 a.a0 a.a1) (v + 1)) (sC todo (some a)) := by
 intro v
 obtain ⟨i1, i2⟩ := SX hL ha
 obtain ⟨m0, m1, m2⟩ := hI.met a ha
 have hv0 : 0 ≤ v := m0
 have hv1 : v ≤ n := m1
 have hvm : a ∈ todo ↔ 1 ≤ v := m2
 refine ⟨by unfold xW; rw [i1, i2]; rfl, ?_, w64 (by omega) (by omega), ?_, ?_, ?_, ?_, ?_, ?_, ?_⟩
 ·unfold P9
  have : Nat.blt n maxLen = true := by rw [Nat.blt_eq]; simp only [maxLen]; omega
  rw [i1, i2, this]; rfl
 ·have : pN (v + 1) = true := by
   have := Ez (k := (v + 1).toNat) (by omega)
   rwa [show (((v + 1).toNat : Nat) : Int) = v + 1 by omega] at this
  unfold LL; rw [this]; rfl
 ·unfold xW qK; rw [i1, i2]; simp
 ·rw [hvm]; omega
 ·intro b hb
  simp only [sC] at hb
  split at hb
  ·exact hI.val b hb
  ·rcases List.mem_append.1 hb with hb | hb
   ·exact hI.val b hb
   ·rw [List.mem_singleton.1 hb]; exact ha
 ·simp only [sC]
  split
  ·exact hI.nd
  ·rename_i hnm
   exact List.nodup_append.2 ⟨hI.nd, by simp, fun x hx y hy => by rw [List.mem_singleton.1 hy]; intro e; exact hnm (e ▸ hx)⟩
 ·intro b hb
  obtain ⟨j1, j2⟩ := SX hL hb
  obtain ⟨b0, b1, b2⟩ := hI.met b hb
  by_cases hab : b = a
  ·subst hab
   have e : (qK met (kb2 b.a0 b.a1) (v + 1) (kb2 b.a0 b.a1)).getD 0 = v + 1 := by unfold qK; simp
   rw [e]
   refine ⟨by omega, by omega, ?_⟩
   simp only [sC]
   split
   ·rename_i h; constructor <;> intro _; omega; exact h
   ·constructor <;> intro _; omega; simp
  ·have hk : ¬ kb2 b.a0 b.a1 = kb2 a.a0 a.a1 := by
    intro h
    obtain ⟨q1, q2⟩ := Sa j1 j2 i1 i2 h
    apply hab
    cases a; cases b
    simp only at q1 q2
    subst q1 q2; rfl
   have e : (qK met (kb2 a.a0 a.a1) (v + 1) (kb2 b.a0 b.a1)) = met (kb2 b.a0 b.a1) := by unfold qK; rw [if_neg hk]
   rw [e]
   refine ⟨b0, by omega, ?_⟩
   simp only [sC]
   split
   ·exact b2
   ·rw [List.mem_append, List.mem_singleton]
    constructor
    ·rintro (h | h)
     ·exact b2.1 h
     ·exact absurd h hab
    ·intro h; exact .inl (b2.2 h)
 ·have := hI.len
  simp only [sC]
  split
  ·omega
  ·simp; omega
theorem Fl {p : List ae} (hL : Light p) (C N : List UInt8) : ∀ (f k : Nat) (n : Nat) (met : List UInt8 → Option Int) (todo : List (A2 Int)), f + k = p.length + 1 → k ≤ p.length → InvR p n met todo → n + (p.length - k) ≤ 900000000000 →
  ∃ n' met', gx C N p f n met todo (k : Int) = some (n', met', (p.drop k).foldl (fun l c => sC l (tgt p C N c)) todo) ∧ InvR p n' met' ((p.drop k).foldl (fun l c => sC l (tgt p C N c)) todo) ∧ n' ≤ n + (p.length - k)
 | 0, k, n, met, todo, h, hk, _, _ => by omega
 | f + 1, k, n, met, todo, h, hk, hI, hn => by
  have hp := hL.hp
  rw [gx]
  by_cases hlt : k < p.length
  ·rw [if_pos (by simpa using hlt), cq hlt, List.drop_eq_getElem_cons hlt, List.foldl_cons]
   simp only [obs]
   rw [E5 (by omega)]
   simp only [obs]
   cases hb : bel p p[k].ax C with
   | false =>
    have ht : tgt p C N p[k] = none := by unfold tgt; rw [hb]; simp
    simp only [Bool.not_false, if_true, obs]
    rw [bW hlt (by omega), ht]
    obtain ⟨n', met', e1, e2, e3⟩ := Fl hL C N f (k + 1) n met todo (by omega) (by omega) hI (by omega)
    exact ⟨n', met', e1, e2, by omega⟩
   | true =>
    simp only [Bool.not_true, Bool.false_eq_true, if_false]
    rw [wx (by omega) hL.ms]
    simp only [obs]
    cases hx : lL p N (ch p p[k].ax) with
    | none =>
     have ht : tgt p C N p[k] = none := by unfold tgt; rw [hb, hx]; simp
     simp only [MI, Bool.not_false, if_true, obs]
     rw [bW hlt (by omega), ht]
     obtain ⟨n', met', e1, e2, e3⟩ := Fl hL C N f (k + 1) n met todo (by omega) (by omega) hI (by omega)
     exact ⟨n', met', e1, e2, by omega⟩
    | some x =>
     have ht : tgt p C N p[k] = some (Nf p N x) := by unfold tgt; rw [hb, hx]; simp
     obtain ⟨i, j, c', h1, h2, h3, _⟩ := Lv hx
     have hval : Kx p (Nf p N x) := ⟨i, j, c', x.2, h2⟩
     obtain ⟨s1, s2, s3, s4, s5, s6, s7⟩ := Ph hL hI (by omega) hval
     simp only [MI, Bool.not_true, Bool.false_eq_true, if_false]
     rw [tk (by omega)]
     simp only [obs]
     rw [oJ h1, gA, h2.hc]
     simp only [obs]
     rw [Ng (p := p) (by have := hL.ms c' (List.mem_of_getElem? h2.hc); exact this) N]
     simp only [obs]
     have epl : plI c' N = (j : Int) := by unfold plI; rw [h3]
     have ep : Nf p N x = ⟨(i : Int), plI c' N⟩ := by rw [h2.e, epl]
     rw [ep] at s1 s2 s3 s4 s5 s6 s7
     simp only at s1 s2 s3 s4 s5 s6 s7
     rw [s1]
     simp only [obs]
     rw [s2]
     simp only [obs]
     rw [s3, s4]
     simp only [obs]
     rw [s5]
     simp only [obs]
     rw [ht, ep]
     by_cases hm : (⟨(i : Int), plI c' N⟩ : A2 Int) ∈ todo
     ·have hne : ¬ (Option.getD (met (kb2 (i : Int) (plI c' N))) 0 + 1 = 1) := fun h => (s6.1 h) hm
      have ea : sC todo (some ⟨(i : Int), plI c' N⟩) = todo := by simp only [sC]; rw [if_pos hm]
      rw [ea] at s7 ⊢
      rw [if_neg (by simpa using hne)]
      simp only [obs]
      rw [bW hlt (by omega)]
      obtain ⟨n', met', e1, e2, e3⟩ := Fl hL C N f (k + 1) (n + 1) _ todo (by omega) (by omega) s7 (by omega)
      exact ⟨n', met', e1, e2, by omega⟩
     ·have hne : (Option.getD (met (kb2 (i : Int) (plI c' N))) 0 + 1 = 1) := s6.2 hm
      have ea : sC todo (some ⟨(i : Int), plI c' N⟩) = todo ++ [⟨(i : Int), plI c' N⟩] := by simp only [sC]; rw [if_neg hm]
      rw [ea] at s7 ⊢
      have hlen := hI.len
      rw [if_pos (by simpa using hne), lc (by simp; omega)]
      simp only [obs]
      rw [bW hlt (by omega)]
      obtain ⟨n', met', e1, e2, e3⟩ := Fl hL C N f (k + 1) (n + 1) _ (todo ++ [⟨(i : Int), plI c' N⟩]) (by omega) (by omega) s7 (by omega)
      exact ⟨n', met', e1, e2, by omega⟩
  ·rw [if_neg (by simpa using hlt), List.drop_eq_nil_of_le (by omega)]
   exact ⟨n, met, rfl, hI, by omega⟩
theorem OQ {p : List ae} (hL : Light p) (q : List UInt8 × List UInt8) {n : Nat} {met : List UInt8 → Option Int} {todo : List (A2 Int)} (hI : InvR p n met todo) (hn : n ≤ 800000000000) :
  ∃ n' met', eb q.1 q.2 p (n, met) todo = some ((n', met'), xE p q todo) ∧ InvR p n' met' (xE p q todo) ∧ n' ≤ n + 30 := by
 have hp := hL.hp
 obtain ⟨n', met', e1, e2, e3⟩ := Fl hL q.1 q.2 (p.length + 1) 0 n met todo (by omega) (by omega) hI (by omega)
 refine ⟨n', met', ?_, ?_, by omega⟩
 ·unfold eb
  rw [cB, show (0 : Int) = ((0 : Nat) : Int) from rfl, e1]
  simp only [obs, List.drop_zero]
  rfl
 ·simpa [xE] using e2
def tp (c : ae) (m : aI) (s : aQ) : Option (List UInt8 × List UInt8) := match kZ c m s.fY with
 | some r => if r.2 = true ∧ s.ab = 4 ∧ r.1.ab = 2 then some (r.1.aq, s.ax) else none
 | none => none
def sW (c : ae) (m : aI) : List (List UInt8 × List UInt8) := (dI 0 m.bM).filterMap fun y => tp c m y.2
def np (p : List ae) (l : List (List UInt8 × List UInt8)) (todo : List (A2 Int)) : List (A2 Int) := l.foldl (fun t q => xE p q t) todo
theorem zH (p : List ae) (a b : List (List UInt8 × List UInt8)) (t : List (A2 Int)) : np p (a ++ b) t = np p b (np p a t) := by unfold np; rw [List.foldl_append]
theorem sB (c : ae) (m : aI) : ∀ (n : Nat) (l : List aQ) (d e : Int), dd l ≤ n → (dI d l).filterMap (fun y => tp c m y.2) = (dI e l).filterMap (fun y => tp c m y.2)
 | _, [], d, e, _ => by simp [dI]
 | 0, x :: l, d, e, h => by have := FG x; simp only [dd] at h; omega
 | n + 1, x :: l, d, e, h => by
  simp only [dd] at h
  have h1 := FG x
  simp only [dI, sU d x, sU e x, List.cons_append, List.filterMap_cons, List.filterMap_append]
  rw [sB c m n x.bM (d + 1) (e + 1) (by omega), sB c m n x.dp (d + 1) (e + 1) (by omega), sB c m n l d e (by omega)]
def qZ (c : ae) (m : aI) (l : List aQ) : List (List UInt8 × List UInt8) := (dI 0 l).filterMap fun y => tp c m y.2
theorem KE (c : ae) (m : aI) (x : aQ) (l : List aQ) : qZ c m (x :: l) = (match tp c m x with | some q => [q] | none => []) ++ (qZ c m x.bM ++ (qZ c m x.dp ++ qZ c m l)) := by
 unfold qZ
 simp only [dI, sU 0 x, List.cons_append, List.filterMap_cons, List.filterMap_append]
 rw [sB c m _ x.bM (0 + 1) 0 (Nat.le_refl _), sB c m _ x.dp (0 + 1) 0 (Nat.le_refl _)]
 cases tp c m x <;> simp
theorem JI {p : List ae} (hL : Light p) {c : ae} {m : aI} (hc : J3 c) (h1 : m.ap.length ≤ 40) (h2 : m.cy.length ≤ 40) : ∀ (f : Nat) (l : List aQ) (n : Nat) (met : List UInt8 → Option Int) (todo : List (A2 Int)), dd l < f → dd l ≤ 1048576 → InvR p n met todo → n + 30 * dd l ≤ 700000000000 →
  ∃ n' met', dJ f c m l p (n, met) todo = some ((n', met'), np p (qZ c m l) todo) ∧ InvR p n' met' (np p (qZ c m l) todo) ∧ n' ≤ n + 30 * dd l
 | 0, l, n, met, todo, h, _, _, _ => by omega
 | f + 1, l, n, met, todo, h, hM, hI, hn => by
  have hlm := OH l
  have loop : ∀ (t : List aQ) (pre : List aQ) (n : Nat) (met : List UInt8 → Option Int) (todo : List (A2 Int)) (g : Nat), l = pre ++ t → t.length < g → InvR p n met todo → n + 30 * dd t ≤ 700000000000 →
    ∃ n' met', fG c m l p (dJ f) g n met todo (pre.length : Int) = some (n', met', np p (qZ c m t) todo) ∧ InvR p n' met' (np p (qZ c m t) todo) ∧ n' ≤ n + 30 * dd t := by
   intro t
   induction t with
   | nil =>
    intro pre n met todo g hl hg hI hn
    cases g with
    | zero => simp at hg
    | succ g =>
     simp only [List.append_nil] at hl
     subst hl
     exact ⟨n, met, by simp [fG, qZ, dI, np], by simpa [qZ, dI, np] using hI, by omega⟩
   | cons x t ih =>
    intro pre n met todo g hl hg hI hn
    cases g with
    | zero => simp at hg
    | succ g =>
     have hx : idx l (pre.length : Int) = some x := by rw [hl, cq (by simp)]; simp
     have hlt : (pre.length : Int) < (l.length : Int) := by rw [hl, List.length_append, List.length_cons]; omega
     have hmx := FG x
     simp only [qn] at hn ⊢
     have hml : dE x ≤ dd l := by
      rw [hl]
      clear ih hx hlt hg hlm hM h hl hn
      induction pre with
      | nil => simp only [List.nil_append, qn]; omega
      | cons y pre ihp => simp only [List.cons_append, qn]; omega
     have hw2 : ak ((pre.length : Int) + 1) = ((pre ++ [x]).length : Int) := by
      have : pre.length < l.length := by rw [hl]; simp
      rw [w64 (by omega) (by omega)]; simp
     obtain ⟨r, r1, r2⟩ := tc (c := c) (m := m) (by have := hc.1; omega) (by omega) (by omega) x.fY
     have e0 : ∃ n1 met1, ((nP c m x.fY).bind fun y0 =>
       (if y0.2 = true then if (x.ab == 4) then some (y0.1.ab == 2) else some false else some false : Option (Bool)).bind fun x0 =>
       if x0 = true then (eb y0.1.aq x.ax p (n, met) todo).bind fun y1 => some (y1.1.1, y1.1.2, y1.2) else some (n, met, todo) : Option (Nat × (List UInt8 → Option Int) × (List (A2 Int)))) = some (n1, met1, np p (match tp c m x with | some q => [q] | none => []) todo) ∧ InvR p n1 met1 (np p (match tp c m x with | some q => [q] | none => []) todo) ∧ n1 ≤ n + 30 := by
      rw [r1, obs]
      have hb : (if r.2 = true then if (x.ab == 4) then some (r.1.ab == 2) else some false else some false : Option (Bool)) = some (decide (r.2 = true ∧ x.ab = 4 ∧ r.1.ab = 2)) := by
       by_cases a1 : r.2 = true
       ·by_cases a2 : x.ab = 4
        ·by_cases a3 : r.1.ab = 2 <;> simp [a1, a2, a3]
        ·simp [a1, a2]
       ·simp [a1]
      rw [hb, obs]
      unfold tp
      rw [r2]
      by_cases hq : r.2 = true ∧ x.ab = 4 ∧ r.1.ab = 2
      ·rw [if_pos (by simpa using hq)]
       simp only [if_pos hq]
       obtain ⟨n1, met1, q1, q2, q3⟩ := OQ hL (r.1.aq, x.ax) hI (by omega)
       refine ⟨n1, met1, ?_, ?_, by omega⟩
       ·simp only at q1
        rw [q1, obs]; rfl
       ·exact q2
      ·rw [if_neg (by simpa using hq)]
       simp only [if_neg hq]
       exact ⟨n, met, rfl, hI, by omega⟩
     obtain ⟨n1, met1, a1, a2, a3⟩ := e0
     obtain ⟨n2, met2, b1, b2, b3⟩ := JI hL hc h1 h2 f x.bM n1 met1 _ (by omega) (by omega) a2 (by omega)
     obtain ⟨n3, met3, c1, c2, c3⟩ := JI hL hc h1 h2 f x.dp n2 met2 _ (by omega) (by omega) b2 (by omega)
     obtain ⟨n4, met4, d1, d2, d3⟩ := ih (pre ++ [x]) n3 met3 _ g (by simp [hl]) (by simp at hg; omega) c2 (by omega)
     rw [KE, zH, zH, zH]
     refine ⟨n4, met4, ?_, d2, by omega⟩
     rw [fG, if_pos (by simpa using hlt), hx]
     simp only [obs]
     rw [a1]
     simp only [obs]
     rw [b1]
     simp only [obs]
     rw [c1]
     simp only [obs]
     rw [hw2, d1]
  obtain ⟨n', met', e1, e2, e3⟩ := loop l [] n met todo ((((l.length : Int) : Int) - (0)).toNat + 1) (by simp) (by omega) hI hn
  refine ⟨n', met', ?_, e2, e3⟩
  rw [dJ, show (0 : Int) = (([] : List aQ).length : Int) from rfl, show ((((l.length : Int) : Int) - ((([] : List aQ).length : Nat) : Int)).toNat + 1) = ((((l.length : Int) : Int) - (0)).toNat + 1) from rfl, e1, obs]
inductive Rch (p : List ae) (q0 : List UInt8 × List UInt8) : A2 Int → Prop
 | start {c : ae} {a : A2 Int} : c ∈ p → tgt p q0.1 q0.2 c = some a → Rch p q0 a
 | step {a : A2 Int} {i k : Nat} {c0 : ae} {m0 : aI} {q : List UInt8 × List UInt8} {c : ae} {b : A2 Int} : Rch p q0 a → Spot p a i k c0 m0 → q ∈ sW c0 m0 → c ∈ p → tgt p q.1 q.2 c = some b → Rch p q0 b
theorem NT {p : List ae} {C N : List UInt8} {c : ae} {a : A2 Int} (h : tgt p C N c = some a) : Kx p a := by
 obtain ⟨x, i, k, c', _, _, _, h1, _⟩ := DM h
 exact ⟨i, k, c', x.2, h1⟩
theorem Rch.val {p : List ae} {q0 : List UInt8 × List UInt8} {a : A2 Int} (h : Rch p q0 a) : Kx p a := by
 cases h with
 | start _ h => exact NT h
 | step _ _ _ _ h => exact NT h
theorem Spot.fn {p : List ae} {a : A2 Int} {i k i' k' : Nat} {c c' : ae} {m m' : aI} (h : Spot p a i k c m) (h' : Spot p a i' k' c' m') : i' = i ∧ k' = k ∧ c' = c ∧ m' = m := by
 have e := h.e.symm.trans h'.e
 simp only [A2.mk.injEq] at e
 have e1 : i' = i := by omega
 have e2 : k' = k := by omega
 subst e1 e2
 have q1 := h'.hc; rw [h.hc] at q1; cases q1
 have q2 := h'.hm; rw [h.hm] at q2; cases q2
 exact ⟨rfl, rfl, rfl, rfl⟩
theorem PJ {l : List (A2 Int)} {o : Option (A2 Int)} {x : A2 Int} : x ∈ sC l o ↔ x ∈ l ∨ o = some x := by
 cases o with
 | none => simp [sC]
 | some a =>
  simp only [sC, Option.some.injEq]
  split
  ·rename_i h
   constructor
   ·exact .inl
   ·rintro (h2 | rfl)
    ·exact h2
    ·exact h
  ·rw [List.mem_append, List.mem_singleton]
   constructor
   ·rintro (h | rfl)
    ·exact .inl h
    ·exact .inr rfl
   ·rintro (h | rfl)
    ·exact .inl h
    ·exact .inr rfl
theorem zB {p : List ae} {C N : List UInt8} {x : A2 Int} : ∀ (cs : List ae) (l : List (A2 Int)), x ∈ cs.foldl (fun l c => sC l (tgt p C N c)) l ↔ x ∈ l ∨ ∃ c ∈ cs, tgt p C N c = some x
 | [], l => by simp
 | c :: cs, l => by
  rw [List.foldl_cons, zB cs, PJ]
  simp only [List.mem_cons, exists_eq_or_imp, or_assoc]
theorem IQ {p : List ae} {x : A2 Int} : ∀ (qs : List (List UInt8 × List UInt8)) (l : List (A2 Int)), x ∈ np p qs l ↔ x ∈ l ∨ ∃ q ∈ qs, ∃ c ∈ p, tgt p q.1 q.2 c = some x
 | [], l => by simp [np]
 | q :: qs, l => by
  have := IQ (p := p) (x := x) qs (xE p q l)
  unfold np at this ⊢
  rw [List.foldl_cons, this]
  unfold xE
  rw [zB]
  simp only [List.mem_cons, exists_eq_or_imp, or_assoc]
theorem PH (l : List (A2 Int)) (o : Option (A2 Int)) : ∃ r, sC l o = l ++ r := by
 cases o with
 | none => exact ⟨[], by simp [sC]⟩
 | some a =>
  simp only [sC]
  split
  ·exact ⟨[], by simp⟩
  ·exact ⟨[a], rfl⟩
theorem Iq {p : List ae} {C N : List UInt8} : ∀ (cs : List ae) (l : List (A2 Int)), ∃ r, cs.foldl (fun l c => sC l (tgt p C N c)) l = l ++ r
 | [], l => ⟨[], by simp⟩
 | c :: cs, l => by
  obtain ⟨r1, h1⟩ := PH l (tgt p C N c)
  obtain ⟨r2, h2⟩ := Iq (p := p) (C := C) (N := N) cs (sC l (tgt p C N c))
  exact ⟨r1 ++ r2, by rw [List.foldl_cons, h2, h1, List.append_assoc]⟩
theorem Io {p : List ae} : ∀ (qs : List (List UInt8 × List UInt8)) (l : List (A2 Int)), ∃ r, np p qs l = l ++ r
 | [], l => ⟨[], by simp [np]⟩
 | q :: qs, l => by
  obtain ⟨r1, h1⟩ := Iq (p := p) (C := q.1) (N := q.2) p l
  obtain ⟨r2, h2⟩ := Io (p := p) qs (xE p q l)
  unfold np at h2 ⊢
  exact ⟨r1 ++ r2, by rw [List.foldl_cons, h2]; unfold xE; rw [h1, List.append_assoc]⟩
def MP (i : Nat) : Nat → List aI → List (A2 Int)
 | _, [] => []
 | k, _ :: ms => ⟨(i : Int), (k : Int)⟩ :: MP i (k + 1) ms
def yG : Nat → List ae → List (A2 Int)
 | _, [] => []
 | i, c :: cs => MP i 0 c.ah ++ yG (i + 1) cs
theorem CE (i : Nat) : ∀ (k : Nat) (l : List aI), (MP i k l).length = l.length
 | _, [] => rfl
 | k, _ :: l => by simp [MP, CE i (k + 1) l]
theorem KG : ∀ (i : Nat) (l : List ae), (yG i l).length = (l.map fun c => c.ah.length).foldr (· + ·) 0
 | _, [] => rfl
 | i, c :: l => by simp [yG, CE, KG (i + 1) l]
theorem Kz {i : Nat} {a : A2 Int} : ∀ {l : List aI} {k : Nat}, a ∈ MP i k l ↔ ∃ (j : Nat) (m : aI), l[j]? = some m ∧ a = ⟨(i : Int), ((k + j : Nat) : Int)⟩
 | [], k => by simp [MP]
 | x :: l, k => by
  simp only [MP, List.mem_cons]
  rw [Kz (l := l) (k := k + 1)]
  constructor
  ·rintro (rfl | ⟨j, m, h1, h2⟩)
   ·exact ⟨0, x, rfl, rfl⟩
   ·exact ⟨j + 1, m, by simpa using h1, by rw [h2]; simp only [A2.mk.injEq, true_and]; omega⟩
  ·rintro ⟨j, m, h1, h2⟩
   cases j with
   | zero => exact .inl h2
   | succ j => exact .inr ⟨j, m, by simpa using h1, by rw [h2]; simp only [A2.mk.injEq, true_and]; omega⟩
theorem LK {a : A2 Int} : ∀ {l : List ae} {i : Nat}, a ∈ yG i l ↔ ∃ (j : Nat) (c : ae) (k : Nat) (m : aI), l[j]? = some c ∧ c.ah[k]? = some m ∧ a = ⟨((i + j : Nat) : Int), (k : Int)⟩
 | [], i => by simp [yG]
 | x :: l, i => by
  simp only [yG, List.mem_append]
  rw [LK (l := l) (i := i + 1), Kz]
  constructor
  ·rintro (⟨k, m, h1, h2⟩ | ⟨j, c, k, m, h1, h2, h3⟩)
   ·exact ⟨0, x, k, m, rfl, h1, by rw [h2]; simp⟩
   ·exact ⟨j + 1, c, k, m, by simpa using h1, h2, by rw [h3]; simp only [A2.mk.injEq, and_true]; omega⟩
  ·rintro ⟨j, c, k, m, h1, h2, h3⟩
   cases j with
   | zero =>
    simp only [List.getElem?_cons_zero, Option.some.injEq] at h1
    subst h1
    exact .inl ⟨k, m, h2, by rw [h3]; simp⟩
   | succ j => exact .inr ⟨j, c, k, m, by simpa using h1, h2, by rw [h3]; simp only [A2.mk.injEq, and_true]; omega⟩
theorem NR {p : List ae} {a : A2 Int} : a ∈ yG 0 p ↔ Kx p a := by
 rw [LK]
 constructor
 ·rintro ⟨j, c, k, m, h1, h2, h3⟩
  exact ⟨j, k, c, m, by rw [h3]; simp, h1, h2⟩
 ·rintro ⟨i, k, c, m, h1, h2, h3⟩
  exact ⟨i, c, k, m, h2, h3, by rw [h1]; simp⟩
theorem Light.all {p : List ae} (h : Light p) : (yG 0 p).length ≤ 1200 := by
 have : ∀ (l : List ae) (i : Nat), (∀ c ∈ l, c.ah.length ≤ 40) → (yG i l).length ≤ 40 * l.length := by
  intro l
  induction l with
  | nil => intro i _; simp [yG]
  | cons c l ih =>
   intro i hc
   have h1 := ih (i + 1) (fun x hx => hc x (by simp [hx]))
   have h2 := hc c (by simp)
   simp only [yG, List.length_append, CE, List.length_cons]; omega
 have h1 := this p 0 (fun c hc => (h.hl c hc).2.2.2.1)
 have := h.hp
 omega
theorem NF {p : List ae} (hu : cW de p ≤ 1048576) {a : A2 Int} {i k : Nat} {c : ae} {m : aI} (h : Spot p a i k c m) : dd m.bM ≤ 1048576 := by
 have uc := dl (u := de) (List.mem_of_getElem? h.hc)
 have ucp := BW c
 have um := dl (u := dC) (List.mem_of_getElem? h.hm)
 have ump := Br m
 have h2 := lU m.bM
 have h3 := rn (l := m.bM) (u := dE) (v := dc) (fun y _ => OT y)
 omega
def Uz (p : List ae) (q : List UInt8 × List UInt8) (l : List (A2 Int)) : Prop := ∀ c ∈ p, ∀ b, tgt p q.1 q.2 c = some b → b ∈ l
theorem PQ {p : List ae} (hL : Light p) (hu : cW de p ≤ 1048576) (q0 : List UInt8 × List UInt8) : ∀ (f k n : Nat) (met : List UInt8 → Option Int) (todo : List (A2 Int)), f + k = (yG 0 p).length + 1 → k ≤ todo.length → InvR p n met todo → (∀ a ∈ todo, Rch p q0 a) → Uz p q0 todo →
  (∀ j, j < k → ∀ a, todo[j]? = some a → ∀ i' k' c0 m0, Spot p a i' k' c0 m0 → ∀ q ∈ sW c0 m0, Uz p q todo) → n ≤ 30 + k * 31457280 →
  ∃ n' met' todo', lg p q0.1 f n met todo (k : Int) = some (n', met', todo') ∧ InvR p n' met' todo' ∧ ∀ a, a ∈ todo' ↔ Rch p q0 a
 | f, k, n, met, todo, h, hk, hI, hR, hS, hC, hn => by
  have hall := hL.all
  have htl : todo.length ≤ (yG 0 p).length := hI.nd.length_le_of_subset (fun a ha => NR.2 (hI.val a ha))
  match f, h with
  | 0, h => omega
  | f + 1, h =>
  rw [lg]
  by_cases hlt : k < todo.length
  ·obtain ⟨i, j, c, m, hsp⟩ := hI.val _ (List.getElem_mem hlt)
   have hcm := List.mem_of_getElem? hsp.hc
   have hmm := List.mem_of_getElem? hsp.hm
   have hlc := hL.hl c hcm
   have hlm := hlc.2.2.2.2 m hmm
   have hbs := NF hu hsp
   obtain ⟨n1, met1, e1, e2, e3⟩ := JI hL hlc hlm.1 hlm.2.1 (dd m.bM + 1) m.bM n met todo (by omega) hbs hI (by omega)
   have ecalls : qZ c m m.bM = sW c m := rfl
   rw [ecalls] at e1 e2
   obtain ⟨r, hr⟩ := Io (p := p) (sW c m) todo
   have hmem : ∀ x, x ∈ np p (sW c m) todo ↔ x ∈ todo ∨ ∃ q ∈ sW c m, ∃ c ∈ p, tgt p q.1 q.2 c = some x := fun x => IQ _ _
   have hsub : ∀ x ∈ todo, x ∈ np p (sW c m) todo := fun x hx => (hmem x).2 (.inl hx)
   have hx0 : idx p (todo[k]).a0 = some c := by rw [hsp.e]; simp only [gA]; exact hsp.hc
   have hx1 : idx c.ah (todo[k]).a1 = some m := by rw [hsp.e]; simp only [gA]; exact hsp.hm
   obtain ⟨n', met', todo', g1, g2, g3⟩ := PQ hL hu q0 f (k + 1) n1 met1 (np p (sW c m) todo) (by omega) (by rw [hr]; simp; omega) e2 (fun a ha => by
    rcases (hmem a).1 ha with ha | ⟨q, hq, c', hc', ht⟩
    ·exact hR a ha
    ·exact .step (hR _ (List.getElem_mem hlt)) hsp hq hc' ht) (fun c' hc' b hb => hsub b (hS c' hc' b hb)) (fun j' hj' a ha i' k' c0 m0 hs0 q hq => by
    by_cases hjk : j' < k
    ·have ha' : todo[j']? = some a := by
      rw [hr, List.getElem?_append_left (by omega)] at ha
      exact ha
     intro c' hc' b hb
     exact hsub b (hC j' hjk a ha' i' k' c0 m0 hs0 q hq c' hc' b hb)
    ·have : j' = k := by omega
     subst this
     have ha' : todo[j'] = a := by
      rw [hr, List.getElem?_append_left hlt, List.getElem?_eq_getElem hlt] at ha
      exact Option.some.inj ha
     rw [ha'] at hsp
     obtain ⟨_, _, rfl, rfl⟩ := hsp.fn hs0
     intro c' hc' b hb
     exact (hmem b).2 (.inr ⟨q, hq, c', hc', hb⟩)) (by omega)
   refine ⟨n', met', todo', ?_, g2, g3⟩
   rw [if_pos (by simpa using hlt), cq hlt]
   simp only [obs]
   rw [hx0]
   simp only [obs]
   rw [hx1]
   simp only [obs]
   rw [e1]
   simp only [obs]
   rw [bW hlt (by omega)]
   exact g1
  ·refine ⟨n, met, todo, by rw [if_neg (by simpa using hlt)], hI, fun a => ⟨hR a, fun ha => ?_⟩⟩
   induction ha with
   | start hc ht => exact hS _ hc _ ht
   | step h1 h2 h3 h4 h5 ih =>
    obtain ⟨j, hj, e⟩ := List.getElem_of_mem ih
    exact hC j (by omega) _ (by rw [List.getElem?_eq_getElem hj, e]) _ _ _ _ h2 _ h3 _ h4 _ h5
theorem Jh {p : List ae} (hL : Light p) (hu : cW de p ≤ 1048576) (C N : List UInt8) : ∃ todo, xr p C N = some todo ∧ todo.Nodup ∧ todo.length ≤ 1200 ∧ ∀ a, a ∈ todo ↔ Rch p (C, N) a := by
 have h0 : InvR p 0 (fun _ => none) [] := ⟨by simp, by simp, fun a _ => by simp, by simp⟩
 obtain ⟨n1, met1, e1, e2, e3⟩ := OQ hL (C, N) h0 (by omega)
 have hm : ∀ x, x ∈ xE p (C, N) [] ↔ ∃ c ∈ p, tgt p C N c = some x := fun x => by unfold xE; rw [zB]; simp
 obtain ⟨n', met', todo', g1, g2, g3⟩ := PQ hL hu (C, N) ((yG 0 p).length + 1) 0 n1 met1 _ (by omega) (by omega) e2 (fun a ha => by
  obtain ⟨c, hc, ht⟩ := (hm a).1 ha
  exact .start hc ht) (fun c hc b hb => (hm b).2 ⟨c, hc, hb⟩) (fun j hj => by omega) (by omega)
 have hall := hL.all
 refine ⟨todo', ?_, g2.nd, ?_, g3⟩
 ·unfold xr
  simp only at e1
  rw [e1]
  simp only [obs]
  rw [← KG 0 p, show (0 : Int) = ((0 : Nat) : Int) from rfl]
  simp only at g1
  rw [g1]
  rfl
 ·have := g2.nd.length_le_of_subset (fun a ha => NR.2 (g2.val a ha))
  omega
def ltA (x y : A2 Int) : Prop := x.a0 < y.a0 ∨ (x.a0 = y.a0 ∧ x.a1 < y.a1)
theorem NB {l : List (A2 Int)} (hl : l.length ≤ 1000000) (hn : l.Nodup) : ∃ r, sV l = some r ∧ (∀ a, a ∈ r ↔ a ∈ l) ∧ r.Pairwise ltA := by
 refine ⟨l.mergeSort fun x y => !(ltOf cfP) y x, by unfold sV; rw [if_pos (by omega)], fun a => (List.mergeSort_perm _ _).mem_iff, ?_⟩
 have h1 := List.pairwise_mergeSort (le := fun x y : A2 Int => !(ltOf cfP) y x) (fun a b c h1 h2 => by
  simp only [ltP, Bool.not_eq_true', decide_eq_false_iff_not] at *; omega) (fun a b => by
  simp only [ltP, Bool.or_eq_true, Bool.not_eq_true', decide_eq_false_iff_not]; omega) l
 have h2 := ((List.mergeSort_perm l fun x y => !(ltOf cfP) y x).nodup_iff).2 hn
 refine (h1.and h2).imp ?_
 intro a b ⟨h3, h4⟩
 simp only [ltP, Bool.not_eq_true', decide_eq_false_iff_not] at h3
 unfold ltA
 by_cases e0 : a.a0 = b.a0
 ·by_cases e1 : a.a1 = b.a1
  ·exact absurd (by cases a; cases b; simp only at e0 e1; subst e0 e1; rfl) h4
  ·omega
 ·omega
theorem JL {p : List ae} (hL : Light p) (hu : cW de p ≤ 1048576) (C N : List UInt8) : ∃ r, od p C N = some r ∧ r.Pairwise ltA ∧ r.length ≤ 1200 ∧ ∀ a, a ∈ r ↔ Rch p (C, N) a := by
 obtain ⟨todo, h1, h2, h3, h4⟩ := Jh hL hu C N
 obtain ⟨r, g1, g2, g3⟩ := NB (by omega) h2
 refine ⟨r, by rw [L9, h1, obs, g1], g3, ?_, fun a => (g2 a).trans (h4 a)⟩
 rw [GY g1]; exact h3
def ari (p : List ae) (name : List UInt8) : Int := match fi p name with | some i => (match p[i]? with | some c => (c.ap.length : Int) | none => 0) | none => -1
theorem DI {p : List ae} (hp : p.length < 9223372036854775806) (name : List UInt8) : ja p name = some (ari p name) := by
 unfold ja ari
 rw [jb hp, obs]
 cases hf : fi p name with
 | none => rw [su hf, if_pos (by simp)]
 | some i =>
  rw [oJ hf, if_neg (by simp), cq (Ll hf), obs]
  simp only [List.getElem?_eq_getElem (Ll hf)]
def cyc (p : List ae) (c : ae) : Bool := decide ((upN p (p.length + 1) c.ax).length = p.length + 1)
def chk (p : List ae) : ce := match p.find? (cyc p) with | some c => { dA := 9, fAt := c.fAt } | none => { dA := 0, fAt := 0 }
theorem Qu (p : List ae) : ∀ (n : Nat) (name : List UInt8), (upN p n name).length ≤ n
 | 0, name => by simp [upN]
 | n + 1, name => by
  simp only [upN]
  cases fi p name with
  | none => simp
  | some i =>
   simp only
   split
   ·simp
   ·have := Qu p n (sup p i); simp; omega
theorem vC {p : List ae} (hp : p.length ≤ 1000000) : ∀ (n k : Nat), n + k = p.length + 1 → k ≤ p.length →
  lV p n (k : Int) = some (match (p.drop k).find? (cyc p) with | some c => .stop { dA := 9, fAt := c.fAt } | none => .next ())
 | 0, k, h, hk => by omega
 | n + 1, k, h, hk => by
  simp only [lV]
  by_cases hlt : k < p.length
  ·rw [if_pos (by simpa using hlt), cq hlt, List.drop_eq_getElem_cons hlt]
   simp only [obs, mQ hp]
   obtain ⟨i0, hi0⟩ := Rz (List.getElem_mem hlt)
   have hne := UL hi0
   have hlen := yv p p[k].ax
   obtain ⟨_, _, _, _, _, _, k7, k8⟩ := pj p p[k].ax
   obtain ⟨x, hx⟩ : ∃ x, (ch p p[k].ax).getLast? = some x := by
    cases hl : (ch p p[k].ax).getLast? with
    | none => exact absurd (List.getLast?_eq_none_iff.1 hl) hne
    | some x => exact ⟨x, rfl⟩
   have hpos : 0 < (ch p p[k].ax).length := List.length_pos_iff.2 hne
   have hxm := List.mem_of_getLast? hx
   have hlast : idx ((ch p p[k].ax).map Int.ofNat) (ak ((((ch p p[k].ax).map Int.ofNat).length : Int) - 1)) = some (x : Int) := by
    rw [List.length_map, w64 (by omega) (by omega), show ((ch p p[k].ax).length : Int) - 1 = (((ch p p[k].ax).length - 1 : Nat) : Int) by omega, gA, List.getElem?_map]
    rw [List.getLast?_eq_getElem?] at hx
    rw [hx]; rfl
   rw [hlast]
   have hxl := (k7 x hxm).1
   have hidx : idx p (x : Int) = some p[x] := cq hxl
   have hsx : sup p x = p[x].di := by unfold sup; rw [List.getElem?_eq_getElem hxl]
   simp only [obs, hidx, List.find?_cons]
   have hb : cyc p p[k] = (!(p[x].di == []) && decide (fnd p p[x].di ∈ (ch p p[k].ax).map Int.ofNat)) := by
    unfold cyc
    rw [← k8]
    unfold JU
    rw [hx]
    simp only [hsx]
    congr 1
    cases hf : fi p p[x].di with
    | none =>
     rw [su hf]
     symm
     simp only [decide_eq_false_iff_not]
     intro h
     obtain ⟨j, _, hj⟩ := List.mem_map.1 h
     have : (0 : Int) ≤ Int.ofNat j := Int.natCast_nonneg j
     omega
    | some j =>
     rw [oJ hf]
     simp only [uj]
   rw [hb]
   have hcl : ((ch p p[k].ax).map Int.ofNat).length < 9223372036854775806 := by simp; omega
   by_cases hs : (!(p[x].di == [])) = true
   ·rw [if_pos hs, hs, jb (by omega)]
    simp only [obs, Ny hcl, Bool.true_and]
    by_cases hm : fnd p p[x].di ∈ (ch p p[k].ax).map Int.ofNat
    ·rw [if_pos (by simpa using hm), decide_eq_true hm]
    ·rw [if_neg (by simpa using hm), decide_eq_false hm, bW hlt (by omega)]
     exact vC hp n (k + 1) (by omega) (by omega)
   ·rw [if_neg hs]
    have hs2 : (!(p[x].di == [])) = false := by simpa using hs
    simp only [obs]
    rw [hs2, Bool.false_and, bW hlt (by omega), if_neg (by simp)]
    exact vC hp n (k + 1) (by omega) (by omega)
  ·rw [if_neg (by simpa using hlt), List.drop_eq_nil_of_le (by omega)]
   rfl
theorem Jx {p : List ae} (hp : p.length ≤ 1000000) : qx p = some (chk p) := by
 unfold qx
 have h := vC hp (p.length + 1) 0 (by omega) (by omega)
 rw [show (((p.length : Int) : Int) - (0)).toNat + 1 = p.length + 1 by omega, show (0 : Int) = ((0 : Nat) : Int) from rfl, h]
 simp only [obs, List.drop_zero]
 unfold chk
 cases p.find? (cyc p) <;> rfl
theorem JX {p : List ae} {a b : List UInt8} (h : fi p a = fi p b) : ∀ n, upN p n a = upN p n b
 | 0 => rfl
 | n + 1 => by simp only [upN, h]
theorem ua {p : List ae} : ∀ (n : Nat) (name : List UInt8), (upN p n name).length < n → upN p (n + 1) name = upN p n name
 | 0, name, h => by simp at h
 | n + 1, name, h => by
  simp only [upN] at h
  cases hf : fi p name with
  | none => simp only [upN, hf]
  | some i =>
   rw [hf] at h
   simp only at h
   by_cases hs : (sup p i == []) = true
   ·simp only [upN, hf, hs, if_true]
   ·rw [if_neg hs] at h
    simp only [List.length_cons] at h
    have ih := ua (p := p) n (sup p i) (by omega)
    rw [show upN p (n + 1 + 1) name = (if (sup p i == []) = true then [i] else i :: upN p (n + 1) (sup p i)) by simp only [upN, hf], show upN p (n + 1) name = (if (sup p i == []) = true then [i] else i :: upN p n (sup p i)) by simp only [upN, hf], ih]
theorem IB {p : List ae} : ∀ (n : Nat) (name nm : List UInt8) (k : Nat), (upN p n name).length < n → k ∈ upN p n name → fi p nm = some k → fi p name ≠ some k → (upN p n nm).length < (upN p n name).length
 | 0, name, nm, k, h, _, _, _ => by simp at h
 | n + 1, name, nm, k, h, hk, hnm, hne => by
  simp only [upN] at h hk
  cases hf : fi p name with
  | none => rw [hf] at hk; simp at hk
  | some i =>
   have hik : i ≠ k := fun e => hne (by rw [hf, e])
   rw [hf] at h hk
   simp only at h hk
   by_cases hs : (sup p i == []) = true
   ·rw [if_pos hs] at hk
    simp at hk; exact absurd hk.symm hik
   ·rw [if_neg hs] at h hk
    simp only [List.length_cons] at h
    have hlt : (upN p n (sup p i)).length < n := by omega
    have hk2 : k ∈ upN p n (sup p i) := (List.mem_cons.1 hk).resolve_left (fun e => hik e.symm)
    have e1 : upN p (n + 1) name = i :: upN p n (sup p i) := by simp only [upN, hf, if_neg hs]
    rw [e1]
    simp only [List.length_cons]
    by_cases he : fi p (sup p i) = some k
    ·have : upN p n nm = upN p n (sup p i) := JX (by rw [hnm, he]) n
     have hm := ua (p := p) n nm (by rw [this]; exact hlt)
     rw [hm, this]; omega
    ·have ih := IB (p := p) n (sup p i) nm k hlt hk2 hnm he
     have hm := ua (p := p) n nm (by omega)
     rw [hm]; omega
theorem O4 {p : List ae} : ∀ (n : Nat) (name nm : List UInt8) (k : Nat), (upN p n name).length < n → k ∈ upN p n name → fi p nm = some k → ∃ pre, upN p n name = pre ++ upN p n nm ∧ k ∉ pre
 | 0, name, nm, k, h, _, _ => by simp at h
 | n + 1, name, nm, k, h, hk, hnm => by
  cases hf : fi p name with
  | none => simp only [upN, hf] at hk; simp at hk
  | some i =>
   by_cases hik : i = k
   ·subst hik
    exact ⟨[], by rw [JX (show fi p name = fi p nm by rw [hf, hnm])]; rfl, by simp⟩
   ·by_cases hs : (sup p i == []) = true
    ·simp only [upN, hf, hs, if_true] at hk
     simp at hk; exact absurd hk.symm hik
    ·have e1 : upN p (n + 1) name = i :: upN p n (sup p i) := by simp only [upN, hf, if_neg hs]
     rw [e1] at h hk
     simp only [List.length_cons] at h
     obtain ⟨pre, h1, h2⟩ := O4 n (sup p i) nm k (by omega) ((List.mem_cons.1 hk).resolve_left (fun e => hik e.symm)) hnm
     have hl : (upN p n nm).length < n := by
      have := congrArg List.length h1
      rw [List.length_append] at this; omega
     refine ⟨i :: pre, by rw [e1, ua n nm hl, h1]; rfl, ?_⟩
     simp only [List.mem_cons, not_or]
     exact ⟨fun e => hik e.symm, h2⟩
theorem Jg {p : List ae} (h : (chk p).dA = 0) {a : List UInt8} {i : Nat} (ha : fi p a = some i) : (upN p (p.length + 1) a).length < p.length + 1 := by
 obtain ⟨c, hc, hcn⟩ := sI ha
 have hle := Qu p (p.length + 1) a
 rcases Nat.lt_or_ge (upN p (p.length + 1) a).length (p.length + 1) with h1 | h1
 ·exact h1
 ·exfalso
  unfold chk at h
  cases hf : p.find? (cyc p) with
  | some d => rw [hf] at h; simp at h
  | none =>
   rw [List.find?_eq_none] at hf
   refine hf c (List.mem_of_getElem? hc) ?_
   unfold cyc
   rw [hcn]
   exact decide_eq_true (by omega)
theorem Eb {p : List ae} {n : Nat} {name : List UInt8} {i : Nat} (hf : fi p name = some i) : upN p (n + 1) name = if (sup p i == []) = true then [i] else i :: upN p n (sup p i) := by simp only [upN, hf]
theorem Il {p : List ae} : ∀ (n : Nat) (name : List UInt8), (upN p n name).length < n → (upN p n name).Nodup
 | 0, name, h => by simp at h
 | n + 1, name, h => by
  cases hf : fi p name with
  | none => simp only [upN, hf]; exact List.nodup_nil
  | some i =>
   have ht := Eb (n := n) hf
   rw [ht] at h ⊢
   by_cases hs : (sup p i == []) = true
   ·rw [if_pos hs]; simp
   ·rw [if_neg hs] at h ht ⊢
    simp only [List.length_cons] at h
    have hl : (upN p n (sup p i)).length < n := by omega
    refine List.nodup_cons.2 ⟨fun hm => ?_, Il n _ hl⟩
    have hlt : (upN p n name).length ≤ (upN p n (sup p i)).length := by
     by_cases he : fi p (sup p i) = some i
     ·rw [JX (show fi p name = fi p (sup p i) by rw [hf, he])]; omega
     ·have := IB n (sup p i) name i hl hm hf he; omega
    have := ua (p := p) n name (by omega)
    rw [ht] at this
    have := congrArg List.length this
    simp only [List.length_cons] at this
    omega
theorem Qq {p : List ae} : ∀ (n : Nat) (out : List Nat) (name : List UInt8), (upN p n name).length < n → (out ++ upN p n name).Nodup → chN p n out name = out ++ upN p n name
 | 0, out, name, h, _ => by simp at h
 | n + 1, out, name, h, hn => by
  cases hf : fi p name with
  | none => simp only [chN, upN, hf]; simp
  | some i =>
   have ht := Eb (n := n) hf
   rw [ht] at h hn ⊢
   by_cases hs : (sup p i == []) = true
   ·rw [if_pos hs] at hn ⊢
    have hi : i ∉ out := fun hm => by
     rw [List.nodup_append] at hn; exact hn.2.2 i hm i (by simp) rfl
    simp only [chN, hf]
    rw [if_neg hi, if_pos hs]
   ·rw [if_neg hs] at h hn ⊢
    simp only [List.length_cons] at h
    have hi : i ∉ out := fun hm => by
     rw [List.nodup_append] at hn; exact hn.2.2 i hm i (by simp) rfl
    simp only [chN, hf]
    rw [if_neg hi, if_neg hs, Qq n _ _ (by omega) (by simpa using hn)]
    simp
theorem Qe {p : List ae} {name : List UInt8} (h : (upN p (p.length + 1) name).length < p.length + 1) : ch p name = upN p (p.length + 1) name := by
 unfold ch
 rw [Qq _ [] name h (by simpa using Il _ _ h)]; rfl
theorem Ic {p : List ae} {i k t : Nat} {l : List Int} {ci c : ae} {v : dU} {z : Int} (hi : p[i]? = some ci) (hk : ci.cm[k]? = some v) (ht : idx l (t : Int) = some z) (hc : c.cm.length ≤ 40) : ∀ (n j : Nat), c.cm.length < n + j → j ≤ c.cm.length → Tot (mp p (i : Int) (k : Int) (t : Int) l c n (j : Int))
 | 0, j, h, hj => by omega
 | n + 1, j, h, hj => by
  have ei : idx p (i : Int) = some ci := by rw [gA, hi]
  have ek : idx ci.cm (k : Int) = some v := by rw [gA, hk]
  rw [mp, ht, ei]
  simp only [obs, ek]
  refine aH (aJ (fun _ => af _) fun _ => af _) fun b hb => aJ (fun hb2 => ?_) fun _ => af _
  subst hb2
  by_cases hlt : j < c.cm.length
  ·rw [cq hlt, obs, bW hlt (by omega)]
   exact aJ (fun _ => af _) fun _ => Ic hi hk ht hc n (j + 1) (by omega) (by omega)
  ·rw [if_neg (by simpa using hlt)] at hb
   cases hb
theorem Mr {p : List ae} (hp : p.length ≤ 1000) (hf : ∀ c ∈ p, c.cm.length ≤ 40) : Tot (qv p) := by
 unfold qv
 rw [cB]
 refine aH (dX (kI p) p.length (fun n i hlt ih => ?_) (fun n i hlt => ?_) _ 0 (by omega) (by omega)) fun r _ => fh (fun _ => af _) fun _ => af _
 ·have hi : p[i]? = some p[i] := List.getElem?_eq_getElem hlt
  have hcl := yv p p[i].ax
  simp only [kI]
  rw [if_pos (by simpa using hlt), cq hlt, bW hlt (by omega)]
  simp only [obs, Option.getD_some]
  rw [mQ (by omega), obs, cB]
  have hfi := hf _ (List.getElem_mem hlt)
  refine aH (dX (kf p (i : Int) ((ch p p[i].ax).map Int.ofNat)) p[i].cm.length (fun n k hk ih2 => ?_) (fun n k hk => ?_) _ 0 (by omega) (by omega)) fun r _ => fh (fun _ => af _) fun _ => ih
  ·simp only [kf]
   rw [gA, hi, obs, if_pos (by simpa using hk), cB, bW hk (by omega)]
   refine aH (dX (kC p (i : Int) (k : Int) ((ch p p[i].ax).map Int.ofNat)) ((ch p p[i].ax).map Int.ofNat).length (fun n t ht ih3 => ?_) (fun n t ht => ?_) _ 0 (by omega) (by omega)) fun r _ => fh (fun _ => af _) fun _ => ih2
   ·have hx := KN p p[i].ax _ (List.getElem_mem (show t < (ch p p[i].ax).length by simpa using ht))
    have e : idx ((ch p p[i].ax).map Int.ofNat) (t : Int) = some (((ch p p[i].ax)[t]'(by simpa using ht) : Nat) : Int) := by rw [cq ht, List.getElem_map]; rfl
    simp only [kC]
    rw [if_pos (by simpa using ht), e, obs, cq hx, obs, bW ht (by simp; omega)]
    exact aH (Ic hi (List.getElem?_eq_getElem hk) e (hf _ (List.getElem_mem hx)) 42 0 (by have := hf _ (List.getElem_mem hx); omega) (by omega)) fun r _ => fh (fun _ => af _) fun _ => ih3
   ·simp only [kC]
    rw [if_neg (by simpa using ht)]
    exact af _
  ·simp only [kf]
   rw [gA, hi, obs, if_neg (by simpa using hk)]
   exact af _
 ·simp only [kI]
  rw [if_neg (by simpa using hlt)]
  exact af _
theorem sa {n m b : Int} (h : n + m ≤ 10000000) (h0 : 0 ≤ n + m) (hb : 0 ≤ b) (hb2 : b ≤ 1000) : li (n + m) b = some () := by
 refine lc ?_
 refine Int.le_trans (Int.mul_le_mul_of_nonneg_right h hb) ?_
 refine Int.le_trans (Int.mul_le_mul_of_nonneg_left hb2 (by omega)) ?_
 omega
theorem DR : ∀ (n : Nat) (l : List aQ) (x : az), dd l < n → cW dc l ≤ 1048576 → TP (fun r => r.length ≤ cW dc l) (gv n l x)
 | 0, l, x, h, _ => by omega
 | n + 1, l, x, h, hu => by
  have hl := dt GW l
  rw [lU] at h
  simp only [gv, cB]
  refine eF (R := fun r => r.length ≤ cW dc l) ?_ fun r hr => dY hr
  refine qf (gI l x (gv n)) l.length (fun k s => s.length + cW dc (l.drop k) ≤ cW dc l) (fun m k s hlt hi ih => ?_) (fun m s hi => ?_) _ 0 _ (by omega) (by omega) (by simp)
  ·rw [gI, if_pos (by simpa using hlt), cq hlt, bW hlt (by omega)]
   simp only [obs]
   have h1 := dl (u := dE) (List.getElem_mem hlt)
   have h3 := za l[k]
   have h4 := pR dc hlt
   rw [xQ] at h1
   rw [sa (by rw [List.length_singleton]; omega) (by omega) (by omega) (by omega), obs]
   refine eF (DR n _ _ (by rw [lU]; omega) (by omega)) fun y hy => ?_
   rw [sa (by rw [List.length_append, List.length_singleton]; omega) (by omega) (by omega) (by omega), obs]
   refine eF (DR n _ _ (by rw [lU]; omega) (by omega)) fun z hz => ?_
   rw [sa (by rw [List.length_append, List.length_append, List.length_singleton]; omega) (by omega) (by omega) (by omega), obs]
   exact ih _ (by simp only [List.length_append, List.length_singleton]; omega)
  ·rw [gI, if_neg (by simp)]
   rw [List.drop_eq_nil_of_le (Nat.le_refl _)] at hi
   exact dY (by simpa [cW] using hi)
theorem IW {m : aI} (hu : dC m ≤ 1048576) : TP (fun r => r = m.ap ++ m.cy) (jj m) := by
 unfold jj
 have hp := Br m
 have hl1 := dt J8 m.ap
 have hl2 := dt J8 m.cy
 rw [sa (by simp; omega) (by omega) (by omega) (by omega), obs, sa (by simp; omega) (by omega) (by omega) (by omega), obs]
 exact dY (by simp)
theorem Rf {p : List ae} (hu : cW de p ≤ 1048576) : TP (fun r => r.length ≤ cW de p) (qA p) := by
 unfold qA
 rw [cB]
 have hl := dt P8 p
 refine eF (R := fun r => r.length ≤ cW de p) ?_ fun r hr => dY hr
 refine qf (ko p) p.length (fun k s => s.length + cW de (p.drop k) ≤ cW de p) (fun m i s hlt hi ih => ?_) (fun m s hi => ?_) _ 0 _ (by omega) (by omega) (by simp)
 ·rw [ko, if_pos (by simpa using hlt), cq hlt, bW hlt (by omega)]
  simp only [obs, Option.getD_some, cB]
  have hd := pR de hlt
  have hc := BW p[i]
  have hlf := dt J8 p[i].cm
  have hlm := dt Sw p[i].ah
  refine eF (R := fun r => r.length ≤ s.length + p[i].cm.length) ?_ fun s1 hs1 => ?_
  ·refine qf (kz p (i : Int)) p[i].cm.length (fun k t => t.length ≤ s.length + k) (fun m k t hk ht ih2 => ?_) (fun m t ht => ?_) _ 0 _ (by omega) (by omega) (by omega)
   ·rw [kz, cq hlt, obs, if_pos (by simpa using hk), obs, cq hk, obs, bW hk (by omega), sa (by rw [List.length_singleton]; omega) (by omega) (by omega) (by omega), obs]
    exact ih2 _ (by rw [List.length_append, List.length_singleton]; omega)
   ·rw [kz, cq hlt, obs, if_neg (by simp)]
    exact dY ht
  ·refine eF (R := fun r => r.length ≤ s1.length + cW dC p[i].ah) ?_ fun s2 hs2 => ih _ (by omega)
   refine qf (jZ p (i : Int)) p[i].ah.length (fun k t => t.length + cW dC (p[i].ah.drop k) ≤ s1.length + cW dC p[i].ah) (fun m k t hk ht ih2 => ?_) (fun m t ht => ?_) _ 0 _ (by omega) (by omega) (by simp)
   ·rw [jZ, cq hlt, obs, if_pos (by simpa using hk), obs, cq hk, obs, bW hk (by omega)]
    have hdm := pR dC hk
    have hm := Br p[i].ah[k]
    have hlp := dt J8 p[i].ah[k].ap
    have hll := dt J8 p[i].ah[k].cy
    rw [sa (by rw [List.length_singleton]; omega) (by omega) (by omega) (by omega), obs]
    refine eF (IW (by omega)) fun v hv => ?_
    have hvl : v.length = p[i].ah[k].ap.length + p[i].ah[k].cy.length := by rw [hv, List.length_append]
    rw [cB]
    refine eF (R := fun r => r.length ≤ t.length + 1 + v.length) ?_ fun t1 ht1 => ?_
    ·refine qf (kr (i : Int) (k : Int) v) v.length (fun j y => y.length ≤ t.length + 1 + j) (fun m j y hj hy ih3 => ?_) (fun m y hy => ?_) _ 0 _ (by omega) (by omega) (by simp)
     ·rw [kr, if_pos (by simpa using hj), cq hj, obs, obs, bW hj (by omega), sa (by rw [List.length_singleton]; omega) (by omega) (by omega) (by omega), obs]
      exact ih3 _ (by rw [List.length_append, List.length_singleton]; omega)
     ·rw [kr, if_neg (by simp)]
      exact dY hy
    ·refine eF (DR _ _ _ (by omega) (by omega)) fun ls hls => ?_
     rw [cB]
     refine eF (R := fun r => r.length ≤ t1.length + ls.length) ?_ fun t2 ht2 => ih2 _ (by omega)
     refine qf (ky (i : Int) (k : Int) ls) ls.length (fun j y => y.length ≤ t1.length + j) (fun m j y hj hy ih3 => ?_) (fun m y hy => ?_) _ 0 _ (by omega) (by omega) (by simp)
     ·rw [ky, if_pos (by simpa using hj), cq hj, obs, bW hj (by omega)]
      refine eF (R := fun r => r.length ≤ y.length + 1) (qe (fun _ => ?_) fun _ => dY (by omega)) fun y2 hy2 => ih3 _ (by omega)
      rw [obs, obs, sa (by rw [List.length_singleton]; omega) (by omega) (by omega) (by omega), obs]
      exact dY (by rw [List.length_append, List.length_singleton]; omega)
     ·rw [ky, if_neg (by simp)]
      exact dY hy
   ·rw [jZ, cq hlt, obs, if_neg (by simp)]
    rw [List.drop_eq_nil_of_le (Nat.le_refl _)] at ht
    exact dY (by simpa [cW] using ht)
 ·rw [ko, if_neg (by simp)]
  rw [List.drop_eq_nil_of_le (Nat.le_refl _)] at hi
  exact dY (by simpa [cW] using hi)
theorem Aq {p : List ae} (hp : p.length < 9223372036854775806) (name : List UInt8) : Tot (ja p name) := by
 unfold ja
 rw [jb hp, obs]
 cases hf : fi p name with
 | none => rw [su hf, if_pos (by simp)]; exact af _
 | some i => rw [oJ hf, if_neg (by simp), cq (Ll hf), obs]; exact af _
theorem qT (a b : Int) : gU a b = some ⟨a, b⟩ := rfl
theorem vd {α : Type} (u : α → Nat) : ∀ (l : List α) (a b : Nat), cW u ((l.take b).drop a) ≤ cW u l
 | [], a, b => by simp [cW]
 | x :: l, a, 0 => by simp [cW]
 | x :: l, 0, b + 1 => by have := vd u l 0 b; simp only [List.drop_zero] at this; simp only [List.take_succ_cons, List.drop_zero, cW]; omega
 | x :: l, a + 1, b + 1 => by have := vd u l a b; simp only [List.take_succ_cons, List.drop_succ_cons, cW]; omega
theorem KW {p : List ae} (hu : cW de p ≤ 1048576) {i : Nat} (hi : i < p.length) : Tot (oj p (i : Int)) := by
 unfold oj
 have hl := dt P8 p
 rw [bW hi (by omega)]
 have hcut : pB p (i : Int) ((i + 1 : Nat) : Int) = some ((p.take (i + 1)).drop i) := by unfold pB; rw [if_pos ⟨by omega, by omega, by omega⟩]; simp
 rw [hcut, obs]
 have hs := vd de p i (i + 1)
 refine zR (eF (Rf (by omega)) fun ns hns => Mw ?_)
 rw [cB]
 refine aH ?_ fun _ _ => fh (fun _ => af _) fun _ => af _
 refine dX (kJ p ns) ns.length (fun n k hlt ih => ?_) (fun n k hlt => ?_) _ 0 (by omega) (by omega)
 ·rw [kJ, if_pos (by simpa using hlt), cq hlt, bW hlt (by omega)]
  obtain ⟨ar, har⟩ := Aq (p := p) (by omega) ns[k].aO.aq
  simp only [vk, har, qT]
  by_cases h1 : (ns[k].aO.ab != 2) = true
  ·rw [if_pos h1]; exact ih
  ·rw [if_neg h1]
   by_cases h2 : (decide (ar < 0)) = true
   ·rw [if_pos h2]; exact af _
   ·rw [if_neg h2]
    by_cases h3 : (ns[k].aO.fN != 0) = true
    ·rw [if_pos h3]
     simp only
     by_cases h4 : (ns[k].aO.fN != ar) = true
     ·rw [if_pos h4]; exact af _
     ·rw [if_neg h4]; exact ih
    ·rw [if_neg h3]
     simp only
     rw [if_neg (by simp)]; exact ih
 ·rw [kJ, if_neg (by simpa using hlt)]; exact af _
theorem Dt {l : List dU} (hu : l.length ≤ 1048576) : TP (fun r => r = l.map (·.ax)) (oa l) := by
 unfold oa
 rw [UG (lZ l) (l := l) (by omega) (f := fun s y => Option.bind (li ((s.length : Int) + ([y.ax].length : Int)) 16) fun _ => some (s ++ [y.ax])) (fin := some) (fun n s x => by
  rw [lZ]
  by_cases h : decide (x < (l.length : Int)) = true
  ·rw [if_pos h, if_pos h]
   cases idx l x with
   | none => simp only [Option.bind_none]
   | some y =>
    rw [obs, obs]
    cases li ((s.length : Int) + ([y.ax].length : Int)) 16 with
    | none => simp only [Option.bind_none]
    | some u => simp only [obs]
  ·rw [if_neg h, if_neg h]), DZ _ (·.ax) 2000000 (fun s y hs => by
  rw [List.length_singleton, sa (by omega) (by omega) (by omega) (by omega), obs]) l [] (by rw [List.length_nil]; omega)]
 exact dY (by simp)
theorem yQ {l : List (List UInt8)} (hl : l.length ≤ 9223372036854775806) : TP (fun r => r < (l.length : Int)) (jH l) := by
 unfold jH
 rw [cB]
 refine eF (R := fun c => ∀ v, c = Ctl.stop v → v < (l.length : Int)) ?_ fun c hc => ?_
 ·have := qf (σ := Unit) (Q := fun c : Ctl Int Unit => ∀ v, c = Ctl.stop v → v < (l.length : Int)) (fun n _ x => iu l n x) l.length (fun _ _ => True) (fun n k _ hlt _ ih => ?_) (fun n _ _ => ?_) (l.length + 1) 0 () (by omega) (by omega) trivial
  ·exact this
  ·show TP _ (iu l (n + 1) (k : Int))
   rw [iu, if_pos (by simpa using hlt), bW hlt (by omega), cB]
   refine eF (R := fun c => ∀ v, c = Ctl.stop v → v = (k : Int)) ?_ fun c hc => ?_
   ·have h2 := qf (σ := Unit) (Q := fun c : Ctl Int Unit => ∀ v, c = Ctl.stop v → v = (k : Int)) (fun n _ x => iv l (k : Int) n x) k (fun _ _ => True) (fun m j _ hj _ ih2 => ?_) (fun m _ _ => ?_) (k + 1) 0 () (by omega) (by omega) trivial
    ·exact h2
    ·show TP _ (iv l (k : Int) (m + 1) (j : Int))
     rw [iv, if_pos (by simpa using hj), cq (show j < l.length by omega), cq hlt, obs, obs, bW hj (by omega)]
     exact qe (fun _ => dY (by intro v hv; cases hv; rfl)) fun _ => ih2 () trivial
    ·show TP _ (iv l (k : Int) (m + 1) (k : Int))
     rw [iv, if_neg (by simp)]
     exact dY (by intro v hv; cases hv)
   ·cases c with
    | stop v => exact dY (by intro w hw; cases hw; rw [hc v rfl]; omega)
    | next u => exact ih () trivial
  ·show TP _ (iu l (n + 1) (l.length : Int))
   rw [iu, if_neg (by simp)]
   exact dY (by intro v hv; cases hv)
 ·cases c with
  | stop v => exact dY (hc v rfl)
  | next u => exact dY (by omega)
theorem Lb {p : List ae} (hu : cW de p ≤ 1048576) {i : Nat} (hi : i < p.length) : Tot (qL p (i : Int)) := by
 have hl := dt P8 p
 have hm := dl (u := de) (List.getElem_mem hi)
 have hc := BW p[i]
 have hlp := dt QI p[i].ap
 have hlf := dt J8 p[i].cm
 have hlm := dt Sw p[i].ah
 unfold qL
 rw [cq hi, obs, cB]
 have hF1 : Tot (ik p p[i].ax) := by rw [jb (by omega)]; exact af _
 have hF2 : Tot (ik p p[i].di) := by rw [jb (by omega)]; exact af _
 have hA : Tot (ja p p[i].di) := Aq (by omega) _
 have hT : Tot (jH p[i].ap) := zR (yQ (by omega))
 have hY : Tot (oj p (i : Int)) := KW hu hi
 have hL : Tot (jv p[i] (p[i].ah.length + 1) [] 0) := by
  refine zR (qf (Q := fun _ => True) (jv p[i]) p[i].ah.length (fun k s => s.length ≤ k) (fun m k s hk hs ih => ?_) (fun m s hs => ?_) _ 0 _ (by omega) (by omega) (by simp))
  ·rw [jv, if_pos (by simpa using hk), cq hk, obs, bW hk (by omega), sa (by rw [List.length_singleton]; omega) (by omega) (by omega) (by omega), obs]
   have hmm := dl (u := dC) (List.getElem_mem hk)
   have hmp := Br p[i].ah[k]
   have h1 := dt J8 p[i].ah[k].ap
   have h2 := dt J8 p[i].ah[k].cy
   refine eF (Mw (zR (yQ (by rw [List.length_append, List.length_singleton]; omega)))) fun _ _ => qe (fun _ => ?_) fun _ => ?_
   ·rw [qT, obs]; exact dY trivial
   ·refine eF (IW (by omega)) fun v hv => eF (Dt (l := v) (by rw [hv, List.length_append]; omega)) fun ns hns => eF (yQ (by rw [hns, hv, List.length_map, List.length_append]; omega)) fun t ht => qe (fun h0 => ?_) fun _ => ih _ (by rw [List.length_append, List.length_singleton]; omega)
    rw [hns, List.length_map] at ht
    rw [QT (by simpa using h0) ht, obs, qT, obs]
    exact dY trivial
  ·rw [jv, if_neg (by simp)]; exact dY trivial
 refine aH (aH hF1 fun _ _ => aJ (fun _ => af _) fun _ => aH hT fun _ _ => af _) fun _ _ => aJ (fun _ => af _) fun _ => ?_
 refine aH (aJ (fun _ => aH hF2 fun _ _ => af _) fun _ => af _) fun _ _ => aJ (fun _ => af _) fun _ => ?_
 refine aH (aJ (fun _ => aH hA fun _ _ => af _) fun _ => af _) fun _ _ => aJ (fun _ => af _) fun _ => ?_
 refine aH hY fun _ _ => aJ (fun _ => af _) fun _ => zR (Q := fun _ => True) ?_
 refine eF (Dt (l := p[i].cm) (by omega)) fun ns hns => eF (yQ (by rw [hns, List.length_map]; omega)) fun t ht => qe (fun h0 => ?_) fun _ => Mw ?_
 ·rw [hns, List.length_map] at ht
  rw [QT (by simpa using h0) ht, obs, qT, obs]
  exact dY trivial
 ·exact aH hL fun _ _ => fh (fun _ => af _) fun _ => af _
theorem Kr {p : List ae} (hu : cW de p ≤ 1048576) : Tot (qO p) := by
 have hl := dt P8 p
 unfold qO
 rw [cB]
 refine aH (Mo hu) fun _ _ => aJ (fun _ => by rw [qT, obs]; exact af _) fun _ => aH ?_ fun _ _ => fh (fun _ => af _) fun _ => af _
 refine dX (kc p) p.length (fun n k hlt ih => ?_) (fun n k hlt => ?_) _ 0 (by omega) (by omega)
 ·rw [kc, if_pos (by simpa using hlt), bW hlt (by omega)]
  exact aH (Lb hu hlt) fun _ _ => aJ (fun _ => af _) fun _ => ih
 ·rw [kc, if_neg (by simpa using hlt)]; exact af _
def zh (t : bV) : Int × List UInt8 × Bool := (t.ab, if t.ab = 2 then (t.aq, decide (t.aK.a0.ab = 6)) else ([], false))
def zD (a b : bV) : Bool := decide (zh a = zh b)
def Mp (v : dU) : Int × List UInt8 × Bool := zh v.aO
def ug (a b : aI) : Bool := (a.eN || !b.eN) && (decide (zh a.ca = zh b.ca) && decide (a.ap.map Mp = b.ap.map Mp))
theorem Pm (a : aI) : ug a a = true := by unfold ug; cases a.eN <;> simp
theorem Nc {a b c : aI} (h1 : ug a b = true) (h2 : ug b c = true) : ug a c = true := by
 unfold ug at *
 simp only [Bool.and_eq_true, decide_eq_true_eq, Bool.or_eq_true, Bool.not_eq_true'] at *
 obtain ⟨p1, r1, l1⟩ := h1; obtain ⟨p2, r2, l2⟩ := h2
 refine ⟨?_, r1.trans r2, l1.trans l2⟩
 rcases p1 with h | h
 ·exact .inl h
 ·rcases p2 with h' | h'
  ·rw [h] at h'; cases h'
  ·exact .inr h'
def ze (p : List ae) (c : ae) (m : aI) : Bool := match lL p m.ax ((ch p c.ax).drop 1) with | some x => !ug m x.2 | none => false
theorem wB (a b : bV) : mq a b = some (zD a b) := by
 unfold mq zD zh
 rw [dy, dy]
 unfold QJ
 by_cases ha : a.ab = 2
 ·by_cases hb : b.ab = 2
  ·rw [if_pos (by simp [ha, hb]), if_neg (by simp [ha])]
   simp only [obs]
   by_cases hc : a.aq = b.aq
   ·rw [if_pos (by simpa using hc)]
    congr 1
    rw [Bool.eq_iff_iff]; simp [ha, hb, hc]
   ·rw [if_neg (by simpa using hc)]
    congr 1
    symm; rw [decide_eq_false_iff_not]; simp [ha, hb, hc]
  ·rw [if_neg (by simpa using fun h : a.ab = b.ab => hb (h ▸ ha))]
   congr 1
   symm; rw [decide_eq_false_iff_not]
   simp only [Prod.mk.injEq]
   exact fun h => hb (h.1 ▸ ha)
 ·by_cases hk : a.ab = b.ab
  ·rw [if_pos (by simpa using hk), if_pos (by simpa using ha)]
   congr 1
   symm; rw [decide_eq_true_eq]
   simp only [Prod.mk.injEq]
   exact ⟨hk, by rw [if_neg ha, if_neg (by rw [← hk]; exact ha)]⟩
  ·rw [if_neg (by simpa using hk)]
   congr 1
   symm; rw [decide_eq_false_iff_not]
   simp only [Prod.mk.injEq]
   exact fun h => hk h.1
theorem LG {a b : aI} (he : a.ap.length = b.ap.length) (hl : a.ap.length ≤ 9223372036854775807) : ∀ (n k : Nat), n + k = a.ap.length + 1 → k ≤ a.ap.length →
  nv a b n (k : Int) = some (if (a.ap.drop k).map Mp = (b.ap.drop k).map Mp then .next () else .stop false)
 | 0, k, h, hk => by omega
 | n + 1, k, h, hk => by
  rw [nv]
  by_cases hlt : k < a.ap.length
  ·have hltb : k < b.ap.length := by omega
   rw [if_pos (by simpa using hlt), cq hlt, cq hltb]
   simp only [obs]
   rw [wB, obs, bW hlt hl, LG he hl n (k + 1) (by omega) (by omega), List.drop_eq_getElem_cons hlt, List.drop_eq_getElem_cons hltb]
   simp only [List.map_cons, List.cons.injEq]
   unfold zD
   by_cases hk2 : zh a.ap[k].aO = zh b.ap[k].aO
   ·rw [if_neg (by simp [hk2])]
    congr 1
    by_cases ht : (a.ap.drop (k + 1)).map Mp = (b.ap.drop (k + 1)).map Mp
    ·rw [if_pos ht, if_pos ⟨hk2, ht⟩]
    ·rw [if_neg ht, if_neg (fun h => ht h.2)]
   ·rw [if_pos (by simp [hk2]), if_neg (fun h => hk2 h.1)]
  ·rw [if_neg (by simpa using hlt), List.drop_eq_nil_of_le (by omega), List.drop_eq_nil_of_le (by omega)]
   rfl
theorem FH {a b : aI} (hl : a.ap.length ≤ 9223372036854775807) : nI a b = some (ug a b) := by
 unfold nI ug
 rw [wB]
 simp only [obs]
 have e : (if b.eN = true then if (!a.eN) = true then some true else if (!zD a.ca b.ca) = true then some true else some ((a.ap.length : Int) != (b.ap.length : Int)) else if (!zD a.ca b.ca) = true then some true else some ((a.ap.length : Int) != (b.ap.length : Int)) : Option Bool) = some (decide (¬ ((a.eN || !b.eN) = true ∧ zh a.ca = zh b.ca ∧ a.ap.length = b.ap.length))) := by
  unfold zD
  have hlen : ((a.ap.length : Int) != (b.ap.length : Int)) = decide (¬ a.ap.length = b.ap.length) := by
   rw [Bool.eq_iff_iff]; simp only [bne_iff_ne, ne_eq, decide_eq_true_eq]; omega
  rw [hlen]
  by_cases h1 : zh a.ca = zh b.ca <;> cases a.eN <;> cases b.eN <;> simp [h1]
 rw [e, obs]
 by_cases hh : (a.eN || !b.eN) = true ∧ zh a.ca = zh b.ca ∧ a.ap.length = b.ap.length
 ·obtain ⟨h1, h2, h3⟩ := hh
  rw [if_neg (by simp only [decide_not, Bool.not_eq_true', decide_eq_false_iff_not, Classical.not_not]; exact ⟨h1, h2, h3⟩), cB, show (0 : Int) = ((0 : Nat) : Int) from rfl, LG h3 hl _ 0 (by omega) (by omega), obs, List.drop_zero, List.drop_zero, h1]
  by_cases h4 : a.ap.map Mp = b.ap.map Mp
  ·rw [if_pos h4]; simp [Ctl.elim, h2, h4]
  ·rw [if_neg h4]; simp [Ctl.elim, h4]
 ·rw [if_pos (by simp only [decide_eq_true_eq]; exact hh)]
  congr 1
  symm
  rw [Bool.eq_false_iff]
  intro h
  simp only [Bool.and_eq_true, decide_eq_true_eq] at h
  exact hh ⟨h.1, h.2.1, by have := congrArg List.length h.2.2; simpa using this⟩
theorem Ae {p : List ae} (hp : p.length ≤ 1000000) (hm : ∀ c ∈ p, c.ah.length ≤ 9223372036854775807) {i : Nat} {c : ae} (hc : p[i]? = some c) (hq : ∀ m ∈ c.ah, m.ap.length ≤ 9223372036854775807) : ∀ (n k : Nat), n + k = c.ah.length + 1 → k ≤ c.ah.length →
  (∃ f : ce, kw p (i : Int) n (k : Int) = some (.stop f) ∧ f.dA = 17) ∨ (kw p (i : Int) n (k : Int) = some (.next ()) ∧ ∀ m ∈ c.ah.drop k, ze p c m = false)
 | 0, k, h, hk => by omega
 | n + 1, k, h, hk => by
  have hl := hm c (List.mem_of_getElem? hc)
  rw [kw, gA, hc, obs]
  by_cases hlt : k < c.ah.length
  ·rw [if_pos (by simpa using hlt)]
   simp only [obs]
   rw [cq hlt]
   simp only [obs]
   rw [GA hp hm]
   simp only [obs]
   have hb : (if (tW (lL p c.ah[k].ax ((ch p c.ax).drop 1))).2 = true then (nI c.ah[k] (tW (lL p c.ah[k].ax ((ch p c.ax).drop 1))).1.aE).bind fun y0 => some (!y0) else some false : Option Bool) = some (ze p c c.ah[k]) := by
    unfold ze
    cases lL p c.ah[k].ax ((ch p c.ax).drop 1) with
    | none => rfl
    | some x =>
     show (nI c.ah[k] x.2).bind _ = _
     rw [FH (hq _ (List.getElem_mem hlt)), obs]
   rw [hb, obs]
   by_cases hbad : ze p c c.ah[k] = true
   ·rw [if_pos hbad]; exact .inl ⟨_, rfl, rfl⟩
   ·rw [if_neg hbad, bW hlt hl]
    rcases Ae hp hm hc hq n (k + 1) (by omega) (by omega) with h1 | ⟨h1, h2⟩
    ·exact .inl h1
    ·refine .inr ⟨h1, fun m hmm => ?_⟩
     rw [List.drop_eq_getElem_cons hlt] at hmm
     rcases List.mem_cons.1 hmm with rfl | hmm
     ·simpa using hbad
     ·exact h2 m hmm
  ·rw [if_neg (by simpa using hlt), List.drop_eq_nil_of_le (by omega)]
   exact .inr ⟨rfl, fun m hmm => by simp at hmm⟩
theorem zY {p : List ae} (hp : p.length ≤ 1000000) (hm : ∀ c ∈ p, c.ah.length ≤ 9223372036854775807) (hq : ∀ c ∈ p, ∀ m ∈ c.ah, m.ap.length ≤ 9223372036854775807) : ∀ (n k : Nat), n + k = p.length + 1 → k ≤ p.length →
  (∃ f : ce, kd p n (k : Int) = some (.stop f) ∧ f.dA = 17) ∨ (kd p n (k : Int) = some (.next ()) ∧ ∀ c ∈ p.drop k, ∀ m ∈ c.ah, ze p c m = false)
 | 0, k, h, hk => by omega
 | n + 1, k, h, hk => by
  rw [kd]
  by_cases hlt : k < p.length
  ·have hmem := List.getElem_mem hlt
   rw [if_pos (by simpa using hlt), cq hlt]
   simp only [obs, Option.getD_some]
   rw [cB, show (0 : Int) = ((0 : Nat) : Int) from rfl]
   rcases Ae hp hm (List.getElem?_eq_getElem hlt) (hq _ hmem) (p[k].ah.length + 1) 0 (by omega) (by omega) with ⟨f, h1, h2⟩ | ⟨h1, h2⟩
   ·rw [h1]; exact .inl ⟨f, rfl, h2⟩
   ·rw [h1, obs]
    simp only [Ctl.elim]
    rw [bW hlt (by omega)]
    rcases zY hp hm hq n (k + 1) (by omega) (by omega) with h3 | ⟨h3, h4⟩
    ·exact .inl h3
    ·refine .inr ⟨h3, fun c hc => ?_⟩
     rw [List.drop_eq_getElem_cons hlt] at hc
     rcases List.mem_cons.1 hc with rfl | hc
     ·simpa using h2
     ·exact h4 c hc
  ·rw [if_neg (by simpa using hlt), List.drop_eq_nil_of_le (by omega)]
   exact .inr ⟨rfl, fun c hc => by simp at hc⟩
theorem CG {p : List ae} (hp : p.length ≤ 1000000) (hm : ∀ c ∈ p, c.ah.length ≤ 9223372036854775807) (hq : ∀ c ∈ p, ∀ m ∈ c.ah, m.ap.length ≤ 9223372036854775807) : ∃ f : ce, qP p = some f ∧ (f.dA ≠ 0 ∨ (f.dA = 0 ∧ ∀ c ∈ p, ∀ m ∈ c.ah, ze p c m = false)) := by
 unfold qP
 rw [cB, show (0 : Int) = ((0 : Nat) : Int) from rfl]
 rcases zY hp hm hq (p.length + 1) 0 (by omega) (by omega) with ⟨f, h1, h2⟩ | ⟨h1, h2⟩
 ·rw [h1]; exact ⟨f, rfl, .inl (by omega)⟩
 ·rw [h1]; exact ⟨_, rfl, .inr ⟨rfl, by simpa using h2⟩⟩
theorem Co {c : ae} {m : aI} (hc : c.ap.length ≤ 60) (h1 : m.ap.length ≤ 100) (h2 : m.cy.length ≤ 100) (n : List UInt8) : Tot (kZ c m n) := by
 obtain ⟨r, _, h⟩ := tc hc h1 h2 n
 exact ⟨r, h⟩
theorem LV {c : ae} {m : aI} (hc : c.ap.length ≤ 60) (h1 : m.ap.length ≤ 100) (h2 : m.cy.length ≤ 100) : ∀ (n : Nat) (e : cD), dh e < n → dh e ≤ 1048576 → Tot (nf n c m e)
 | 0, e, h, _ => by omega
 | n + 1, e, h, hM => by
  have hme := sS e
  have hl : e.cY.length ≤ cW dh e.cY := dt (u := dh) (fun y => by have := sS y; omega) e.cY
  simp only [nf, cB]
  refine aJ (fun _ => aH (Co hc h1 h2 _) fun _ _ => aJ (fun _ => af _) fun _ => af _) fun _ => aJ (fun _ => ?_) fun _ => aJ (fun _ => af _) fun _ => ?_
  ·rw [xF hc, obs]; exact af _
  ·refine aH (iz (nY c m e (nf n)) e.cY.length (fun f k s hlt ih => ?_) (fun f k s hlt => ?_) _ 0 _ (by omega) (by omega)) fun r _ => fh (fun v => af _) fun s => aJ (fun _ => af _) fun _ => af _
   ·have hk := dl (u := dh) (List.getElem_mem hlt)
    simp only [nY]
    rw [if_pos (by simpa using hlt), cq hlt, bW hlt (by omega)]
    simp only [obs]
    refine aH (LV hc h1 h2 n _ (by omega) (by omega)) fun y _ => aJ (fun _ => af _) fun _ => aH (aJ (fun _ => af _) fun _ => af _) fun z _ => aH (aJ (fun _ => aJ (fun _ => af _) fun _ => af _) fun _ => af _) fun w _ => aJ (fun _ => af _) fun _ => ?_
    rw [dy]
    exact aH (aJ (fun _ => af _) fun _ => aJ (fun _ => af _) fun _ => af _) fun _ _ => ih _
   ·simp only [nY]
    rw [if_neg (by simpa using hlt)]
    exact af _
theorem wQ {c : ae} {m : aI} {e : cD} (hc : c.ap.length ≤ 60) (h1 : m.ap.length ≤ 100) (h2 : m.cy.length ≤ 100) (hu : fy e ≤ 1048576) : Tot (pa c m e) := by
 have := Ky e
 unfold pa
 exact aH (yg hu) fun _ _ => aJ (fun _ => af _) fun _ => aH (LV hc h1 h2 _ _ (by omega) (by omega)) fun _ _ => af _
theorem pJ {p : List ae} (hp : p.length ≤ 1000000) (a b : bV) : Tot (jO p a b) := by
 unfold jO
 rw [dy, dy, uK hp]
 simp only [obs]
 refine aH (aJ (fun _ => af _) fun _ => af _) fun x _ => aH (aJ (fun _ => aJ (fun _ => af _) fun _ => aJ (fun _ => af _) fun _ => af _) fun _ => aJ (fun _ => af _) fun _ => af _) fun y _ => aJ (fun _ => af _) fun _ => ?_
 refine aH (aJ (fun _ => aJ (fun _ => aJ (fun _ => af _) fun _ => af _) fun _ => af _) fun _ => af _) fun z _ => aJ (fun _ => af _) fun _ => ?_
 exact aH (aJ (fun _ => aJ (fun _ => af _) fun _ => af _) fun _ => af _) fun w _ => aJ (fun _ => af _) fun _ => aJ (fun _ => af _) fun _ => af _
theorem wy {p : List ae} (hp : p.length ≤ 1000000) (a b : bV) : Tot (mn p a b) := by
 unfold mn
 rw [dy, uK hp]
 simp only [obs]
 exact aH (aJ (fun _ => af _) fun _ => af _) fun x _ => aJ (fun _ => af _) fun _ => aJ (fun _ => af _) fun _ => aJ (fun _ => af _) fun _ => af _
theorem zW {c : ae} (hc : c.cm.length ≤ 40) : ∀ (n k : Nat) (acc : List db), n + k = c.cm.length + 1 → k ≤ c.cm.length → acc.length ≤ 100000000 + k → TP (fun r => r.length = acc.length + (c.cm.length - k)) (oZ c n acc (k : Int))
 | 0, k, acc, h, hk, _ => by omega
 | n + 1, k, acc, h, hk, ha => by
  rw [oZ]
  by_cases hlt : k < c.cm.length
  ·rw [if_pos (by simpa using hlt), cq hlt, obs, lc (by simp; omega), obs, bW hlt (by omega)]
   obtain ⟨r, h1, h2⟩ := zW hc n (k + 1) (acc ++ [(⟨c.ax, c.cm[k]⟩ : db)]) (by omega) (by omega) (by simp; omega)
   exact ⟨r, h1, by simp only [List.length_append, List.length_singleton] at h2 ⊢; omega⟩
  ·rw [if_neg (by simpa using hlt)]
   exact ⟨acc, rfl, by simp only; omega⟩
theorem Aj {p : List ae} (hf : ∀ c ∈ p, c.cm.length ≤ 40) {l : List Nat} (hl : ∀ x ∈ l, x < p.length) (hll : l.length ≤ 1000000) : ∀ (k n : Nat) (acc : List db), k < n → k ≤ l.length → acc.length + 40 * k ≤ 90000000 →
  TP (fun r => r.length ≤ acc.length + 40 * k) (mO p (l.map Int.ofNat) n acc ((k : Int) - 1))
 | _, 0, _, h, _, _ => by omega
 | 0, n + 1, acc, h, hk, ha => by
  rw [mO, if_neg (by simp)]
  exact ⟨acc, rfl, by simp only; omega⟩
 | k + 1, n + 1, acc, h, hk, ha => by
  have hlt : k < (l.map Int.ofNat).length := by simp; omega
  have hx := hl _ (List.getElem_mem (show k < l.length by omega))
  rw [mO, if_pos (by simp only [decide_eq_true_eq]; omega), show (((k + 1 : Nat) : Int) - 1) = ((k : Nat) : Int) by omega, cq hlt, obs, List.getElem_map, show (Int.ofNat l[k]) = ((l[k] : Nat) : Int) from rfl, cq hx, obs, cB]
  obtain ⟨r, h1, h2⟩ := zW (hf _ (List.getElem_mem hx)) (p[l[k]].cm.length + 1) 0 acc (by omega) (by omega) (by omega)
  have hfl := hf _ (List.getElem_mem hx)
  rw [show (0 : Int) = ((0 : Nat) : Int) from rfl, h1, obs, w64 (by omega) (by omega)]
  obtain ⟨r2, h3, h4⟩ := Aj hf hl hll k n r (by omega) (by omega) (by omega)
  exact ⟨r2, h3, by simp only at h2 h4 ⊢; omega⟩
theorem Qx {p : List ae} (hp : p.length ≤ 1000) (hf : ∀ c ∈ p, c.cm.length ≤ 40) (name : List UInt8) : TP (fun r => r.length ≤ 1000000) (rB p name) := by
 have hc := yv p name
 unfold rB
 rw [mQ (by omega)]
 simp only [obs, List.length_map]
 rw [w64 (by omega) (by omega)]
 obtain ⟨r, h1, h2⟩ := Aj hf (l := ch p name) (KN p name) (by omega) (ch p name).length (((((ch p name).length : Int) - 1) - 0).toNat + 2) [] (by omega) (by omega) (by simp; omega)
 rw [h1, obs]
 exact ⟨r, rfl, by simp at h2; omega⟩
theorem PY {p : List ae} (hp : p.length ≤ 1000) (hf : ∀ c ∈ p, c.cm.length ≤ 40) (name f : List UInt8) : Tot (vv p name f) := by
 obtain ⟨l, h1, h2⟩ := Qx hp hf name
 have hF : rJ p name f = some (match l.findIdx? (fun s => s.fw.ax == f) with | some i => (i : Int) | none => -1) := by
  unfold rJ
  rw [h1, obs, NQ (nn f l) (b := fun s => s.fw.ax == f) (by omega) (fun n x => by rw [nn]), obs, KJ]
  rfl
 unfold vv
 rw [hF, h1, obs]
 cases hi : l.findIdx? (fun s => s.fw.ax == f) with
 | none => rw [if_pos (by simp)]; exact af _
 | some i =>
  obtain ⟨x, hx, _, _⟩ := LQ hi
  rw [if_neg (by simp)]
  simp only [obs, gA, hx]
  exact af _
structure W20 (p : List ae) (c : ae) (m : aI) : Prop where
 hp : p.length ≤ 1000
 hm : ∀ c ∈ p, c.ah.length ≤ 9223372036854775807
 hf : ∀ c ∈ p, c.cm.length ≤ 40
 hc : c.ap.length ≤ 60
 h1 : m.ap.length ≤ 100
 h2 : m.cy.length ≤ 100
theorem GZ {p : List ae} {c : ae} {m : aI} (h : W20 p c m) {e : cD} (hu : fy e ≤ 1048576) (t : bV) : Tot (nT ⟨p, c, m⟩ e t) := by
 have hp := h.hp
 unfold nT
 rw [dy]
 refine aH (wQ h.hc h.h1 h.h2 hu) fun y _ => aJ (fun _ => af _) fun _ => aH (aJ (fun _ => af _) fun _ => af _) fun _ _ => aJ (fun _ => aH (wy (by simp only; omega) _ _) fun _ _ => af _) fun _ => aH (pJ (by simp only; omega) _ _) fun _ _ => af _
theorem rp {p : List ae} {c : ae} {m : aI} (h : W20 p c m) (n : List UInt8) : Tot (jo ⟨p, c, m⟩ n) := by
 unfold jo
 simp only
 rw [vZ h.h1 h.h2, obs]
 by_cases hp : uR m n < 0
 ·rw [if_pos (by simpa using hp)]; exact af _
 ·obtain ⟨v, hv⟩ := Ik hp
  rw [if_neg (by simpa using hp), tl h.h1 h.h2, obs, hv, obs]; exact af _
theorem uT {p : List ae} {c : ae} {m : aI} (h : W20 p c m) (s : aQ) : Tot (il ⟨p, c, m⟩ s) := by
 unfold il
 refine aH (Co h.hc h.h1 h.h2 _) fun y _ => aJ (fun _ => af _) fun _ => aJ (fun _ => af _) fun _ => ?_
 rw [dy, obs]
 exact aH (aJ (fun _ => af _) fun _ => af _) fun _ _ => aJ (fun _ => af _) fun _ => af _
theorem Qj {p : List ae} {c : ae} {m : aI} (h : W20 p c m) {s : aQ} (hu : dc s ≤ 1048576) : Tot (sy ⟨p, c, m⟩ s) := by
 have us := za s
 unfold sy
 refine aJ (fun _ => aJ (fun _ => af _) fun _ => aJ (fun _ => af _) fun _ => aH (GZ h (by omega) _) fun _ _ => af _) fun _ => aJ (fun _ => aH (rp h _) fun y _ => aJ (fun _ => af _) fun _ => aJ (fun _ => af _) fun _ => ?_) fun _ => ?_
 ·rw [dy, obs]
  exact aJ (fun _ => af _) fun _ => af _
 ·exact aH (wQ h.hc h.h1 h.h2 (by omega)) fun _ _ => aH (aJ (fun _ => af _) fun _ => af _) fun _ _ => aJ (fun _ => af _) fun _ => af _
theorem Qk {p : List ae} {c : ae} {m : aI} (h : W20 p c m) (a b : bV) : Tot (sm ⟨p, c, m⟩ a b) := by
 have hp := h.hp
 unfold sm
 rw [dy, dy]
 simp only [obs]
 exact aJ (fun _ => af _) fun _ => aH (aJ (fun _ => af _) fun _ => af _) fun _ _ => aJ (fun _ => aH (pJ (by omega) _ _) fun _ _ => af _) fun _ => aJ (fun _ => af _) fun _ => aH (wy (by omega) _ _) fun _ _ => af _
theorem Cn {p : List ae} {c : ae} {m : aI} (h : W20 p c m) (s : aQ) : ∃ o, gz ⟨p, c, m⟩ s = some (tW o) := by
 have hp := h.hp
 unfold gz
 obtain ⟨y, hy⟩ := uT h s
 rw [hy, obs, nt (by omega) h.hm]
 obtain ⟨b, hb⟩ : ∃ b, (if (y.2 != 0) then some true else some (s.ab != 4) : Option (Bool)) = some b := by split <;> exact ⟨_, rfl⟩
 rw [hb, obs]
 cases b with
 | true => exact ⟨none, rfl⟩
 | false => exact ⟨_, rfl⟩
theorem PG {p : List ae} {c : ae} {m : aI} (h : W20 p c m) {s : aQ} (hu : dc s ≤ 1048576) (x : bV) : Tot (mg ⟨p, c, m⟩ s x) := by
 have us := za s
 have hal := dt (u := fy) Sh s.dH
 unfold mg
 refine aH (uT h s) fun y _ => aJ (fun _ => af _) fun _ => ?_
 obtain ⟨o, ho⟩ := Cn h s
 rw [ho, obs]
 refine aJ (fun _ => af _) fun _ => aJ (fun _ => af _) fun hne => ?_
 have hlen : (tW o).1.aE.ap.length = s.dH.length := by
  simp only [bne_eq_false_iff_eq] at hne
  omega
 rw [cB]
 refine aH (dX (lv ⟨p, c, m⟩ s (tW o)) s.dH.length (fun f k hlt ih => ?_) (fun f k hlt => ?_) _ 0 (by omega) (by omega)) fun r _ => fh (fun _ => af _) fun _ => aJ (fun _ => af _) fun _ => aH (Qk h _ _) fun _ _ => af _
 ·have hk := dl (u := fy) (List.getElem_mem hlt)
  simp only [lv]
  rw [if_pos (by simpa using hlt), cq hlt, cq (show k < (tW o).1.aE.ap.length by omega), bW hlt (by omega)]
  simp only [obs]
  exact aH (GZ h (by omega) _) fun _ _ => aJ (fun _ => af _) fun _ => ih
 ·simp only [lv]
  rw [if_neg (by simpa using hlt)]
  exact af _
theorem Nr {p : List ae} {c : ae} {m : aI} (h : W20 p c m) {s : aQ} (hu : dc s ≤ 1048576) (x : bV) : Tot (oX ⟨p, c, m⟩ s x) := by
 have us := za s
 have hp := h.hp
 unfold oX
 refine aH (uT h s) fun y _ => aJ (fun _ => af _) fun _ => aH (PY h.hp h.hf _ _) fun z _ => aJ (fun _ => af _) fun _ => aJ (fun _ => aH (pJ (by simp only; omega) _ _) fun _ _ => af _) fun _ => aH (wQ h.hc h.h1 h.h2 (by omega)) fun _ _ => aJ (fun _ => af _) fun _ => aH (pJ (by simp only; omega) _ _) fun _ _ => af _
theorem Qt {p : List ae} {c : ae} {m : aI} (h : W20 p c m) {s : aQ} (hu : dc s ≤ 1048576) (x : bV) : Tot (ss ⟨p, c, m⟩ s x) := by
 have us := za s
 have hp := h.hp
 unfold ss
 rw [dy, dy]
 simp only [obs]
 rw [uK (by omega)]
 simp only [obs]
 refine aJ (fun _ => aJ (fun _ => af _) fun _ => aJ (fun _ => af _) fun _ => aJ (fun _ => af _) fun _ => af _) fun _ => aJ (fun _ => af _) fun _ => aH (wQ h.hc h.h1 h.h2 (by omega)) fun y _ => aJ (fun _ => af _) fun _ => aH (aJ (fun _ => af _) fun _ => af _) fun _ _ => aJ (fun _ => af _) fun _ => ?_
 rw [dy, obs]
 exact aJ (fun _ => af _) fun _ => aH (pJ (by omega) _ _) fun _ _ => af _
theorem Th {R S : Type} {c : Ctl (Option R) S} {f : S → Option R} (h1 : ∀ o, c = .stop o → Tot o) (h2 : ∀ s, Tot (f s)) : Tot (Ctl.go c f) := by
 cases c with
 | stop o => exact h1 o rfl
 | next s => exact h2 s
theorem NG {p : List ae} {c : ae} {m : aI} (h : W20 p c m) {s : aQ} (hu : dc s ≤ 1048576) : Tot (jU ⟨p, c, m⟩ s) := by
 have us := za s
 have hp := h.hp
 obtain ⟨v, hv⟩ := rp h s.fX
 unfold jU
 refine aH (Ew _ hu) fun y _ => aJ (fun _ => af _) fun _ => aJ (fun _ => aH (Qj h hu) fun _ _ => af _) fun _ => ?_
 refine Th (fun o ho => ?_) fun x => ?_
 ·rw [hv] at ho
  simp only [vk] at ho
  split at ho
  ·split at ho
   ·cases ho; exact af _
   ·cases ho
  ·cases ho
 ·refine aJ (fun _ => aH (PG h hu _) fun _ _ => af _) fun _ => aH (aJ (fun _ => af _) fun _ => af _) fun _ _ => aJ (fun _ => aH (Nr h hu _) fun _ _ => af _) fun _ => aH (aJ (fun _ => af _) fun _ => af _) fun _ _ => aJ (fun _ => aH (Qt h hu _) fun _ _ => af _) fun _ => aJ (fun _ => aH (rp h _) fun _ _ => aJ (fun _ => af _) fun _ => aH (wy (by simp only; omega) _ _) fun _ _ => af _) fun _ => aH (wQ h.hc h.h1 h.h2 (by omega)) fun _ _ => aJ (fun _ => af _) fun _ => aH (pJ (by simp only; omega) _ _) fun _ _ => af _
theorem Pd {p : List ae} {c : ae} {m : aI} (h : W20 p c m) {s : aQ} (ho : gz ⟨p, c, m⟩ s = some (tW none)) (x : bV) : ∃ r, mg ⟨p, c, m⟩ s x = some r ∧ r ≠ 0 := by
 unfold mg
 obtain ⟨y, hy⟩ := uT h s
 rw [hy, obs]
 by_cases h0 : y.2 = 0
 ·rw [if_neg (by simpa using h0), ho, obs, if_pos (by rfl)]
  exact ⟨12, rfl, by omega⟩
 ·rw [if_pos (by simpa using h0)]
  exact ⟨y.2, rfl, h0⟩
theorem LZ {p : List ae} {c : ae} {m : aI} (h : W20 p c m) {s : aQ} (h4 : s.ab = 4) (h0 : jU ⟨p, c, m⟩ s = some 0) : ∃ x, gz ⟨p, c, m⟩ s = some (tW (some x)) := by
 obtain ⟨o, ho⟩ := Cn h s
 cases o with
 | some x => exact ⟨x, ho⟩
 | none =>
  exfalso
  unfold jU at h0
  cases hr : mF s ((ct.fC ⟨p, c, m⟩).ap.length : Int) with
  | none => rw [hr] at h0; cases h0
  | some b =>
   rw [hr, obs] at h0
   cases b with
   | false => rw [if_pos (show (!false) = true from rfl)] at h0; simp at h0
   | true =>
    rw [if_neg (by simp), if_neg (by simp [h4])] at h0
    have e4 : (s.ab == 4) = true := by simpa using h4
    simp only [e4, if_true] at h0
    obtain ⟨v, hv⟩ := rp h s.fX
    rw [hv] at h0
    simp only [vk] at h0
    have key : ∀ x, (mg ⟨p, c, m⟩ s x).bind (fun (y0 : Int) => some y0) = some 0 → False := by
     intro x hx
     obtain ⟨r, hr1, hr2⟩ := Pd h ho x
     rw [hr1, obs] at hx
     exact hr2 (Option.some.inj hx)
    split at h0
    ·split at h0
     ·rename_i hne
      simp only [Ctl.go, Option.some.injEq] at h0
      simp [h0] at hne
     ·exact key _ h0
    ·exact key _ h0
def QM (f : ce) : Bool := f.dA != 0
theorem Da {l : List ce} (hl : l.length ≤ 1000) : ∀ (n k : Nat), n + k = l.length + 1 → k ≤ l.length → jm l n (k : Int) = some (match (l.drop k).find? QM with | some f => .stop f | none => .next ())
 | 0, k, h, hk => by omega
 | n + 1, k, h, hk => by
  rw [jm]
  by_cases hlt : k < l.length
  ·rw [if_pos (by simpa using hlt), cq hlt, List.drop_eq_getElem_cons hlt]
   simp only [obs]
   by_cases he : QM l[k] = true
   ·have he' : (l[k].dA != 0) = true := he
    rw [if_pos he', List.find?_cons_of_pos he]
   ·have he' : ¬ (l[k].dA != 0) = true := he
    rw [if_neg he', List.find?_cons_of_neg he, bW hlt (by omega)]
    exact Da hl n (k + 1) (by omega) (by omega)
  ·rw [if_neg (by simpa using hlt), List.drop_eq_nil_of_le (by omega)]; rfl
theorem DX {p : List ae} {i : Nat} {c : ae} (hc : p[i]? = some c) (hf : c.cm.length ≤ 40) : ∀ (n k : Nat), n + k = c.cm.length + 1 → k ≤ c.cm.length → Tot (jx p (i : Int) n (k : Int)) := by
 refine dX (jx p (i : Int)) c.cm.length (fun f k hlt ih => ?_) (fun f k hlt => ?_)
 ·simp only [jx]
  rw [gA, hc]
  simp only [obs]
  rw [if_pos (by simpa using hlt), cq hlt]
  simp only [obs]
  rw [dy, obs, bW hlt (by omega)]
  exact aJ (fun _ => af _) fun _ => ih
 ·simp only [jx]
  rw [gA, hc, obs, if_neg (by simpa using hlt)]
  exact af _
theorem DV {p : List ae} (hp : p.length ≤ 1000) (hf : ∀ c ∈ p, c.cm.length ≤ 40) : ∀ (n k : Nat), n + k = p.length + 1 → k ≤ p.length → Tot (gM p n (k : Int)) := by
 refine dX (gM p) p.length (fun f k hlt ih => ?_) (fun f k hlt => ?_)
 ·simp only [gM]
  rw [if_pos (by simpa using hlt), cq hlt]
  simp only [obs, Option.getD_some]
  rw [cB, show (0 : Int) = ((0 : Nat) : Int) from rfl, bW hlt (by omega)]
  exact aH (DX (List.getElem?_eq_getElem hlt) (hf _ (List.getElem_mem hlt)) _ 0 (by omega) (by omega)) fun r _ => fh (fun _ => af _) fun _ => ih
 ·simp only [gM]
  rw [if_neg (by simpa using hlt)]
  exact af _
theorem DD {p : List ae} (hL : Light p) (hu : cW de p ≤ 1048576) : ∃ f : ce, qm p = some f ∧ (f.dA = 0 → (chk p).dA = 0 ∧ ∀ c ∈ p, ∀ m ∈ c.ah, ze p c m = false) := by
 have hp := hL.hp
 have hf : ∀ c ∈ p, c.cm.length ≤ 40 := fun c hc => (hL.hl c hc).2.2.1
 have hq : ∀ c ∈ p, ∀ m ∈ c.ah, m.ap.length ≤ 9223372036854775807 := fun c hc m hm => by have := ((hL.hl c hc).2.2.2.2 m hm).1; omega
 obtain ⟨f13, h1⟩ := Kr (p := p) hu
 obtain ⟨f17, h2, h17'⟩ := CG (p := p) (by omega) hL.ms hq
 obtain ⟨r2, hr2⟩ := DV (by omega) hf (p.length + 1) 0 (by omega) (by omega)
 unfold qm
 obtain ⟨f16, h3⟩ := Mr (p := p) (by omega) hf
 rw [h1, Jx (by omega), h3, h2]
 simp only [obs]
 have e0 : idx [f13] 0 = some f13 := rfl
 rw [e0]
 simp only [obs]
 have fin : ∀ l : List ce, l.length ≤ 10 → ((f13.dA = 0 → (chk p) ∈ l ∧ f17 ∈ l) ∧ f13 ∈ l) → ∃ f : ce, ((jm l ((l.length - 0 : Int).toNat + 1) 0).bind fun lr0 => Ctl.elim lr0 (fun v => some v) fun _ => (gM p ((p.length - 0 : Int).toNat + 1) 0).bind fun lr1 => Ctl.elim lr1 (fun v => some v) fun _ => some bG) = some f ∧ (f.dA = 0 → (chk p).dA = 0 ∧ ∀ c ∈ p, ∀ m ∈ c.ah, ze p c m = false) := by
  intro l hl hm
  rw [cB, cB]
  have e1 : jm l (l.length + 1) 0 = _ := Da (l := l) (by omega) (l.length + 1) 0 (by omega) (by omega)
  have e2 : gM p (p.length + 1) 0 = some r2 := hr2
  rw [e1, e2, List.drop_zero]
  simp only [obs]
  cases hfi : l.find? QM with
  | some f =>
   have := List.find?_some hfi
   refine ⟨f, rfl, fun h => ?_⟩
   unfold QM at this
   simp [h] at this
  | none =>
   have hall := List.find?_eq_none.1 hfi
   have z : ∀ f ∈ l, f.dA = 0 := fun f hf => by have := hall f hf; unfold QM at this; simpa using this
   have z13 := z _ hm.2
   obtain ⟨m1, m2⟩ := hm.1 z13
   have z17 := z _ m2
   have facts : (chk p).dA = 0 ∧ ∀ c ∈ p, ∀ m ∈ c.ah, ze p c m = false := by
    refine ⟨z _ m1, ?_⟩
    rcases h17' with h | ⟨_, h⟩
    ·exact absurd z17 h
    ·exact h
   simp only [Ctl.elim]
   cases r2 with
   | stop f => exact ⟨f, rfl, fun _ => facts⟩
   | next u => exact ⟨_, rfl, fun _ => facts⟩
 by_cases h0 : f13.dA = 0
 ·rw [if_pos (by simpa using h0), lc (by simp), obs]
  simp only [obs]
  exact fin _ (by simp) ⟨fun _ => ⟨by simp, by simp⟩, by simp⟩
 ·rw [if_neg (by simpa using h0)]
  simp only [obs]
  exact fin _ (by simp) ⟨fun h => absurd h h0, by simp⟩
theorem Na {p : List ae} (hL : Light p) : Tot (oY p) := by
 have hp := hL.hp
 unfold oY
 rw [nt (by omega) hL.ms, obs, DI (by omega)]
 simp only [obs]
 exact aJ (fun _ => aJ (fun _ => af _) fun _ => af _) fun _ => af _
theorem Light.w20 {p : List ae} (h : Light p) {x : az} {c : ae} {m : aI} (ha : AtL p x c m) : W20 p c m := by
 have hc := h.hl c ha.memc
 have hm := hc.2.2.2.2 m ha.memm
 have hp := h.hp
 exact ⟨by omega, h.ms, fun c hc => (h.hl c hc).2.2.1, by have := hc.1; omega, by omega, by omega⟩
theorem UD {p : List ae} {x : az} (h : x ∈ lnG 0 p) : dc x.fS ≤ cW de p := by
 obtain ⟨j, c, hj, _, i, m, hi, _, hs⟩ := Kj h
 have uc := dl (u := de) (List.mem_of_getElem? hj)
 have ucp := BW c
 have um := dl (u := dC) (List.mem_of_getElem? hi)
 have ump := Br m
 omega
theorem C7 {p : List ae} (hL : Light p) (hu : cW de p ≤ 1048576) : ∀ (n k : Nat), n + k = (lnG 0 p).length + 1 → k ≤ (lnG 0 p).length →
  (∃ f : ce, ir p (lnG 0 p) n (k : Int) = some (.stop f) ∧ f.dA ≠ 0) ∨ (ir p (lnG 0 p) n (k : Int) = some (.next ()) ∧ ∀ x ∈ (lnG 0 p).drop k, ∀ c m, AtL p x c m → jU ⟨p, c, m⟩ x.fS = some 0)
 | 0, k, h, hk => by omega
 | n + 1, k, h, hk => by
  have hlen := BH p 0
  rw [ir]
  by_cases hlt : k < (lnG 0 p).length
  ·obtain ⟨c, m, ha⟩ := Qw (List.getElem_mem hlt)
   have hsu := UD (List.getElem_mem hlt)
   obtain ⟨r, hr⟩ := NG (hL.w20 ha) (s := (lnG 0 p)[k].fS) (by omega)
   rw [if_pos (by simpa using hlt), cq hlt]
   simp only [obs]
   rw [QL ha]
   simp only [obs]
   rw [hr]
   simp only [obs]
   by_cases h0 : r = 0
   ·subst h0
    rw [if_neg (by simp), bW hlt (by omega)]
    rcases C7 hL hu n (k + 1) (by omega) (by omega) with h1 | ⟨h1, h2⟩
    ·exact .inl h1
    ·refine .inr ⟨h1, fun x hx c' m' h' => ?_⟩
     rw [List.drop_eq_getElem_cons hlt] at hx
     rcases List.mem_cons.1 hx with rfl | hx
     ·have q1 := h'.hc; rw [ha.hc] at q1; cases q1
      have q2 := h'.hm; rw [ha.hm] at q2; cases q2
      exact hr
     ·exact h2 x hx c' m' h'
   ·rw [if_pos (by simpa using h0)]
    exact .inl ⟨_, rfl, h0⟩
  ·rw [if_neg (by simpa using hlt), List.drop_eq_nil_of_le (by omega)]
   exact .inr ⟨rfl, fun x hx => by cases hx⟩
theorem Dm {p : List ae} (hL : Light p) (hu : cW de p ≤ 1048576) : ∃ f : ce, qy p = some f ∧ (f.dA = 0 → (chk p).dA = 0 ∧ (∀ c ∈ p, ∀ m ∈ c.ah, ze p c m = false) ∧ ∀ x ∈ lnG 0 p, ∀ c m, AtL p x c m → jU ⟨p, c, m⟩ x.fS = some 0) := by
 obtain ⟨f, h1, h2⟩ := DD hL hu
 unfold qy
 rw [h1, obs]
 by_cases h0 : f.dA = 0
 ·obtain ⟨b, hb⟩ := Na hL
  rw [if_neg (by simpa using h0), vq hu, obs, cB, hb]
  rcases C7 hL hu ((lnG 0 p).length + 1) 0 (by omega) (by omega) with ⟨g, h3, h4⟩ | ⟨h3, h4⟩
  ·have e : ir p (lnG 0 p) ((lnG 0 p).length + 1) 0 = _ := h3
   rw [e, obs]
   exact ⟨g, rfl, fun h => absurd h h4⟩
  ·have e : ir p (lnG 0 p) ((lnG 0 p).length + 1) 0 = _ := h3
   rw [e]
   simp only [obs, Ctl.elim]
   rw [List.drop_zero] at h4
   obtain ⟨h5, h6⟩ := h2 h0
   cases b with
   | true => exact ⟨_, rfl, fun _ => ⟨h5, h6, h4⟩⟩
   | false => exact ⟨_, rfl, fun h => by simp at h⟩
 ·rw [if_pos (by simpa using h0)]
  exact ⟨f, rfl, fun h => absurd h h0⟩
theorem Ly {p : List ae} {name : List UInt8} : ∀ {l : List Nat} {x : List UInt8 × aI}, lL p name l = some x → ∃ i ∈ l, ∃ c, p[i]? = some c ∧ c.ax = x.1 ∧ x.2 ∈ c.ah ∧ x.2.ax = name
 | [], x, h => by cases h
 | i :: r, x, h => by
  simp only [lL] at h
  split at h
  ·rename_i c hc
   split at h
   ·rename_i m hm
    cases h
    unfold Kc at hm
    exact ⟨i, by simp, c, hc, rfl, List.mem_of_find?_eq_some hm, by have := List.find?_some hm; simpa using this⟩
   ·obtain ⟨j, hj, r⟩ := Ly h
    exact ⟨j, by simp [hj], r⟩
  ·cases h
theorem LY {p : List ae} (hchk : (chk p).dA = 0) (hbad : ∀ c ∈ p, ∀ m ∈ c.ah, ze p c m = false) {N b : List UInt8} {j : Nat} (hb : fi p b = some j) {x : List UInt8 × aI} (hx : lL p N (upN p (p.length + 1) b) = some x) :
  ∀ (n : Nat) (a : List UInt8), (upN p (p.length + 1) a).length = n → j ∈ upN p (p.length + 1) a → ∃ y, lL p N (upN p (p.length + 1) a) = some y ∧ ug y.2 x.2 = true ∧ bel p y.1 x.1 = true
 | 0, a, hl, hm => by rw [List.length_eq_zero_iff.1 hl] at hm; cases hm
 | n + 1, a, hl, hm => by
  obtain ⟨i, hi⟩ : ∃ i, fi p a = some i := by
   cases h : fi p a with
   | some i => exact ⟨i, rfl⟩
   | none => simp only [upN, h] at hm; cases hm
  have hac := Jg hchk hi
  -- where the found class stands
  obtain ⟨e, he, c, hc, hcn, hcm, _⟩ := Ly hx
  have hfe : fi p x.1 = some e := by
   obtain ⟨_, _, _, _, _, _, k7, _⟩ := pj p b
   obtain ⟨_, nm, hnm⟩ := k7 e (Ju.1 he)
   obtain ⟨c', hc', hn'⟩ := sI hnm
   rw [hc] at hc'; cases hc'
   rw [← hcn, hn']; exact hnm
  obtain ⟨pre, hpre, hnp⟩ := O4 (p.length + 1) a b j hac hm hb
  have hea : e ∈ upN p (p.length + 1) a := by rw [hpre]; simp [he]
  by_cases hij : i = j
  ·subst hij
   have : upN p (p.length + 1) a = upN p (p.length + 1) b := JX (by rw [hi, hb]) _
   rw [this]
   refine ⟨x, hx, Pm _, ?_⟩
   unfold bel
   rw [hfe]
   obtain ⟨_, _, _, k4, _⟩ := pj p x.1
   exact decide_eq_true (k4 e hfe)
  ·have ht := Eb (n := p.length) hi
   obtain ⟨ci, hci, hcin⟩ := sI hi
   by_cases hs : (sup p i == []) = true
   ·rw [ht, if_pos hs] at hm
    simp at hm; exact absurd hm.symm hij
   ·rw [if_neg hs] at ht
    have hlen : (upN p p.length (sup p i)).length < p.length := by rw [ht] at hac; simp only [List.length_cons] at hac; omega
    have hup : upN p (p.length + 1) (sup p i) = upN p p.length (sup p i) := ua _ _ hlen
    rw [← hup] at ht
    have hm' : j ∈ upN p (p.length + 1) (sup p i) := by
     rw [ht] at hm; exact (List.mem_cons.1 hm).resolve_left (fun h => hij h.symm)
    obtain ⟨y', h1, h2, h3⟩ := LY hchk hbad hb hx n (sup p i) (by rw [ht] at hl; simpa using hl) hm'
    have hch : ch p ci.ax = i :: upN p (p.length + 1) (sup p i) := by rw [hcin, Qe hac, ht]
    rw [ht]
    simp only [lL, hci]
    cases hme : Kc ci N with
    | none => exact ⟨y', h1, h2, h3⟩
    | some m =>
     refine ⟨(ci.ax, m), rfl, ?_, ?_⟩
     ·unfold Kc at hme
      have hmm := List.mem_of_find?_eq_some hme
      have hmn : m.ax = N := by have := List.find?_some hme; simpa using this
      have hbm := hbad ci (List.mem_of_getElem? hci) m hmm
      unfold ze at hbm
      rw [hmn, hch, List.drop_succ_cons, List.drop_zero, h1] at hbm
      exact Nc (by simpa using hbm) h2
     ·unfold bel
      rw [hfe]
      exact decide_eq_true (by rw [hcin]; exact Ju.1 hea)
theorem Qg {p : List ae} (hchk : (chk p).dA = 0) (hbad : ∀ c ∈ p, ∀ m ∈ c.ah, ze p c m = false) {N a b : List UInt8} {x : List UInt8 × aI} (hx : lL p N (ch p b) = some x) (hb : bel p a b = true) : ∃ y, lL p N (ch p a) = some y ∧ ug y.2 x.2 = true := by
 unfold bel at hb
 cases hj : fi p b with
 | none => rw [hj] at hb; cases hb
 | some j =>
  rw [hj] at hb
  have hm : j ∈ ch p a := of_decide_eq_true hb
  obtain ⟨i, hi⟩ : ∃ i, fi p a = some i := by
   cases h : fi p a with
   | some i => exact ⟨i, rfl⟩
   | none =>
    have : ch p a = [] := by unfold ch chN; rw [h]
    rw [this] at hm; simp at hm
  have ha1 := Jg hchk hi
  have ha2 := Jg hchk hj
  obtain ⟨y, hy, hfit, _⟩ := LY hchk hbad hj (x := x) (N := N) (by rw [← Qe ha2]; exact hx) _ a rfl (Ju.2 hm)
  exact ⟨y, by rw [Qe ha1, hy], hfit⟩
theorem IC {a b : aI} (h : ug a b = true) (hb : b.eN = true) : a.eN = true := by
 unfold ug at h
 simp only [Bool.and_eq_true, Bool.or_eq_true, Bool.not_eq_true'] at h
 exact h.1.resolve_right (by simp [hb])
theorem QV {i : Int} {y : Int × aQ} : ∀ {l : List aI} {k j : Nat} {m : aI}, l[j]? = some m → y ∈ dI 0 m.bM → (⟨i, ((k + j : Nat) : Int), y.1, y.2⟩ : az) ∈ lnF i k l
 | [], k, j, m, h, _ => by simp at h
 | x :: l, k, j, m, h, hy => by
  simp only [lnF, List.mem_append]
  cases j with
  | zero =>
   simp only [List.getElem?_cons_zero, Option.some.injEq] at h
   subst h
   exact .inl (List.mem_map.2 ⟨y, hy, rfl⟩)
  | succ j =>
   refine .inr ?_
   have := QV (i := i) (y := y) (l := l) (k := k + 1) (j := j) (m := m) (by simpa using h) hy
   rwa [show k + 1 + j = k + (j + 1) by omega] at this
theorem Rl {y : Int × aQ} {j : Nat} {m : aI} : ∀ {l : List ae} {k i : Nat} {c : ae}, l[i]? = some c → c.ah[j]? = some m → y ∈ dI 0 m.bM → (⟨((k + i : Nat) : Int), (j : Int), y.1, y.2⟩ : az) ∈ lnG k l
 | [], k, i, c, h, _, _ => by simp at h
 | x :: l, k, i, c, h, hm, hy => by
  simp only [lnG, List.mem_append]
  cases i with
  | zero =>
   simp only [List.getElem?_cons_zero, Option.some.injEq] at h
   subst h
   refine .inl ?_
   have := QV (i := (k : Int)) (k := 0) hm hy
   rwa [show 0 + j = j by omega] at this
  | succ i =>
   refine .inr ?_
   have := Rl (l := l) (k := k + 1) (i := i) (c := c) (by simpa using h) hm hy
   rwa [show k + 1 + i = k + (i + 1) by omega] at this
theorem IL {p : List ae} {a : A2 Int} {i k : Nat} {c : ae} {m : aI} (h : Spot p a i k c m) {y : Int × aQ} (hy : y ∈ dI 0 m.bM) : ∃ x ∈ lnG 0 p, x.fS = y.2 ∧ AtL p x c m := by
 have := Rl (k := 0) h.hc h.hm hy
 refine ⟨_, this, rfl, ?_, ?_, List.mem_of_getElem? h.hc, List.mem_of_getElem? h.hm⟩
 ·simp only [Nat.zero_add, gA]; exact h.hc
 ·simp only [gA]; exact h.hm
theorem Lj {p : List ae} (hL : Light p) {c : ae} {m : aI} {s : aQ} {r : bV × Bool} (hr : kZ c m s.fY = some r) (h2 : r.2 = true) (h4 : s.ab = 4) (hk : r.1.ab = 2) : gz ⟨p, c, m⟩ s = some (tW (lL p s.ax (ch p r.1.aq))) := by
 have hp := hL.hp
 unfold gz il
 simp only
 rw [hr]
 simp only [obs]
 rw [if_neg (by simp [h2]), if_neg (by simp [hk]), dy]
 simp only [obs]
 have e : (if QJ r.1 = true then some (s.ab != 4) else some false : Option Bool) = some false := by split <;> simp [h4]
 rw [e]
 simp only [obs]
 rw [if_neg (by simp)]
 simp only [obs]
 rw [if_neg (by simp)]
 simp only [obs]
 rw [if_neg (by simp [h4]), nt (by omega) hL.ms]
 rfl
structure Sound (p : List ae) : Prop where
 light : Light p
 chk : (chk p).dA = 0
 bad : ∀ c ∈ p, ∀ m ∈ c.ah, ze p c m = false
 st : ∀ x ∈ lnG 0 p, ∀ c m, AtL p x c m → jU ⟨p, c, m⟩ x.fS = some 0
 pu : ∀ x ∈ lnG 0 p, ∀ c m, AtL p x c m → m.eN = true → jF p c m x.fS = some false
theorem QA {p : List ae} (hS : Sound p) {q0 : List UInt8 × List UInt8} {x : List UInt8 × aI} (hx : lL p q0.2 (ch p q0.1) = some x) (hp : x.2.eN = true) {a : A2 Int} (ha : Rch p q0 a) : ∀ i k c m, Spot p a i k c m → m.eN = true := by
 induction ha with
 | @start c' b hc ht =>
  intro i k c m hsp
  obtain ⟨y, i', k', c2, hb, hy, _, hsp', _⟩ := DM ht
  obtain ⟨y', h1, h2⟩ := Qg hS.chk hS.bad hx hb
  rw [hy] at h1; cases h1
  obtain ⟨_, _, _, rfl⟩ := hsp.fn hsp'
  exact IC h2 hp
 | @step a i0 k0 c0 m0 q c' b h1 h2 h3 h4 h5 ih =>
  intro i k c m hsp
  have hpm := ih _ _ _ _ h2
  obtain ⟨y, hy, hq⟩ := List.mem_filterMap.1 h3
  obtain ⟨l, hl, els, hat⟩ := IL h2 hy
  unfold tp at hq
  split at hq
  ·rename_i r hr
   split at hq
   ·rename_i hcond
    cases hq
    have hcal := Lj hS.light hr hcond.1 hcond.2.1 hcond.2.2
    have hst := hS.st l hl _ _ hat
    rw [els] at hst
    obtain ⟨z, hz⟩ := LZ (hS.light.w20 hat) hcond.2.1 hst
    rw [hcal] at hz
    have hfz : lL p y.2.ax (ch p r.1.aq) = some z := by
     cases hf : lL p y.2.ax (ch p r.1.aq) with
     | none => rw [hf] at hz; simp [tW] at hz
     | some z' =>
      rw [hf] at hz
      simp only [tW, Option.some.injEq, Prod.mk.injEq, cn.mk.injEq, and_true] at hz
      obtain ⟨e1, e2⟩ := hz
      cases z; cases z'
      simp only at e1 e2
      rw [e1, e2]
    have hzp : z.2.eN = true := by
     obtain ⟨o, g1, g2⟩ := hS.light.one hat
     have g3 := hS.pu l hl _ _ hat hpm
     rw [g1] at g3
     have g4 : Nk l.fS o = false := Option.some.inj g3
     rw [els, hcal, hfz] at g2
     cases o with
     | none => simp [tW] at g2
     | some z' =>
      simp only [tW, Option.some.injEq, Prod.mk.injEq, cn.mk.injEq, and_true] at g2
      unfold Nk at g4
      simp only [Bool.or_eq_false_iff, Bool.not_eq_false'] at g4
      rw [g2.2]; exact g4.2
    obtain ⟨w, i', k', c2, hb, hw, _, hsp', _⟩ := DM h5
    obtain ⟨w', g1, g2⟩ := Qg hS.chk hS.bad hfz hb
    rw [hw] at g1; cases g1
    obtain ⟨_, _, _, rfl⟩ := hsp.fn hsp'
    exact IC g2 hzp
   ·cases hq
  ·cases hq
theorem PO {p : List ae} {q0 : List UInt8 × List UInt8} {x : List UInt8 × aI} (hx : lL p q0.2 (ch p q0.1) = some x) : ∃ a, Rch p q0 a := by
 obtain ⟨i, hi⟩ : ∃ i, fi p q0.1 = some i := by
  cases h : fi p q0.1 with
  | some i => exact ⟨i, rfl⟩
  | none =>
   have : ch p q0.1 = [] := by unfold ch chN; rw [h]
   rw [this] at hx; cases hx
 obtain ⟨c, hc, hn⟩ := sI hi
 have hb : bel p c.ax q0.1 = true := by
  unfold bel
  rw [hi]
  obtain ⟨_, _, _, k4, _⟩ := pj p q0.1
  exact decide_eq_true (by rw [hn]; exact k4 i hi)
 exact ⟨Nf p q0.2 x, .start (List.mem_of_getElem? hc) (by unfold tgt; rw [if_pos hb, hn, hx]; rfl)⟩
theorem PM {l : List az} (hl : l.length ≤ 4000000) (hk : ∀ x ∈ l, ¬ (x.fS.ab = 3 ∨ x.fS.ab = 7 ∨ x.fS.ab = 8)) : ∀ (n k : Nat), n + k = l.length + 1 → k ≤ l.length → ji l n (k : Int) = some (.next ())
 | 0, k, h, hk => by omega
 | n + 1, k, h, hk' => by
  rw [ji]
  by_cases hlt : k < l.length
  ·have h1 := hk _ (List.getElem_mem hlt)
   rw [if_pos (by simpa using hlt), cq hlt]
   simp only [obs]
   rw [if_neg (by simpa using fun e => h1 (.inl e)), if_neg (by simpa using fun e => h1 (.inr (.inl e)))]
   simp only [obs]
   rw [if_neg (by simpa using fun e => h1 (.inr (.inr e))), bW hlt (by omega)]
   exact PM hl hk n (k + 1) (by omega) (by omega)
  ·rw [if_neg (by simpa using hlt)]
theorem Qf {p : List ae} (hS : Sound p) (hu : cW de p ≤ 1048576) (C : List UInt8) {r : List (A2 Int)} (hr : r.length ≤ 4000000) (hm : ∀ a ∈ r, ∃ i k c m, Spot p a i k c m ∧ m.eN = true) : ∀ (n k : Nat), n + k = r.length + 1 → k ≤ r.length → jf p C r n (k : Int) = some (.next ())
 | 0, k, h, hk => by omega
 | n + 1, k, h, hk => by
  rw [jf]
  by_cases hlt : k < r.length
  ·obtain ⟨i, j, c, m, hsp, hpu⟩ := hm _ (List.getElem_mem hlt)
   have hx0 : idx p (r[k]).a0 = some c := by rw [hsp.e]; simp only [gA]; exact hsp.hc
   have hx1 : idx c.ah (r[k]).a1 = some m := by rw [hsp.e]; simp only [gA]; exact hsp.hm
   obtain ⟨hj, _⟩ := List.getElem?_eq_some_iff.1 hsp.hm
   have hlt1 : ¬ (r[k]).a1 ≥ (c.ah.length : Int) := by rw [hsp.e]; simp only; omega
   rw [if_pos (by simpa using hlt), cq hlt]
   simp only [obs]
   rw [hx0]
   simp only [obs]
   rw [if_neg (by simpa using hlt1), hx1]
   simp only [obs]
   rw [if_neg (by simp [hpu])]
   have hcm := List.mem_of_getElem? hsp.hc
   have hmm := List.mem_of_getElem? hsp.hm
   have uc := dl (u := de) hcm
   have um := dl (u := dC) hmm
   have hu1 : cW de [({ c with ah := [m] } : ae)] ≤ 1048576 := by
    have e : de ({ c with ah := [m] } : ae) + cW dC c.ah = de c + dC m := by
     unfold de
     simp only [cW]
     omega
    simp only [cW]
    omega
   rw [vq hu1]
   simp only [obs]
   have e1 : lnG 0 [({ c with ah := [m] } : ae)] = lnM 0 0 m := by simp [lnG, lnF]
   have hlen : (lnM 0 0 m).length ≤ 4000000 := by
    have := BH [({ c with ah := [m] } : ae)] 0
    rw [e1] at this; omega
   have e2 : ji (lnM 0 0 m) ((lnM 0 0 m).length + 1) 0 = some (.next ()) := PM hlen (fun x hx => by
    obtain ⟨y, hy, rfl⟩ := List.mem_map.1 hx
    obtain ⟨l, hl, els, hat⟩ := IL hsp hy
    obtain ⟨o, g1, _⟩ := hS.light.one hat
    have g3 := hS.pu l hl _ _ hat hpu
    rw [g1] at g3
    have g4 : Nk l.fS o = false := Option.some.inj g3
    unfold Nk at g4
    rw [els] at g4
    simp only [Bool.or_eq_false_iff, decide_eq_false_iff_not] at g4
    exact g4.1) _ 0 (by omega) (by omega)
   rw [e1, cB, e2]
   simp only [obs, Ctl.elim]
   rw [bW hlt (by omega)]
   exact Qf hS hu C hr hm n (k + 1) (by omega) (by omega)
  ·rw [if_neg (by simpa using hlt)]
theorem yo {a0 : List ae} {a1 a2 : List UInt8} (h0 : jD (fun y => rM y) a0) (_h1 : sv a1) (_h2 : sv a2) (hu : cW de a0 ≤ 1048576) : qi a0 a1 a2 = some true := by
 have haw := Fk
 unfold qi
 obtain ⟨b1, hb1, hb2⟩ := Pk h0
 rw [hb1, obs]
 cases b1 with
 | true => rw [if_pos rfl, obs, if_pos rfl, haw]; rfl
 | false =>
  obtain ⟨q1, q2⟩ := hb2 rfl
  have hL : Light a0 := ⟨q1, q2⟩
  have hp := hL.hp
  obtain ⟨f, hf1, hf2⟩ := Dm hL hu
  obtain ⟨g, hg1, hg2⟩ := E6 hL hu
  rw [if_neg (by simp), hf1, obs]
  by_cases e0 : f.dA = 0
  case neg => rw [if_pos (by simpa using e0), obs, if_pos rfl, haw]; rfl
  rw [if_neg (by simpa using e0), hg1, obs, obs]
  by_cases e1 : g.dA = 0
  case neg => rw [if_pos (by simpa using e1), haw]; rfl
  rw [if_neg (by simpa using e1)]
  obtain ⟨s1, s2, s3⟩ := hf2 e0
  have hS : Sound a0 := ⟨hL, s1, s2, s3, hg2 e1⟩
  obtain ⟨r, r1, r2, r3, r4⟩ := JL hL hu a1 a2
  rw [nt (by omega) hL.ms, obs, r1, obs]
  cases hx : lL a0 a2 (ch a0 a1) with
  | none =>
   simp only [tW, Bool.not_false, if_true, obs]
   split
   ·rw [haw]; rfl
   ·rw [haw]; rfl
  | some x =>
   obtain ⟨a, ha⟩ := PO (q0 := (a1, a2)) hx
   have hne : 0 < r.length := List.length_pos_of_mem ((r4 a).2 ha)
   simp only [tW, Bool.not_true, Bool.false_eq_true, if_false, obs]
   by_cases hpu : x.2.eN = true
   ·rw [if_neg (by simp [hpu]), if_neg (by simp only [beq_iff_eq]; omega)]
    have hL1 := Qf hS hu a1 (r := r) (by omega) (fun b hb => by
     have hb' := (r4 b).1 hb
     obtain ⟨i, k, c, m, hsp⟩ := hb'.val
     exact ⟨i, k, c, m, hsp, QA hS (q0 := (a1, a2)) hx hpu hb' _ _ _ _ hsp⟩) (r.length + 1) 0 (by omega) (by omega)
    have hL1' : jf a0 a1 r (r.length + 1) 0 = some (.next ()) := hL1
    rw [cB, hL1']
    simp only [obs, Ctl.elim]
    rw [haw]; rfl
   ·rw [if_pos (by simp [hpu]), if_pos (by simp only [beq_iff_eq]; symm; rw [decide_eq_true_eq]; omega), haw]; rfl
end Go.Proofs.YtiefoagopfeibaaGreat
