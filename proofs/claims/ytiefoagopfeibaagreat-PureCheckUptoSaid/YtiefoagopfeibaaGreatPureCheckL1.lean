/- A part of the proof that the law PureCheck gives true for every input. -/
import Derived.Test.YtiefoagopfeibaaGreatPureCheckA2
import Derived.Test.YtiefoagopfeibaaGreatPureCheckA3
import Derived.Test.YtiefoagopfeibaaGreatPureCheckT
import Derived.Test.YtiefoagopfeibaaGreatPureCheckA4
import Derived.Test.YtiefoagopfeibaaGreatPureCheckI
import Derived.Test.YtiefoagopfeibaaGreatPureCheckD
/- The plain law. -/
namespace Go.Proofs.YtiefoagopfeibaaGreat
open Go.RowKit Go.Abs
def Tot {α : Type} (o : Option α) : Prop := ∃ r, o = some r
theorem tot_some {α : Type} (x : α) : Tot (some x) := ⟨x, rfl⟩
theorem tot_bind {α β : Type} {a : Option α} {f : α → Option β} (h : Tot a) (h2 : ∀ x, a = some x → Tot (f x)) : Tot (Option.bind a f) := by
 obtain ⟨x, rfl⟩ := h
 exact h2 x rfl
theorem tot_ite {α : Type} {b : Bool} {x y : Option α} (h1 : b = true → Tot x) (h2 : b = false → Tot y) : Tot (if b = true then x else y) := by
 cases b with
 | true => exact h1 rfl
 | false => exact h2 rfl
theorem tot_elim {R S α : Type} {r : Ctl R S} {f : R → Option α} {g : S → Option α} (h1 : ∀ v, Tot (f v)) (h2 : ∀ s, Tot (g s)) : Tot (Ctl.elim r f g) := by
 cases r with
 | stop v => exact h1 v
 | next s => exact h2 s
theorem tot_loop1 {ρ : Type} (F : Nat → Int → Option ρ) (len : Nat) (h1 : ∀ (n k : Nat), k < len → Tot (F n ((k + 1 : Nat) : Int)) → Tot (F (n + 1) (k : Int))) (h2 : ∀ (n k : Nat), ¬ k < len → Tot (F (n + 1) (k : Int))) :
  ∀ (n k : Nat), n + k = len + 1 → k ≤ len → Tot (F n (k : Int))
 | 0, k, h, hk => by omega
 | n + 1, k, h, hk => by
  by_cases hlt : k < len
  ·exact h1 n k hlt (tot_loop1 F len h1 h2 n (k + 1) (by omega) (by omega))
  ·exact h2 n k hlt
theorem tot_loop2 {σ ρ : Type} (F : Nat → σ → Int → Option ρ) (len : Nat) (h1 : ∀ (n k : Nat) (s : σ), k < len → (∀ s', Tot (F n s' ((k + 1 : Nat) : Int))) → Tot (F (n + 1) s (k : Int))) (h2 : ∀ (n k : Nat) (s : σ), ¬ k < len → Tot (F (n + 1) s (k : Int))) :
  ∀ (n k : Nat) (s : σ), n + k = len + 1 → k ≤ len → Tot (F n s (k : Int))
 | 0, k, s, h, hk => by omega
 | n + 1, k, s, h, hk => by
  by_cases hlt : k < len
  ·exact h1 n k s hlt (fun s' => tot_loop2 F len h1 h2 n (k + 1) s' (by omega) (by omega))
  ·exact h2 n k s hlt
theorem fuel_len (m : Nat) : (((m : Int) : Int) - (0)).toNat + 1 = m + 1 := by omega
theorem lsum_mem {α : Type} {u : α → Nat} {l : List α} {y : α} : y ∈ l → u y ≤ lsum u l := by
 induction l with
 | nil => intro h; simp at h
 | cons x l ih =>
  intro h
  simp only [lsum]
  rcases List.mem_cons.1 h with rfl | h
  ·omega
  ·have := ih h; omega
theorem len_lsum {α : Type} {u : α → Nat} (h : ∀ y, 1 ≤ u y) : ∀ l : List α, l.length ≤ lsum u l
 | [] => Nat.le_refl _
 | x :: l => by simp only [lsum, List.length_cons]; have := h x; have := len_lsum h l; omega
theorem lsum_le {α : Type} {u v : α → Nat} : ∀ {l : List α}, (∀ y ∈ l, u y ≤ v y) → lsum u l ≤ lsum v l
 | [], _ => Nat.le_refl _
 | x :: l, h => by simp only [lsum]; have := h x (by simp); have := lsum_le (l := l) (fun y hy => h y (by simp [hy])); omega
theorem lsum_drop {α : Type} (u : α → Nat) {l : List α} {k : Nat} (h : k < l.length) : lsum u (l.drop k) = u l[k] + lsum u (l.drop (k + 1)) := by rw [List.drop_eq_getElem_cons h]; rfl
theorem uE_p (x : GExpr) : x.fName.length < uGExpr x ∧ lsum uGExpr x.fKids < uGExpr x := by rw [uGExpr_eq]; omega
theorem uS_p (x : GStmt) : x.fX.length < uGStmt x ∧ x.fY.length < uGStmt x ∧ x.fName.length < uGStmt x ∧ uGType x.fType < uGStmt x ∧ uGExpr x.fE < uGStmt x ∧ lsum uGExpr x.fArgs < uGStmt x ∧ 1 + lsum uGStmt x.fBody + lsum uGStmt x.fElse < uGStmt x := by rw [uGStmt_eq]; omega
theorem uM_p (x : GMethod) : x.fName.length < uGMethod x ∧ uGType x.fRet < uGMethod x ∧ 1 + lsum uGVar x.fParams + lsum uGVar x.fLocals + lsum uGStmt x.fBody < uGMethod x := by unfold uGMethod; omega
theorem uC_p (x : GClass) : x.fName.length < uGClass x ∧ lsum (fun s => List.length s + 1) x.fParams < uGClass x ∧ x.fSuper.length < uGClass x ∧ lsum uGOwner x.fAbove < uGClass x ∧ lsum uGVar x.fFields + lsum uGMethod x.fMethods < uGClass x := by unfold uGClass; omega
theorem mLE_sum : ∀ l : List GExpr, mLGExpr l = lsum mGExpr l
 | [] => by simp only [mLGExpr, lsum]
 | x :: l => by simp only [mLGExpr, lsum, mLE_sum l]
theorem mLS_sum : ∀ l : List GStmt, mLGStmt l = lsum mGStmt l
 | [] => by simp only [mLGStmt, lsum]
 | x :: l => by simp only [mLGStmt, lsum, mLS_sum l]
theorem mE_eq (e : GExpr) : mGExpr e = 1 + lsum mGExpr e.fKids := by rw [← mLE_sum]; cases e; simp only [mGExpr]
theorem mS_eq (e : GStmt) : mGStmt e = 1 + mGExpr e.fE + lsum mGExpr e.fArgs + lsum mGStmt e.fBody + lsum mGStmt e.fElse := by rw [← mLS_sum, ← mLS_sum, ← mLE_sum]; cases e; simp only [mGStmt]
theorem mE_u : ∀ (n : Nat) (e : GExpr), mGExpr e ≤ n → mGExpr e ≤ uGExpr e
 | 0, e, h => by rw [mE_eq] at h; omega
 | n + 1, e, h => by
  rw [mE_eq] at h
  rw [mE_eq]
  have := (uE_p e).2
  have := lsum_le (u := mGExpr) (v := uGExpr) (l := e.fKids) (fun y hy => mE_u n y (by have := lsum_mem (u := mGExpr) hy; omega))
  omega
theorem mE_le (e : GExpr) : mGExpr e ≤ uGExpr e := mE_u _ e (Nat.le_refl _)
theorem mS_u : ∀ (n : Nat) (e : GStmt), mGStmt e ≤ n → mGStmt e ≤ uGStmt e
 | 0, e, h => by rw [mS_eq] at h; omega
 | n + 1, e, h => by
  rw [mS_eq] at h
  rw [mS_eq, uGStmt_eq]
  have h1 := lsum_le (u := mGExpr) (v := uGExpr) (l := e.fArgs) (fun y _ => mE_le y)
  have h2 := lsum_le (u := mGStmt) (v := uGStmt) (l := e.fBody) (fun y hy => mS_u n y (by have := lsum_mem (u := mGStmt) hy; omega))
  have h3 := lsum_le (u := mGStmt) (v := uGStmt) (l := e.fElse) (fun y hy => mS_u n y (by have := lsum_mem (u := mGStmt) hy; omega))
  have h4 := mE_le e.fE
  omega
theorem mS_le (e : GStmt) : mGStmt e ≤ uGStmt e := mS_u _ e (Nat.le_refl _)
theorem mS5 : ∀ (n : Nat) (e : GStmt), mGStmt e ≤ n → 2 * mGStmt e ≤ uGStmt e
 | 0, e, h => by have := mS_eq e; omega
 | n + 1, e, h => by
  have h1 : ∀ l : List GStmt, lsum mGStmt l ≤ n → 2 * lsum mGStmt l ≤ lsum uGStmt l := by
   intro l
   induction l with
   | nil => intro _; simp [lsum]
   | cons x l ih =>
    intro h
    simp only [lsum] at h ⊢
    have := mS5 n x (by omega)
    have := ih (by omega)
    omega
  have hE : ∀ (k : Nat) (e : GExpr), mGExpr e ≤ k → 2 * mGExpr e ≤ uGExpr e := by
   intro k
   induction k with
   | zero => intro e h; have := mE_eq e; omega
   | succ k ihk =>
    intro e h
    have hL : ∀ l : List GExpr, lsum mGExpr l ≤ k → 2 * lsum mGExpr l ≤ lsum uGExpr l := by
     intro l
     induction l with
     | nil => intro _; simp [lsum]
     | cons x l ih =>
      intro h
      simp only [lsum] at h ⊢
      have := ihk x (by omega)
      have := ih (by omega)
      omega
    have h2 := mE_eq e
    have h3 := hL e.fKids (by omega)
    rw [uGExpr_eq, h2]; omega
  have hLE : ∀ l : List GExpr, 2 * lsum mGExpr l ≤ lsum uGExpr l := by
   intro l
   induction l with
   | nil => simp [lsum]
   | cons x l ih => simp only [lsum]; have := hE _ x (Nat.le_refl _); omega
  have h2 := mS_eq e
  have h3 := h1 e.fBody (by omega)
  have h4 := h1 e.fElse (by omega)
  have h5 := hE _ e.fE (Nat.le_refl _)
  have h6 := hLE e.fArgs
  rw [uGStmt_eq, h2]; omega
theorem mL5 (l : List GStmt) : 2 * mLGStmt l ≤ lsum uGStmt l := by
 rw [mLS_sum]
 induction l with
 | nil => simp [lsum]
 | cons x l ih => simp only [lsum]; have := mS5 _ x (Nat.le_refl _); omega
theorem mE_mem {l : List GExpr} {e : GExpr} : e ∈ l → mGExpr e ≤ mLGExpr l := by
 induction l with
 | nil => intro h; simp at h
 | cons x l ih =>
  intro h
  simp only [mLGExpr]
  rcases List.mem_cons.1 h with rfl | h
  ·omega
  ·have := ih h; omega
theorem mS_mem {l : List GStmt} {e : GStmt} : e ∈ l → mGStmt e ≤ mLGStmt l := by
 induction l with
 | nil => intro h; simp at h
 | cons x l ih =>
  intro h
  simp only [mLGStmt]
  rcases List.mem_cons.1 h with rfl | h
  ·omega
  ·have := ih h; omega
theorem hE_eq (e : GExpr) : mGExpr e = 1 + mLGExpr e.fKids := by cases e; simp only [mGExpr]
theorem hS_eq (e : GStmt) : mGStmt e = 1 + mGExpr e.fE + mLGExpr e.fArgs + mLGStmt e.fBody + mLGStmt e.fElse := by cases e; simp only [mGStmt]
theorem goodE {e : GExpr} (h : goodGExpr e) : e.fKids.length ≤ maxLen ∧ ∀ y ∈ e.fKids, goodGExpr y := by cases h; exact ⟨by assumption, by assumption⟩
theorem goodS {e : GStmt} (h : goodGStmt e) : goodGExpr e.fE ∧ listok (fun y => goodGExpr y) e.fArgs ∧ (e.fBody.length ≤ maxLen ∧ ∀ y ∈ e.fBody, goodGStmt y) ∧ (e.fElse.length ≤ maxLen ∧ ∀ y ∈ e.fElse, goodGStmt y) := by
 cases h
 exact ⟨by assumption, by assumption, ⟨by assumption, by assumption⟩, ⟨by assumption, by assumption⟩⟩
theorem tot_kids : ∀ (n : Nat) (e : GExpr) (d : Int), goodGExpr e → mGExpr e < n → Tot (ref10_kids n e d)
 | 0, e, d, _, h => by omega
 | n + 1, e, d, hg, hm => by
  obtain ⟨hl, hk⟩ := goodE hg
  simp only [maxLen] at hl
  simp only [ref10_kids, fuel_len]
  refine tot_bind (tot_ite (fun _ => tot_some _) (fun _ => tot_some _)) fun x _ => tot_ite (fun _ => tot_some _) fun _ => ?_
  refine tot_bind ?_ fun lr _ => tot_elim (fun v => tot_some _) (fun _ => tot_some _)
  refine tot_loop1 (ref10_kids_L1 e d (ref10_kids n)) e.fKids.length (fun m k hlt ih => ?_) (fun m k hlt => ?_) _ 0 (by omega) (by omega)
  ·simp only [ref10_kids_L1]
   rw [if_pos (by simpa using hlt), idx_lt hlt, w64_succ hlt (by omega)]
   simp only [obs]
   have hmem := List.getElem_mem hlt
   have h1 := mE_mem hmem
   rw [hE_eq] at hm
   refine tot_bind (tot_kids n _ _ (hk _ hmem) (by omega)) fun y _ => tot_ite (fun _ => tot_some _) fun _ => ih
  ·simp only [ref10_kids_L1]
   rw [if_neg (by simpa using hlt)]
   exact tot_some _
theorem tot_much : ∀ (n : Nat) (e : GStmt) (d : Int), goodGStmt e → mGStmt e < n → Tot (ref10_much n e d)
 | 0, e, d, _, h => by omega
 | n + 1, e, d, hg, hm => by
  obtain ⟨hE, ⟨hal, ha⟩, ⟨hbl, hb⟩, ⟨hll, hl⟩⟩ := goodS hg
  simp only [maxLen] at hal hbl hll
  rw [hS_eq] at hm
  simp only [ref10_much, fuel_len]
  refine tot_bind ?_ fun x _ => tot_ite (fun _ => tot_some _) fun _ => ?_
  ·exact tot_ite (fun _ => tot_some _) fun _ => tot_ite (fun _ => tot_some _) fun _ => tot_ite (fun _ => tot_some _) fun _ => tot_ite (fun _ => tot_some _) fun _ => tot_bind (tot_kids _ _ _ hE (by omega)) fun _ _ => tot_some _
  refine tot_bind ?_ fun lr _ => tot_elim (fun v => tot_some _) fun _ => tot_bind ?_ fun lr _ => tot_elim (fun v => tot_some _) fun _ => tot_bind ?_ fun lr _ => tot_elim (fun v => tot_some _) fun _ => tot_some _
  ·refine tot_loop1 (ref10_much_L1 e) e.fArgs.length (fun m k hlt ih => ?_) (fun m k hlt => ?_) _ 0 (by omega) (by omega)
   ·simp only [ref10_much_L1]
    rw [if_pos (by simpa using hlt), idx_lt hlt, w64_succ hlt (by omega)]
    simp only [obs]
    exact tot_bind (tot_kids _ _ _ (ha _ (List.getElem_mem hlt)) (by omega)) fun y _ => tot_ite (fun _ => tot_some _) fun _ => ih
   ·simp only [ref10_much_L1]
    rw [if_neg (by simpa using hlt)]
    exact tot_some _
  ·refine tot_loop1 (ref10_much_L2 e d (ref10_much n)) e.fBody.length (fun m k hlt ih => ?_) (fun m k hlt => ?_) _ 0 (by omega) (by omega)
   ·simp only [ref10_much_L2]
    rw [if_pos (by simpa using hlt), idx_lt hlt, w64_succ hlt (by omega)]
    simp only [obs]
    have h1 := mS_mem (List.getElem_mem hlt)
    exact tot_bind (tot_much n _ _ (hb _ (List.getElem_mem hlt)) (by omega)) fun y _ => tot_ite (fun _ => tot_some _) fun _ => ih
   ·simp only [ref10_much_L2]
    rw [if_neg (by simpa using hlt)]
    exact tot_some _
  ·refine tot_loop1 (ref10_much_L3 e d (ref10_much n)) e.fElse.length (fun m k hlt ih => ?_) (fun m k hlt => ?_) _ 0 (by omega) (by omega)
   ·simp only [ref10_much_L3]
    rw [if_pos (by simpa using hlt), idx_lt hlt, w64_succ hlt (by omega)]
    simp only [obs]
    have h1 := mS_mem (List.getElem_mem hlt)
    exact tot_bind (tot_much n _ _ (hl _ (List.getElem_mem hlt)) (by omega)) fun y _ => tot_ite (fun _ => tot_some _) fun _ => ih
   ·simp only [ref10_much_L3]
    rw [if_neg (by simpa using hlt)]
    exact tot_some _
theorem tot_size : ∀ (n : Nat) (e : GStmt), goodGStmt e → mGStmt e < n → Tot (ref08_Size n e)
 | 0, e, _, h => by omega
 | n + 1, e, hg, hm => by
  obtain ⟨hE, ⟨hal, ha⟩, ⟨hbl, hb⟩, ⟨hll, hl⟩⟩ := goodS hg
  simp only [maxLen] at hbl hll
  rw [hS_eq] at hm
  simp only [ref08_Size, fuel_len]
  refine tot_bind ?_ fun x _ => tot_bind ?_ fun _ _ => tot_some _
  ·refine tot_loop2 (ref08_Size_L1 e (ref08_Size n)) e.fBody.length (fun m k s hlt ih => ?_) (fun m k s hlt => ?_) _ 0 _ (by omega) (by omega)
   ·simp only [ref08_Size_L1]
    rw [if_pos (by simpa using hlt), idx_lt hlt, w64_succ hlt (by omega)]
    simp only [obs]
    have h1 := mS_mem (List.getElem_mem hlt)
    exact tot_bind (tot_size n _ (hb _ (List.getElem_mem hlt)) (by omega)) fun y _ => ih _
   ·simp only [ref08_Size_L1]
    rw [if_neg (by simpa using hlt)]
    exact tot_some _
  ·refine tot_loop2 (ref08_Size_L2 e (ref08_Size n)) e.fElse.length (fun m k s hlt ih => ?_) (fun m k s hlt => ?_) _ 0 _ (by omega) (by omega)
   ·simp only [ref08_Size_L2]
    rw [if_pos (by simpa using hlt), idx_lt hlt, w64_succ hlt (by omega)]
    simp only [obs]
    have h1 := mS_mem (List.getElem_mem hlt)
    exact tot_bind (tot_size n _ (hl _ (List.getElem_mem hlt)) (by omega)) fun y _ => ih _
   ·simp only [ref08_Size_L2]
    rw [if_neg (by simpa using hlt)]
    exact tot_some _
theorem tot_uniques {m : GMethod} (h : goodGMethod m) : Tot (ref10_uniques m) := by
 have hp : m.fParams.length ≤ maxLen := h.2.2.2.1.1
 have hl : m.fLocals.length ≤ maxLen := h.2.2.2.2.1.1
 simp only [maxLen] at hp hl
 simp only [ref10_uniques, fuel_len]
 refine tot_bind ?_ fun x _ => tot_bind ?_ fun _ _ => tot_some _
 ·refine tot_loop2 (ref10_uniques_L1 m) m.fParams.length (fun n k s hlt ih => ?_) (fun n k s hlt => ?_) _ 0 _ (by omega) (by omega)
  ·simp only [ref10_uniques_L1]
   rw [if_pos (by simpa using hlt), idx_lt hlt, w64_succ hlt (by omega)]
   simp only [obs]
   exact tot_bind (tot_ite (fun _ => tot_some _) fun _ => tot_some _) fun y _ => ih _
  ·simp only [ref10_uniques_L1]
   rw [if_neg (by simpa using hlt)]
   exact tot_some _
 ·refine tot_loop2 (ref10_uniques_L2 m) m.fLocals.length (fun n k s hlt ih => ?_) (fun n k s hlt => ?_) _ 0 _ (by omega) (by omega)
  ·simp only [ref10_uniques_L2]
   rw [if_pos (by simpa using hlt), idx_lt hlt, w64_succ hlt (by omega)]
   simp only [obs]
   exact tot_bind (tot_ite (fun _ => tot_some _) fun _ => tot_some _) fun y _ => ih _
  ·simp only [ref10_uniques_L2]
   rw [if_neg (by simpa using hlt)]
   exact tot_some _
def TotT {S : Type} (o : Option (Ctl Bool S)) : Prop := o = some (.stop true) ∨ ∃ v, o = some (.next v)
theorem totT_bind {α S : Type} {a : Option α} {f : α → Option (Ctl Bool S)} (h : Tot a) (h2 : ∀ x, a = some x → TotT (f x)) : TotT (Option.bind a f) := by
 obtain ⟨x, rfl⟩ := h
 exact h2 x rfl
theorem totT_ite {S : Type} {b : Bool} {y : Option (Ctl Bool S)} (h2 : b = false → TotT y) : TotT (if b = true then some (.stop true) else y) := by
 cases b with
 | true => exact .inl rfl
 | false => exact h2 rfl
theorem tot_heavy3 {m : GMethod} (hg : listok (fun y => goodGStmt y) m.fBody) : ∀ (n k : Nat) (x : Int), n + k = m.fBody.length + 1 → k ≤ m.fBody.length → TotT (ref10_Heavy_L3 m n x (k : Int))
 | 0, k, x, h, hk => by omega
 | n + 1, k, x, h, hk => by
  obtain ⟨hl, hb⟩ := hg
  simp only [maxLen] at hl
  simp only [ref10_Heavy_L3]
  by_cases hlt : k < m.fBody.length
  ·have hmem := hb _ (List.getElem_mem hlt)
   rw [if_pos (by simpa using hlt), idx_lt hlt, w64_succ hlt (by omega)]
   refine totT_bind (tot_ite (fun _ => tot_some _) fun _ => tot_bind (tot_some _) fun y hy => ?_) fun b _ => totT_ite fun _ => ?_
   ·cases hy
    exact tot_bind (tot_much _ _ _ hmem (by omega)) fun _ _ => tot_some _
   ·refine totT_bind (tot_some _) fun y hy => ?_
    cases hy
    exact totT_bind (tot_size _ _ hmem (by omega)) fun z _ => tot_heavy3 ⟨by simp only [maxLen]; omega, hb⟩ n (k + 1) _ (by omega) (by omega)
  ·rw [if_neg (by simpa using hlt)]
   exact .inr ⟨_, rfl⟩
def LightC (c : GClass) : Prop := c.fParams.length ≤ 20 ∧ c.fAbove.length ≤ 20 ∧ c.fFields.length ≤ 40 ∧ c.fMethods.length ≤ 40 ∧ ∀ m ∈ c.fMethods, m.fParams.length ≤ 40 ∧ m.fLocals.length ≤ 40 ∧ m.fBody.length ≤ 500
theorem tot_heavy2c {c : GClass} (hg : listok (fun y => goodGMethod y) c.fMethods) : ∀ (n k : Nat) (x : Int), n + k = c.fMethods.length + 1 → k ≤ c.fMethods.length →
  ref10_Heavy_L2 c n x (k : Int) = some (.stop true) ∨ ((∃ v, ref10_Heavy_L2 c n x (k : Int) = some (.next v)) ∧ ∀ m ∈ c.fMethods.drop k, m.fParams.length ≤ 40 ∧ m.fLocals.length ≤ 40 ∧ m.fBody.length ≤ 500)
 | 0, k, x, h, hk => by omega
 | n + 1, k, x, h, hk => by
  obtain ⟨hl, hb⟩ := hg
  simp only [maxLen] at hl
  simp only [ref10_Heavy_L2, fuel_len]
  by_cases hlt : k < c.fMethods.length
  ·have hmem := hb _ (List.getElem_mem hlt)
   rw [if_pos (by simpa using hlt), idx_lt hlt, w64_succ hlt (by omega)]
   simp only [obs]
   by_cases h1 : (decide ((c.fMethods[k].fParams.length : Int) > 40)) = true
   ·rw [if_pos h1]; exact .inl rfl
   rw [if_neg h1]
   by_cases h2 : (decide ((c.fMethods[k].fLocals.length : Int) > 40)) = true
   ·rw [if_pos h2]; exact .inl rfl
   rw [if_neg h2]
   by_cases h3 : (decide ((c.fMethods[k].fBody.length : Int) > 500)) = true
   ·rw [if_pos h3]; exact .inl rfl
   rw [if_neg h3]
   obtain ⟨u, hu⟩ := tot_uniques hmem
   rw [hu]
   simp only [obs]
   by_cases h4 : (decide (u > 8)) = true
   ·rw [if_pos h4]; exact .inl rfl
   rw [if_neg h4]
   rcases tot_heavy3 (m := c.fMethods[k]) hmem.2.2.2.2.2.1 (c.fMethods[k].fBody.length + 1) 0 x (by omega) (by omega) with h5 | ⟨v, h5⟩
   ·rw [show (0 : Int) = ((0 : Nat) : Int) from rfl, h5]; exact .inl rfl
   ·rw [show (0 : Int) = ((0 : Nat) : Int) from rfl, h5]
    simp only [obs, Ctl.elim]
    rcases tot_heavy2c (c := c) ⟨by simp only [maxLen]; omega, hb⟩ n (k + 1) v (by omega) (by omega) with h7 | ⟨h7, h8⟩
    ·exact .inl h7
    ·refine .inr ⟨h7, fun m hm => ?_⟩
     rw [List.drop_eq_getElem_cons hlt] at hm
     rcases List.mem_cons.1 hm with rfl | hm
     ·simp at h1 h2 h3; omega
     ·exact h8 m hm
  ·rw [if_neg (by simpa using hlt), List.drop_eq_nil_of_le (by omega)]
   exact .inr ⟨⟨_, rfl⟩, fun c hc => by simp at hc⟩
theorem tot_heavy1c {p : List GClass} (hg : listok (fun y => goodGClass y) p) : ∀ (n k : Nat) (x : Int), n + k = p.length + 1 → k ≤ p.length →
  ref10_Heavy_L1 p n x (k : Int) = some (.stop true) ∨ ((∃ v, ref10_Heavy_L1 p n x (k : Int) = some (.next v)) ∧ ∀ c ∈ p.drop k, p.length ≤ 30 ∧ LightC c)
 | 0, k, x, h, hk => by omega
 | n + 1, k, x, h, hk => by
  obtain ⟨hl, hb⟩ := hg
  simp only [maxLen] at hl
  simp only [ref10_Heavy_L1, fuel_len]
  by_cases hlt : k < p.length
  ·have hmem := hb _ (List.getElem_mem hlt)
   rw [if_pos (by simpa using hlt), idx_lt hlt, w64_succ hlt (by omega)]
   simp only [obs]
   by_cases h1 : (decide ((p.length : Int) > 30)) = true
   ·rw [if_pos h1]; exact .inl rfl
   rw [if_neg h1]
   by_cases h2 : (decide ((p[k].fParams.length : Int) > 20)) = true
   ·rw [if_pos h2]; exact .inl rfl
   rw [if_neg h2]
   by_cases h3 : (decide ((p[k].fAbove.length : Int) > 20)) = true
   ·rw [if_pos h3]; exact .inl rfl
   rw [if_neg h3]
   by_cases h4 : (decide ((p[k].fFields.length : Int) > 40)) = true
   ·rw [if_pos h4]; exact .inl rfl
   rw [if_neg h4]
   simp only [obs]
   by_cases h5 : (decide ((p[k].fMethods.length : Int) > 40)) = true
   ·rw [if_pos h5]; exact .inl rfl
   rw [if_neg h5]
   rcases tot_heavy2c (c := p[k]) hmem.2.2.2.2.2.1 (p[k].fMethods.length + 1) 0 x (by omega) (by omega) with h6 | ⟨⟨v, h6⟩, hm⟩
   ·rw [show (0 : Int) = ((0 : Nat) : Int) from rfl, h6]; exact .inl rfl
   ·rw [show (0 : Int) = ((0 : Nat) : Int) from rfl, h6]
    simp only [obs, Ctl.elim]
    rcases tot_heavy1c (p := p) ⟨by simp only [maxLen]; omega, hb⟩ n (k + 1) v (by omega) (by omega) with h7 | ⟨h7, h8⟩
    ·exact .inl h7
    ·refine .inr ⟨h7, fun c hc => ?_⟩
     rw [List.drop_eq_getElem_cons hlt] at hc
     rcases List.mem_cons.1 hc with rfl | hc
     ·rw [List.drop_zero] at hm
      simp at h1 h2 h3 h4 h5
      exact ⟨by omega, by omega, by omega, by omega, by omega, hm⟩
     ·exact h8 c hc
  ·rw [if_neg (by simpa using hlt), List.drop_eq_nil_of_le (by omega)]
   exact .inr ⟨⟨_, rfl⟩, fun c hc => by simp at hc⟩
theorem heavy_eqc {p : List GClass} (hg : listok (fun y => goodGClass y) p) : ∃ b, ref10_Heavy p = some b ∧ (b = false → p.length ≤ 30 ∧ ∀ c ∈ p, LightC c) := by
 simp only [ref10_Heavy, fuel_len]
 rcases tot_heavy1c hg (p.length + 1) 0 0 (by omega) (by omega) with h | ⟨⟨v, h⟩, h2⟩
 ·rw [show (0 : Int) = ((0 : Nat) : Int) from rfl] at h ⊢
  rw [h]; exact ⟨true, rfl, fun hb => by cases hb⟩
 ·rw [show (0 : Int) = ((0 : Nat) : Int) from rfl] at h ⊢
  rw [h]
  refine ⟨_, rfl, fun _ => ?_⟩
  simp only [List.drop_zero] at h2
  refine ⟨?_, fun c hc => (h2 c hc).2⟩
  cases p with
  | nil => simp
  | cons c p => exact (h2 c (by simp)).1
def thisL (m : Nat) : List GOwner := ⟨2, 0⟩ :: (List.range m).map fun (k : Nat) => ⟨3, (k : Int) + 1⟩
def uniq (t : GType) : Bool := decide (t.fKind = 2) && decide (t.fOwn.a0.fKind = 6)
theorem ref05_Unique_eq (t : GType) : ref05_Unique t = some (uniq t) := by
 unfold ref05_Unique uniq
 by_cases h : t.fKind = 2
 ·rw [if_pos (by simpa using h)]; simp [h]; rfl
 ·rw [if_neg (by simpa using h)]; simp [h]
def mkC (m : Nat) : GClass := { zGClass with fParams := List.replicate m [] }
theorem rT_len {a b : GClass} (h : a.fParams.length = b.fParams.length) : ∀ (n : Nat) (x : List GOwner) (y : Int), raise_This_L1 a n x y = raise_This_L1 b n x y
 | 0, _, _ => rfl
 | n + 1, x, y => by simp only [raise_This_L1, h, rT_len h n]
theorem r15T_len {a b : GClass} (h : a.fParams.length = b.fParams.length) : ∀ (n : Nat) (x : List GOwner) (y : Int), ref15_This_L1 a n x y = ref15_This_L1 b n x y
 | 0, _, _ => rfl
 | n + 1, x, y => by simp only [ref15_This_L1, h, r15T_len h n]
theorem rT_all : ∀ m : Nat, m ≤ 60 → raise_This (mkC m) = some (thisL m) ∧ ref15_This (mkC m) = some (thisL m) := by
 have h : ∀ m : Fin 61, raise_This (mkC m.val) = some (thisL m.val) ∧ ref15_This (mkC m.val) = some (thisL m.val) := by decide +kernel
 exact fun m hm => h ⟨m, by omega⟩
theorem raise_This_eq {c : GClass} (h : c.fParams.length ≤ 60) : raise_This c = some (thisL c.fParams.length) ∧ ref15_This c = some (thisL c.fParams.length) := by
 have hl : c.fParams.length = (mkC c.fParams.length).fParams.length := by simp [mkC]
 obtain ⟨h1, h2⟩ := rT_all _ h
 unfold raise_This at h1 ⊢
 unfold ref15_This at h2 ⊢
 refine ⟨?_, ?_⟩
 ·rw [← h1, ← hl]
  simp only [rT_len hl]
 ·rw [← h2, ← hl]
  simp only [r15T_len hl]
def zero4 : A4 GOwner := ⟨zGOwner, zGOwner, zGOwner, zGOwner⟩
def thisT (c : GClass) : GType := { fKind := 2, fClass := c.fName, fN := if c.fParams.length < 3 then (c.fParams.length : Int) else 3, fOwn := A4.cp zero4 (thisL c.fParams.length) }
theorem thisL_len (m : Nat) : (thisL m).length = m + 1 := by simp [thisL]
theorem scope_This_eq {c : GClass} (h : c.fParams.length ≤ 60) : scope_This c = some (thisT c) := by
 unfold scope_This thisT
 rw [(raise_This_eq h).1, obs]
 congr 2
 rw [List.length_map, thisL_len]
 by_cases h3 : c.fParams.length < 3
 ·rw [if_pos h3, show Nat.min (c.fParams.length + 1) 4 = c.fParams.length + 1 from Nat.min_eq_left (by omega), show ((c.fParams.length + 1 : Nat) : Int) - 1 = (c.fParams.length : Int) by omega, w64 (by omega) (by omega)]; rfl
 ·rw [if_neg h3, show Nat.min (c.fParams.length + 1) 4 = 4 from Nat.min_eq_right (by omega)]; rfl
theorem thisL_3 (m : Nat) : ∃ r, thisL (m + 3) = ⟨2, 0⟩ :: ⟨3, 1⟩ :: ⟨3, 2⟩ :: ⟨3, 3⟩ :: r := by
 refine ⟨(thisL (m + 3)).drop 4, ?_⟩
 simp only [thisL, List.range_succ_eq_map, List.map_cons, List.map_map, List.drop_succ_cons, List.drop_zero]
 rfl
theorem ref18_This_eq {c : GClass} (h : c.fParams.length ≤ 60) : ref18_This c = some (thisT c) := by
 unfold ref18_This thisT
 rw [(raise_This_eq h).2, obs]
 have hm : c.fParams.length = 0 ∨ c.fParams.length = 1 ∨ c.fParams.length = 2 ∨ 3 ≤ c.fParams.length := by omega
 rcases hm with e | e | e | e
 ·rw [e]; rfl
 ·rw [e]; rfl
 ·rw [e]; rfl
 ·obtain ⟨k, hk⟩ : ∃ k, c.fParams.length = k + 3 := ⟨c.fParams.length - 3, by omega⟩
  obtain ⟨r, hr⟩ := thisL_3 k
  rw [hk, hr, if_neg (by omega), if_neg (by omega)]
  rfl
def varsS (m : GMethod) : List GVar := m.fParams ++ m.fLocals
theorem ref12_Vars_eq {m : GMethod} (h1 : m.fParams.length ≤ 100) (h2 : m.fLocals.length ≤ 100) : ref12_Vars m = some (varsS m) := by
 unfold ref12_Vars varsS
 rw [room_ok (by simp; omega), obs, room_ok (by simp; omega), obs]
 rfl
theorem arena_Vars_eq {m : GMethod} (h1 : m.fParams.length ≤ 100) (h2 : m.fLocals.length ≤ 100) : arena_Vars m = some (varsS m) := by
 unfold arena_Vars varsS slices_Concat_api_Var
 generalize m.fParams = p at *
 generalize m.fLocals = l at *
 have hL2 : ([p, l] : List (List GVar)).length = 2 := rfl
 have e1 : slices_Concat_api_Var_L1 [p, l] (((([p, l] : List (List GVar)).length : Int) - (0)).toNat + 1) 0 0 = some ((p.length : Int) + (l.length : Int)) := by
  have w1 : w_i64 (0 + (p.length : Int)) = (p.length : Int) := by rw [w64 (by omega) (by omega)]; omega
  have w2 : w_i64 ((p.length : Int) + (l.length : Int)) = (p.length : Int) + (l.length : Int) := w64 (by omega) (by omega)
  have i0 : idx [p, l] 0 = some p := rfl
  have i1 : idx [p, l] (w_i64 (0 + 1)) = some l := rfl
  have k2 : w_i64 (w_i64 (0 + 1) + 1) = 2 := rfl
  have k1 : w_i64 (0 + 1) = 1 := rfl
  have n0 : ¬ ((p.length : Int) < 0) := by omega
  have n1 : ¬ ((p.length : Int) + (l.length : Int) < 0) := by omega
  show slices_Concat_api_Var_L1 [p, l] (2 + 1) 0 0 = _
  simp only [slices_Concat_api_Var_L1, hL2]
  rw [if_pos (by decide), i0, obs, w1, if_neg (by simp), if_pos (by decide), i1, obs, w2, if_neg (by simpa using n1), if_neg (by decide)]
 have e2 : slices_Grow_api_Var ((p.length : Int) + (l.length : Int)) = some [] := by
  unfold slices_Grow_api_Var
  rw [if_neg (by simp; omega), show w_i64 (0 - 0) = 0 from rfl, Int.sub_zero, w64 (by omega) (by omega)]
  by_cases h0 : (p.length : Int) + (l.length : Int) > 0
  ·have hz : zerOk ((p.length : Int) + (l.length : Int)) 120 = some () := by unfold zerOk; rw [if_pos ⟨by omega, by omega⟩]
   have hc : cutL (List.replicate ((p.length : Int) + (l.length : Int)).toNat zGVar) 0 0 = some [] := by
    unfold cutL
    rw [if_pos ⟨by omega, by omega, by simp; omega⟩]; simp
   rw [if_pos (by simpa using h0), hz, obs, hc, obs]
  ·rw [if_neg (by simpa using h0)]
 have e3 : slices_Concat_api_Var_L2 [p, l] (((([p, l] : List (List GVar)).length : Int) - (0)).toNat + 1) [] 0 = some (p ++ l) := by
  have i0 : idx [p, l] 0 = some p := rfl
  have i1 : idx [p, l] (w_i64 (0 + 1)) = some l := rfl
  show slices_Concat_api_Var_L2 [p, l] (2 + 1) [] 0 = _
  simp only [slices_Concat_api_Var_L2, hL2]
  rw [if_pos (by decide), i0, obs, room_ok (by simp; omega), obs, if_pos (by decide), i1, obs, room_ok (by simp; omega), obs, if_neg (by decide)]
  simp
 rw [e1, obs, e2, obs, e3, obs, obs]
def isV (name : List UInt8) (v : GVar) : Bool := v.fName == name
def placeS (m : GMethod) (name : List UInt8) : Int := match (varsS m).findIdx? (isV name) with | some i => (i : Int) | none => -1
theorem idxV {l : List GVar} (hl : l.length ≤ 1000) (name : List UInt8) : slices_IndexFunc_api_Var l (fun (z4 : GVar) => scope_Place_1 z4 name) = some (match l.findIdx? (isV name) with | some i => (i : Int) | none => -1) := by
 unfold slices_IndexFunc_api_Var
 rw [findL (slices_IndexFunc_api_Var_L1 l (fun (z4 : GVar) => scope_Place_1 z4 name)) (b := isV name) (by omega) (fun n x => by rw [slices_IndexFunc_api_Var_L1]; rfl), obs]
 cases l.findIdx? (isV name) <;> rfl
theorem scope_Place_eq {m : GMethod} (h1 : m.fParams.length ≤ 100) (h2 : m.fLocals.length ≤ 100) (name : List UInt8) : scope_Place m name = some (placeS m name) := by
 unfold scope_Place placeS varsS
 rw [idxV (by omega), obs, idxV (by omega), List.findIdx?_append]
 cases hp : m.fParams.findIdx? (isV name) with
 | some i => simp
 | none =>
  cases hl : m.fLocals.findIdx? (isV name) with
  | none => simp
  | some j =>
   have := (List.findIdx?_eq_some_iff_getElem.1 hl).1
   have e1 : ¬ ((-1 : Int) ≥ 0) := by omega
   have e2 : ¬ ((j : Int) < 0) := by omega
   simp only [decide_eq_false e1, decide_eq_false e2, Bool.false_eq_true, if_false, obs]
   rw [w64 (by omega) (by omega)]
   simp; omega
theorem ref18_Place_eq {m : GMethod} (h1 : m.fParams.length ≤ 100) (h2 : m.fLocals.length ≤ 100) (name : List UInt8) : ref18_Place m name = some (placeS m name) := by
 unfold ref18_Place placeS
 have hl : (varsS m).length ≤ 1000 := by unfold varsS; simp; omega
 rw [ref12_Vars_eq h1 h2, obs, findL (ref18_Place_L1 name (varsS m)) (b := isV name) (by omega) (fun n x => by rw [ref18_Place_L1]; rfl), obs]
 cases (varsS m).findIdx? (isV name) <;> rfl
theorem placeS_lt {m : GMethod} {name : List UInt8} (h : ¬ placeS m name < 0) : ∃ v, idx (varsS m) (placeS m name) = some v := by
 unfold placeS at *
 cases hf : (varsS m).findIdx? (isV name) with
 | none => rw [hf] at h; simp at h
 | some i =>
  have hlt := (List.findIdx?_eq_some_iff_getElem.1 hf).1
  exact ⟨_, idx_lt hlt⟩
theorem scope_Type_eq {c : GClass} {m : GMethod} (hc : c.fParams.length ≤ 60) (h1 : m.fParams.length ≤ 100) (h2 : m.fLocals.length ≤ 100) (name : List UInt8) : ∃ r, scope_Type c m name = some r ∧ ref18_Type c m name = some r := by
 unfold scope_Type ref18_Type
 rw [scope_This_eq hc, ref18_This_eq hc, scope_Place_eq h1 h2, ref18_Place_eq h1 h2, arena_Vars_eq h1 h2, ref12_Vars_eq h1 h2]
 by_cases hn : (name == [116, 104, 105, 115]) = true
 ·rw [if_pos hn]; exact ⟨_, rfl, rfl⟩
 ·rw [if_neg hn]; simp only [obs]
  by_cases hp : placeS m name < 0
  ·rw [if_pos (by simpa using hp)]; exact ⟨_, rfl, rfl⟩
  ·obtain ⟨v, hv⟩ := placeS_lt hp
   rw [if_neg (by simpa using hp), hv]; exact ⟨_, rfl, rfl⟩
def fiN : List GClass → Nat → List UInt8 → Option Nat
 | [], _, _ => none
 | c :: t, k, name => if c.fName == name then some k else fiN t (k + 1) name
def fi (p : List GClass) (name : List UInt8) : Option Nat := fiN p 0 name
def fnd (p : List GClass) (name : List UInt8) : Int := match fi p name with | some i => (i : Int) | none => -1
theorem fiN_spec : ∀ (l : List GClass) (k : Nat) (name : List UInt8) (i : Nat), fiN l k name = some i → k ≤ i ∧ ∃ c, l[i - k]? = some c ∧ c.fName = name
 | [], k, name, i, h => by simp [fiN] at h
 | c :: t, k, name, i, h => by
  simp only [fiN] at h
  split at h
  ·rename_i hc
   cases h
   exact ⟨Nat.le_refl _, c, by simp, by simpa using hc⟩
  ·obtain ⟨h1, c', h2, h3⟩ := fiN_spec t (k + 1) name i h
   refine ⟨by omega, c', ?_, h3⟩
   rw [show i - k = (i - (k + 1)) + 1 by omega, List.getElem?_cons_succ]
   exact h2
theorem fi_spec {p : List GClass} {name : List UInt8} {i : Nat} (h : fi p name = some i) : ∃ c, p[i]? = some c ∧ c.fName = name := by
 obtain ⟨_, c, h1, h2⟩ := fiN_spec p 0 name i h
 exact ⟨c, by simpa using h1, h2⟩
theorem fi_lt {p : List GClass} {name : List UInt8} {i : Nat} (h : fi p name = some i) : i < p.length := by
 obtain ⟨c, h1, _⟩ := fi_spec h
 exact (List.getElem?_eq_some_iff.1 h1).1
theorem fnd_some {p : List GClass} {name : List UInt8} {i : Nat} (h : fi p name = some i) : fnd p name = (i : Int) := by unfold fnd; rw [h]
theorem fnd_none {p : List GClass} {name : List UInt8} (h : fi p name = none) : fnd p name = -1 := by unfold fnd; rw [h]
def hit (o : Option Nat) : Ctl Int Unit := match o with | some i => .stop (i : Int) | none => .next ()
theorem indexFunc_L {p : List GClass} (name : List UInt8) (hp : p.length < 9223372036854775806) : ∀ (n k : Nat), n + k = p.length + 1 → k ≤ p.length →
  slices_IndexFunc_api_Class_L1 p (fun (z1 : GClass) => table_Find_1 z1 name) n (k : Int) = some (hit (fiN (p.drop k) k name))
 | 0, k, h, hk => by omega
 | n + 1, k, h, hk => by
  simp only [slices_IndexFunc_api_Class_L1]
  by_cases hlt : k < p.length
  ·rw [if_pos (by simpa using hlt), idx_lt hlt, List.drop_eq_getElem_cons hlt]
   simp only [obs, table_Find_1, fiN]
   by_cases hc : (p[k].fName == name) = true
   ·rw [if_pos hc, if_pos hc]; rfl
   ·rw [if_neg hc, if_neg hc, w64_succ hlt (by omega)]
    exact indexFunc_L name hp n (k + 1) (by omega) (by omega)
  ·rw [if_neg (by simpa using hlt), List.drop_eq_nil_of_le (by omega)]
   rfl
theorem table_Find_eq {p : List GClass} (hp : p.length < 9223372036854775806) (name : List UInt8) : table_Find p name = some (fnd p name) := by
 unfold table_Find slices_IndexFunc_api_Class
 have h := indexFunc_L name hp (p.length + 1) 0 (by omega) (by omega)
 rw [show (((p.length : Int) : Int) - (0)).toNat + 1 = p.length + 1 by omega, show (0 : Int) = ((0 : Nat) : Int) from rfl, h]
 simp only [List.drop_zero, obs]
 unfold fnd fi hit
 cases fiN p 0 name <;> rfl
theorem ref13_Find_L {p : List GClass} (name : List UInt8) (hp : p.length < 9223372036854775806) : ∀ (n k : Nat), n + k = p.length + 1 → k ≤ p.length →
  ref13_Find_L1 p name n (k : Int) = some (hit (fiN (p.drop k) k name))
 | 0, k, h, hk => by omega
 | n + 1, k, h, hk => by
  simp only [ref13_Find_L1]
  by_cases hlt : k < p.length
  ·rw [if_pos (by simpa using hlt), idx_lt hlt, List.drop_eq_getElem_cons hlt]
   simp only [obs, fiN]
   by_cases hc : (p[k].fName == name) = true
   ·rw [if_pos hc, if_pos hc]; rfl
   ·rw [if_neg hc, if_neg hc, w64_succ hlt (by omega)]
    exact ref13_Find_L name hp n (k + 1) (by omega) (by omega)
  ·rw [if_neg (by simpa using hlt), List.drop_eq_nil_of_le (by omega)]
   rfl
theorem ref13_Find_eq {p : List GClass} (hp : p.length < 9223372036854775806) (name : List UInt8) : ref13_Find p name = some (fnd p name) := by
 unfold ref13_Find
 have h := ref13_Find_L name hp (p.length + 1) 0 (by omega) (by omega)
 rw [show (((p.length : Int) : Int) - (0)).toNat + 1 = p.length + 1 by omega, show (0 : Int) = ((0 : Nat) : Int) from rfl, h]
 simp only [List.drop_zero, obs]
 unfold fnd fi hit
 cases fiN p 0 name <;> rfl
def sup (p : List GClass) (i : Nat) : List UInt8 := match p[i]? with | some c => c.fSuper | none => []
def upN (p : List GClass) : Nat → List UInt8 → List Nat
 | 0, _ => []
 | n + 1, name => match fi p name with
  | none => []
  | some i => if sup p i == [] then [i] else i :: upN p n (sup p i)
theorem itR_up_n_eq {p : List GClass} (hp : p.length < 9223372036854775806) : ∀ (n : Nat) (name : List UInt8), itR_up_n p n name = some ((upN p n name).map Int.ofNat)
 | 0, name => rfl
 | n + 1, name => by
  simp only [itR_up_n, upN, table_Find_eq hp, obs]
  cases hf : fi p name with
  | none => rw [fnd_none hf]; simp
  | some i =>
   rw [fnd_some hf, if_neg (by omega)]
   obtain ⟨c, hc, _⟩ := fi_spec hf
   have hidx : idx p (i : Int) = some c := by rw [idx_nat]; exact hc
   rw [hidx]
   have hs : sup p i = c.fSuper := by unfold sup; rw [hc]
   simp only [obs, hs]
   by_cases he : (c.fSuper == []) = true
   ·rw [if_pos he, if_pos he]; rfl
   ·rw [if_neg he, if_neg he, itR_up_n_eq hp n c.fSuper]; rfl
theorem itR_up_eq {p : List GClass} (hp : p.length < 9223372036854775806) (name : List UInt8) : itR_up p name = some ((upN p (p.length + 1) name).map Int.ofNat) := by
 unfold itR_up; rw [if_pos hp, itR_up_n_eq hp]
def chN (p : List GClass) : Nat → List Nat → List UInt8 → List Nat
 | 0, out, _ => out
 | n + 1, out, name => match fi p name with
  | none => out
  | some i => if i ∈ out then out else if sup p i == [] then out ++ [i] else chN p n (out ++ [i]) (sup p i)
def ch (p : List GClass) (name : List UInt8) : List Nat := chN p (p.length + 1) [] name
theorem nodup_len : ∀ (L : Nat) (l : List Nat), l.Nodup → (∀ x ∈ l, x < L) → l.length ≤ L
 | 0, l, _, h => by
  cases l with
  | nil => exact Nat.le_refl _
  | cons x l => have := h x (by simp); omega
 | L + 1, l, hn, h => by
  have h1 := nodup_len L (l.erase L) (hn.erase L) (fun x hx => by
   have := (hn.mem_erase_iff.1 hx)
   have := h x this.2
   omega)
  by_cases hm : L ∈ l
  ·have := List.length_erase_of_mem hm; omega
  ·rw [List.erase_of_not_mem hm] at h1; omega
structure Way (p : List GClass) (out : List Nat) (name : List UInt8) : Prop where
 nd : out.Nodup
 lt : ∀ x ∈ out, x < p.length
 nx : ∀ x ∈ out, sup p x ≠ [] ∧ (sup p x = name ∨ ∃ j, fi p (sup p x) = some j ∧ j ∈ out)
 own : ∀ x ∈ out, ∃ nm, fi p nm = some x
theorem Way.nil (p : List GClass) (name : List UInt8) : Way p [] name := ⟨List.nodup_nil, by simp, by simp, by simp⟩
theorem Way.snoc {p : List GClass} {out : List Nat} {name : List UInt8} {i : Nat} (h : Way p out name) (hf : fi p name = some i) (hi : i ∉ out) (hs : sup p i ≠ []) : Way p (out ++ [i]) (sup p i) := by
 refine ⟨?_, fun x hx => ?_, fun x hx => ?_, fun x hx => ?_⟩
 ·refine List.nodup_append.2 ⟨h.nd, by simp, fun a ha b hb => ?_⟩
  simp at hb; subst hb; rintro rfl; exact hi ha
 ·rcases List.mem_append.1 hx with hx | hx
  ·exact h.lt x hx
  ·simp at hx; subst hx; exact fi_lt hf
 ·rcases List.mem_append.1 hx with hx | hx
  ·obtain ⟨h1, h2⟩ := h.nx x hx
   refine ⟨h1, .inr ?_⟩
   rcases h2 with h2 | ⟨j, h2, h3⟩
   ·exact ⟨i, by rw [h2]; exact hf, by simp⟩
   ·exact ⟨j, h2, by simp [h3]⟩
  ·simp at hx; subst hx; exact ⟨hs, .inl rfl⟩
 ·rcases List.mem_append.1 hx with hx | hx
  ·exact h.own x hx
  ·simp at hx; subst hx; exact ⟨name, hf⟩
def Shut (p : List GClass) (S : List Nat) : Prop := ∀ x ∈ S, sup p x ≠ [] → ∀ j, fi p (sup p x) = some j → j ∈ S
theorem upN_shut {p : List GClass} {S : List Nat} (h : Shut p S) : ∀ (n : Nat) (name : List UInt8), (∀ j, fi p name = some j → j ∈ S) → ∀ x ∈ upN p n name, x ∈ S
 | 0, name, _, x, hx => by simp [upN] at hx
 | n + 1, name, hs, x, hx => by
  simp only [upN] at hx
  cases hf : fi p name with
  | none => rw [hf] at hx; simp at hx
  | some i =>
   rw [hf] at hx
   have hi := hs i hf
   simp only at hx
   split at hx
   ·simp at hx; subst hx; exact hi
   ·rename_i he
    rcases List.mem_cons.1 hx with rfl | hx
    ·exact hi
    ·exact upN_shut h n _ (fun j hj => h i hi (by simpa using he) j hj) x hx
theorem upN_round {p : List GClass} {S : List Nat} (h : ∀ x ∈ S, sup p x ≠ [] ∧ ∃ j, fi p (sup p x) = some j ∧ j ∈ S) : ∀ (n : Nat) (name : List UInt8) (i : Nat), fi p name = some i → i ∈ S → (upN p n name).length = n
 | 0, name, i, _, _ => rfl
 | n + 1, name, i, hf, hi => by
  obtain ⟨h1, j, h2, h3⟩ := h i hi
  simp only [upN, hf]
  rw [if_neg (by simpa using h1)]
  simp [upN_round h n _ j h2 h3]
def back (p : List GClass) (l : List Nat) : Bool := match l.getLast? with
 | none => false
 | some i => !(sup p i == []) && (match fi p (sup p i) with | some j => decide (j ∈ l) | none => false)
theorem upN_chN {p : List GClass} : ∀ (n : Nat) (out : List Nat) (name : List UInt8), n + out.length = p.length + 1 → Way p out name → (out = [] ∨ ∃ x, out.getLast? = some x ∧ sup p x = name) →
  ∃ R, out ++ upN p n name = chN p n out name ++ R ∧ (∀ x ∈ R, x ∈ chN p n out name) ∧ (∀ x ∈ out, x ∈ chN p n out name) ∧ (∀ j, fi p name = some j → j ∈ chN p n out name) ∧ Shut p (chN p n out name) ∧ (chN p n out name).Nodup ∧ (∀ x ∈ chN p n out name, x < p.length ∧ ∃ nm, fi p nm = some x) ∧
   (back p (chN p n out name) = decide ((upN p n name).length = n))
 | 0, out, name, hn, hw, hl => by
  exfalso
  have := nodup_len p.length out hw.nd hw.lt
  omega
 | n + 1, out, name, hn, hw, hl => by
  have hlen := nodup_len p.length out hw.nd hw.lt
  cases hf : fi p name with
  | none =>
   simp only [upN, chN, hf]
   refine ⟨[], by simp, by simp, fun x hx => hx, by simp, fun x hx hne j hj => ?_, hw.nd, fun x hx => ⟨hw.lt x hx, hw.own x hx⟩, ?_⟩
   ·rcases (hw.nx x hx).2 with h1 | ⟨j', h1, h2⟩
    ·rw [h1, hf] at hj; cases hj
    ·rw [h1] at hj; cases hj; exact h2
   ·have : back p out = false := by
     unfold back
     rcases hl with rfl | ⟨x, h1, h2⟩
     ·rfl
     ·rw [h1]; simp only [h2, hf, Bool.and_false]
    rw [this]; simp
  | some i =>
   simp only [upN, chN, hf]
   by_cases hi : i ∈ out
   ·rw [if_pos hi]
    have hround : ∀ x ∈ out, sup p x ≠ [] ∧ ∃ j, fi p (sup p x) = some j ∧ j ∈ out := by
     intro x hx
     obtain ⟨h1, h2⟩ := hw.nx x hx
     refine ⟨h1, ?_⟩
     rcases h2 with h2 | h2
     ·exact ⟨i, by rw [h2]; exact hf, hi⟩
     ·exact h2
    have hshut : Shut p out := fun x hx _ j hj => by
     obtain ⟨_, j', h1, h2⟩ := hround x hx
     rw [h1] at hj; cases hj; exact h2
    have hsub := upN_shut hshut (n + 1) name (fun j hj => by rw [hf] at hj; cases hj; exact hi)
    have hfull := upN_round hround (n + 1) name i hf hi
    simp only [upN, hf] at hsub hfull
    refine ⟨_, rfl, hsub, fun x hx => hx, fun j hj => by cases hj; exact hi, hshut, hw.nd, fun x hx => ⟨hw.lt x hx, hw.own x hx⟩, ?_⟩
    rw [hfull]
    have : back p out = true := by
     unfold back
     rcases hl with rfl | ⟨x, h1, h2⟩
     ·simp at hi
     ·have hx : x ∈ out := List.mem_of_getLast? h1
      rw [h1]
      simp only [h2, hf, hi, decide_true, Bool.and_true]
      have := (hw.nx x hx).1
      rw [h2] at this
      simpa using this
    rw [this]; simp
   ·rw [if_neg hi]
    by_cases hs : (sup p i == []) = true
    ·rw [if_pos hs, if_pos hs]
     have hs' : sup p i = [] := by simpa using hs
     have hw2 : (out ++ [i]).Nodup := List.nodup_append.2 ⟨hw.nd, by simp, fun a ha b hb => by
      simp at hb; subst hb; rintro rfl; exact hi ha⟩
     have hlt2 : ∀ x ∈ out ++ [i], x < p.length := fun x hx => by
      rcases List.mem_append.1 hx with hx | hx
      ·exact hw.lt x hx
      ·simp at hx; subst hx; exact fi_lt hf
     have hlen2 := nodup_len p.length _ hw2 hlt2
     refine ⟨[], by simp, by simp, fun x hx => by simp [hx], fun j hj => by cases hj; simp, fun x hx hne j hj => ?_, hw2, fun x hx => ⟨hlt2 x hx, ?_⟩, ?_⟩
     ·rcases List.mem_append.1 hx with hx | hx
      ·rcases (hw.nx x hx).2 with h1 | ⟨j', h1, h2⟩
       ·rw [h1, hf] at hj; cases hj; simp
       ·rw [h1] at hj; cases hj; simp [h2]
      ·simp at hx; subst hx; exact absurd hs' hne
     ·rcases List.mem_append.1 hx with hx | hx
      ·exact hw.own x hx
      ·simp at hx; subst hx; exact ⟨name, hf⟩
     ·have : back p (out ++ [i]) = false := by
       unfold back; simp [hs']
      rw [this]
      simp at hlen2
      simp; omega
    ·rw [if_neg hs, if_neg hs]
     have hs' : sup p i ≠ [] := by simpa using hs
     obtain ⟨R, k1, k2, k3, k4, k5, k6, k7, k8⟩ := upN_chN n (out ++ [i]) (sup p i) (by simp; omega) (hw.snoc hf hi hs') (.inr ⟨i, by simp, rfl⟩)
     refine ⟨R, by rw [← k1]; simp, k2, fun x hx => k3 x (by simp [hx]), fun j hj => by cases hj; exact k3 i (by simp), k5, k6, k7, ?_⟩
     rw [k8]; simp
theorem ch_facts (p : List GClass) (name : List UInt8) : ∃ R, upN p (p.length + 1) name = ch p name ++ R ∧ (∀ x ∈ R, x ∈ ch p name) ∧ (∀ j, fi p name = some j → j ∈ ch p name) ∧ Shut p (ch p name) ∧ (ch p name).Nodup ∧ (∀ x ∈ ch p name, x < p.length ∧ ∃ nm, fi p nm = some x) ∧
  (back p (ch p name) = decide ((upN p (p.length + 1) name).length = p.length + 1)) := by
 obtain ⟨R, k1, k2, k3, k4, k5, k6, k7, k8⟩ := upN_chN (p.length + 1) [] name (by simp) (Way.nil p name) (.inl rfl)
 exact ⟨R, by unfold ch; simpa using k1, k2, k4, k5, k6, k7, k8⟩
theorem idxI_L {l : List Int} (a : Int) (hp : l.length < 9223372036854775806) : ∀ (n k : Nat), n + k = l.length + 1 → k ≤ l.length →
  ∃ r, slices_Index_int_L1 l a n (k : Int) = some r ∧ ((∃ v : Int, r = .stop v ∧ 0 ≤ v ∧ a ∈ l.drop k) ∨ (r = .next () ∧ a ∉ l.drop k))
 | 0, k, h, hk => by omega
 | n + 1, k, h, hk => by
  simp only [slices_Index_int_L1]
  by_cases hlt : k < l.length
  ·rw [if_pos (by simpa using hlt), idx_lt hlt, List.drop_eq_getElem_cons hlt]
   simp only [obs]
   by_cases hc : (a == l[k]) = true
   ·rw [if_pos hc]
    have hc' : a = l[k] := by simpa using hc
    exact ⟨_, rfl, .inl ⟨_, rfl, by omega, by rw [hc']; exact List.mem_cons_self⟩⟩
   ·rw [if_neg hc, w64_succ hlt (by omega)]
    obtain ⟨r, h1, h2⟩ := idxI_L a hp n (k + 1) (by omega) (by omega)
    refine ⟨r, h1, ?_⟩
    have hne : a ≠ l[k] := by simpa using hc
    rcases h2 with ⟨v, h3, h4, h5⟩ | ⟨h3, h4⟩
    ·exact .inl ⟨v, h3, h4, List.mem_cons_of_mem _ h5⟩
    ·exact .inr ⟨h3, fun hm => (List.mem_cons.1 hm).elim hne h4⟩
  ·rw [if_neg (by simpa using hlt), List.drop_eq_nil_of_le (by omega)]
   exact ⟨_, rfl, .inr ⟨rfl, by simp⟩⟩
theorem contains_eq {l : List Int} (hp : l.length < 9223372036854775806) (a : Int) : slices_Contains_int l a = some (decide (a ∈ l)) := by
 unfold slices_Contains_int slices_Index_int
 obtain ⟨r, h1, h2⟩ := idxI_L a hp (l.length + 1) 0 (by omega) (by omega)
 rw [show (((l.length : Int) : Int) - (0)).toNat + 1 = l.length + 1 by omega, show (0 : Int) = ((0 : Nat) : Int) from rfl, h1]
 rcases h2 with ⟨v, rfl, h3, h4⟩ | ⟨rfl, h4⟩
 ·simp only [obs, Ctl.elim]
  simp only [List.drop_zero] at h4
  simp [h4, h3]
 ·simp only [obs, Ctl.elim]
  simp only [List.drop_zero] at h4
  simp [h4]
theorem mem_cast {i : Nat} {l : List Nat} : ((i : Int) ∈ l.map Int.ofNat) ↔ i ∈ l := by
 rw [List.mem_map]
 constructor
 ·rintro ⟨j, h1, h2⟩
  have : j = i := Int.ofNat.inj h2
  exact this ▸ h1
 ·intro h; exact ⟨i, h, rfl⟩
theorem chain_runs {p : List GClass} (hp : p.length ≤ 1000000) : ∀ (n : Nat) (out : List Nat) (name : List UInt8), n + out.length = p.length + 1 →
  ∃ r, runs above_Chain_B1 ((upN p n name).map Int.ofNat) (out.map Int.ofNat) = some r ∧ Ctl.elim r (fun x => x) (fun x => x) = (chN p n out name).map Int.ofNat
 | 0, out, name, _ => ⟨_, rfl, rfl⟩
 | n + 1, out, name, hn => by
  have hout : (out.map Int.ofNat).length < 9223372036854775806 := by simp; omega
  have hroom : room (((out.map Int.ofNat).length : Int) + (([(0 : Int)].length : Nat) : Int)) 8 = some () := room_ok (by simp; omega)
  simp only [upN, chN]
  cases hf : fi p name with
  | none => exact ⟨_, rfl, rfl⟩
  | some i =>
   simp only
   have hstep : ∀ rest, runs above_Chain_B1 (((i : Nat) :: rest).map Int.ofNat) (out.map Int.ofNat) = if i ∈ out then some (.stop (out.map Int.ofNat)) else runs above_Chain_B1 (rest.map Int.ofNat) ((out ++ [i]).map Int.ofNat) := by
    intro rest
    simp only [List.map_cons, runs, above_Chain_B1]
    rw [contains_eq hout]
    simp only [obs]
    by_cases hi : i ∈ out
    ·have : Int.ofNat i ∈ out.map Int.ofNat := mem_cast.2 hi
     rw [if_pos hi, if_pos (by simpa using this)]
     rfl
    ·have hni : ¬ Int.ofNat i ∈ out.map Int.ofNat := fun h => hi (mem_cast.1 h)
     rw [if_neg hi, if_neg (by simpa using hni)]
     rw [show (([Int.ofNat i].length : Nat) : Int) = (([(0 : Int)].length : Nat) : Int) from rfl, hroom]
     simp [obs, Ctl.elim]
   by_cases hi : i ∈ out
   ·rw [if_pos hi]
    split
    ·rw [hstep, if_pos hi]; exact ⟨_, rfl, rfl⟩
    ·rw [hstep, if_pos hi]; exact ⟨_, rfl, rfl⟩
   ·rw [if_neg hi]
    by_cases hs : (sup p i == []) = true
    ·rw [if_pos hs, if_pos hs, hstep, if_neg hi]
     exact ⟨_, rfl, rfl⟩
    ·rw [if_neg hs, if_neg hs, hstep, if_neg hi]
     exact chain_runs hp n (out ++ [i]) (sup p i) (by simp; omega)
theorem above_Chain_eq {p : List GClass} (hp : p.length ≤ 1000000) (name : List UInt8) : above_Chain p name = some ((ch p name).map Int.ofNat) := by
 unfold above_Chain above_up
 simp only [obs]
 rw [itR_up_eq (by omega)]
 simp only [obs]
 obtain ⟨r, h1, h2⟩ := chain_runs hp (p.length + 1) [] name (by simp)
 rw [show ([] : List Int) = ([] : List Nat).map Int.ofNat from rfl, h1]
 unfold ch
 rw [← h2]
 cases r <;> rfl
theorem ch_len (p : List GClass) (name : List UInt8) : (ch p name).length ≤ p.length := by
 obtain ⟨_, _, _, _, _, k6, k7, _⟩ := ch_facts p name
 exact nodup_len _ _ k6 (fun x hx => (k7 x hx).1)
theorem has_L {l : List Int} (a : Int) (hp : l.length < 9223372036854775806) : ∀ (n k : Nat), n + k = l.length + 1 → k ≤ l.length →
  ref14_has_L1 l a n (k : Int) = some (if a ∈ l.drop k then .stop true else .next ())
 | 0, k, h, hk => by omega
 | n + 1, k, h, hk => by
  simp only [ref14_has_L1]
  by_cases hlt : k < l.length
  ·rw [if_pos (by simpa using hlt), idx_lt hlt, List.drop_eq_getElem_cons hlt]
   simp only [obs]
   by_cases hc : (l[k] == a) = true
   ·rw [if_pos hc]
    simp at hc
    rw [if_pos (by rw [← hc]; exact List.mem_cons_self)]
   ·rw [if_neg hc, w64_succ hlt (by omega), has_L a hp n (k + 1) (by omega) (by omega)]
    have hne : a ≠ l[k] := fun e => hc (by simp [e])
    have e : (a ∈ l[k] :: l.drop (k + 1)) ↔ a ∈ l.drop (k + 1) := ⟨fun hm => (List.mem_cons.1 hm).resolve_left hne, List.mem_cons_of_mem _⟩
    simp only [e]
  ·rw [if_neg (by simpa using hlt), List.drop_eq_nil_of_le (by omega)]
   simp
theorem has_eq {l : List Int} (hp : l.length < 9223372036854775806) (a : Int) : ref14_has l a = some (decide (a ∈ l)) := by
 unfold ref14_has
 have h := has_L a hp (l.length + 1) 0 (by omega) (by omega)
 rw [show (((l.length : Int) : Int) - (0)).toNat + 1 = l.length + 1 by omega, show (0 : Int) = ((0 : Nat) : Int) from rfl, h]
 simp only [obs, List.drop_zero]
 by_cases hm : a ∈ l
 ·simp [hm, Ctl.elim]
 ·simp [hm, Ctl.elim]
theorem refChain_L {p : List GClass} (hp : p.length ≤ 1000000) : ∀ (n : Nat) (out : List Nat) (name : List UInt8), n + out.length = p.length + 1 → Way p out name →
  ∃ r, ref14_Chain_L1 p (n + 1) (out.map Int.ofNat) (fnd p name) = some r ∧ Ctl.elim r (fun x => x) (fun x => x) = (chN p n out name).map Int.ofNat
 | 0, out, name, hn, hw => by
  exfalso
  have := nodup_len p.length out hw.nd hw.lt
  omega
 | n + 1, out, name, hn, hw => by
  have hout : (out.map Int.ofNat).length < 9223372036854775806 := by simp; omega
  have hroom : ∀ z : Int, room (((out.map Int.ofNat).length : Int) + (([z].length : Nat) : Int)) 8 = some () := fun z => room_ok (by simp; omega)
  simp only [ref14_Chain_L1]
  cases hf : fi p name with
  | none =>
   rw [fnd_none hf]
   refine ⟨.next (out.map Int.ofNat), rfl, ?_⟩
   simp [chN, hf, Ctl.elim]
  | some i =>
   rw [fnd_some hf, has_eq hout]
   obtain ⟨c, hc, _⟩ := fi_spec hf
   have hidx : idx p (i : Int) = some c := by rw [idx_nat]; exact hc
   have hsup : sup p i = c.fSuper := by unfold sup; rw [hc]
   have hd : decide ((i : Int) ≥ 0) = true := by simp
   rw [if_pos hd]
   simp only [chN, hf, obs, hroom, hidx]
   by_cases hi : i ∈ out
   ·rw [if_neg (by simpa using mem_cast.2 hi), if_pos hi]
    exact ⟨_, rfl, rfl⟩
   ·have hni : ¬ (i : Int) ∈ out.map Int.ofNat := fun h => hi (mem_cast.1 h)
    rw [if_pos (by simpa using hni), if_neg hi]
    have hcat : out.map Int.ofNat ++ [(i : Int)] = (out ++ [i]).map Int.ofNat := by simp
    rw [hcat, hsup]
    by_cases hs : (c.fSuper == []) = true
    ·rw [if_pos hs, if_pos hs]
     exact ⟨_, rfl, rfl⟩
    ·rw [if_neg hs, if_neg hs, ref13_Find_eq (by omega)]
     simp only [obs]
     have hs' : sup p i ≠ [] := by rw [hsup]; simpa using hs
     have := refChain_L hp n (out ++ [i]) (sup p i) (by simp; omega) (hw.snoc hf hi hs')
     rw [hsup] at this
     exact this
theorem ref_Chain_eq {p : List GClass} (hp : p.length ≤ 1000000) (name : List UInt8) : ref14_Chain p name = some ((ch p name).map Int.ofNat) := by
 unfold ref14_Chain
 rw [ref13_Find_eq (by omega)]
 obtain ⟨r, h1, h2⟩ := refChain_L hp (p.length + 1) [] name (by simp) (Way.nil p name)
 simp only [obs]
 rw [show p.length + 2 = p.length + 1 + 1 from rfl, show ([] : List Int) = ([] : List Nat).map Int.ofNat from rfl, h1]
 unfold ch
 rw [← h2]
 cases r <;> rfl
def meth (c : GClass) (name : List UInt8) : Option GMethod := c.fMethods.find? fun m => m.fName == name
def fstM (p : List GClass) (name : List UInt8) : List Nat → Option (List UInt8 × GMethod)
 | [] => none
 | i :: r => match p[i]? with
  | some c => (match meth c name with | some m => some (c.fName, m) | none => fstM p name r)
  | none => none
def fnd1 (o : Option (List UInt8 × GMethod)) (z : GFound_method) : GFound_method × Bool := match o with | some x => ({ fClass := x.1, fMethod := x.2 }, true) | none => (z, false)
theorem walk_L2 {p : List GClass} {c : GClass} {i : Nat} (hi : p[i]? = some c) (name : List UInt8) (z : GFound_method) (hl : c.fMethods.length ≤ 9223372036854775807) : ∀ (n k : Nat), n + k = c.fMethods.length + 1 → k ≤ c.fMethods.length →
  method_walk_w_L2 name p (i : Int) c n z false (k : Int) = some (match (c.fMethods.drop k).find? (fun m => m.fName == name) with | some m => .stop (({ fClass := c.fName, fMethod := m } : GFound_method), true) | none => .next (z, false))
 | 0, k, h, hk => by omega
 | n + 1, k, h, hk => by
  rw [method_walk_w_L2]
  by_cases hlt : k < c.fMethods.length
  ·rw [if_pos (by simpa using hlt), idx_lt hlt, obs, List.drop_eq_getElem_cons hlt, List.find?_cons]
   unfold method_first_1_w
   by_cases hn : (c.fMethods[k].fName == name) = true
   ·simp only [hn, if_true, idx_nat, hi, obs]
    rfl
   ·simp only [Bool.not_eq_true] at hn
    simp only [hn]
    rw [if_neg (by simp), obs, if_neg (by simp), w64_succ hlt hl]
    exact walk_L2 hi name z hl n (k + 1) (by omega) (by omega)
  ·rw [if_neg (by simpa using hlt), List.drop_eq_nil_of_le (by omega)]; rfl
theorem walk_L1 {p : List GClass} (hm : ∀ c ∈ p, c.fMethods.length ≤ 9223372036854775807) (name : List UInt8) (z : GFound_method) (l : List Nat) (hl : ∀ x ∈ l, x < p.length) (hll : l.length ≤ 1000000) : ∀ (n k : Nat), n + k = l.length + 1 → k ≤ l.length →
  method_walk_w_L1 p (l.map Int.ofNat) name p n z false (k : Int) = some (match fstM p name (l.drop k) with | some x => .stop (({ fClass := x.1, fMethod := x.2 } : GFound_method), true) | none => .next (z, false))
 | 0, k, h, hk => by omega
 | n + 1, k, h, hk => by
  rw [method_walk_w_L1]
  by_cases hlt : k < l.length
  ·have hx := hl l[k] (List.getElem_mem hlt)
   have hc : p[l[k]]? = some p[l[k]] := List.getElem?_eq_getElem hx
   rw [if_pos (by simpa using hlt), idx_lt (by simpa using hlt), obs, List.getElem_map, show Int.ofNat l[k] = ((l[k] : Nat) : Int) from rfl, idx_nat, hc, obs, fuel_len, show (0 : Int) = ((0 : Nat) : Int) from rfl, walk_L2 hc name z (hm _ (List.getElem_mem hx)) _ 0 (by omega) (by omega), obs, List.drop_zero, List.drop_eq_getElem_cons hlt]
   simp only [fstM, hc, meth]
   cases hf : p[l[k]].fMethods.find? (fun m => m.fName == name) with
   | some m => rfl
   | none =>
    show method_walk_w_L1 p (l.map Int.ofNat) name p n z false (w_i64 ((k : Int) + 1)) = _
    rw [w64_succ hlt (by omega)]
    exact walk_L1 hm name z l hl hll n (k + 1) (by omega) (by omega)
  ·rw [if_neg (by simpa using hlt), List.drop_eq_nil_of_le (by omega)]; rfl
def zfm : GFound_method := { fClass := [], fMethod := zGMethod }
theorem method_first_eq {p : List GClass} (hm : ∀ c ∈ p, c.fMethods.length ≤ 9223372036854775807) (name : List UInt8) (l : List Nat) (hl : ∀ x ∈ l, x < p.length) (hll : l.length ≤ 1000000) : method_first p (l.map Int.ofNat) name = some (fnd1 (fstM p name l) zfm) := by
 unfold method_first method_walk_w
 rw [fuel_len, show (0 : Int) = ((0 : Nat) : Int) from rfl, walk_L1 hm name _ l hl hll _ 0 (by simp) (by omega), obs, List.drop_zero]
 cases fstM p name l <;> rfl
theorem ch_lt (p : List GClass) (name : List UInt8) : ∀ x ∈ ch p name, x < p.length := by
 obtain ⟨_, _, _, _, _, _, k7, _⟩ := ch_facts p name
 exact fun x hx => (k7 x hx).1
theorem method_Find_eq {p : List GClass} (hp : p.length ≤ 1000000) (hm : ∀ c ∈ p, c.fMethods.length ≤ 9223372036854775807) (a name : List UInt8) : method_Find p a name = some (fnd1 (fstM p name (ch p a)) zfm) := by
 unfold method_Find
 have := ch_len p a
 rw [above_Chain_eq hp, obs, method_first_eq hm name _ (ch_lt p a) (by omega), obs]
def fnd2 (o : Option (List UInt8 × GMethod)) : GFound_ref17 × Bool := match o with | some x => ({ fClass := x.1, fMethod := x.2 }, true) | none => ({ fClass := [], fMethod := zGMethod }, false)
theorem ref_own_L (c : GClass) (name : List UInt8) (hl : c.fMethods.length ≤ 9223372036854775807) : ∀ (n k : Nat), n + k = c.fMethods.length + 1 → k ≤ c.fMethods.length →
  ref17_own_L1 c name n (k : Int) = some (match (c.fMethods.drop k).find? (fun m => m.fName == name) with | some m => .stop (({ fClass := c.fName, fMethod := m } : GFound_ref17), true) | none => .next ())
 | 0, k, h, hk => by omega
 | n + 1, k, h, hk => by
  rw [ref17_own_L1]
  by_cases hlt : k < c.fMethods.length
  ·rw [if_pos (by simpa using hlt), idx_lt hlt, obs, obs, List.drop_eq_getElem_cons hlt, List.find?_cons]
   by_cases hn : (c.fMethods[k].fName == name) = true
   ·simp only [hn, if_true]
   ·simp only [Bool.not_eq_true] at hn
    simp only [hn]
    rw [if_neg (by simp), w64_succ hlt hl]
    exact ref_own_L c name hl n (k + 1) (by omega) (by omega)
  ·rw [if_neg (by simpa using hlt), List.drop_eq_nil_of_le (by omega)]; rfl
theorem ref_own_eq (c : GClass) (name : List UInt8) (hl : c.fMethods.length ≤ 9223372036854775807) : ref17_own c name = some (match meth c name with | some m => (({ fClass := c.fName, fMethod := m } : GFound_ref17), true) | none => (({ fClass := [], fMethod := zGMethod } : GFound_ref17), false)) := by
 unfold ref17_own meth
 rw [fuel_len, show (0 : Int) = ((0 : Nat) : Int) from rfl, ref_own_L c name hl _ 0 (by omega) (by omega), obs, List.drop_zero]
 cases c.fMethods.find? (fun m => m.fName == name) <;> rfl
theorem among_L {p : List GClass} (hm : ∀ c ∈ p, c.fMethods.length ≤ 9223372036854775807) (name : List UInt8) (l : List Nat) (hl : ∀ x ∈ l, x < p.length) (hll : l.length ≤ 1000000) : ∀ (n k : Nat), n + k = l.length + 1 → k ≤ l.length →
  ref17_among_L1 p (l.map Int.ofNat) name n (k : Int) = some (match fstM p name (l.drop k) with | some x => .stop (({ fClass := x.1, fMethod := x.2 } : GFound_ref17), true) | none => .next ())
 | 0, k, h, hk => by omega
 | n + 1, k, h, hk => by
  rw [ref17_among_L1]
  by_cases hlt : k < l.length
  ·have hx := hl l[k] (List.getElem_mem hlt)
   have hc : p[l[k]]? = some p[l[k]] := List.getElem?_eq_getElem hx
   rw [if_pos (by simpa using hlt), idx_lt (by simpa using hlt), obs, List.getElem_map, show Int.ofNat l[k] = ((l[k] : Nat) : Int) from rfl, idx_nat, hc, obs, ref_own_eq _ _ (hm _ (List.getElem_mem hx)), obs, List.drop_eq_getElem_cons hlt]
   simp only [fstM, hc]
   cases hf : meth p[l[k]] name with
   | some m => rfl
   | none =>
    rw [if_neg (by simp), w64_succ hlt (by omega)]
    exact among_L hm name l hl hll n (k + 1) (by omega) (by omega)
  ·rw [if_neg (by simpa using hlt), List.drop_eq_nil_of_le (by omega)]; rfl
theorem among_eq {p : List GClass} (hm : ∀ c ∈ p, c.fMethods.length ≤ 9223372036854775807) (name : List UInt8) (l : List Nat) (hl : ∀ x ∈ l, x < p.length) (hll : l.length ≤ 1000000) : ref17_among p (l.map Int.ofNat) name = some (fnd2 (fstM p name l)) := by
 unfold ref17_among
 rw [fuel_len, show (0 : Int) = ((0 : Nat) : Int) from rfl, among_L hm name l hl hll _ 0 (by simp) (by omega), obs, List.drop_zero]
 cases fstM p name l <;> rfl
theorem ref17_Find_eq {p : List GClass} (hp : p.length ≤ 1000000) (hm : ∀ c ∈ p, c.fMethods.length ≤ 9223372036854775807) (a name : List UInt8) : ref17_Find p a name = some (fnd2 (fstM p name (ch p a))) := by
 unfold ref17_Find
 have := ch_len p a
 rw [ref_Chain_eq hp, obs, among_eq hm name _ (ch_lt p a) (by omega), obs]
theorem callee_both {p : List GClass} {c : GClass} {m : GMethod} (hp : p.length ≤ 1000000) (hm : ∀ c ∈ p, c.fMethods.length ≤ 9223372036854775807) (hc : c.fParams.length ≤ 60) (h1 : m.fParams.length ≤ 100) (h2 : m.fLocals.length ≤ 100) (s : GStmt) :
  ∃ o, fit_Callee p c m s = some (fnd1 o zfm) ∧ ref20_Callee ⟨p, c, m⟩ s = some (fnd2 o) ∧ (s.fKind ≠ 4 → o = none) := by
 obtain ⟨r, e1, e2⟩ := scope_Type_eq hc h1 h2 s.fY
 have hobj : ∃ y, ref20_object ⟨p, c, m⟩ s = some y ∧ y.1 = r.1 ∧ (y.2 = 0 → r.2 = true ∧ r.1.fKind = 2) ∧ (s.fKind = 4 → r.2 = true → r.1.fKind = 2 → y.2 = 0) := by
  unfold ref20_object
  rw [show (GPlace_ref20.fC ⟨p, c, m⟩) = c from rfl, show (GPlace_ref20.fM ⟨p, c, m⟩) = m from rfl, e2, obs]
  cases hr : r.2 with
  | false => exact ⟨_, rfl, rfl, fun h => by simp at h, fun _ h => by cases h⟩
  | true =>
   rw [if_neg (by simp)]
   by_cases hk : r.1.fKind = 2
   ·rw [if_neg (by simpa using hk), ref05_Unique_eq, obs]
    cases uniq r.1 with
    | false => exact ⟨_, rfl, rfl, fun _ => ⟨rfl, hk⟩, fun _ _ _ => rfl⟩
    | true =>
     rw [if_pos rfl, obs]
     by_cases h4 : s.fKind = 4
     ·rw [if_neg (by simpa using h4)]; exact ⟨_, rfl, rfl, fun _ => ⟨rfl, hk⟩, fun _ _ _ => rfl⟩
     ·rw [if_pos (by simpa using h4)]; exact ⟨_, rfl, rfl, fun h => by simp at h, fun h => absurd h h4⟩
   ·rw [if_pos (by simpa using hk)]; exact ⟨_, rfl, rfl, fun h => by simp at h, fun _ _ h => absurd h hk⟩
 obtain ⟨y, hy, hy1, hy2, hy3⟩ := hobj
 unfold fit_Callee ref20_Callee
 rw [hy, obs]
 by_cases h4 : s.fKind = 4
 ·have hn4 : (s.fKind != 4) = false := by simp [h4]
  have h44 : (s.fKind == 4) = true := by simp [h4]
  rw [hn4, if_neg (by simp)]
  unfold __fit_asker__object_w
  simp only [e1, obs]
  by_cases hr : r.2 = true
  ·by_cases hk : r.1.fKind = 2
   ·have h0 := hy3 h4 hr hk
    refine ⟨fstM p s.fName (ch p r.1.fClass), ?_, ?_, fun h => absurd h4 h⟩
    ·rw [if_neg (by simp [hr]), if_neg (by simpa using hk)]
     simp only [h44, if_true]
     rw [show fit_must true 22 = some 0 from rfl]
     simp only [obs]
     rw [if_neg (by simp), method_Find_eq hp hm, obs]
    ·rw [if_neg (by simp [h0]), obs, if_neg (by simp), hy1, ref17_Find_eq hp hm, obs]
   ·have h0 : y.2 ≠ 0 := fun h => hk (hy2 h).2
    refine ⟨none, ?_, ?_, fun _ => rfl⟩
    ·rw [if_neg (by simp [hr]), if_pos (by simpa using hk)]; rfl
    ·rw [if_pos (by simpa using h0), obs]; rfl
  ·have h0 : y.2 ≠ 0 := fun h => hr (hy2 h).1
   refine ⟨none, ?_, ?_, fun _ => rfl⟩
   ·rw [if_pos (by simpa using hr)]; rfl
   ·rw [if_pos (by simpa using h0), obs]; rfl
 ·have hn4 : (s.fKind != 4) = true := by simpa using h4
  refine ⟨none, ?_, ?_, fun _ => rfl⟩
  ·rw [hn4, if_pos rfl]; rfl
  ·rw [hn4]
   have : (if (y.2 != 0) = true then some true else some true : Option Bool) = some true := by split <;> rfl
   rw [this, obs]; rfl
theorem preSL_u : ∀ (n : Nat) (l : List GStmt) (d : Int), mLGStmt l ≤ n → ∀ y ∈ preSL d l, uGStmt y.2 ≤ lsum uGStmt l
 | _, [], d, _, y, hy => by simp [preSL] at hy
 | 0, x :: l, d, h, y, hy => by
  have := itmS x
  simp only [mLGStmt] at h; omega
 | n + 1, x :: l, d, h, y, hy => by
  simp only [preSL, preS_eq d x, List.cons_append, List.mem_cons, List.mem_append] at hy
  simp only [mLGStmt] at h
  have h1 := itmS x
  have h2 := uS_p x
  simp only [lsum]
  rcases hy with rfl | (hy | hy) | hy
  ·simp only; omega
  ·have := preSL_u n x.fBody (d + 1) (by omega) y hy; omega
  ·have := preSL_u n x.fElse (d + 1) (by omega) y hy; omega
  ·have := preSL_u n l d (by omega) y hy; omega
theorem preSL_len : ∀ (n : Nat) (l : List GStmt) (d : Int), mLGStmt l ≤ n → (preSL d l).length ≤ mLGStmt l
 | _, [], d, _ => by simp [preSL]
 | 0, x :: l, d, h => by
  have := itmS x
  simp only [mLGStmt] at h; omega
 | n + 1, x :: l, d, h => by
  simp only [mLGStmt] at h ⊢
  have h1 := itmS x
  have a1 := preSL_len n x.fBody (d + 1) (by omega)
  have a2 := preSL_len n x.fElse (d + 1) (by omega)
  have a3 := preSL_len n l d (by omega)
  simp only [preSL, preS_eq d x, List.cons_append, List.length_cons, List.length_append]; omega
def lnR (a : GLine_ref12) (y : Int × GStmt) : GLine_ref12 := { a with fDeep := y.1, fS := y.2 }
theorem lines12_eq : ∀ (n : Nat) (l : List GStmt) (a : GLine_ref12), mLGStmt l < n → mLGStmt l ≤ 1048576 → 0 ≤ a.fDeep → a.fDeep + mLGStmt l ≤ 4000000 → ref12_lines n l a = some ((preSL a.fDeep l).map (lnR a))
 | 0, l, a, h, _, _, _ => by omega
 | n + 1, l, a, h, hM, h0, hd => by
  have hlm := itlen l
  have loop : ∀ (t : List GStmt) (pre : List GStmt) (acc : List GLine_ref12) (f : Nat), l = pre ++ t → t.length < f → acc.length + mLGStmt t ≤ 2000000 →
    ref12_lines_L1 l a (ref12_lines n) f acc (pre.length : Int) = some (acc ++ (preSL a.fDeep t).map (lnR a)) := by
   intro t
   induction t with
   | nil =>
    intro pre acc f hl hf _
    cases f with
    | zero => simp at hf
    | succ f =>
     simp only [List.append_nil] at hl
     subst hl
     simp [ref12_lines_L1, preSL]
   | cons x t ih =>
    intro pre acc f hl hf hr
    cases f with
    | zero => simp at hf
    | succ f =>
     have hx : idx l (pre.length : Int) = some x := by rw [hl, idx_lt (by simp)]; simp
     have hlt : (pre.length : Int) < (l.length : Int) := by rw [hl, List.length_append, List.length_cons]; omega
     have hmx := itmS x
     simp only [mSL_cons] at hr
     have hml : mGStmt x ≤ mLGStmt l := by
      rw [hl]
      clear ih hx hlt hf hr hlm hM hd h hl
      induction pre with
      | nil => simp only [List.nil_append, mSL_cons]; omega
      | cons y pre ihp => simp only [List.cons_append, mSL_cons]; omega
     have hw : w_i64 (a.fDeep + 1) = a.fDeep + 1 := w64 (by omega) (by omega)
     have hw2 : w_i64 ((pre.length : Int) + 1) = ((pre ++ [x]).length : Int) := by
      have : pre.length < l.length := by rw [hl]; simp
      rw [w64 (by omega) (by omega)]; simp
     have e1 := lines12_eq n x.fBody ({ ({ a with fS := x } : GLine_ref12) with fDeep := a.fDeep + 1 }) (by omega) (by omega) (by simp only; omega) (by simp only; omega)
     have e2 := lines12_eq n x.fElse ({ ({ a with fS := x } : GLine_ref12) with fDeep := a.fDeep + 1 }) (by omega) (by omega) (by simp only; omega) (by simp only; omega)
     have l1 := preSL_len _ x.fBody (a.fDeep + 1) (Nat.le_refl _)
     have l2 := preSL_len _ x.fElse (a.fDeep + 1) (Nat.le_refl _)
     rw [ref12_lines_L1, if_pos (by simpa using hlt), hx]
     simp only [obs, hw, hw2]
     rw [room_ok (by simp; omega), obs, e1, obs, room_ok (by simp; omega), obs, e2, obs, room_ok (by simp; omega), obs]
     rw [ih (pre ++ [x]) _ f (by simp [hl]) (by simp at hf; omega) (by simp; omega)]
     simp only [preSL, preS_eq a.fDeep x, List.cons_append, List.map_cons, List.map_append, List.append_assoc, List.nil_append]
     rfl
  have := loop l [] [] ((((l.length : Int) : Int) - (0)).toNat + 1) (by simp) (by omega) (by simp; omega)
  rw [ref12_lines, show (0 : Int) = (([] : List GStmt).length : Int) from rfl, show ((((l.length : Int) : Int) - ((([] : List GStmt).length : Nat) : Int)).toNat + 1) = ((((l.length : Int) : Int) - (0)).toNat + 1) from rfl, this, obs]
  simp
def lnM (i k : Int) (m : GMethod) : List GLine_ref12 := (preSL 0 m.fBody).map fun y => { fClass := i, fMethod := k, fDeep := y.1, fS := y.2 }
def lnF (i : Int) : Nat → List GMethod → List GLine_ref12
 | _, [] => []
 | k, m :: ms => lnM i (k : Int) m ++ lnF i (k + 1) ms
def lnG : Nat → List GClass → List GLine_ref12
 | _, [] => []
 | i, c :: cs => lnF (i : Int) 0 c.fMethods ++ lnG (i + 1) cs
theorem lnM_len (i k : Int) (m : GMethod) : (lnM i k m).length ≤ lsum uGStmt m.fBody := by
 unfold lnM
 rw [List.length_map]
 have := preSL_len _ m.fBody 0 (Nat.le_refl _)
 have h2 := mLS_sum m.fBody
 have h3 := lsum_le (l := m.fBody) (u := mGStmt) (v := uGStmt) (fun y _ => mS_le y)
 omega
theorem stmts_L2 {p : List GClass} {i : Nat} {c : GClass} (hc : p[i]? = some c) (hu : lsum uGMethod c.fMethods ≤ 1048576) : ∀ (n k : Nat) (acc : List GLine_ref12), n + k = c.fMethods.length + 1 → k ≤ c.fMethods.length → acc.length + lsum uGMethod (c.fMethods.drop k) ≤ 4000000 →
  ref12_Stmts_L2 p (i : Int) n acc (k : Int) = some (acc ++ lnF (i : Int) k (c.fMethods.drop k))
 | 0, k, acc, h, hk, _ => by omega
 | n + 1, k, acc, h, hk, hr => by
  have hcl := len_lsum (u := uGMethod) (fun y => by have := uM_p y; omega) c.fMethods
  rw [ref12_Stmts_L2, idx_nat, hc, obs]
  by_cases hlt : k < c.fMethods.length
  ·have hm := lsum_mem (u := uGMethod) (List.getElem_mem hlt)
   rw [lsum_drop uGMethod hlt] at hr
   have hup := uM_p c.fMethods[k]
   have h2 := mLS_sum c.fMethods[k].fBody
   have h3 := lsum_le (l := c.fMethods[k].fBody) (u := mGStmt) (v := uGStmt) (fun y _ => mS_le y)
   have hl := lnM_len (i : Int) (k : Int) c.fMethods[k]
   rw [if_pos (by simpa using hlt), obs, idx_lt hlt]
   simp only [obs]
   rw [lines12_eq _ _ _ (by omega) (by omega) (by simp) (by simp only; omega), obs]
   rw [show (preSL (GLine_ref12.fDeep { fClass := (i : Int), fMethod := (k : Int), fDeep := 0, fS := zGStmt }) c.fMethods[k].fBody).map (lnR { fClass := (i : Int), fMethod := (k : Int), fDeep := 0, fS := zGStmt }) = lnM (i : Int) (k : Int) c.fMethods[k] from rfl]
   rw [room_ok (by omega), obs, w64_succ hlt (by omega), stmts_L2 hc hu n (k + 1) _ (by omega) (by omega) (by simp; omega), List.drop_eq_getElem_cons hlt]
   simp only [lnF, List.append_assoc]
  ·rw [if_neg (by simpa using hlt), List.drop_eq_nil_of_le (by omega)]; simp [lnF]
theorem lnF_len (i : Int) : ∀ (l : List GMethod) (k : Nat), (lnF i k l).length ≤ lsum uGMethod l
 | [], _ => by simp [lnF]
 | m :: l, k => by
  have h1 := lnM_len i (k : Int) m
  have h2 := lnF_len i l (k + 1)
  have h3 := uM_p m
  simp only [lnF, lsum, List.length_append]; omega
theorem stmts_L1 {p : List GClass} (hu : lsum uGClass p ≤ 1048576) : ∀ (n k : Nat) (acc : List GLine_ref12), n + k = p.length + 1 → k ≤ p.length → acc.length + lsum uGClass (p.drop k) ≤ 2000000 →
  ref12_Stmts_L1 p n acc (k : Int) = some (acc ++ lnG k (p.drop k))
 | 0, k, acc, h, hk, _ => by omega
 | n + 1, k, acc, h, hk, hr => by
  have hcl := len_lsum (u := uGClass) (fun y => by have := uC_p y; omega) p
  rw [ref12_Stmts_L1]
  by_cases hlt : k < p.length
  ·have hm := lsum_mem (u := uGClass) (List.getElem_mem hlt)
   rw [lsum_drop uGClass hlt] at hr
   have hup := uC_p p[k]
   have hl := lnF_len (k : Int) p[k].fMethods 0
   have hc : p[k]? = some p[k] := List.getElem?_eq_getElem hlt
   rw [if_pos (by simpa using hlt), idx_lt hlt]
   simp only [obs, Option.getD_some]
   rw [fuel_len, show (0 : Int) = ((0 : Nat) : Int) from rfl, stmts_L2 hc (by omega) _ 0 acc (by omega) (by omega) (by rw [List.drop_zero]; omega), obs, w64_succ hlt (by omega), List.drop_zero, stmts_L1 hu n (k + 1) _ (by omega) (by omega) (by simp; omega), List.drop_eq_getElem_cons hlt]
   simp only [lnG, List.append_assoc]
  ·rw [if_neg (by simpa using hlt), List.drop_eq_nil_of_le (by omega)]; simp [lnG]
theorem ref12_Stmts_eq {p : List GClass} (hu : lsum uGClass p ≤ 1048576) : ref12_Stmts p = some (lnG 0 p) := by
 unfold ref12_Stmts
 rw [fuel_len, show (0 : Int) = ((0 : Nat) : Int) from rfl, stmts_L1 hu _ 0 [] (by omega) (by omega) (by simp; omega), obs, List.drop_zero]; rfl
theorem lnF_mem {i : Int} : ∀ {l : List GMethod} {k : Nat} {x : GLine_ref12}, x ∈ lnF i k l → x.fClass = i ∧ ∃ (j : Nat) (m : GMethod), l[j]? = some m ∧ x.fMethod = ((k + j : Nat) : Int) ∧ uGStmt x.fS ≤ lsum uGStmt m.fBody
 | [], k, x, h => by simp [lnF] at h
 | m :: l, k, x, h => by
  simp only [lnF, List.mem_append] at h
  rcases h with h | h
  ·unfold lnM at h
   rw [List.mem_map] at h
   obtain ⟨y, hy, rfl⟩ := h
   exact ⟨rfl, 0, m, rfl, by simp, preSL_u _ _ _ (Nat.le_refl _) y hy⟩
  ·obtain ⟨h1, j, m', h2, h3, h4⟩ := lnF_mem h
   exact ⟨h1, j + 1, m', by simpa using h2, by rw [h3]; omega, h4⟩
theorem lnG_mem : ∀ {l : List GClass} {k : Nat} {x : GLine_ref12}, x ∈ lnG k l → ∃ (j : Nat) (c : GClass), l[j]? = some c ∧ x.fClass = ((k + j : Nat) : Int) ∧ ∃ (i : Nat) (m : GMethod), c.fMethods[i]? = some m ∧ x.fMethod = (i : Int) ∧ uGStmt x.fS ≤ lsum uGStmt m.fBody
 | [], k, x, h => by simp [lnG] at h
 | c :: l, k, x, h => by
  simp only [lnG, List.mem_append] at h
  rcases h with h | h
  ·obtain ⟨h1, j, m, h2, h3, h4⟩ := lnF_mem h
   exact ⟨0, c, rfl, by simpa using h1, j, m, h2, by rw [h3]; omega, h4⟩
  ·obtain ⟨j, c', h1, h2, r⟩ := lnG_mem h
   exact ⟨j + 1, c', by simpa using h1, by rw [h2]; omega, r⟩
def lnA (x : GLine_ref12) : GLine_arena := { fClass := x.fClass, fMethod := x.fMethod, fDeep := x.fDeep, fS := x.fS }
theorem runs_linesA (i k : Int) : ∀ (rows : List (Int × GStmt)) (acc : List GLine_arena), acc.length + rows.length ≤ 400000000 → runs (arena_Stmts_B3 i k) rows acc = some (.next (acc ++ rows.map fun y => ({ fClass := i, fMethod := k, fDeep := y.1, fS := y.2 } : GLine_arena)))
 | [], acc, _ => by simp [runs]
 | (d, x) :: rows, acc, h => by
  simp only [List.length_cons] at h
  have h1 := runs_linesA i k rows (acc ++ [({ fClass := i, fMethod := k, fDeep := d, fS := x } : GLine_arena)]) (by simp; omega)
  simp only [runs, arena_Stmts_B3]
  rw [room_ok (by simp; omega), obs, obs]
  exact h1.trans (by simp)
theorem arena_stmts_L2 {i : Nat} {c : GClass} (hu : lsum uGMethod c.fMethods ≤ 1048576) : ∀ (n k : Nat) (acc : List GLine_arena), n + k = c.fMethods.length + 1 → k ≤ c.fMethods.length → acc.length + lsum uGMethod (c.fMethods.drop k) ≤ 4000000 →
  arena_Stmts_L2 (i : Int) c n acc (k : Int) = some (acc ++ (lnF (i : Int) k (c.fMethods.drop k)).map lnA)
 | 0, k, acc, h, hk, _ => by omega
 | n + 1, k, acc, h, hk, hr => by
  have hcl := len_lsum (u := uGMethod) (fun y => by have := uM_p y; omega) c.fMethods
  rw [arena_Stmts_L2]
  by_cases hlt : k < c.fMethods.length
  ·have hm := lsum_mem (u := uGMethod) (List.getElem_mem hlt)
   rw [lsum_drop uGMethod hlt] at hr
   have hup := uM_p c.fMethods[k]
   have h2 := mLS_sum c.fMethods[k].fBody
   have h3 := lsum_le (l := c.fMethods[k].fBody) (u := mGStmt) (v := uGStmt) (fun y _ => mS_le y)
   have hl := lnM_len (i : Int) (k : Int) c.fMethods[k]
   have h5 := mL5 c.fMethods[k].fBody
   have hl' : (preSL 0 c.fMethods[k].fBody).length ≤ lsum uGStmt c.fMethods[k].fBody := by simpa [lnM] using hl
   rw [if_pos (by simpa using hlt), idx_lt hlt]
   simp only [obs]
   rw [show arena_body c.fMethods[k] = some c.fMethods[k] from rfl, obs, show itR_stmts c.fMethods[k] = some (preSL 0 c.fMethods[k].fBody) by unfold itR_stmts; rw [if_pos (by omega)], obs, runs_linesA _ _ _ _ (by omega), obs]
   simp only [Ctl.elim]
   rw [w64_succ hlt (by omega), arena_stmts_L2 hu n (k + 1) _ (by omega) (by omega) (by simp; omega), List.drop_eq_getElem_cons hlt]
   simp only [lnF, lnM, List.append_assoc, List.map_append, List.map_map]
   rfl
  ·rw [if_neg (by simpa using hlt), List.drop_eq_nil_of_le (by omega)]; simp [lnF]
theorem arena_stmts_L1 {p : List GClass} (hu : lsum uGClass p ≤ 1048576) : ∀ (n k : Nat) (acc : List GLine_arena), n + k = p.length + 1 → k ≤ p.length → acc.length + lsum uGClass (p.drop k) ≤ 2000000 →
  arena_Stmts_L1 p n acc (k : Int) = some (acc ++ (lnG k (p.drop k)).map lnA)
 | 0, k, acc, h, hk, _ => by omega
 | n + 1, k, acc, h, hk, hr => by
  have hcl := len_lsum (u := uGClass) (fun y => by have := uC_p y; omega) p
  rw [arena_Stmts_L1]
  by_cases hlt : k < p.length
  ·have hm := lsum_mem (u := uGClass) (List.getElem_mem hlt)
   rw [lsum_drop uGClass hlt] at hr
   have hup := uC_p p[k]
   have hl := lnF_len (k : Int) p[k].fMethods 0
   rw [if_pos (by simpa using hlt), idx_lt hlt]
   simp only [obs]
   rw [fuel_len, show (0 : Int) = ((0 : Nat) : Int) from rfl, arena_stmts_L2 (by omega) _ 0 acc (by omega) (by omega) (by rw [List.drop_zero]; omega), obs, w64_succ hlt (by omega), List.drop_zero, arena_stmts_L1 hu n (k + 1) _ (by omega) (by omega) (by simp; omega), List.drop_eq_getElem_cons hlt]
   simp only [lnG, List.append_assoc, List.map_append]
  ·rw [if_neg (by simpa using hlt), List.drop_eq_nil_of_le (by omega)]; simp [lnG]
theorem arena_Stmts_eq {p : List GClass} (hu : lsum uGClass p ≤ 1048576) : arena_Stmts p = some ((lnG 0 p).map lnA) := by
 unfold arena_Stmts
 rw [fuel_len, show (0 : Int) = ((0 : Nat) : Int) from rfl, arena_stmts_L1 hu _ 0 [] (by omega) (by omega) (by simp; omega), obs, List.drop_zero]; rfl
theorem lnG_len : ∀ (l : List GClass) (k : Nat), (lnG k l).length ≤ lsum uGClass l
 | [], k => by simp [lnG]
 | c :: l, k => by
  have h1 := lnF_len (k : Int) c.fMethods 0
  have h2 := lnG_len l (k + 1)
  have h3 := uC_p c
  simp only [lnG, lsum, List.length_append]; omega
def chgS (s : GStmt) (o : Option (List UInt8 × GMethod)) : Bool := decide (s.fKind = 3 ∨ s.fKind = 7 ∨ s.fKind = 8) || (match o with | some x => !x.2.fPure | none => false)
theorem changes_both {p : List GClass} {c : GClass} {m : GMethod} (hp : p.length ≤ 1000000) (hm : ∀ c ∈ p, c.fMethods.length ≤ 9223372036854775807) (hc : c.fParams.length ≤ 60) (h1 : m.fParams.length ≤ 100) (h2 : m.fLocals.length ≤ 100) (s : GStmt) :
  ∃ o, pure_Changes p c m s = some (chgS s o) ∧ ref22_Changes ⟨p, c, m⟩ s = some (chgS s o) ∧ fit_Callee p c m s = some (fnd1 o zfm) ∧ (s.fKind ≠ 4 → o = none) := by
 obtain ⟨o, e1, e2, e3⟩ := callee_both hp hm hc h1 h2 s
 refine ⟨o, ?_, ?_, e1, e3⟩
 ·unfold pure_Changes chgS
  by_cases k3 : s.fKind = 3
  ·simp [k3]
  ·by_cases k7 : s.fKind = 7
   ·simp [k7]
   ·by_cases k8 : s.fKind = 8
    ·simp [k8]
    ·have a3 : (s.fKind == 3) = false := by simpa using k3
     have a7 : (s.fKind == 7) = false := by simpa using k7
     have a8 : (s.fKind == 8) = false := by simpa using k8
     rw [a3, a7, a8]
     simp only [Bool.false_eq_true, if_false, obs]
     by_cases k4 : s.fKind = 4
     ·rw [if_pos (by simpa using k4), e1, obs]
      cases o with
      | none => simp [fnd1, k4]
      | some x => simp [fnd1, k4]
     ·rw [if_neg (by simpa using k4), e3 k4]
      simp [k3, k7, k8]
 ·unfold ref22_Changes chgS
  rw [e2, obs]
  by_cases k3 : s.fKind = 3
  ·simp [k3]
  ·by_cases k7 : s.fKind = 7
   ·simp [k7]
   ·by_cases k8 : s.fKind = 8
    ·simp [k8]
    ·rw [if_neg (by simpa using k3), if_neg (by simpa using k7), if_neg (by simpa using k8)]
     cases o with
     | none => simp [fnd2, k3, k7, k8]
     | some x => simp [fnd2, k3, k7, k8]
structure AtL (p : List GClass) (x : GLine_ref12) (c : GClass) (m : GMethod) : Prop where
 hc : idx p x.fClass = some c
 hm : idx c.fMethods x.fMethod = some m
 memc : c ∈ p
 memm : m ∈ c.fMethods
theorem lnG_at {p : List GClass} {x : GLine_ref12} (h : x ∈ lnG 0 p) : ∃ c m, AtL p x c m := by
 obtain ⟨j, c, hj, e1, i, m, hi, e2, _⟩ := lnG_mem h
 rw [Nat.zero_add] at e1
 exact ⟨c, m, by rw [e1, idx_nat, hj], by rw [e2, idx_nat, hi], List.mem_of_getElem? hj, List.mem_of_getElem? hi⟩
theorem place_at {p : List GClass} {x : GLine_ref12} {c : GClass} {m : GMethod} (h : AtL p x c m) : ref21_Place p x = some ⟨p, c, m⟩ := by
 unfold ref21_Place
 rw [h.hc, obs, obs, h.hm, obs]
structure Light (p : List GClass) : Prop where
 hp : p.length ≤ 30
 hl : ∀ c ∈ p, LightC c
theorem Light.ms {p : List GClass} (h : Light p) : ∀ c ∈ p, c.fMethods.length ≤ 9223372036854775807 := fun c hc => by have := (h.hl c hc).2.2.2.1; omega
theorem Light.both {p : List GClass} (h : Light p) {x : GLine_ref12} {c : GClass} {m : GMethod} (ha : AtL p x c m) : ∃ o, pure_Changes p c m x.fS = some (chgS x.fS o) ∧ ref22_Changes ⟨p, c, m⟩ x.fS = some (chgS x.fS o) ∧ fit_Callee p c m x.fS = some (fnd1 o zfm) ∧ (x.fS.fKind ≠ 4 → o = none) := by
 have hc := h.hl c ha.memc
 have hm := hc.2.2.2.2 m ha.memm
 have hp := h.hp
 exact changes_both (by omega) h.ms (by have := hc.1; omega) (by omega) (by omega) x.fS
theorem pcheck_both {p : List GClass} (hL : Light p) {l : List GLine_ref12} (hl : l.length ≤ 4000000) (hm : ∀ x ∈ l, ∃ c m, AtL p x c m) : ∀ (n k : Nat), n + k = l.length + 1 → k ≤ l.length →
  ∃ r, pure_Check_L1 p (l.map lnA) n (k : Int) = some r ∧ ref22_Check_L1 p l n (k : Int) = some r ∧
   ((∃ f : GFault, r = .stop f ∧ f.fErr = 20) ∨ (r = .next () ∧ ∀ x ∈ l.drop k, ∀ c m, AtL p x c m → m.fPure = true → pure_Changes p c m x.fS = some false))
 | 0, k, h, hk => by omega
 | n + 1, k, h, hk => by
  by_cases hlt : k < l.length
  ·obtain ⟨c, m, ha⟩ := hm _ (List.getElem_mem hlt)
   obtain ⟨o, e1, e2, _⟩ := hL.both ha
   obtain ⟨r, i1, i2, i3⟩ := pcheck_both hL hl hm n (k + 1) (by omega) (by omega)
   have hlt' : k < (l.map lnA).length := by simpa using hlt
   have hx : idx (l.map lnA) (k : Int) = some (lnA l[k]) := by rw [idx_lt hlt', List.getElem_map]
   rw [pure_Check_L1, ref22_Check_L1, if_pos (by simpa using hlt), if_pos (by simpa using hlt), hx, idx_lt hlt]
   simp only [obs]
   rw [place_at ha]
   simp only [lnA, obs]
   rw [ha.hc]
   simp only [obs]
   rw [ha.hm]
   simp only [obs]
   rw [w64_succ hlt (by omega)]
   rw [List.drop_eq_getElem_cons hlt]
   have hun : ∀ c' m', AtL p l[k] c' m' → c' = c ∧ m' = m := by
    intro c' m' h'
    have q1 := h'.hc; rw [ha.hc] at q1; cases q1
    have q2 := h'.hm; rw [ha.hm] at q2; cases q2
    exact ⟨rfl, rfl⟩
   cases hpu : m.fPure with
   | false =>
    simp only [Bool.false_eq_true, if_false, obs]
    refine ⟨r, i1, i2, ?_⟩
    rcases i3 with i3 | ⟨i3, i4⟩
    ·exact .inl i3
    ·refine .inr ⟨i3, fun x hx => ?_⟩
     rcases List.mem_cons.1 hx with rfl | hx
     ·intro c' m' h' hp'
      obtain ⟨rfl, rfl⟩ := hun _ _ h'
      rw [hpu] at hp'; cases hp'
     ·exact i4 x hx
   | true =>
    simp only [if_true]
    rw [e1, e2]
    simp only [obs]
    cases hb : chgS l[k].fS o with
    | true =>
     simp only [if_true]
     exact ⟨_, rfl, rfl, .inl ⟨_, rfl, rfl⟩⟩
    | false =>
     simp only [Bool.false_eq_true, if_false]
     refine ⟨r, i1, i2, ?_⟩
     rcases i3 with i3 | ⟨i3, i4⟩
     ·exact .inl i3
     ·refine .inr ⟨i3, fun x hx => ?_⟩
      rcases List.mem_cons.1 hx with rfl | hx
      ·intro c' m' h' hp'
       obtain ⟨rfl, rfl⟩ := hun _ _ h'
       rw [e1, hb]
      ·exact i4 x hx
  ·refine ⟨.next (), ?_, ?_, .inr ⟨rfl, fun x hx => ?_⟩⟩
   ·rw [pure_Check_L1, if_neg (by simpa using hlt)]
   ·rw [ref22_Check_L1, if_neg (by simpa using hlt)]
   ·rw [List.drop_eq_nil_of_le (by omega)] at hx; cases hx
theorem pure_Check_both {p : List GClass} (hL : Light p) (hu : lsum uGClass p ≤ 1048576) : ∃ f : GFault, pure_Check p = some f ∧ ref22_Check p = some f ∧ (f.fErr = 0 → ∀ x ∈ lnG 0 p, ∀ c m, AtL p x c m → m.fPure = true → pure_Changes p c m x.fS = some false) := by
 have hlen := lnG_len p 0
 obtain ⟨r, h1, h2, h3⟩ := pcheck_both hL (l := lnG 0 p) (by omega) (fun x hx => lnG_at hx) ((lnG 0 p).length + 1) 0 (by omega) (by omega)
 unfold pure_Check ref22_Check
 rw [arena_Stmts_eq hu, ref12_Stmts_eq hu]
 simp only [obs, fuel_len, List.length_map]
 rw [show (0 : Int) = ((0 : Nat) : Int) from rfl, h1, h2]
 simp only [obs]
 rcases h3 with ⟨f, rfl, hf⟩ | ⟨rfl, h4⟩
 ·exact ⟨f, rfl, rfl, fun h => by omega⟩
 ·exact ⟨_, rfl, rfl, fun _ => h4⟩
def preRuns (a0 : List GClass) (a1 a2 : List UInt8) : Option (List (A2 Int)) :=
 (__pure_walker__call_w a1 a2 a0 (0, (fun _ => none)) []).bind fun y3 =>
 (pure_Runs_L1 a0 a1 ((a0.map fun c => c.fMethods.length).foldr (· + ·) 0 + 1) y3.1.1 y3.1.2 y3.2 0).bind fun (_, _, x82) => some x82
theorem runs_pre (a0 : List GClass) (a1 a2 : List UInt8) : pure_Runs a0 a1 a2 = (preRuns a0 a1 a2).bind sortP := by
 unfold pure_Runs preRuns
 cases __pure_walker__call_w a1 a2 a0 (0, (fun _ => none)) [] with
 | none => rfl
 | some y =>
  simp only [obs]
  cases pure_Runs_L1 a0 a1 ((a0.map fun c => c.fMethods.length).foldr (· + ·) 0 + 1) y.1.1 y.1.2 y.2 0 with
  | none => rfl
  | some z =>
   obtain ⟨z1, z2, z3⟩ := z
   simp only [obs]
   cases sortP z3 <;> rfl
theorem sortP_len {l r : List (A2 Int)} (h : sortP l = some r) : r.length = l.length := by
 unfold sortP at h
 split at h
 ·cases h; simp
 ·cases h
def awake22 (T : List UInt8) : Option Bool :=
 (ref09_Of T).bind fun y3 => (pure_Check y3.1).bind fun y5 => if (bGFault y5 ({ fErr := 20, fAt := 33 } : GFault)) then (preRuns y3.1 [65] [107]).bind fun l => if l.length < 4611686018427387904 then some ((l.length : Int) == 2) else none else none
theorem awake22_ok {T : List UInt8} (h : awake22 T = some true) : ((ref09_Of T).bind fun (y3 : List GClass × GFault) => (pure_Check y3.1).bind fun y5 => if (bGFault y5 ({ fErr := 20, fAt := 33 } : GFault)) then (pure_Runs y3.1 [65] [107]).bind fun (y8 : List (A2 Int)) => some ((y8.length : Int) == 2) else none) = some true := by
 rw [← h]
 unfold awake22
 cases ref09_Of T with
 | none => rfl
 | some y3 =>
  simp only [obs]
  cases pure_Check y3.1 with
  | none => rfl
  | some y5 =>
   simp only [obs]
   rw [runs_pre]
   cases preRuns y3.1 [65] [107] with
   | none => rfl
   | some l =>
    simp only [obs]
    by_cases hl : l.length < 4611686018427387904
    ·have : sortP l = some (l.mergeSort fun x y => !(ltOf cfP) y x) := by unfold sortP; rw [if_pos hl]
     have h2 := sortP_len this
     rw [this, if_pos hl]
     simp only [obs, h2]
    ·have : sortP l = none := by unfold sortP; rw [if_neg hl]
     rw [this, if_neg hl]
     rfl
theorem law22_awake_eq : law22_awake = some true := by
 unfold law22_awake
 exact awake22_ok (by decide +kernel)
theorem bfault_refl (f : GFault) : bGFault f f = true := by unfold bGFault; simp
theorem law22_PureCheck_true {a0 : List GClass} (h0 : listok (fun y => goodGClass y) a0) (hu : lsum uGClass a0 ≤ 1048576) : law22_PureCheck a0 = some true := by
 have haw := law22_awake_eq
 unfold law22_PureCheck
 obtain ⟨b1, hb1, hb2⟩ := heavy_eqc h0
 rw [hb1, obs]
 cases b1 with
 | true => rw [if_pos rfl, haw]; rfl
 | false =>
  obtain ⟨q1, q2⟩ := hb2 rfl
  have hL : Light a0 := ⟨q1, q2⟩
  have hlen := lnG_len a0 0
  rw [if_neg (by simp), ref12_Stmts_eq hu]
  simp only [obs, fuel_len]
  have hLp : ∀ (n k : Nat), n + k = (lnG 0 a0).length + 1 → k ≤ (lnG 0 a0).length → law22_PureCheck_L1 a0 (lnG 0 a0) n (k : Int) = some (.next ()) := by
   intro n
   induction n with
   | zero => intro k h hk; omega
   | succ n ih =>
    intro k h hk
    rw [law22_PureCheck_L1]
    by_cases hlt : k < (lnG 0 a0).length
    ·obtain ⟨c, m, ha⟩ := lnG_at (List.getElem_mem hlt)
     obtain ⟨o, e1, e2, _⟩ := hL.both ha
     rw [if_pos (by simpa using hlt), idx_lt hlt]
     simp only [obs]
     rw [place_at ha]
     simp only [obs]
     rw [e1, e2]
     simp only [obs, w64_succ hlt (show (lnG 0 a0).length ≤ 9223372036854775807 by omega)]
     rw [if_neg (by simp)]
     exact ih (k + 1) (by omega) (by omega)
    ·rw [if_neg (by simpa using hlt)]
  rw [show (0 : Int) = ((0 : Nat) : Int) from rfl, hLp _ 0 (by omega) (by omega)]
  simp only [obs, Ctl.elim]
  obtain ⟨f, f1, f2, _⟩ := pure_Check_both hL hu
  rw [f1, f2]
  simp only [obs]
  rw [bfault_refl, if_pos rfl, haw]; rfl
end Go.Proofs.YtiefoagopfeibaaGreat
