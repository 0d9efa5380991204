/- A part of the proof that the law DotDeep gives true for every input. -/
import Derived.Test.YthhdlpggmmfaiaaGreatDotDeepA2
import Derived.Test.YthhdlpggmmfaiaaGreatDotDeepA3
import Derived.Test.YthhdlpggmmfaiaaGreatDotDeepT
import Derived.Test.YthhdlpggmmfaiaaGreatDotDeepA4
import Derived.Test.YthhdlpggmmfaiaaGreatDotDeepI
import Derived.Test.YthhdlpggmmfaiaaGreatDotDeepD
/- The plain law. -/
namespace Go.Proofs.YthhdlpggmmfaiaaGreat
open Go.RowKit Go.Abs
def Tot {α : Type} (o : Option α) : Prop := ∃ r, o = some r
theorem tot_some {α : Type} (x : α) : Tot (some x) := ⟨x, rfl⟩
theorem tot_bind {α β : Type} {a : Option α} {f : α → Option β} (h : Tot a) (h2 : ∀ x, a = some x → Tot (f x)) : Tot (Option.bind a f) := by
 obtain ⟨x, rfl⟩ := h
 exact h2 x rfl
theorem tot_ite {α : Type} {b : Bool} {x y : Option α} (h1 : b = true → Tot x) (h2 : b = false → Tot y) : Tot (if b = true then x else y) := by
 cases b with
 | true => exact h1 rfl
 | false => exact h2 rfl
theorem tot_elim {R S α : Type} {r : Ctl R S} {f : R → Option α} {g : S → Option α} (h1 : ∀ v, Tot (f v)) (h2 : ∀ s, Tot (g s)) : Tot (Ctl.elim r f g) := by
 cases r with
 | stop v => exact h1 v
 | next s => exact h2 s
theorem tot_loop1 {ρ : Type} (F : Nat → Int → Option ρ) (len : Nat) (h1 : ∀ (n k : Nat), k < len → Tot (F n ((k + 1 : Nat) : Int)) → Tot (F (n + 1) (k : Int))) (h2 : ∀ (n k : Nat), ¬ k < len → Tot (F (n + 1) (k : Int))) :
  ∀ (n k : Nat), n + k = len + 1 → k ≤ len → Tot (F n (k : Int))
 | 0, k, h, hk => by omega
 | n + 1, k, h, hk => by
  by_cases hlt : k < len
  ·exact h1 n k hlt (tot_loop1 F len h1 h2 n (k + 1) (by omega) (by omega))
  ·exact h2 n k hlt
theorem tot_loop2 {σ ρ : Type} (F : Nat → σ → Int → Option ρ) (len : Nat) (h1 : ∀ (n k : Nat) (s : σ), k < len → (∀ s', Tot (F n s' ((k + 1 : Nat) : Int))) → Tot (F (n + 1) s (k : Int))) (h2 : ∀ (n k : Nat) (s : σ), ¬ k < len → Tot (F (n + 1) s (k : Int))) :
  ∀ (n k : Nat) (s : σ), n + k = len + 1 → k ≤ len → Tot (F n s (k : Int))
 | 0, k, s, h, hk => by omega
 | n + 1, k, s, h, hk => by
  by_cases hlt : k < len
  ·exact h1 n k s hlt (fun s' => tot_loop2 F len h1 h2 n (k + 1) s' (by omega) (by omega))
  ·exact h2 n k s hlt
theorem fuel_len (m : Nat) : (((m : Int) : Int) - (0)).toNat + 1 = m + 1 := by omega
theorem mE_mem {l : List GExpr} {e : GExpr} : e ∈ l → mGExpr e ≤ mLGExpr l := by
 induction l with
 | nil => intro h; simp at h
 | cons x l ih =>
  intro h
  simp only [mLGExpr]
  rcases List.mem_cons.1 h with rfl | h
  ·omega
  ·have := ih h; omega
theorem mS_mem {l : List GStmt} {e : GStmt} : e ∈ l → mGStmt e ≤ mLGStmt l := by
 induction l with
 | nil => intro h; simp at h
 | cons x l ih =>
  intro h
  simp only [mLGStmt]
  rcases List.mem_cons.1 h with rfl | h
  ·omega
  ·have := ih h; omega
theorem hE_eq (e : GExpr) : mGExpr e = 1 + mLGExpr e.fKids := by cases e; simp only [mGExpr]
theorem hS_eq (e : GStmt) : mGStmt e = 1 + mGExpr e.fE + mLGExpr e.fArgs + mLGStmt e.fBody + mLGStmt e.fElse := by cases e; simp only [mGStmt]
theorem goodE {e : GExpr} (h : goodGExpr e) : e.fKids.length ≤ maxLen ∧ ∀ y ∈ e.fKids, goodGExpr y := by cases h; exact ⟨by assumption, by assumption⟩
theorem goodS {e : GStmt} (h : goodGStmt e) : goodGExpr e.fE ∧ listok (fun y => goodGExpr y) e.fArgs ∧ (e.fBody.length ≤ maxLen ∧ ∀ y ∈ e.fBody, goodGStmt y) ∧ (e.fElse.length ≤ maxLen ∧ ∀ y ∈ e.fElse, goodGStmt y) := by
 cases h
 exact ⟨by assumption, by assumption, ⟨by assumption, by assumption⟩, ⟨by assumption, by assumption⟩⟩
theorem tot_kids : ∀ (n : Nat) (e : GExpr) (d : Int), goodGExpr e → mGExpr e < n → Tot (ref10_kids n e d)
 | 0, e, d, _, h => by omega
 | n + 1, e, d, hg, hm => by
  obtain ⟨hl, hk⟩ := goodE hg
  simp only [maxLen] at hl
  simp only [ref10_kids, fuel_len]
  refine tot_bind (tot_ite (fun _ => tot_some _) (fun _ => tot_some _)) fun x _ => tot_ite (fun _ => tot_some _) fun _ => ?_
  refine tot_bind ?_ fun lr _ => tot_elim (fun v => tot_some _) (fun _ => tot_some _)
  refine tot_loop1 (ref10_kids_L1 e d (ref10_kids n)) e.fKids.length (fun m k hlt ih => ?_) (fun m k hlt => ?_) _ 0 (by omega) (by omega)
  ·simp only [ref10_kids_L1]
   rw [if_pos (by simpa using hlt), idx_lt hlt, w64_succ hlt (by omega)]
   simp only [obs]
   have hmem := List.getElem_mem hlt
   have h1 := mE_mem hmem
   rw [hE_eq] at hm
   refine tot_bind (tot_kids n _ _ (hk _ hmem) (by omega)) fun y _ => tot_ite (fun _ => tot_some _) fun _ => ih
  ·simp only [ref10_kids_L1]
   rw [if_neg (by simpa using hlt)]
   exact tot_some _
theorem tot_much : ∀ (n : Nat) (e : GStmt) (d : Int), goodGStmt e → mGStmt e < n → Tot (ref10_much n e d)
 | 0, e, d, _, h => by omega
 | n + 1, e, d, hg, hm => by
  obtain ⟨hE, ⟨hal, ha⟩, ⟨hbl, hb⟩, ⟨hll, hl⟩⟩ := goodS hg
  simp only [maxLen] at hal hbl hll
  rw [hS_eq] at hm
  simp only [ref10_much, fuel_len]
  refine tot_bind ?_ fun x _ => tot_ite (fun _ => tot_some _) fun _ => ?_
  ·exact tot_ite (fun _ => tot_some _) fun _ => tot_ite (fun _ => tot_some _) fun _ => tot_ite (fun _ => tot_some _) fun _ => tot_ite (fun _ => tot_some _) fun _ => tot_bind (tot_kids _ _ _ hE (by omega)) fun _ _ => tot_some _
  refine tot_bind ?_ fun lr _ => tot_elim (fun v => tot_some _) fun _ => tot_bind ?_ fun lr _ => tot_elim (fun v => tot_some _) fun _ => tot_bind ?_ fun lr _ => tot_elim (fun v => tot_some _) fun _ => tot_some _
  ·refine tot_loop1 (ref10_much_L1 e) e.fArgs.length (fun m k hlt ih => ?_) (fun m k hlt => ?_) _ 0 (by omega) (by omega)
   ·simp only [ref10_much_L1]
    rw [if_pos (by simpa using hlt), idx_lt hlt, w64_succ hlt (by omega)]
    simp only [obs]
    exact tot_bind (tot_kids _ _ _ (ha _ (List.getElem_mem hlt)) (by omega)) fun y _ => tot_ite (fun _ => tot_some _) fun _ => ih
   ·simp only [ref10_much_L1]
    rw [if_neg (by simpa using hlt)]
    exact tot_some _
  ·refine tot_loop1 (ref10_much_L2 e d (ref10_much n)) e.fBody.length (fun m k hlt ih => ?_) (fun m k hlt => ?_) _ 0 (by omega) (by omega)
   ·simp only [ref10_much_L2]
    rw [if_pos (by simpa using hlt), idx_lt hlt, w64_succ hlt (by omega)]
    simp only [obs]
    have h1 := mS_mem (List.getElem_mem hlt)
    exact tot_bind (tot_much n _ _ (hb _ (List.getElem_mem hlt)) (by omega)) fun y _ => tot_ite (fun _ => tot_some _) fun _ => ih
   ·simp only [ref10_much_L2]
    rw [if_neg (by simpa using hlt)]
    exact tot_some _
  ·refine tot_loop1 (ref10_much_L3 e d (ref10_much n)) e.fElse.length (fun m k hlt ih => ?_) (fun m k hlt => ?_) _ 0 (by omega) (by omega)
   ·simp only [ref10_much_L3]
    rw [if_pos (by simpa using hlt), idx_lt hlt, w64_succ hlt (by omega)]
    simp only [obs]
    have h1 := mS_mem (List.getElem_mem hlt)
    exact tot_bind (tot_much n _ _ (hl _ (List.getElem_mem hlt)) (by omega)) fun y _ => tot_ite (fun _ => tot_some _) fun _ => ih
   ·simp only [ref10_much_L3]
    rw [if_neg (by simpa using hlt)]
    exact tot_some _
theorem tot_size : ∀ (n : Nat) (e : GStmt), goodGStmt e → mGStmt e < n → Tot (ref08_Size n e)
 | 0, e, _, h => by omega
 | n + 1, e, hg, hm => by
  obtain ⟨hE, ⟨hal, ha⟩, ⟨hbl, hb⟩, ⟨hll, hl⟩⟩ := goodS hg
  simp only [maxLen] at hbl hll
  rw [hS_eq] at hm
  simp only [ref08_Size, fuel_len]
  refine tot_bind ?_ fun x _ => tot_bind ?_ fun _ _ => tot_some _
  ·refine tot_loop2 (ref08_Size_L1 e (ref08_Size n)) e.fBody.length (fun m k s hlt ih => ?_) (fun m k s hlt => ?_) _ 0 _ (by omega) (by omega)
   ·simp only [ref08_Size_L1]
    rw [if_pos (by simpa using hlt), idx_lt hlt, w64_succ hlt (by omega)]
    simp only [obs]
    have h1 := mS_mem (List.getElem_mem hlt)
    exact tot_bind (tot_size n _ (hb _ (List.getElem_mem hlt)) (by omega)) fun y _ => ih _
   ·simp only [ref08_Size_L1]
    rw [if_neg (by simpa using hlt)]
    exact tot_some _
  ·refine tot_loop2 (ref08_Size_L2 e (ref08_Size n)) e.fElse.length (fun m k s hlt ih => ?_) (fun m k s hlt => ?_) _ 0 _ (by omega) (by omega)
   ·simp only [ref08_Size_L2]
    rw [if_pos (by simpa using hlt), idx_lt hlt, w64_succ hlt (by omega)]
    simp only [obs]
    have h1 := mS_mem (List.getElem_mem hlt)
    exact tot_bind (tot_size n _ (hl _ (List.getElem_mem hlt)) (by omega)) fun y _ => ih _
   ·simp only [ref08_Size_L2]
    rw [if_neg (by simpa using hlt)]
    exact tot_some _
theorem tot_uniques {m : GMethod} (h : goodGMethod m) : Tot (ref10_uniques m) := by
 have hp : m.fParams.length ≤ maxLen := h.2.2.2.1.1
 have hl : m.fLocals.length ≤ maxLen := h.2.2.2.2.1.1
 simp only [maxLen] at hp hl
 simp only [ref10_uniques, fuel_len]
 refine tot_bind ?_ fun x _ => tot_bind ?_ fun _ _ => tot_some _
 ·refine tot_loop2 (ref10_uniques_L1 m) m.fParams.length (fun n k s hlt ih => ?_) (fun n k s hlt => ?_) _ 0 _ (by omega) (by omega)
  ·simp only [ref10_uniques_L1]
   rw [if_pos (by simpa using hlt), idx_lt hlt, w64_succ hlt (by omega)]
   simp only [obs]
   exact tot_bind (tot_ite (fun _ => tot_some _) fun _ => tot_some _) fun y _ => ih _
  ·simp only [ref10_uniques_L1]
   rw [if_neg (by simpa using hlt)]
   exact tot_some _
 ·refine tot_loop2 (ref10_uniques_L2 m) m.fLocals.length (fun n k s hlt ih => ?_) (fun n k s hlt => ?_) _ 0 _ (by omega) (by omega)
  ·simp only [ref10_uniques_L2]
   rw [if_pos (by simpa using hlt), idx_lt hlt, w64_succ hlt (by omega)]
   simp only [obs]
   exact tot_bind (tot_ite (fun _ => tot_some _) fun _ => tot_some _) fun y _ => ih _
  ·simp only [ref10_uniques_L2]
   rw [if_neg (by simpa using hlt)]
   exact tot_some _
def TotT {S : Type} (o : Option (Ctl Bool S)) : Prop := o = some (.stop true) ∨ ∃ v, o = some (.next v)
theorem totT_bind {α S : Type} {a : Option α} {f : α → Option (Ctl Bool S)} (h : Tot a) (h2 : ∀ x, a = some x → TotT (f x)) : TotT (Option.bind a f) := by
 obtain ⟨x, rfl⟩ := h
 exact h2 x rfl
theorem totT_ite {S : Type} {b : Bool} {y : Option (Ctl Bool S)} (h2 : b = false → TotT y) : TotT (if b = true then some (.stop true) else y) := by
 cases b with
 | true => exact .inl rfl
 | false => exact h2 rfl
theorem tot_heavy3 {m : GMethod} (hg : listok (fun y => goodGStmt y) m.fBody) : ∀ (n k : Nat) (x : Int), n + k = m.fBody.length + 1 → k ≤ m.fBody.length → TotT (ref10_Heavy_L3 m n x (k : Int))
 | 0, k, x, h, hk => by omega
 | n + 1, k, x, h, hk => by
  obtain ⟨hl, hb⟩ := hg
  simp only [maxLen] at hl
  simp only [ref10_Heavy_L3]
  by_cases hlt : k < m.fBody.length
  ·have hmem := hb _ (List.getElem_mem hlt)
   rw [if_pos (by simpa using hlt), idx_lt hlt, w64_succ hlt (by omega)]
   refine totT_bind (tot_ite (fun _ => tot_some _) fun _ => tot_bind (tot_some _) fun y hy => ?_) fun b _ => totT_ite fun _ => ?_
   ·cases hy
    exact tot_bind (tot_much _ _ _ hmem (by omega)) fun _ _ => tot_some _
   ·refine totT_bind (tot_some _) fun y hy => ?_
    cases hy
    exact totT_bind (tot_size _ _ hmem (by omega)) fun z _ => tot_heavy3 ⟨by simp only [maxLen]; omega, hb⟩ n (k + 1) _ (by omega) (by omega)
  ·rw [if_neg (by simpa using hlt)]
   exact .inr ⟨_, rfl⟩
theorem tot_heavy2 {c : GClass} (hg : listok (fun y => goodGMethod y) c.fMethods) : ∀ (n k : Nat) (x : Int), n + k = c.fMethods.length + 1 → k ≤ c.fMethods.length → TotT (ref10_Heavy_L2 c n x (k : Int))
 | 0, k, x, h, hk => by omega
 | n + 1, k, x, h, hk => by
  obtain ⟨hl, hb⟩ := hg
  simp only [maxLen] at hl
  simp only [ref10_Heavy_L2, fuel_len]
  by_cases hlt : k < c.fMethods.length
  ·have hmem := hb _ (List.getElem_mem hlt)
   rw [if_pos (by simpa using hlt), idx_lt hlt, w64_succ hlt (by omega)]
   refine totT_bind (tot_some _) fun m hm => ?_
   cases hm
   refine totT_bind (tot_ite (fun _ => tot_some _) fun _ => tot_ite (fun _ => tot_some _) fun _ => tot_ite (fun _ => tot_some _) fun _ => tot_bind (tot_uniques hmem) fun _ _ => tot_some _) fun b _ => totT_ite fun _ => ?_
   rcases tot_heavy3 (m := c.fMethods[k]) hmem.2.2.2.2.2.1 (c.fMethods[k].fBody.length + 1) 0 x (by omega) (by omega) with h3 | ⟨v, h3⟩
   ·rw [show (0 : Int) = ((0 : Nat) : Int) from rfl, h3]; exact .inl rfl
   ·rw [show (0 : Int) = ((0 : Nat) : Int) from rfl, h3]
    exact tot_heavy2 ⟨by simp only [maxLen]; omega, hb⟩ n (k + 1) v (by omega) (by omega)
  ·rw [if_neg (by simpa using hlt)]
   exact .inr ⟨_, rfl⟩
theorem tot_heavy1 {p : List GClass} (hg : listok (fun y => goodGClass y) p) : ∀ (n k : Nat) (x : Int), n + k = p.length + 1 → k ≤ p.length →
  ref10_Heavy_L1 p n x (k : Int) = some (.stop true) ∨ ((∃ v, ref10_Heavy_L1 p n x (k : Int) = some (.next v)) ∧ ∀ c ∈ p.drop k, p.length ≤ 30 ∧ c.fFields.length ≤ 40)
 | 0, k, x, h, hk => by omega
 | n + 1, k, x, h, hk => by
  obtain ⟨hl, hb⟩ := hg
  simp only [maxLen] at hl
  simp only [ref10_Heavy_L1, fuel_len]
  by_cases hlt : k < p.length
  ·have hmem := hb _ (List.getElem_mem hlt)
   rw [if_pos (by simpa using hlt), idx_lt hlt, w64_succ hlt (by omega)]
   simp only [obs]
   by_cases h1 : (decide ((p.length : Int) > 30)) = true
   ·rw [if_pos h1]; exact .inl rfl
   rw [if_neg h1]
   by_cases h2 : (decide ((p[k].fParams.length : Int) > 20)) = true
   ·rw [if_pos h2]; exact .inl rfl
   rw [if_neg h2]
   by_cases h3 : (decide ((p[k].fAbove.length : Int) > 20)) = true
   ·rw [if_pos h3]; exact .inl rfl
   rw [if_neg h3]
   by_cases h4 : (decide ((p[k].fFields.length : Int) > 40)) = true
   ·rw [if_pos h4]; exact .inl rfl
   rw [if_neg h4]
   simp only [obs]
   by_cases h5 : (decide ((p[k].fMethods.length : Int) > 40)) = true
   ·rw [if_pos h5]; exact .inl rfl
   rw [if_neg h5]
   rcases tot_heavy2 (c := p[k]) hmem.2.2.2.2.2.1 (p[k].fMethods.length + 1) 0 x (by omega) (by omega) with h6 | ⟨v, h6⟩
   ·rw [show (0 : Int) = ((0 : Nat) : Int) from rfl, h6]; exact .inl rfl
   ·rw [show (0 : Int) = ((0 : Nat) : Int) from rfl, h6]
    simp only [obs, Ctl.elim]
    rcases tot_heavy1 (p := p) ⟨by simp only [maxLen]; omega, hb⟩ n (k + 1) v (by omega) (by omega) with h7 | ⟨h7, h8⟩
    ·exact .inl h7
    ·refine .inr ⟨h7, fun c hc => ?_⟩
     rw [List.drop_eq_getElem_cons hlt] at hc
     rcases List.mem_cons.1 hc with rfl | hc
     ·simp at h1 h4; omega
     ·exact h8 c hc
  ·rw [if_neg (by simpa using hlt), List.drop_eq_nil_of_le (by omega)]
   exact .inr ⟨⟨_, rfl⟩, fun c hc => by simp at hc⟩
theorem heavy_eq {p : List GClass} (hg : listok (fun y => goodGClass y) p) : ∃ b, ref10_Heavy p = some b ∧ (b = false → p.length ≤ 30 ∧ ∀ c ∈ p, c.fFields.length ≤ 40) := by
 simp only [ref10_Heavy, fuel_len]
 rcases tot_heavy1 hg (p.length + 1) 0 0 (by omega) (by omega) with h | ⟨⟨v, h⟩, h2⟩
 ·rw [show (0 : Int) = ((0 : Nat) : Int) from rfl] at h ⊢
  rw [h]; exact ⟨true, rfl, fun hb => by cases hb⟩
 ·rw [show (0 : Int) = ((0 : Nat) : Int) from rfl] at h ⊢
  rw [h]
  refine ⟨_, rfl, fun _ => ?_⟩
  simp only [List.drop_zero] at h2
  refine ⟨?_, fun c hc => (h2 c hc).2⟩
  cases p with
  | nil => simp
  | cons c p => exact (h2 c (by simp)).1
def fiN : List GClass → Nat → List UInt8 → Option Nat
 | [], _, _ => none
 | c :: t, k, name => if c.fName == name then some k else fiN t (k + 1) name
def fi (p : List GClass) (name : List UInt8) : Option Nat := fiN p 0 name
def fnd (p : List GClass) (name : List UInt8) : Int := match fi p name with | some i => (i : Int) | none => -1
theorem fiN_spec : ∀ (l : List GClass) (k : Nat) (name : List UInt8) (i : Nat), fiN l k name = some i → k ≤ i ∧ ∃ c, l[i - k]? = some c ∧ c.fName = name
 | [], k, name, i, h => by simp [fiN] at h
 | c :: t, k, name, i, h => by
  simp only [fiN] at h
  split at h
  ·rename_i hc
   cases h
   exact ⟨Nat.le_refl _, c, by simp, by simpa using hc⟩
  ·obtain ⟨h1, c', h2, h3⟩ := fiN_spec t (k + 1) name i h
   refine ⟨by omega, c', ?_, h3⟩
   rw [show i - k = (i - (k + 1)) + 1 by omega, List.getElem?_cons_succ]
   exact h2
theorem fi_spec {p : List GClass} {name : List UInt8} {i : Nat} (h : fi p name = some i) : ∃ c, p[i]? = some c ∧ c.fName = name := by
 obtain ⟨_, c, h1, h2⟩ := fiN_spec p 0 name i h
 exact ⟨c, by simpa using h1, h2⟩
theorem fi_lt {p : List GClass} {name : List UInt8} {i : Nat} (h : fi p name = some i) : i < p.length := by
 obtain ⟨c, h1, _⟩ := fi_spec h
 exact (List.getElem?_eq_some_iff.1 h1).1
theorem fnd_some {p : List GClass} {name : List UInt8} {i : Nat} (h : fi p name = some i) : fnd p name = (i : Int) := by unfold fnd; rw [h]
theorem fnd_none {p : List GClass} {name : List UInt8} (h : fi p name = none) : fnd p name = -1 := by unfold fnd; rw [h]
def hit (o : Option Nat) : Ctl Int Unit := match o with | some i => .stop (i : Int) | none => .next ()
theorem indexFunc_L {p : List GClass} (name : List UInt8) (hp : p.length < 9223372036854775806) : ∀ (n k : Nat), n + k = p.length + 1 → k ≤ p.length →
  slices_IndexFunc_api_Class_L1 p (fun (z1 : GClass) => table_Find_1 z1 name) n (k : Int) = some (hit (fiN (p.drop k) k name))
 | 0, k, h, hk => by omega
 | n + 1, k, h, hk => by
  simp only [slices_IndexFunc_api_Class_L1]
  by_cases hlt : k < p.length
  ·rw [if_pos (by simpa using hlt), idx_lt hlt, List.drop_eq_getElem_cons hlt]
   simp only [obs, table_Find_1, fiN]
   by_cases hc : (p[k].fName == name) = true
   ·rw [if_pos hc, if_pos hc]; rfl
   ·rw [if_neg hc, if_neg hc, w64_succ hlt (by omega)]
    exact indexFunc_L name hp n (k + 1) (by omega) (by omega)
  ·rw [if_neg (by simpa using hlt), List.drop_eq_nil_of_le (by omega)]
   rfl
theorem table_Find_eq {p : List GClass} (hp : p.length < 9223372036854775806) (name : List UInt8) : table_Find p name = some (fnd p name) := by
 unfold table_Find slices_IndexFunc_api_Class
 have h := indexFunc_L name hp (p.length + 1) 0 (by omega) (by omega)
 rw [show (((p.length : Int) : Int) - (0)).toNat + 1 = p.length + 1 by omega, show (0 : Int) = ((0 : Nat) : Int) from rfl, h]
 simp only [List.drop_zero, obs]
 unfold fnd fi hit
 cases fiN p 0 name <;> rfl
def sup (p : List GClass) (i : Nat) : List UInt8 := match p[i]? with | some c => c.fSuper | none => []
def upN (p : List GClass) : Nat → List UInt8 → List Nat
 | 0, _ => []
 | n + 1, name => match fi p name with
  | none => []
  | some i => if sup p i == [] then [i] else i :: upN p n (sup p i)
theorem itR_up_n_eq {p : List GClass} (hp : p.length < 9223372036854775806) : ∀ (n : Nat) (name : List UInt8), itR_up_n p n name = some ((upN p n name).map Int.ofNat)
 | 0, name => rfl
 | n + 1, name => by
  simp only [itR_up_n, upN, table_Find_eq hp, obs]
  cases hf : fi p name with
  | none => rw [fnd_none hf]; simp
  | some i =>
   rw [fnd_some hf, if_neg (by omega)]
   obtain ⟨c, hc, _⟩ := fi_spec hf
   have hidx : idx p (i : Int) = some c := by rw [idx_nat]; exact hc
   rw [hidx]
   have hs : sup p i = c.fSuper := by unfold sup; rw [hc]
   simp only [obs, hs]
   by_cases he : (c.fSuper == []) = true
   ·rw [if_pos he, if_pos he]; rfl
   ·rw [if_neg he, if_neg he, itR_up_n_eq hp n c.fSuper]; rfl
theorem itR_up_eq {p : List GClass} (hp : p.length < 9223372036854775806) (name : List UInt8) : itR_up p name = some ((upN p (p.length + 1) name).map Int.ofNat) := by
 unfold itR_up; rw [if_pos hp, itR_up_n_eq hp]
def chN (p : List GClass) : Nat → List Nat → List UInt8 → List Nat
 | 0, out, _ => out
 | n + 1, out, name => match fi p name with
  | none => out
  | some i => if i ∈ out then out else if sup p i == [] then out ++ [i] else chN p n (out ++ [i]) (sup p i)
def ch (p : List GClass) (name : List UInt8) : List Nat := chN p (p.length + 1) [] name
theorem nodup_len : ∀ (L : Nat) (l : List Nat), l.Nodup → (∀ x ∈ l, x < L) → l.length ≤ L
 | 0, l, _, h => by
  cases l with
  | nil => exact Nat.le_refl _
  | cons x l => have := h x (by simp); omega
 | L + 1, l, hn, h => by
  have h1 := nodup_len L (l.erase L) (hn.erase L) (fun x hx => by
   have := (hn.mem_erase_iff.1 hx)
   have := h x this.2
   omega)
  by_cases hm : L ∈ l
  ·have := List.length_erase_of_mem hm; omega
  ·rw [List.erase_of_not_mem hm] at h1; omega
structure Way (p : List GClass) (out : List Nat) (name : List UInt8) : Prop where
 nd : out.Nodup
 lt : ∀ x ∈ out, x < p.length
 nx : ∀ x ∈ out, sup p x ≠ [] ∧ (sup p x = name ∨ ∃ j, fi p (sup p x) = some j ∧ j ∈ out)
 own : ∀ x ∈ out, ∃ nm, fi p nm = some x
theorem Way.nil (p : List GClass) (name : List UInt8) : Way p [] name := ⟨List.nodup_nil, by simp, by simp, by simp⟩
theorem Way.snoc {p : List GClass} {out : List Nat} {name : List UInt8} {i : Nat} (h : Way p out name) (hf : fi p name = some i) (hi : i ∉ out) (hs : sup p i ≠ []) : Way p (out ++ [i]) (sup p i) := by
 refine ⟨?_, fun x hx => ?_, fun x hx => ?_, fun x hx => ?_⟩
 ·refine List.nodup_append.2 ⟨h.nd, by simp, fun a ha b hb => ?_⟩
  simp at hb; subst hb; rintro rfl; exact hi ha
 ·rcases List.mem_append.1 hx with hx | hx
  ·exact h.lt x hx
  ·simp at hx; subst hx; exact fi_lt hf
 ·rcases List.mem_append.1 hx with hx | hx
  ·obtain ⟨h1, h2⟩ := h.nx x hx
   refine ⟨h1, .inr ?_⟩
   rcases h2 with h2 | ⟨j, h2, h3⟩
   ·exact ⟨i, by rw [h2]; exact hf, by simp⟩
   ·exact ⟨j, h2, by simp [h3]⟩
  ·simp at hx; subst hx; exact ⟨hs, .inl rfl⟩
 ·rcases List.mem_append.1 hx with hx | hx
  ·exact h.own x hx
  ·simp at hx; subst hx; exact ⟨name, hf⟩
def Shut (p : List GClass) (S : List Nat) : Prop := ∀ x ∈ S, sup p x ≠ [] → ∀ j, fi p (sup p x) = some j → j ∈ S
theorem upN_shut {p : List GClass} {S : List Nat} (h : Shut p S) : ∀ (n : Nat) (name : List UInt8), (∀ j, fi p name = some j → j ∈ S) → ∀ x ∈ upN p n name, x ∈ S
 | 0, name, _, x, hx => by simp [upN] at hx
 | n + 1, name, hs, x, hx => by
  simp only [upN] at hx
  cases hf : fi p name with
  | none => rw [hf] at hx; simp at hx
  | some i =>
   rw [hf] at hx
   have hi := hs i hf
   simp only at hx
   split at hx
   ·simp at hx; subst hx; exact hi
   ·rename_i he
    rcases List.mem_cons.1 hx with rfl | hx
    ·exact hi
    ·exact upN_shut h n _ (fun j hj => h i hi (by simpa using he) j hj) x hx
theorem upN_round {p : List GClass} {S : List Nat} (h : ∀ x ∈ S, sup p x ≠ [] ∧ ∃ j, fi p (sup p x) = some j ∧ j ∈ S) : ∀ (n : Nat) (name : List UInt8) (i : Nat), fi p name = some i → i ∈ S → (upN p n name).length = n
 | 0, name, i, _, _ => rfl
 | n + 1, name, i, hf, hi => by
  obtain ⟨h1, j, h2, h3⟩ := h i hi
  simp only [upN, hf]
  rw [if_neg (by simpa using h1)]
  simp [upN_round h n _ j h2 h3]
def back (p : List GClass) (l : List Nat) : Bool := match l.getLast? with
 | none => false
 | some i => !(sup p i == []) && (match fi p (sup p i) with | some j => decide (j ∈ l) | none => false)
theorem upN_chN {p : List GClass} : ∀ (n : Nat) (out : List Nat) (name : List UInt8), n + out.length = p.length + 1 → Way p out name → (out = [] ∨ ∃ x, out.getLast? = some x ∧ sup p x = name) →
  ∃ R, out ++ upN p n name = chN p n out name ++ R ∧ (∀ x ∈ R, x ∈ chN p n out name) ∧ (∀ x ∈ out, x ∈ chN p n out name) ∧ (∀ j, fi p name = some j → j ∈ chN p n out name) ∧ Shut p (chN p n out name) ∧ (chN p n out name).Nodup ∧ (∀ x ∈ chN p n out name, x < p.length ∧ ∃ nm, fi p nm = some x) ∧
   (back p (chN p n out name) = decide ((upN p n name).length = n))
 | 0, out, name, hn, hw, hl => by
  exfalso
  have := nodup_len p.length out hw.nd hw.lt
  omega
 | n + 1, out, name, hn, hw, hl => by
  have hlen := nodup_len p.length out hw.nd hw.lt
  cases hf : fi p name with
  | none =>
   simp only [upN, chN, hf]
   refine ⟨[], by simp, by simp, fun x hx => hx, by simp, fun x hx hne j hj => ?_, hw.nd, fun x hx => ⟨hw.lt x hx, hw.own x hx⟩, ?_⟩
   ·rcases (hw.nx x hx).2 with h1 | ⟨j', h1, h2⟩
    ·rw [h1, hf] at hj; cases hj
    ·rw [h1] at hj; cases hj; exact h2
   ·have : back p out = false := by
     unfold back
     rcases hl with rfl | ⟨x, h1, h2⟩
     ·rfl
     ·rw [h1]; simp only [h2, hf, Bool.and_false]
    rw [this]; simp
  | some i =>
   simp only [upN, chN, hf]
   by_cases hi : i ∈ out
   ·rw [if_pos hi]
    have hround : ∀ x ∈ out, sup p x ≠ [] ∧ ∃ j, fi p (sup p x) = some j ∧ j ∈ out := by
     intro x hx
     obtain ⟨h1, h2⟩ := hw.nx x hx
     refine ⟨h1, ?_⟩
     rcases h2 with h2 | h2
     ·exact ⟨i, by rw [h2]; exact hf, hi⟩
     ·exact h2
    have hshut : Shut p out := fun x hx _ j hj => by
     obtain ⟨_, j', h1, h2⟩ := hround x hx
     rw [h1] at hj; cases hj; exact h2
    have hsub := upN_shut hshut (n + 1) name (fun j hj => by rw [hf] at hj; cases hj; exact hi)
    have hfull := upN_round hround (n + 1) name i hf hi
    simp only [upN, hf] at hsub hfull
    refine ⟨_, rfl, hsub, fun x hx => hx, fun j hj => by cases hj; exact hi, hshut, hw.nd, fun x hx => ⟨hw.lt x hx, hw.own x hx⟩, ?_⟩
    rw [hfull]
    have : back p out = true := by
     unfold back
     rcases hl with rfl | ⟨x, h1, h2⟩
     ·simp at hi
     ·have hx : x ∈ out := List.mem_of_getLast? h1
      rw [h1]
      simp only [h2, hf, hi, decide_true, Bool.and_true]
      have := (hw.nx x hx).1
      rw [h2] at this
      simpa using this
    rw [this]; simp
   ·rw [if_neg hi]
    by_cases hs : (sup p i == []) = true
    ·rw [if_pos hs, if_pos hs]
     have hs' : sup p i = [] := by simpa using hs
     have hw2 : (out ++ [i]).Nodup := List.nodup_append.2 ⟨hw.nd, by simp, fun a ha b hb => by
      simp at hb; subst hb; rintro rfl; exact hi ha⟩
     have hlt2 : ∀ x ∈ out ++ [i], x < p.length := fun x hx => by
      rcases List.mem_append.1 hx with hx | hx
      ·exact hw.lt x hx
      ·simp at hx; subst hx; exact fi_lt hf
     have hlen2 := nodup_len p.length _ hw2 hlt2
     refine ⟨[], by simp, by simp, fun x hx => by simp [hx], fun j hj => by cases hj; simp, fun x hx hne j hj => ?_, hw2, fun x hx => ⟨hlt2 x hx, ?_⟩, ?_⟩
     ·rcases List.mem_append.1 hx with hx | hx
      ·rcases (hw.nx x hx).2 with h1 | ⟨j', h1, h2⟩
       ·rw [h1, hf] at hj; cases hj; simp
       ·rw [h1] at hj; cases hj; simp [h2]
      ·simp at hx; subst hx; exact absurd hs' hne
     ·rcases List.mem_append.1 hx with hx | hx
      ·exact hw.own x hx
      ·simp at hx; subst hx; exact ⟨name, hf⟩
     ·have : back p (out ++ [i]) = false := by
       unfold back; simp [hs']
      rw [this]
      simp at hlen2
      simp; omega
    ·rw [if_neg hs, if_neg hs]
     have hs' : sup p i ≠ [] := by simpa using hs
     obtain ⟨R, k1, k2, k3, k4, k5, k6, k7, k8⟩ := upN_chN n (out ++ [i]) (sup p i) (by simp; omega) (hw.snoc hf hi hs') (.inr ⟨i, by simp, rfl⟩)
     refine ⟨R, by rw [← k1]; simp, k2, fun x hx => k3 x (by simp [hx]), fun j hj => by cases hj; exact k3 i (by simp), k5, k6, k7, ?_⟩
     rw [k8]; simp
theorem ch_facts (p : List GClass) (name : List UInt8) : ∃ R, upN p (p.length + 1) name = ch p name ++ R ∧ (∀ x ∈ R, x ∈ ch p name) ∧ (∀ j, fi p name = some j → j ∈ ch p name) ∧ Shut p (ch p name) ∧ (ch p name).Nodup ∧ (∀ x ∈ ch p name, x < p.length ∧ ∃ nm, fi p nm = some x) ∧
  (back p (ch p name) = decide ((upN p (p.length + 1) name).length = p.length + 1)) := by
 obtain ⟨R, k1, k2, k3, k4, k5, k6, k7, k8⟩ := upN_chN (p.length + 1) [] name (by simp) (Way.nil p name) (.inl rfl)
 exact ⟨R, by unfold ch; simpa using k1, k2, k4, k5, k6, k7, k8⟩
theorem idxI_L {l : List Int} (a : Int) (hp : l.length < 9223372036854775806) : ∀ (n k : Nat), n + k = l.length + 1 → k ≤ l.length →
  ∃ r, slices_Index_int_L1 l a n (k : Int) = some r ∧ ((∃ v : Int, r = .stop v ∧ 0 ≤ v ∧ a ∈ l.drop k) ∨ (r = .next () ∧ a ∉ l.drop k))
 | 0, k, h, hk => by omega
 | n + 1, k, h, hk => by
  simp only [slices_Index_int_L1]
  by_cases hlt : k < l.length
  ·rw [if_pos (by simpa using hlt), idx_lt hlt, List.drop_eq_getElem_cons hlt]
   simp only [obs]
   by_cases hc : (a == l[k]) = true
   ·rw [if_pos hc]
    have hc' : a = l[k] := by simpa using hc
    exact ⟨_, rfl, .inl ⟨_, rfl, by omega, by rw [hc']; exact List.mem_cons_self⟩⟩
   ·rw [if_neg hc, w64_succ hlt (by omega)]
    obtain ⟨r, h1, h2⟩ := idxI_L a hp n (k + 1) (by omega) (by omega)
    refine ⟨r, h1, ?_⟩
    have hne : a ≠ l[k] := by simpa using hc
    rcases h2 with ⟨v, h3, h4, h5⟩ | ⟨h3, h4⟩
    ·exact .inl ⟨v, h3, h4, List.mem_cons_of_mem _ h5⟩
    ·exact .inr ⟨h3, fun hm => (List.mem_cons.1 hm).elim hne h4⟩
  ·rw [if_neg (by simpa using hlt), List.drop_eq_nil_of_le (by omega)]
   exact ⟨_, rfl, .inr ⟨rfl, by simp⟩⟩
theorem contains_eq {l : List Int} (hp : l.length < 9223372036854775806) (a : Int) : slices_Contains_int l a = some (decide (a ∈ l)) := by
 unfold slices_Contains_int slices_Index_int
 obtain ⟨r, h1, h2⟩ := idxI_L a hp (l.length + 1) 0 (by omega) (by omega)
 rw [show (((l.length : Int) : Int) - (0)).toNat + 1 = l.length + 1 by omega, show (0 : Int) = ((0 : Nat) : Int) from rfl, h1]
 rcases h2 with ⟨v, rfl, h3, h4⟩ | ⟨rfl, h4⟩
 ·simp only [obs, Ctl.elim]
  simp only [List.drop_zero] at h4
  simp [h4, h3]
 ·simp only [obs, Ctl.elim]
  simp only [List.drop_zero] at h4
  simp [h4]
theorem mem_cast {i : Nat} {l : List Nat} : ((i : Int) ∈ l.map Int.ofNat) ↔ i ∈ l := by
 rw [List.mem_map]
 constructor
 ·rintro ⟨j, h1, h2⟩
  have : j = i := Int.ofNat.inj h2
  exact this ▸ h1
 ·intro h; exact ⟨i, h, rfl⟩
theorem chain_runs {p : List GClass} (hp : p.length ≤ 1000000) : ∀ (n : Nat) (out : List Nat) (name : List UInt8), n + out.length = p.length + 1 →
  ∃ r, runs above_Chain_B1 ((upN p n name).map Int.ofNat) (out.map Int.ofNat) = some r ∧ Ctl.elim r (fun x => x) (fun x => x) = (chN p n out name).map Int.ofNat
 | 0, out, name, _ => ⟨_, rfl, rfl⟩
 | n + 1, out, name, hn => by
  have hout : (out.map Int.ofNat).length < 9223372036854775806 := by simp; omega
  have hroom : room (((out.map Int.ofNat).length : Int) + (([(0 : Int)].length : Nat) : Int)) 8 = some () := room_ok (by simp; omega)
  simp only [upN, chN]
  cases hf : fi p name with
  | none => exact ⟨_, rfl, rfl⟩
  | some i =>
   simp only
   have hstep : ∀ rest, runs above_Chain_B1 (((i : Nat) :: rest).map Int.ofNat) (out.map Int.ofNat) = if i ∈ out then some (.stop (out.map Int.ofNat)) else runs above_Chain_B1 (rest.map Int.ofNat) ((out ++ [i]).map Int.ofNat) := by
    intro rest
    simp only [List.map_cons, runs, above_Chain_B1]
    rw [contains_eq hout]
    simp only [obs]
    by_cases hi : i ∈ out
    ·have : Int.ofNat i ∈ out.map Int.ofNat := mem_cast.2 hi
     rw [if_pos hi, if_pos (by simpa using this)]
     rfl
    ·have hni : ¬ Int.ofNat i ∈ out.map Int.ofNat := fun h => hi (mem_cast.1 h)
     rw [if_neg hi, if_neg (by simpa using hni)]
     rw [show (([Int.ofNat i].length : Nat) : Int) = (([(0 : Int)].length : Nat) : Int) from rfl, hroom]
     simp [obs, Ctl.elim]
   by_cases hi : i ∈ out
   ·rw [if_pos hi]
    split
    ·rw [hstep, if_pos hi]; exact ⟨_, rfl, rfl⟩
    ·rw [hstep, if_pos hi]; exact ⟨_, rfl, rfl⟩
   ·rw [if_neg hi]
    by_cases hs : (sup p i == []) = true
    ·rw [if_pos hs, if_pos hs, hstep, if_neg hi]
     exact ⟨_, rfl, rfl⟩
    ·rw [if_neg hs, if_neg hs, hstep, if_neg hi]
     exact chain_runs hp n (out ++ [i]) (sup p i) (by simp; omega)
theorem above_Chain_eq {p : List GClass} (hp : p.length ≤ 1000000) (name : List UInt8) : above_Chain p name = some ((ch p name).map Int.ofNat) := by
 unfold above_Chain above_up
 simp only [obs]
 rw [itR_up_eq (by omega)]
 simp only [obs]
 obtain ⟨r, h1, h2⟩ := chain_runs hp (p.length + 1) [] name (by simp)
 rw [show ([] : List Int) = ([] : List Nat).map Int.ofNat from rfl, h1]
 unfold ch
 rw [← h2]
 cases r <;> rfl
theorem ch_len (p : List GClass) (name : List UInt8) : (ch p name).length ≤ p.length := by
 obtain ⟨_, _, _, _, _, k6, k7, _⟩ := ch_facts p name
 exact nodup_len _ _ k6 (fun x hx => (k7 x hx).1)
def slotsOf (c : GClass) : List GSlot_field := c.fFields.map fun v => { fClass := c.fName, fVar := v }
def slotsAt (p : List GClass) (k : Nat) : List GSlot_field := match p[k]? with | some c => slotsOf c | none => []
def allS (p : List GClass) (l : List Nat) : List GSlot_field := (l.reverse.map (slotsAt p)).flatten
theorem allS_cons (p : List GClass) (k : Nat) (l : List Nat) : allS p (k :: l) = allS p l ++ slotsAt p k := by simp [allS]
theorem allS_snoc (p : List GClass) (k : Nat) (l : List Nat) : allS p (l ++ [k]) = slotsAt p k ++ allS p l := by simp [allS]
def fieldsOk (p : List GClass) (N : Nat) : Prop := ∀ c ∈ p, c.fFields.length ≤ N
theorem slotsAt_len {p : List GClass} {N : Nat} (h : fieldsOk p N) (k : Nat) : (slotsAt p k).length ≤ N := by
 unfold slotsAt
 cases hk : p[k]? with
 | none => simp
 | some c => simpa [slotsOf] using h c (List.mem_of_getElem? hk)
theorem allS_len {p : List GClass} {N : Nat} (h : fieldsOk p N) : ∀ l : List Nat, (allS p l).length ≤ l.length * N
 | [] => by simp [allS]
 | k :: l => by
  rw [allS_cons, List.length_append, List.length_cons, Nat.add_mul, Nat.one_mul]
  have := slotsAt_len h k
  have := allS_len h l
  omega
theorem field_All_L2_eq {p : List GClass} {k : Nat} {c : GClass} (hk : p[k]? = some c) (hN : c.fFields.length ≤ 1000000) : ∀ (n j : Nat) (out : List GSlot_field), n + j = c.fFields.length + 1 → j ≤ c.fFields.length → out.length + (c.fFields.length - j) ≤ 1000000000 →
  field_All_L2 p (k : Int) c n out (j : Int) = some (out ++ (c.fFields.drop j).map fun v => { fClass := c.fName, fVar := v })
 | 0, j, out, h, hj, _ => by omega
 | n + 1, j, out, h, hj, ho => by
  simp only [field_All_L2]
  by_cases hlt : j < c.fFields.length
  ·have hidx : idx p (k : Int) = some c := by rw [idx_nat]; exact hk
   have hroom : ∀ z : GSlot_field, room ((out.length : Int) + (([z].length : Nat) : Int)) 136 = some () := fun z => room_ok (by simp; omega)
   rw [if_pos (by simpa using hlt), idx_lt hlt]
   simp only [obs, hidx, hroom]
   rw [w64_succ hlt (by omega), field_All_L2_eq hk hN n (j + 1) _ (by omega) (by omega) (by simp; omega), List.drop_eq_getElem_cons hlt]
   simp only [List.map_cons, List.append_assoc, List.singleton_append]
  ·rw [if_neg (by simpa using hlt), List.drop_eq_nil_of_le (by omega)]
   simp
theorem field_runs {p : List GClass} {N : Nat} (hN : N ≤ 1000) (hf : fieldsOk p N) (l : List Nat) (hl : ∀ x ∈ l, x < p.length) (hll : l.length ≤ 1000000) : ∀ (n : Nat) (out : List GSlot_field), n ≤ l.length → out.length + n * N ≤ 1000000000 →
  runs (field_All_B1 p) (itR_back_n (l.map Int.ofNat) n) out = some (.next (out ++ allS p (l.take n)))
 | 0, out, _, _ => by simp [itR_back_n, runs, allS]
 | n + 1, out, h, ho => by
  have hn : (l.map Int.ofNat)[n]? = some (Int.ofNat l[n]) := by rw [List.getElem?_map, List.getElem?_eq_getElem (by omega)]; rfl
  have hx := hl l[n] (List.getElem_mem (by omega))
  have hk : p[l[n]]? = some p[l[n]] := List.getElem?_eq_getElem hx
  have hidx : idx p (Int.ofNat l[n]) = some p[l[n]] := idx_lt hx
  have hc := hf p[l[n]] (List.getElem_mem hx)
  rw [Nat.add_mul, Nat.one_mul] at ho
  have hL := field_All_L2_eq hk (by omega) (p[l[n]].fFields.length + 1) 0 out (by omega) (by omega) (by omega)
  simp only [itR_back_n, hn, runs, field_All_B1, hidx, obs]
  rw [show (((p[l[n]].fFields.length : Int) : Int) - (0)).toNat + 1 = p[l[n]].fFields.length + 1 by omega, show (Int.ofNat l[n] : Int) = ((l[n] : Nat) : Int) from rfl, show (0 : Int) = ((0 : Nat) : Int) from rfl, hL]
  simp only [obs, Ctl.elim, List.drop_zero]
  have hlen : (p[l[n]].fFields.map fun v => ({ fClass := p[l[n]].fName, fVar := v } : GSlot_field)).length ≤ N := by simpa using hc
  rw [field_runs hN hf l hl hll n _ (by omega) (by rw [List.length_append]; omega)]
  congr 2
  have ht : l.take (n + 1) = l.take n ++ [l[n]] := by rw [List.take_add_one, List.getElem?_eq_getElem (by omega)]; rfl
  rw [ht]
  have : slotsAt p l[n] = p[l[n]].fFields.map fun v => ({ fClass := p[l[n]].fName, fVar := v } : GSlot_field) := by unfold slotsAt; rw [hk]; rfl
  rw [allS_snoc, this, List.append_assoc]
def flds (p : List GClass) (name : List UInt8) : List GSlot_field := allS p (ch p name)
theorem field_All_eq {p : List GClass} {N : Nat} (hp : p.length ≤ 1000) (hN : N ≤ 1000) (hf : fieldsOk p N) (name : List UInt8) : field_All p name = some (flds p name) := by
 unfold field_All
 rw [above_Chain_eq (by omega)]
 obtain ⟨_, _, _, _, _, _, k7, _⟩ := ch_facts p name
 have hcl := ch_len p name
 have hNm : (ch p name).length * N ≤ 1000 * 1000 := Nat.mul_le_mul (by omega) hN
 simp only [obs, slices_Backward_int, itR_back, List.length_map]
 rw [if_pos (by omega)]
 simp only [obs]
 rw [field_runs hN hf (ch p name) (fun x hx => (k7 x hx).1) (by omega) (ch p name).length [] (Nat.le_refl _) (by simp; omega)]
 simp [obs, Ctl.elim, flds]
theorem flds_len {p : List GClass} {N : Nat} (hp : p.length ≤ 1000) (hN : N ≤ 1000) (hf : fieldsOk p N) (name : List UInt8) : (flds p name).length ≤ 1000000 := by
 have h1 := allS_len hf (ch p name)
 have hcl := ch_len p name
 have : (ch p name).length * N ≤ 1000 * 1000 := Nat.mul_le_mul (by omega) hN
 unfold flds; omega
def liveS : List GCell → Nat → List Int
 | [], _ => []
 | c :: t, k => (if c.fDead then [] else [((k + 1 : Nat) : Int)]) ++ liveS t (k + 1)
theorem liveS_len : ∀ (h : List GCell) (k : Nat), (liveS h k).length ≤ h.length
 | [], k => by simp [liveS]
 | c :: t, k => by
  have := liveS_len t (k + 1)
  simp only [liveS, List.length_append, List.length_cons]
  split <;> simp <;> omega
theorem heap_Live_L {h : List GCell} (hl : h.length ≤ 1000000) : ∀ (n k : Nat) (out : List Int), n + k = h.length + 1 → k ≤ h.length → out.length ≤ k → heap_Live_L1 h n out (k : Int) = some (out ++ liveS (h.drop k) k)
 | 0, k, out, hn, hk, _ => by omega
 | n + 1, k, out, hn, hk, ho => by
  simp only [heap_Live_L1]
  by_cases hlt : k < h.length
  ·have hroom : ∀ z : Int, room ((out.length : Int) + (([z].length : Nat) : Int)) 8 = some () := fun z => room_ok (by simp; omega)
   rw [if_pos (by simpa using hlt), idx_lt hlt, w64_succ hlt (by omega), List.drop_eq_getElem_cons hlt]
   simp only [obs, hroom, liveS]
   by_cases hd : h[k].fDead = true
   ·rw [if_neg (by simp [hd]), if_pos hd]
    simp only [obs]
    rw [heap_Live_L hl n (k + 1) out (by omega) (by omega) (by omega)]
    simp
   ·rw [if_pos (by simpa using hd), if_neg hd]
    simp only [obs]
    rw [heap_Live_L hl n (k + 1) _ (by omega) (by omega) (by simp; omega)]
    simp only [List.append_assoc]
  ·rw [if_neg (by simpa using hlt), List.drop_eq_nil_of_le (by omega)]
   simp [liveS]
theorem heap_Live_eq {h : List GCell} (hl : h.length ≤ 1000000) : heap_Live h = some (liveS h 0) := by
 simp only [heap_Live, fuel_len]
 rw [show (0 : Int) = ((0 : Nat) : Int) from rfl, heap_Live_L hl _ 0 [] (by omega) (by omega) (by simp)]
 simp [obs]
theorem set_mid {A B : List Int} {x v : Int} : (A ++ x :: B).set A.length v = A ++ v :: B := by
 rw [List.set_append_right _ _ (Nat.le_refl _)]; simp
theorem rev_L : ∀ (n : Nat) (M A B : List Int), M.length < 2 * n → (A ++ (M ++ B)).length ≤ 1000000 → slices_Reverse_byte_w_L1 n (A ++ (M ++ B)) (A.length : Int) ((A.length : Int) + (M.length : Int) - 1) = some (A ++ (M.reverse ++ B))
 | 0, M, A, B, h, _ => by omega
 | n + 1, M, A, B, h, hl => by
  rw [slices_Reverse_byte_w_L1]
  by_cases h2 : 2 ≤ M.length
  ·obtain ⟨x, M', y, rfl⟩ : ∃ x M' y, M = x :: (M' ++ [y]) := by
    cases M with
    | nil => simp at h2
    | cons x T =>
     have hT : T ≠ [] := by intro e; subst e; simp at h2
     exact ⟨x, T.dropLast, T.getLast hT, by rw [List.dropLast_concat_getLast]⟩
   simp only [List.length_append, List.length_cons, List.length_nil] at h hl
   have e0 : A ++ (x :: (M' ++ [y]) ++ B) = A ++ x :: (M' ++ (y :: B)) := by simp
   have ej : ((A.length : Int) + ((x :: (M' ++ [y])).length : Int) - 1) = ((A ++ x :: M').length : Int) := by simp; omega
   have e1 : A ++ x :: (M' ++ (y :: B)) = (A ++ x :: M') ++ y :: B := by simp
   have ix : idx (A ++ x :: (M' ++ (y :: B))) (A.length : Int) = some x := by rw [idx_nat]; simp
   have iy : idx (A ++ x :: (M' ++ (y :: B))) ((A ++ x :: M').length : Int) = some y := by rw [e1, idx_nat, List.getElem?_append_right (Nat.le_refl _)]; simp
   have s1 : (A ++ x :: (M' ++ (y :: B))).set A.length y = A ++ y :: (M' ++ (y :: B)) := set_mid
   have i2 : idx (A ++ y :: (M' ++ (y :: B))) ((A ++ x :: M').length : Int) = some y := by
    rw [show A ++ y :: (M' ++ (y :: B)) = (A ++ y :: M') ++ y :: B by simp, show (A ++ x :: M').length = (A ++ y :: M').length by simp, idx_nat, List.getElem?_append_right (Nat.le_refl _)]; simp
   have s2 : (A ++ y :: (M' ++ (y :: B))).set (A ++ x :: M').length x = (A ++ [y]) ++ (M' ++ (x :: B)) := by
    rw [show A ++ y :: (M' ++ (y :: B)) = (A ++ y :: M') ++ y :: B by simp, show (A ++ x :: M').length = (A ++ y :: M').length by simp, set_mid]; simp
   rw [e0, ej, if_pos (by simp; omega), iy, obs, ix, obs, obs]
   simp only [Int.toNat_natCast]
   rw [s1, i2, obs, s2, w64 (by omega) (by omega), w64 (by simp; omega) (by simp; omega)]
   have ih := rev_L n M' (A ++ [y]) (x :: B) (by omega) (by simp; omega)
   rw [show ((A.length : Int) + 1) = (((A ++ [y]).length : Nat) : Int) by simp, show (((A ++ x :: M').length : Nat) : Int) - 1 = (((A ++ [y]).length : Nat) : Int) + (M'.length : Int) - 1 by simp; omega, ih]
   simp
  ·rw [if_neg (by simp; omega)]
   match M, h2 with
   | [], _ => rfl
   | [_], _ => rfl
   | _ :: _ :: _, h2 => simp at h2
theorem reverse_eq {l : List Int} (h : l.length ≤ 100000) : slices_Reverse_byte_w l = some l.reverse := by
 unfold slices_Reverse_byte_w
 have := rev_L (l.length + 1) l [] [] (by omega) (by simp; omega)
 simp only [List.nil_append, List.append_nil, List.length_nil] at this
 rw [w64 (by omega) (by omega), show (l.length : Int) - 1 = ((0 : Nat) : Int) + (l.length : Int) - 1 by omega, show (0 : Int) = ((0 : Nat) : Int) from rfl, this, obs]
theorem wu64 {n : Int} (h1 : 0 ≤ n) (h2 : n < 18446744073709551616) : w_u64 n = n := by
 show IntKind.u64.wrap n = n
 unfold IntKind.wrap
 simp only [IntKind.bits, IntKind.signed]
 first | omega | (simp; omega) | skip
theorem wu8 {n : Int} (h1 : 0 ≤ n) (h2 : n < 256) : w_u8 n = n := by
 show IntKind.u8.wrap n = n
 unfold IntKind.wrap
 simp only [IntKind.bits, IntKind.signed]
 first | omega | (simp; omega) | skip
def rst : Nat → Nat → List Int
 | 0, _ => []
 | f + 1, m => if 10 ≤ m then ((48 + m / 10 % 10 : Nat) : Int) :: rst f (m / 10) else []
theorem tdiv10 (m : Nat) : Int.tdiv (m : Int) 10 = ((m / 10 : Nat) : Int) := by rw [Int.tdiv_eq_ediv_of_nonneg (by omega)]; omega
theorem tmod10 (m : Nat) : Int.tmod (m : Int) 10 = ((m % 10 : Nat) : Int) := by rw [Int.tmod_eq_emod_of_nonneg (by omega)]; omega
theorem byteD {k : Nat} : w_u8 (w_u64 (48 + ((k % 10 : Nat) : Int))) = ((48 + k % 10 : Nat) : Int) := by
 have : k % 10 < 10 := Nat.mod_lt _ (by omega)
 rw [wu64 (by omega) (by omega), wu8 (by omega) (by omega)]; omega
theorem strL_append (a b : List Int) : strL (a ++ b) = strL a ++ strL b := by simp [strL]
theorem digits_L : ∀ (f m : Nat) (acc : List Int), m < 10 ^ (f + 1) → m < 18446744073709551616 → acc.length + f ≤ 1000 → word_Digits_L1 (f + 1) (m : Int) acc = some (acc ++ rst (f + 1) m)
 | f, m, acc, h, hm, ha => by
  rw [word_Digits_L1]
  by_cases h10 : 10 ≤ m
  ·have hd : m / 10 < 10 ^ f := Nat.div_lt_of_lt_mul (by rw [Nat.pow_succ, Nat.mul_comm] at h; exact h)
   cases f with
   | zero => simp at hd; omega
   | succ f =>
    rw [if_pos (by simp; omega), tdiv10, wu64 (n := ((m / 10 : Nat) : Int)) (by omega) (by omega), tmod10, byteD, room_ok (by simp; omega), obs, digits_L f (m / 10) _ hd (by omega) (by simp; omega)]
    rw [show rst (f + 1 + 1) m = ((48 + m / 10 % 10 : Nat) : Int) :: rst (f + 1) (m / 10) by rw [rst, if_pos h10]]
    simp
  ·rw [if_neg (by simp; omega), rst, if_neg h10]; simp
theorem rst_len : ∀ (f m : Nat), (rst f m).length ≤ f
 | 0, m => by simp [rst]
 | f + 1, m => by
  rw [rst]; split
  ·have := rst_len f (m / 10); simp; omega
  ·simp
def digS (a : Int) : List UInt8 := (if a < 0 then [45] else []) ++ (strL (rst 21 a.natAbs).reverse ++ strL [((48 + a.natAbs % 10 : Nat) : Int)])
theorem word_Digits_eq {a : Int} (h1 : -9223372036854775808 ≤ a) (h2 : a ≤ 9223372036854775807) : word_Digits a = some (digS a) := by
 have hu : (if (decide (a < 0)) = true then some (w_u64 (0 - (w_u64 a))) else some (w_u64 a) : Option Int) = some (a.natAbs : Int) := by
  by_cases h0 : a < 0
  ·rw [if_pos (by simpa using h0)]
   congr 1
   have : w_u64 a = a + 18446744073709551616 := by
    show IntKind.u64.wrap a = _
    unfold IntKind.wrap
    simp only [IntKind.bits, IntKind.signed]
    first | omega | (simp; omega) | skip
   rw [this]
   show IntKind.u64.wrap _ = _
   unfold IntKind.wrap
   simp only [IntKind.bits, IntKind.signed]
   first | omega | (simp; omega) | skip
  ·rw [if_neg (by simpa using h0), wu64 (by omega) (by omega)]
   congr 1; omega
 have hm : a.natAbs ≤ 9223372036854775808 := by omega
 have hl := rst_len 21 a.natAbs
 unfold word_Digits digS
 rw [hu, obs, tmod10, byteD, room_ok (by simp), obs, digits_L 20 a.natAbs _ (by omega) (by omega) (by simp), obs]
 by_cases h0 : a < 0
 ·rw [if_pos (by simpa using h0), room_ok (by simp; omega), obs, obs, reverse_eq (by simp; omega), obs, if_pos h0]
  simp [strL]
 ·rw [if_neg (by simpa using h0), obs, reverse_eq (by simp; omega), obs, if_neg h0]
  simp [strL]
def isD (b : UInt8) : Bool := decide (48 ≤ b.toNat ∧ b.toNat ≤ 57)
def numS : List UInt8 → Nat → Option Nat
 | [], n => some n
 | b :: l, n => if isD b = true then numS l (10 * n + (b.toNat - 48)) else none
theorem rst_fuel : ∀ (f m : Nat), m < 10 ^ (f + 1) → rst f m = rst (f + 1) m
 | 0, m, h => by rw [rst, rst, if_neg (by simp at h; omega)]
 | f + 1, m, h => by
  rw [rst, rst]
  by_cases h10 : 10 ≤ m
  ·rw [if_pos h10, if_pos h10, rst_fuel f (m / 10) (Nat.div_lt_of_lt_mul (by rw [Nat.pow_succ, Nat.mul_comm] at h; exact h))]
  ·rw [if_neg h10, if_neg h10]
def D (n : Nat) : List Int := (rst 21 n).reverse ++ [((48 + n % 10 : Nat) : Int)]
theorem D_small {d : Nat} (h : d < 10) : D d = [((48 + d : Nat) : Int)] := by
 unfold D; rw [rst, if_neg (by omega), Nat.mod_eq_of_lt h]; rfl
theorem D_step {k d : Nat} (hk : 1 ≤ k) (hd : d < 10) (hk2 : k < 10 ^ 21) : D (10 * k + d) = D k ++ [((48 + d : Nat) : Int)] := by
 have e1 : (10 * k + d) / 10 = k := by omega
 have e2 : (10 * k + d) % 10 = d := by omega
 unfold D
 rw [show rst 21 (10 * k + d) = ((48 + k % 10 : Nat) : Int) :: rst 20 k by rw [rst, if_pos (by omega), e1], e2, rst_fuel 20 k hk2, List.reverse_cons]
theorem D_head : ∀ (n : Nat), 0 < n → n < 10 ^ 21 → ∃ (x : Nat) (t : List Int), D n = (x : Int) :: t ∧ 48 < x ∧ x ≤ 57 := by
 intro n
 induction n using Nat.strongRecOn with
 | _ n ih =>
  intro h0 h1
  by_cases h10 : n < 10
  ·exact ⟨48 + n, [], D_small h10, by omega, by omega⟩
  ·obtain ⟨x, t, h2, h3, h4⟩ := ih (n / 10) (by omega) (by omega) (by omega)
   have := D_step (k := n / 10) (d := n % 10) (by omega) (by omega) (by omega)
   rw [show 10 * (n / 10) + n % 10 = n by omega, h2] at this
   exact ⟨x, t ++ [((48 + n % 10 : Nat) : Int)], by rw [this]; rfl, h3, h4⟩
theorem digS_nat (n : Nat) : digS (n : Int) = strL (D n) := by
 unfold digS D
 rw [if_neg (by omega), strL_append, Int.natAbs_natCast]; rfl
def numberS (s : List UInt8) : Int × Bool := if s.length = 0 ∨ 9 < s.length then (0, false) else if s.head? = some 48 ∧ 1 < s.length then (0, false) else match numS s 0 with | some r => ((r : Int), true) | none => (0, false)
theorem numS_app : ∀ (l : List UInt8) (b : UInt8) (n : Nat), isD b = true → numS (l ++ [b]) n = (numS l n).map fun r => 10 * r + (b.toNat - 48)
 | [], b, n, h => by simp [numS, h]
 | c :: l, b, n, h => by
  simp only [List.cons_append, numS]
  by_cases hc : isD c = true
  ·rw [if_pos hc, if_pos hc]; exact numS_app l b _ h
  ·rw [if_neg hc, if_neg hc]; rfl
theorem isD_of {d : Nat} (h : d < 10) : isD (UInt8.ofNat (48 + d)) = true ∧ (UInt8.ofNat (48 + d)).toNat - 48 = d := by
 have e : (UInt8.ofNat (48 + d)).toNat = 48 + d := by rw [UInt8.toNat_ofNat']; omega
 refine ⟨?_, by rw [e]; omega⟩
 unfold isD
 rw [e]
 simp; omega
theorem strL_one (d : Nat) : strL [((48 + d : Nat) : Int)] = [UInt8.ofNat (48 + d)] := rfl
theorem numS_D : ∀ (n : Nat), n < 10 ^ 20 → numS (strL (D n)) 0 = some n := by
 intro n
 induction n using Nat.strongRecOn with
 | _ n ih =>
  intro hn
  by_cases h : n < 10
  ·rw [D_small h, strL_one]
   obtain ⟨h1, h2⟩ := isD_of h
   simp only [numS]; rw [if_pos h1, h2]; simp
  ·have e : n = 10 * (n / 10) + n % 10 := by omega
   have hd : n % 10 < 10 := by omega
   rw [e, D_step (by omega) hd (by omega), strL_append, strL_one]
   obtain ⟨h1, h2⟩ := isD_of hd
   rw [numS_app _ _ _ h1, h2, ih (n / 10) (by omega) (by omega)]
   rfl
theorem D_len : ∀ (k n : Nat), n < 10 ^ (k + 1) → k ≤ 19 → (D n).length ≤ k + 1
 | 0, n, h, _ => by rw [D_small (by simpa using h)]; simp
 | k + 1, n, h, hk => by
  by_cases h10 : n < 10
  ·rw [D_small h10]; simp
  ·have e : n = 10 * (n / 10) + n % 10 := by omega
   have hlt : n / 10 < 10 ^ (k + 1) := by
    rw [Nat.pow_succ] at h
    omega
   have h21 : n / 10 < 10 ^ 21 := Nat.lt_of_lt_of_le hlt (Nat.pow_le_pow_right (by omega) (by omega))
   rw [e, D_step (by omega) (by omega) h21, List.length_append]
   have := D_len k (n / 10) hlt (by omega)
   simp; omega
theorem strL_len (l : List Int) : (strL l).length = l.length := by simp [strL]
theorem numberS_digS {n : Nat} (h : n < 1000000000) : numberS (digS (n : Int)) = ((n : Int), true) := by
 rw [digS_nat]
 have hl := D_len 8 n (by omega) (by omega)
 have hp : 0 < (D n).length := by unfold D; simp
 unfold numberS
 rw [strL_len, if_neg (by omega)]
 have hh : ¬ ((strL (D n)).head? = some 48 ∧ 1 < (D n).length) := by
  rintro ⟨h1, h2⟩
  by_cases h0 : n = 0
  ·subst h0; rw [D_small (by omega)] at h2; simp at h2
  ·obtain ⟨x, t, e1, e2, e3⟩ := D_head n (by omega) (by omega)
   rw [e1] at h1
   simp only [strL, List.map_cons, List.head?_cons, Option.some.injEq, Int.toNat_natCast] at h1
   have := congrArg UInt8.toNat h1
   simp at this
   omega
 rw [if_neg hh, numS_D n (by omega)]
def treeT (ln : Int → List UInt8) (ch : Int → List Int) : Nat → Nat → Int → List UInt8
 | 0, _, _ => []
 | n + 1, d, o => (ch o).flatMap fun c => (List.replicate d 9 ++ ln c ++ [10]) ++ treeT ln ch n (d + 1) c
def kidsOf (own : Int → Int) (live : List Int) (o : Int) : List Int := live.filter fun c => own c == o
def OnceL (S : List Int) : Prop := ∀ o, S.count o ≤ 1
theorem kids_count (own : Int → Int) (live : List Int) (S : List Int) (c : Int) : (S.flatMap (kidsOf own live)).count c = S.count (own c) * live.count c := by
 induction S with
 | nil => simp
 | cons o S ih =>
  rw [List.flatMap_cons, List.count_append, ih, List.count_cons]
  by_cases h : own c = o
  ·subst h
   have : (kidsOf own live (own c)).count c = live.count c := by unfold kidsOf; rw [List.count_filter]; simp
   rw [this]; simp [Nat.add_mul]; omega
  ·have : (kidsOf own live o).count c = 0 := by
    refine List.count_eq_zero.2 fun hm => h ?_
    have := (List.mem_filter.1 hm).2
    simpa using this
   rw [this]
   have h2 : (o == own c) = false := by simp; exact fun e => h e.symm
   rw [h2]; simp
theorem kids_once {own : Int → Int} {live S : List Int} (hl : OnceL live) (hS : OnceL S) : OnceL (S.flatMap (kidsOf own live)) := fun c => by
 rw [kids_count]
 have h1 := hS (own c)
 have h2 := hl c
 exact Nat.le_trans (Nat.mul_le_mul h1 h2) (by omega)
theorem kids_len {own : Int → Int} {S : List Int} (hS : OnceL S) : ∀ live : List Int, (S.flatMap (kidsOf own live)).length ≤ live.length
 | [] => by
  have : ∀ S : List Int, (S.flatMap (kidsOf own [])).length = 0 := fun S => by induction S <;> simp_all [kidsOf]
  rw [this]; simp
 | c :: live => by
  have h := kids_len hS (own := own) live
  have h2 : ∀ S : List Int, (S.flatMap (kidsOf own (c :: live))).length = S.count (own c) + (S.flatMap (kidsOf own live)).length := fun S => by
   induction S with
   | nil => simp
   | cons o S ih =>
    rw [List.flatMap_cons, List.length_append, ih, List.flatMap_cons, List.length_append, List.count_cons]
    have e1 : (kidsOf own (c :: live) o).length = (if (o == own c) = true then 1 else 0) + (kidsOf own live o).length := by
     unfold kidsOf
     rw [List.filter_cons]
     by_cases h : own c = o
     ·subst h; simp; omega
     ·have h3 : (own c == o) = false := by simpa using h
      have h4 : (o == own c) = false := by simp; exact fun e => h e.symm
      rw [h3, h4]; simp
    rw [e1]; omega
  rw [h2]
  have := hS (own c)
  rw [List.length_cons]; omega
theorem treeT_sum {own : Int → Int} {live : List Int} {ln : Int → List UInt8} {B : Nat} (hB : ∀ c, (ln c).length ≤ B) (hl : OnceL live) : ∀ (n d : Nat) (S : List Int), OnceL S → (S.flatMap (treeT ln (kidsOf own live) n d)).length ≤ n * (live.length * (n + d + B + 1))
 | 0, d, S, _ => by
  have : ∀ S : List Int, (S.flatMap (treeT ln (kidsOf own live) 0 d)).length = 0 := fun S => by induction S <;> simp_all [treeT]
  rw [this]; simp
 | n + 1, d, S, hS => by
  have h1 := treeT_sum (own := own) hB hl n (d + 1) _ (kids_once (own := own) hl hS)
  have h2 := kids_len (own := own) hS live
  have h3 : ∀ K : List Int, (K.flatMap fun c => (List.replicate d 9 ++ ln c ++ [10]) ++ treeT ln (kidsOf own live) n (d + 1) c).length ≤ K.length * (d + B + 1) + (K.flatMap (treeT ln (kidsOf own live) n (d + 1))).length := fun K => by
   induction K with
   | nil => simp
   | cons c K ih =>
    rw [List.flatMap_cons, List.flatMap_cons, List.length_append, List.length_append, List.length_append, List.length_cons]
    have := hB c
    simp only [List.length_append, List.length_replicate, List.length_cons, List.length_nil, Nat.add_mul, Nat.one_mul] at *
    omega
  have h4 : S.flatMap (treeT ln (kidsOf own live) (n + 1) d) = (S.flatMap (kidsOf own live)).flatMap fun c => (List.replicate d 9 ++ ln c ++ [10]) ++ treeT ln (kidsOf own live) n (d + 1) c := by
   rw [List.flatMap_assoc]; rfl
  rw [h4]
  refine Nat.le_trans (h3 _) ?_
  have h5 : (S.flatMap (kidsOf own live)).length * (d + B + 1) ≤ live.length * (n + 1 + d + B + 1) := Nat.mul_le_mul h2 (by omega)
  have h6 : n + (d + 1) + B + 1 = n + 1 + d + B + 1 := by omega
  rw [h6] at h1
  rw [Nat.succ_mul]
  omega
theorem treeT_len {own : Int → Int} {live : List Int} {ln : Int → List UInt8} {B : Nat} (hB : ∀ c, (ln c).length ≤ B) (hl : OnceL live) (n d : Nat) (o : Int) : (treeT ln (kidsOf own live) n d o).length ≤ n * (live.length * (n + d + B + 1)) := by
 have h := treeT_sum (own := own) hB hl n d [o] (fun x => by rw [List.count_cons]; simp; split <;> omega)
 simpa using h
theorem grp_kids (own : Int → Int) (live : List Int) (o : Int) : grpOf (live.map fun c => (own c, c)) o = kidsOf own live o := by
 unfold grpOf kidsOf
 induction live with
 | nil => rfl
 | cons c live ih =>
  simp only [List.map_cons, List.filter_cons]
  by_cases h : (own c == o) = true
  ·rw [if_pos h, if_pos h, List.map_cons, ih]
  ·rw [if_neg h, if_neg h, ih]
theorem digS_len (a : Int) : (digS a).length ≤ 23 := by
 have := rst_len 21 a.natAbs
 unfold digS
 simp only [List.length_append, strL, List.length_map, List.length_reverse, List.length_cons, List.length_nil]
 split <;> simp <;> omega
def valS (v : GVal) : List UInt8 := (if v.fRef = true then [64] else []) ++ digS v.fN
theorem valS_len (v : GVal) : (valS v).length ≤ 24 := by
 have := digS_len v.fN
 unfold valS
 simp only [List.length_append]
 split <;> simp <;> omega
theorem dot_value_eq {v : GVal} (h : goodGVal v) : dot_value v = some (valS v) := by
 have h1 : -9223372036854775808 ≤ v.fN ∧ v.fN ≤ 9223372036854775807 := h.2
 have h2 := digS_len v.fN
 unfold dot_value valS
 by_cases hr : v.fRef = true
 ·rw [if_pos hr, if_pos hr]
  simp only [obs]
  rw [word_Digits_eq h1.1 h1.2]
  simp only [obs]
  rw [room_ok (by simp; omega)]
  simp only [obs]
 ·rw [if_neg hr, if_neg hr]
  simp only [obs]
  rw [word_Digits_eq h1.1 h1.2]
  simp only [obs]
  rw [room_ok (by simp; omega)]
  simp only [obs]
def nameS (fs : List GSlot_field) (k : Nat) : List UInt8 := match fs[k]? with | some s => s.fVar.fName | none => [63]
def prsS (fs : List GSlot_field) : List GVal → Nat → List (List UInt8)
 | [], _ => []
 | v :: t, k => ((nameS fs k ++ [61]) ++ valS v) :: prsS fs t (k + 1)
theorem nameS_len {fs : List GSlot_field} {NB : Nat} (h1 : 1 ≤ NB) (h : ∀ s ∈ fs, s.fVar.fName.length ≤ NB) (k : Nat) : (nameS fs k).length ≤ NB := by
 unfold nameS
 split
 ·rename_i s hs; exact h s (List.mem_of_getElem? hs)
 ·simpa using h1
theorem prsS_len {fs : List GSlot_field} : ∀ (l : List GVal) (k : Nat), (prsS fs l k).length = l.length
 | [], _ => rfl
 | _ :: t, k => by simp [prsS, prsS_len t (k + 1)]
theorem dot_Line_L {x : GCell} {fs : List GSlot_field} {NB : Nat} (hg : ∀ v ∈ x.fFields, goodGVal v) (hx : x.fFields.length ≤ 20) (hf : fs.length ≤ 1000000) (h1 : 1 ≤ NB) (hNB : NB ≤ 2000000) (hn : ∀ s ∈ fs, s.fVar.fName.length ≤ NB) :
  ∀ (n k : Nat) (out : List (List UInt8)), n + k = x.fFields.length + 1 → k ≤ x.fFields.length → out.length ≤ k + 10 → dot_Line_L1 x fs n out (k : Int) = some (out ++ prsS fs (x.fFields.drop k) k)
 | 0, k, out, hn, hk, _ => by omega
 | n + 1, k, out, hnk, hk, ho => by
  simp only [dot_Line_L1]
  by_cases hlt : k < x.fFields.length
  ·have hv := hg x.fFields[k] (List.getElem_mem hlt)
   have l1 := nameS_len h1 hn k
   have l2 := valS_len x.fFields[k]
   rw [if_pos (by simpa using hlt), idx_lt hlt, w64_succ hlt (by omega), List.drop_eq_getElem_cons hlt]
   simp only [obs]
   have e1 : (if decide ((k : Int) < (fs.length : Int)) = true then (idx fs (k : Int)).bind fun y86 => some y86.fVar.fName else some [63] : Option (List UInt8)) = some (nameS fs k) := by
    unfold nameS
    by_cases hk2 : k < fs.length
    ·rw [if_pos (by simpa using hk2), idx_lt hk2, List.getElem?_eq_getElem hk2]; rfl
    ·rw [if_neg (by simpa using hk2), List.getElem?_eq_none (by omega)]
   rw [e1]
   simp only [obs]
   rw [room_ok (by simp; omega)]
   simp only [obs]
   rw [dot_value_eq hv]
   simp only [obs]
   rw [room_ok (by simp; omega)]
   simp only [obs]
   rw [room_ok (by simp; omega)]
   simp only [obs]
   rw [dot_Line_L hg hx hf h1 hNB hn n (k + 1) _ (by omega) (by omega) (by simp; omega)]
   simp only [prsS, List.append_assoc, List.singleton_append]
  ·rw [if_neg (by simpa using hlt), List.drop_eq_nil_of_le (by omega)]
   simp [prsS]
structure Env48 (p : List GClass) (l : List GCell) (NB : Nat) : Prop where
 hp : p.length ≤ 1000
 hf : fieldsOk p 40
 nb1 : 1 ≤ NB
 nb2 : NB ≤ 2000000
 nm : ∀ name, ∀ s ∈ flds p name, s.fVar.fName.length ≤ NB
 hl : l.length ≤ 12
 hc : ∀ x ∈ l, x.fFields.length ≤ 20 ∧ x.fClass.length ≤ 30 ∧ (∀ v ∈ x.fFields, goodGVal v) ∧ i64ok x.fOwn.a0
def Alive (l : List GCell) (c : Int) : Prop := ∃ k : Nat, c = ((k + 1 : Nat) : Int) ∧ ∃ h : k < l.length, l[k].fDead = false
def lineS (p : List GClass) (l : List GCell) (c : Int) : List UInt8 := match l[(c - 1).toNat]? with
 | some x => ((([64] ++ digS c) ++ [32]) ++ x.fClass) ++ (prsS (flds p x.fClass) x.fFields 0).flatMap fun s => [32] ++ s
 | none => []
theorem prs_bytes {fs : List GSlot_field} {NB : Nat} (h1 : 1 ≤ NB) (hn : ∀ s ∈ fs, s.fVar.fName.length ≤ NB) : ∀ (l : List GVal) (k : Nat), ((prsS fs l k).flatMap fun s => [32] ++ s).length ≤ l.length * (NB + 30)
 | [], k => by simp [prsS]
 | v :: t, k => by
  have := prs_bytes h1 hn t (k + 1)
  have l1 := nameS_len h1 hn k
  have l2 := valS_len v
  simp only [prsS, List.flatMap_cons, List.length_append, List.length_cons, List.length_nil, Nat.add_mul, Nat.one_mul] at *
  omega
theorem lineS_len {p : List GClass} {l : List GCell} {NB : Nat} (E : Env48 p l NB) (c : Int) : (lineS p l c).length ≤ 20 * (NB + 30) + 60 := by
 unfold lineS
 split
 ·rename_i x hx
  obtain ⟨h1, h2, h3, h4⟩ := E.hc x (List.mem_of_getElem? hx)
  have l1 := prs_bytes E.nb1 (E.nm x.fClass) x.fFields 0
  have l2 := digS_len c
  have l3 : x.fFields.length * (NB + 30) ≤ 20 * (NB + 30) := Nat.mul_le_mul_right _ h1
  simp only [List.length_append, List.length_cons, List.length_nil] at *
  omega
 ·simp
theorem dot_Line_eq {p : List GClass} {l : List GCell} {NB : Nat} (E : Env48 p l NB) {c : Int} (hc : Alive l c) : dot_Line p l c = some (lineS p l c) := by
 obtain ⟨k, hck, hk, hd⟩ := hc
 have hl := E.hl
 obtain ⟨h1, h2, h3, h4⟩ := E.hc l[k] (List.getElem_mem hk)
 have e0 : c - 1 = (k : Int) := by omega
 have hidx : idx l (w_i64 (c - 1)) = some l[k] := by rw [e0, w64 (by omega) (by omega), idx_lt hk]
 have hask : heap_Ask l c = some 0 := by
  unfold heap_Ask
  rw [if_neg (by simp; omega), if_neg (by simp; omega)]
  simp only [obs]
  rw [if_neg (by simp; omega), hidx]
  simp only [obs]
  rw [if_neg (by rw [hd]; simp)]
 unfold dot_Line
 rw [hask]
 simp only [obs]
 rw [if_neg (by simp), hidx]
 simp only [obs]
 have l2 := digS_len c
 have hfl := flds_len E.hp (by omega) E.hf l[k].fClass
 rw [word_Digits_eq (by omega) (by omega)]
 simp only [obs]
 rw [room_ok (by simp; omega)]
 simp only [obs]
 rw [field_All_eq E.hp (by omega) E.hf]
 simp only [obs, fuel_len]
 rw [show (0 : Int) = ((0 : Nat) : Int) from rfl, dot_Line_L h3 h1 hfl E.nb1 E.nb2 (E.nm l[k].fClass) _ 0 _ (by omega) (by omega) (by simp)]
 simp only [obs, List.drop_zero]
 have ln : lineS p l c = ((([64] ++ digS c) ++ [32]) ++ l[k].fClass) ++ (prsS (flds p l[k].fClass) l[k].fFields 0).flatMap fun s => [32] ++ s := by
  unfold lineS
  rw [e0, Int.toNat_natCast, List.getElem?_eq_getElem hk]
 have hll := lineS_len E c
 have hj : Lib.join ([[64] ++ digS c, l[k].fClass] ++ prsS (flds p l[k].fClass) l[k].fFields 0) [32] = lineS p l c := by
  show Lib.join (([64] ++ digS c) :: (l[k].fClass :: prsS (flds p l[k].fClass) l[k].fFields 0)) [32] = _
  rw [ln, Lib.join_cons]
  unfold Lib.joinTail
  rw [List.map_cons, List.flatten_cons, List.flatMap_def]
  simp only [List.append_assoc]
 unfold strings_Join joinF
 rw [hj, if_pos ⟨by have := prsS_len (fs := flds p l[k].fClass) l[k].fFields 0; simp; omega, by have := E.nb2; omega⟩]
 simp only [obs]
def ownC (l : List GCell) (c : Int) : Int := match l[(c - 1).toNat]? with | some x => x.fOwn.a0 | none => 0
theorem liveS_mem : ∀ (h : List GCell) (k : Nat) (c : Int), c ∈ liveS h k → ∃ j, c = ((k + j + 1 : Nat) : Int) ∧ ∃ hj : j < h.length, h[j].fDead = false
 | [], k, c, hm => by simp [liveS] at hm
 | x :: t, k, c, hm => by
  simp only [liveS, List.mem_append] at hm
  rcases hm with hm | hm
  ·by_cases hd : x.fDead = true
   ·rw [if_pos hd] at hm; simp at hm
   ·rw [if_neg hd] at hm
    simp only [List.mem_singleton] at hm
    exact ⟨0, by simpa using hm, by simp, by simpa using hd⟩
  ·obtain ⟨j, h1, h2, h3⟩ := liveS_mem t (k + 1) c hm
   exact ⟨j + 1, by rw [h1]; omega, by simp; omega, by simpa using h3⟩
theorem alive_of {l : List GCell} {c : Int} (h : c ∈ liveS l 0) : Alive l c := by
 obtain ⟨j, h1, h2, h3⟩ := liveS_mem l 0 c h
 exact ⟨j, by rw [h1]; omega, h2, h3⟩
theorem live_once : ∀ (h : List GCell) (k : Nat), OnceL (liveS h k)
 | [], k => fun o => by simp [liveS]
 | x :: t, k => fun o => by
  have ih := live_once t (k + 1) o
  simp only [liveS, List.count_append]
  by_cases hd : x.fDead = true
  ·rw [if_pos hd]; simpa using ih
  ·rw [if_neg hd]
   by_cases ho : ((k + 1 : Nat) : Int) = o
   ·have h0 : (liveS t (k + 1)).count o = 0 := List.count_eq_zero.2 fun hm => by
     obtain ⟨j, h1, _⟩ := liveS_mem t (k + 1) o hm
     omega
    rw [h0, List.count_cons]; simp; split <;> omega
   ·have h1 : [((k + 1 : Nat) : Int)].count o = 0 := List.count_eq_zero.2 fun hm => ho (List.mem_singleton.1 hm).symm
    rw [h1]; omega
theorem repeat9 : ∀ d : Nat, Lib.repeatL [9] d = List.replicate d 9
 | 0 => rfl
 | d + 1 => by rw [Lib.repeatL, repeat9 d]; rfl
theorem bytesL_append (a b : List UInt8) : bytesL (a ++ b) = bytesL a ++ bytesL b := by simp [bytesL]
theorem bytesL_len (a : List UInt8) : (bytesL a).length = a.length := by simp [bytesL]
abbrev TT (p : List GClass) (l : List GCell) : Nat → Nat → Int → List UInt8 := treeT (lineS p l) (kidsOf (ownC l) (liveS l 0))
abbrev grpL (l : List GCell) : List (Int × Int) := (liveS l 0).map fun c => (ownC l c, c)
theorem dot_Tree_1_eq {p : List GClass} {l : List GCell} {NB : Nat} (E : Env48 p l NB) : ∀ (n d f : Nat) (o : Int) (b2 : List Int), n + d = 51 → n + 1 ≤ f → i64ok o → b2.length + (TT p l n d o).length ≤ 100000000000000 →
  dot_Tree_1_w f o (d : Int) (grpOf (grpL l)) b2 p l = some (b2 ++ bytesL (TT p l n d o))
 | n, d, 0, o, b2, _, hf, _, _ => by omega
 | 0, d, f + 1, o, b2, hn, hf, ho, hb => by
  simp only [dot_Tree_1_w]
  rw [if_pos (by simp; omega)]
  simp [treeT, bytesL]
 | n + 1, d, f + 1, o, b2, hn, hf, ho, hb => by
  simp only [dot_Tree_1_w]
  rw [if_neg (by simp; omega)]
  have hm : mgetG (grpOf (grpL l)) o = some (kidsOf (ownC l) (liveS l 0) o) := by
   unfold mgetG
   rw [if_pos (by have h1 := ho.1; have h2 := ho.2; unfold in64; first | exact ⟨h1, h2⟩ | (simp only [Bool.and_eq_true, decide_eq_true_eq]; exact ⟨h1, h2⟩)), grp_kids]
  rw [hm]
  simp only [obs, fuel_len]
  have hK : ∀ c ∈ kidsOf (ownC l) (liveS l 0) o, Alive l c := fun c hc => alive_of (List.mem_filter.1 hc).1
  have hll := E.hl
  have hT : TT p l (n + 1) d o = (kidsOf (ownC l) (liveS l 0) o).flatMap fun c => (List.replicate d 9 ++ lineS p l c ++ [10]) ++ TT p l n (d + 1) c := rfl
  rw [hT] at hb ⊢
  have hkl : (kidsOf (ownC l) (liveS l 0) o).length ≤ 12 := by
   have h1 := List.length_filter_le (fun c => ownC l c == o) (liveS l 0)
   have h2 := liveS_len l 0
   unfold kidsOf; omega
  generalize kidsOf (ownC l) (liveS l 0) o = K at hK hb hkl
  have loop : ∀ (m k : Nat) (b2 : List Int), m + k = K.length + 1 → k ≤ K.length → b2.length + ((K.drop k).flatMap fun c => (List.replicate d 9 ++ lineS p l c ++ [10]) ++ TT p l n (d + 1) c).length ≤ 100000000000000 →
    dot_Tree_1_w_L1 (d : Int) (grpOf (grpL l)) p l K (dot_Tree_1_w f) m b2 (k : Int) = some (b2 ++ bytesL ((K.drop k).flatMap fun c => (List.replicate d 9 ++ lineS p l c ++ [10]) ++ TT p l n (d + 1) c)) := by
   intro m
   induction m with
   | zero => intro k b2 h1 h2; omega
   | succ m ih =>
    intro k b2 h1 h2 h3
    simp only [dot_Tree_1_w_L1]
    by_cases hlt : k < K.length
    ·have hA := hK K[k] (List.getElem_mem hlt)
     rw [List.drop_eq_getElem_cons hlt] at h3 ⊢
     rw [List.flatMap_cons] at h3 ⊢
     have ihk := ih (k + 1)
     have hrep : strings_Repeat [9] (d : Int) = some (List.replicate d 9) := by
      unfold strings_Repeat repF
      rw [if_pos ⟨by omega, by omega, by simp; omega⟩, Int.toNat_natCast, repeat9]
     rw [if_pos (by simpa using hlt), idx_lt hlt, w64_succ hlt (by omega)]
     simp only [obs]
     rw [hrep]
     simp only [obs]
     rw [dot_Line_eq E hA]
     simp only [obs]
     simp only [List.length_append, List.length_replicate, List.length_cons, List.length_nil] at h3
     generalize ((K.drop (k + 1)).flatMap fun c => (List.replicate d 9 ++ lineS p l c ++ [10]) ++ TT p l n (d + 1) c) = rest at h3 ihk
     rw [room_ok (by simp; omega)]
     simp only [obs]
     rw [room_ok (by simp; omega)]
     simp only [obs]
     rw [room_ok (by simp; omega)]
     simp only [obs]
     have hd1 : w_i64 ((d : Int) + 1) = ((d + 1 : Nat) : Int) := by rw [w64 (by omega) (by omega)]; omega
     have hi : i64ok K[k] := by
      obtain ⟨k', e1, hk', _⟩ := hA
      exact ⟨by omega, by omega⟩
     rw [hd1, dot_Tree_1_eq E n (d + 1) f K[k] _ (by omega) (by omega) hi (by simp [bytesL_len]; omega)]
     simp only [obs]
     rw [ihk _ (by omega) (by omega) (by simp [bytesL_len]; omega)]
     simp only [bytesL_append, List.append_assoc]
    ·rw [if_neg (by simpa using hlt), List.drop_eq_nil_of_le (by omega)]
     simp [bytesL]
  have h := loop (K.length + 1) 0 b2 (by omega) (by omega) (by simpa using hb)
  rw [show ((0 : Nat) : Int) = 0 from rfl] at h
  rw [h]
  simp only [obs, List.drop_zero]
theorem dot_Tree_L1_eq {p : List GClass} {l : List GCell} {NB : Nat} (E : Env48 p l NB) {K : List Int} (hK : ∀ c ∈ K, Alive l c) (hkl : K.length ≤ 12) : ∀ (m k : Nat) (g : List (Int × Int)), m + k = K.length + 1 → k ≤ K.length → g.length ≤ k →
  dot_Tree_L1 p l K m g (k : Int) = some (g ++ (K.drop k).map fun c => (ownC l c, c))
 | 0, k, g, h1, h2, _ => by omega
 | m + 1, k, g, h1, h2, h3 => by
  simp only [dot_Tree_L1]
  by_cases hlt : k < K.length
  ·have hA := hK K[k] (List.getElem_mem hlt)
   obtain ⟨k', e1, hk', _⟩ := hA
   have hl := E.hl
   have hidx : idx l (w_i64 (K[k] - 1)) = some l[k'] := by rw [e1, show (((k' + 1 : Nat) : Int) - 1) = (k' : Int) by omega, w64 (by omega) (by omega), idx_lt hk']
   have how : ownC l K[k] = l[k'].fOwn.a0 := by
    unfold ownC
    rw [e1, show (((k' + 1 : Nat) : Int) - 1) = (k' : Int) by omega, Int.toNat_natCast, List.getElem?_eq_getElem hk']
   have ho := (E.hc l[k'] (List.getElem_mem hk')).2.2.2
   have hga : gadd g l[k'].fOwn.a0 K[k] = some (g ++ [(l[k'].fOwn.a0, K[k])]) := by
    unfold gadd
    rw [if_pos]
    have m1 : IntKind.i64.min = -9223372036854775808 := by decide
    have m2 : IntKind.i64.max = 9223372036854775807 := by decide
    have h1 := ho.1
    have h2 := ho.2
    simp only [Bool.and_eq_true, decide_eq_true_eq, Nat.ble_eq, m1, m2]
    exact ⟨⟨⟨⟨h1, h2⟩, by omega⟩, by omega⟩, by omega⟩
   rw [if_pos (by simpa using hlt), idx_lt hlt, w64_succ hlt (by omega), List.drop_eq_getElem_cons hlt]
   simp only [obs]
   rw [hidx]
   simp only [obs]
   rw [hga]
   simp only [obs]
   rw [dot_Tree_L1_eq E hK hkl m (k + 1) _ (by omega) (by omega) (by simp; omega), List.map_cons, how]
   simp only [List.append_assoc, List.singleton_append]
  ·rw [if_neg (by simpa using hlt), List.drop_eq_nil_of_le (by omega)]
   simp
def clusW : List UInt8 := [99, 108, 117, 115, 116, 101, 114, 32]
def oneC (p : List GClass) (l : List GCell) (k : Nat) : List UInt8 := if TT p l 50 1 (-(k : Int)) = [] then [] else (clusW ++ digS (-(k : Int)) ++ [10]) ++ TT p l 50 1 (-(k : Int))
def clusT (p : List GClass) (l : List GCell) : Nat → Nat → List UInt8
 | 0, _ => []
 | m + 1, k => oneC p l k ++ clusT p l m (k + 1)
theorem TT_len {p : List GClass} {l : List GCell} {NB : Nat} (E : Env48 p l NB) (o : Int) : (TT p l 50 1 o).length ≤ 30000000000 := by
 have h : (TT p l 50 1 o).length ≤ _ := treeT_len (own := ownC l) (live := liveS l 0) (ln := lineS p l) (B := 20 * (NB + 30) + 60) (lineS_len E) (live_once l 0) 50 1 o
 have h1 := liveS_len l 0
 have h2 := E.hl
 have h3 := E.nb2
 have h4 : (liveS l 0).length * (50 + 1 + (20 * (NB + 30) + 60) + 1) ≤ 12 * (50 + 1 + (20 * (NB + 30) + 60) + 1) := Nat.mul_le_mul_right _ (by omega)
 omega
theorem TT_nil {p : List GClass} {l : List GCell} (o : Int) : TT p l 50 1 o = [] ↔ kidsOf (ownC l) (liveS l 0) o = [] := by
 show ((kidsOf (ownC l) (liveS l 0) o).flatMap fun c => (List.replicate 1 9 ++ lineS p l c ++ [10]) ++ TT p l 49 2 c) = [] ↔ _
 cases kidsOf (ownC l) (liveS l 0) o with
 | nil => simp
 | cons c K => simp
theorem oneC_len {p : List GClass} {l : List GCell} {NB : Nat} (E : Env48 p l NB) (k : Nat) : (oneC p l k).length ≤ 30000000100 := by
 have h1 := TT_len E (-(k : Int))
 have h2 := digS_len (-(k : Int))
 unfold oneC clusW
 split
 ·simp
 ·simp only [List.length_append, List.length_cons, List.length_nil]; omega
theorem neg64 {k : Nat} (h : k ≤ 200) : w_i64 (0 - (k : Int)) = -(k : Int) := by rw [w64 (by omega) (by omega)]; omega
theorem dot_Tree_L2_eq {p : List GClass} {l : List GCell} {NB : Nat} (E : Env48 p l NB) {a2 : Int} (ha : a2 ≤ 100) : ∀ (m k n : Nat) (x : List Int), 1 ≤ k → m = a2.toNat + 1 - k → m + 1 ≤ n → k ≤ 200 → x.length + m * 30000000100 ≤ 90000000000000 →
  dot_Tree_L2 p l a2 (grpL l) n x (k : Int) = some (x ++ bytesL (clusT p l m k))
 | m, k, 0, x, _, _, h, _, _ => by omega
 | 0, k, n + 1, x, h1, h2, h3, h4, h5 => by
  simp only [dot_Tree_L2]
  rw [if_neg (by simp; split <;> omega)]
  simp [clusT, bytesL]
 | m + 1, k, n + 1, x, h1, h2, h3, h4, h5 => by
  simp only [dot_Tree_L2]
  have hc1 := oneC_len E k
  have h6 : x.length + m * 30000000100 ≤ 90000000000000 := Nat.le_trans (Nat.add_le_add_left (Nat.mul_le_mul_right _ (Nat.le_succ m)) _) h5
  have hT := TT_len E (-(k : Int))
  have hi : i64ok (-(k : Int)) := ⟨by omega, by omega⟩
  have hmg : mgetG (grpOf (grpL l)) (-(k : Int)) = some (kidsOf (ownC l) (liveS l 0) (-(k : Int))) := by
   unfold mgetG
   rw [if_pos (by have h1 := hi.1; have h2 := hi.2; unfold in64; simp only [Bool.and_eq_true, decide_eq_true_eq]; exact ⟨h1, h2⟩), grp_kids]
  have h50 : (51 - (1 : Int)).toNat + 1 = 51 := by decide
  have l2 := digS_len (-(k : Int))
  rw [if_pos (by simp; split <;> omega), neg64 h4, w64_succ (m := k + 1) (by omega) (by omega), hmg]
  simp only [obs, clusT, bytesL_append]
  have ih := fun x' => dot_Tree_L2_eq E ha m (k + 1) n x' (by omega) (by omega) (by omega)
  by_cases hk : kidsOf (ownC l) (liveS l 0) (-(k : Int)) = []
  ·have h0 : TT p l 50 1 (-(k : Int)) = [] := (TT_nil _).2 hk
   rw [hk]
   have h9 : oneC p l k = [] := by unfold oneC; rw [if_pos h0]
   rw [if_neg (by simp), h9]
   simp only [obs]
   rw [ih x (by omega) h6]
   simp [bytesL]
  ·have h0 : ¬ TT p l 50 1 (-(k : Int)) = [] := fun e => hk ((TT_nil _).1 e)
   have h9 : oneC p l k = (clusW ++ digS (-(k : Int)) ++ [10]) ++ TT p l 50 1 (-(k : Int)) := by unfold oneC; rw [if_neg h0]
   have hpos : 0 < (kidsOf (ownC l) (liveS l 0) (-(k : Int))).length := List.length_pos_iff.2 hk
   rw [if_pos (by simpa using hpos), word_Digits_eq hi.1 hi.2]
   simp only [obs]
   rw [room_ok (by simp; omega)]
   simp only [obs]
   rw [room_ok (by simp; omega)]
   simp only [obs]
   rw [room_ok (by simp; omega)]
   simp only [obs]
   rw [h50, show (1 : Int) = ((1 : Nat) : Int) from rfl, dot_Tree_1_eq E 50 1 51 _ _ (by omega) (by omega) hi (by simp [bytesL_len]; omega)]
   simp only [obs]
   rw [ih _ (by omega) (by simp [bytesL_len]; omega), h9]
   simp only [bytesL_append, List.append_assoc]
   rfl
def treeText (p : List GClass) (l : List GCell) (a2 : Int) : List UInt8 := ([119, 111, 114, 108, 100, 10] ++ TT p l 50 1 0) ++ clusT p l a2.toNat 1
theorem dot_Tree_eq {p : List GClass} {l : List GCell} {NB : Nat} (E : Env48 p l NB) {a2 : Int} (ha : a2 ≤ 100) : dot_Tree p l a2 = some (treeText p l a2) := by
 have hl := E.hl
 have hvl := liveS_len l 0
 have hT := TT_len E 0
 have h50 : (51 - (1 : Int)).toNat + 1 = 51 := by decide
 have hA : a2.toNat ≤ 100 := by omega
 unfold dot_Tree
 rw [heap_Live_eq (by omega)]
 simp only [obs, fuel_len]
 have hg := dot_Tree_L1_eq E (K := liveS l 0) (fun c hc => alive_of hc) (by omega) ((liveS l 0).length + 1) 0 [] (by omega) (by omega) (by simp)
 rw [show ((0 : Nat) : Int) = 0 from rfl] at hg
 rw [hg]
 simp only [obs, List.drop_zero, List.nil_append]
 rw [room_ok (by simp)]
 simp only [obs]
 have h1 := dot_Tree_1_eq E 50 1 51 0 (bytesL [119, 111, 114, 108, 100, 10]) (by omega) (by omega) ⟨by omega, by omega⟩ (by simp [bytesL_len]; omega)
 rw [show ((1 : Nat) : Int) = 1 from rfl] at h1
 rw [h50, h1]
 simp only [obs]
 have hm : a2.toNat * 30000000100 ≤ 3000000010000 := Nat.mul_le_mul_right 30000000100 hA
 have h2 := dot_Tree_L2_eq E ha a2.toNat 1 (a2.toNat + 2) (bytesL [119, 111, 114, 108, 100, 10] ++ bytesL (TT p l 50 1 0)) (by omega) (by omega) (by omega) (by omega) (by
  rw [List.length_append, bytesL_len, bytesL_len]
  generalize a2.toNat * 30000000100 = z at hm ⊢
  simp only [List.length_cons, List.length_nil]
  omega)
 rw [show ((1 : Nat) : Int) = 1 from rfl] at h2
 rw [h2]
 simp only [obs]
 rw [← bytesL_append, ← bytesL_append, strB_bytes]
 rfl
theorem great48_L {h : List GCell} (hl : h.length ≤ 9223372036854775807) : ∀ (n k : Nat), n + k = h.length + 1 → k ≤ h.length →
  law48_great_L1 h n (k : Int) = some (.stop true) ∨ (law48_great_L1 h n (k : Int) = some (.next ()) ∧ ∀ x ∈ h.drop k, h.length ≤ 12 ∧ x.fFields.length ≤ 20 ∧ x.fClass.length ≤ 30)
 | 0, k, hn, hk => by omega
 | n + 1, k, hn, hk => by
  simp only [law48_great_L1]
  by_cases hlt : k < h.length
  ·rw [if_pos (by simpa using hlt), idx_lt hlt, w64_succ hlt (by omega)]
   by_cases h1 : (decide ((h.length : Int) > 12)) = true
   ·rw [if_pos h1]; exact .inl rfl
   rw [if_neg h1]
   simp only [obs]
   by_cases h2 : (decide ((h[k].fFields.length : Int) > 20)) = true
   ·rw [if_pos h2]; exact .inl rfl
   rw [if_neg h2]
   simp only [obs]
   by_cases h4 : (decide ((h[k].fClass.length : Int) > 30)) = true
   ·rw [if_pos h4]; exact .inl rfl
   rw [if_neg h4]
   rcases great48_L hl n (k + 1) (by omega) (by omega) with h3 | ⟨h3, h5⟩
   ·exact .inl h3
   ·refine .inr ⟨h3, fun x hx => ?_⟩
    rw [List.drop_eq_getElem_cons hlt] at hx
    rcases List.mem_cons.1 hx with rfl | hx
    ·simp at h1 h2 h4; omega
    ·exact h5 x hx
  ·rw [if_neg (by simpa using hlt)]
   exact .inr ⟨rfl, fun x hx => by rw [List.drop_eq_nil_of_le (by omega)] at hx; simp at hx⟩
theorem great48_eq {h : List GCell} (hl : h.length ≤ 9223372036854775807) : ∃ b, law48_great h = some b ∧ (b = false → ∀ x ∈ h, h.length ≤ 12 ∧ x.fFields.length ≤ 20 ∧ x.fClass.length ≤ 30) := by
 simp only [law48_great, fuel_len]
 rw [show (0 : Int) = ((0 : Nat) : Int) from rfl]
 rcases great48_L hl (h.length + 1) 0 (by omega) (by omega) with h1 | ⟨h1, h2⟩
 ·rw [h1]; exact ⟨true, rfl, fun hb => by cases hb⟩
 ·rw [h1]; exact ⟨_, rfl, fun _ x hx => h2 x (by simpa using hx)⟩
theorem lsum_mem48 {α : Type} (u : α → Nat) : ∀ (l : List α) (x : α), x ∈ l → u x ≤ lsum u l
 | y :: l, x, h => by
  rcases List.mem_cons.1 h with rfl | h
  ·simp only [lsum]; omega
  ·have := lsum_mem48 u l x h
   simp only [lsum]; omega
theorem flds_mem {p : List GClass} {name : List UInt8} {s : GSlot_field} (h : s ∈ flds p name) : ∃ c ∈ p, s.fVar ∈ c.fFields := by
 unfold flds allS at h
 obtain ⟨l, hl, hs⟩ := List.mem_flatten.1 h
 obtain ⟨k, _, rfl⟩ := List.mem_map.1 hl
 unfold slotsAt at hs
 split at hs
 ·rename_i c hc
  unfold slotsOf at hs
  obtain ⟨v, hv, rfl⟩ := List.mem_map.1 hs
  exact ⟨c, List.mem_of_getElem? hc, hv⟩
 ·cases hs
theorem env48 {a0 : List GClass} {a1 : List GCell} (h1 : listok (fun y => goodGCell y) a1) (hu : lsum uGClass a0 ≤ 1048576) (hp : a0.length ≤ 30) (hf : fieldsOk a0 40) (hg : ∀ x ∈ a1, a1.length ≤ 12 ∧ x.fFields.length ≤ 20 ∧ x.fClass.length ≤ 30) : Env48 a0 a1 1048576 := by
 refine ⟨by omega, hf, by omega, by omega, fun name s hs => ?_, ?_, fun x hx => ⟨(hg x hx).2.1, (hg x hx).2.2, (h1.2 x hx).2.2.1.2, (h1.2 x hx).2.1.1⟩⟩
 ·obtain ⟨c, hc, hv⟩ := flds_mem hs
  have k1 := lsum_mem48 uGClass a0 c hc
  have k2 := lsum_mem48 uGVar c.fFields s.fVar hv
  have k3 : s.fVar.fName.length ≤ uGVar s.fVar := by unfold uGVar; omega
  have k4 : lsum uGVar c.fFields ≤ uGClass c := by unfold uGClass; omega
  omega
 ·cases a1 with
  | nil => simp
  | cons x t => exact (hg x (by simp)).1
def linesS : List UInt8 → List UInt8 → List (List UInt8)
 | _, [] => []
 | ln, b :: r => if b = 10 then ln :: linesS [] r else linesS (ln ++ [b]) r
theorem linesS_one (s r : List UInt8) (h : ∀ b ∈ s, b ≠ 10) : ∀ ln, linesS ln (s ++ 10 :: r) = (ln ++ s) :: linesS [] r := by
 induction s with
 | nil => intro ln; simp [linesS]
 | cons b s ih =>
  intro ln
  have hb : b ≠ 10 := h b (by simp)
  rw [List.cons_append, linesS, if_neg hb, ih (fun x hx => h x (by simp [hx]))]
  simp
theorem linesS_all (L : List (List UInt8)) (h : ∀ s ∈ L, ∀ b ∈ s, b ≠ 10) : linesS [] (L.flatMap fun s => s ++ [10]) = L := by
 induction L with
 | nil => rfl
 | cons s L ih =>
  rw [List.flatMap_cons, List.append_assoc, List.singleton_append, linesS_one s _ (h s (by simp)), ih (fun x hx => h x (by simp [hx]))]
  simp
theorem cut_one48 {l : List UInt8} {k : Nat} (h : k < l.length) : cutL l (k : Int) ((k + 1 : Nat) : Int) = some [l[k]] := by
 unfold cutL
 rw [if_pos ⟨by omega, by omega, by omega⟩, Int.toNat_natCast, Int.toNat_natCast, List.drop_take, show k + 1 - k = 1 by omega, List.drop_eq_getElem_cons h]
 rfl
theorem law48_lines_L {t : List UInt8} (ht : t.length ≤ 8000000000000) : ∀ (n k : Nat) (out : List (List UInt8)) (ln : List UInt8), n + k = t.length + 1 → k ≤ t.length → out.length ≤ k → ln.length ≤ k → law48_lines_L1 t n out ln (k : Int) = some (out ++ linesS ln (t.drop k))
 | 0, k, out, ln, h1, h2, _, _ => by omega
 | n + 1, k, out, ln, h1, h2, h3, h4 => by
  simp only [law48_lines_L1]
  by_cases hlt : k < t.length
  ·rw [if_pos (by simpa using hlt), idx_lt hlt, w64_succ hlt (by omega), List.drop_eq_getElem_cons hlt, linesS]
   simp only [obs]
   by_cases hb : t[k] = 10
   ·rw [if_pos hb, if_neg (by rw [hb]; decide), room_ok (by simp; omega)]
    simp only [obs]
    rw [law48_lines_L ht n (k + 1) _ _ (by omega) (by omega) (by simp; omega) (by simp)]
    simp
   ·have hb2 : ((t[k].toNat : Int) != 10) = true := by
     rw [bne_iff_ne]
     intro e
     exact hb (UInt8.toNat_inj.1 (by (have : t[k].toNat = 10 := (by omega); simpa using this)))
    rw [if_neg hb, if_pos hb2, cut_one48 hlt]
    simp only [obs]
    rw [room_ok (by simp; omega)]
    simp only [obs]
    rw [law48_lines_L ht n (k + 1) _ _ (by omega) (by omega) (by omega) (by simp; omega)]
  ·rw [if_neg (by simpa using hlt), List.drop_eq_nil_of_le (by omega)]
   simp [linesS]
theorem law48_lines_eq {t : List UInt8} (ht : t.length ≤ 8000000000000) : law48_lines t = some (linesS [] t) := by
 simp only [law48_lines, fuel_len]
 rw [show (0 : Int) = ((0 : Nat) : Int) from rfl, law48_lines_L ht _ 0 [] [] (by omega) (by omega) (by simp) (by simp)]
 simp [obs]
theorem law48_tabs_L {t : List UInt8} {d : Nat} (hd : d ≤ t.length) (h9 : ∀ i, i < d → t[i]? = some 9) (hx : t[d]? ≠ some 9) (ht : t.length ≤ 8000000000000) : ∀ (n k : Nat), k ≤ d → d - k + 1 ≤ n → law48_tabs_L1 t n (k : Int) = some (d : Int)
 | 0, k, h1, h2 => by omega
 | n + 1, k, h1, h2 => by
  simp only [law48_tabs_L1]
  by_cases hk : k < d
  ·have hlt : k < t.length := by omega
   have e9 := h9 k hk
   rw [if_pos (by simpa using hlt), idx_nat, e9]
   simp only [obs]
   rw [if_pos (by decide), w64_succ hlt (by omega)]
   exact law48_tabs_L hd h9 hx ht n (k + 1) (by omega) (by omega)
  ·obtain rfl : k = d := by omega
   by_cases hlt : k < t.length
   ·rw [if_pos (by simpa using hlt), idx_lt hlt]
    simp only [obs]
    have hne : t[k] ≠ 9 := fun e => hx (by rw [List.getElem?_eq_getElem hlt, e])
    rw [if_neg (by
     intro e
     rw [beq_iff_eq] at e
     exact hne (UInt8.toNat_inj.1 (by (have : t[k].toNat = 9 := (by omega); simpa using this))))]
   ·rw [if_neg (by simpa using hlt)]
    simp only [obs]
    rw [if_neg (by simp)]
theorem law48_tabs_eq {d : Nat} {s : List UInt8} (hs : s[0]? ≠ some 9) (hl : d + s.length ≤ 8000000000000) : law48_tabs (List.replicate d 9 ++ s) = some (d : Int) := by
 unfold law48_tabs
 rw [show (0 : Int) = ((0 : Nat) : Int) from rfl, law48_tabs_L (d := d) (by simp) (fun i hi => by rw [List.getElem?_append_left (by simpa using hi)]; simp [hi]) (by rw [List.getElem?_append_right (by simp)]; simpa using hs) (by simpa using hl) _ 0 (by omega) (by simp)]
 rfl
def treeL (ln : Int → List UInt8) (ch : Int → List Int) : Nat → Nat → Int → List (Nat × Int)
 | 0, _, _ => []
 | n + 1, d, o => (ch o).flatMap fun c => (d, c) :: treeL ln ch n (d + 1) c
theorem treeT_lines (ln : Int → List UInt8) (ch : Int → List Int) : ∀ (n d : Nat) (o : Int), treeT ln ch n d o = ((treeL ln ch n d o).map fun x => List.replicate x.1 9 ++ ln x.2).flatMap fun s => s ++ [10]
 | 0, d, o => rfl
 | n + 1, d, o => by
  show ((ch o).flatMap fun c => (List.replicate d 9 ++ ln c ++ [10]) ++ treeT ln ch n (d + 1) c) = _
  rw [treeL]
  induction ch o with
  | nil => rfl
  | cons c K ih =>
   rw [List.flatMap_cons, List.flatMap_cons, List.map_append, List.flatMap_append, ih, treeT_lines ln ch n (d + 1) c]
   simp
def tabbed (x : Nat × List UInt8) : List UInt8 := List.replicate x.1 9 ++ x.2
theorem cut48 (d : Nat) (s : List UInt8) : cutL (List.replicate d 9 ++ s) (d : Int) ((List.replicate d 9 ++ s).length : Int) = some s := by
 unfold cutL
 rw [if_pos ⟨by omega, by simp; omega, by omega⟩, Int.toNat_natCast, Int.toNat_natCast, List.take_length]
 simp
theorem find48_none {X : List (Nat × List UInt8)} {s : List UInt8} (hX : ∀ x ∈ X, x.2[0]? ≠ some 9 ∧ x.1 + x.2.length ≤ 8000000000000) (hl : X.length ≤ 8000000000000) : ∀ (n k : Nat) (at_ : Int), n + k = X.length + 1 → k ≤ X.length → (∀ x ∈ X.drop k, x.2 ≠ s) → law48_find_L1 (X.map tabbed) s n at_ (k : Int) = some (.next at_)
 | 0, k, at_, h1, h2, _ => by omega
 | n + 1, k, at_, h1, h2, h3 => by
  simp only [law48_find_L1, List.length_map]
  by_cases hlt : k < X.length
  ·have hidx : idx (X.map tabbed) (k : Int) = some (tabbed X[k]) := by rw [idx_nat, List.getElem?_map, List.getElem?_eq_getElem hlt]; rfl
   rw [List.drop_eq_getElem_cons hlt] at h3
   have hx := hX X[k] (List.getElem_mem hlt)
   have hne := h3 X[k] List.mem_cons_self
   rw [if_pos (by simpa using hlt), hidx, w64_succ hlt (by omega)]
   have ht : law48_tabs (tabbed X[k]) = some (X[k].1 : Int) := law48_tabs_eq hx.1 hx.2
   have hc : cutL (tabbed X[k]) (X[k].1 : Int) ((tabbed X[k]).length : Int) = some X[k].2 := cut48 _ _
   simp only [obind, ht, hc]
   rw [if_pos (by simpa using hne)]
   simp only [Ctl.go]
   exact find48_none hX hl n (k + 1) at_ (by omega) (by omega) (fun x hx => h3 x (List.mem_cons_of_mem _ hx))
  ·rw [if_neg (by simpa using hlt)]
theorem find48_at {X : List (Nat × List UInt8)} {s : List UInt8} (hX : ∀ x ∈ X, x.2[0]? ≠ some 9 ∧ x.1 + x.2.length ≤ 8000000000000) (hl : X.length ≤ 8000000000000) {j : Nat} {d : Nat} (hj : X[j]? = some (d, s)) (ho : ∀ i x, X[i]? = some x → x.2 = s → i = j) :
  ∀ (n k : Nat), n + k = X.length + 1 → k ≤ j → law48_find_L1 (X.map tabbed) s n (-1) (k : Int) = some (.next (j : Int))
 | 0, k, h1, h2 => by have := (List.getElem?_eq_some_iff.1 hj).1; omega
 | n + 1, k, h1, h2 => by
  have hjl := (List.getElem?_eq_some_iff.1 hj).1
  have hlt : k < X.length := by omega
  simp only [law48_find_L1, List.length_map]
  have hidx : idx (X.map tabbed) (k : Int) = some (tabbed X[k]) := by rw [idx_nat, List.getElem?_map, List.getElem?_eq_getElem hlt]; rfl
  have hx := hX X[k] (List.getElem_mem hlt)
  rw [if_pos (by simpa using hlt), hidx, w64_succ hlt (by omega)]
  have ht : law48_tabs (tabbed X[k]) = some (X[k].1 : Int) := law48_tabs_eq hx.1 hx.2
  have hc : cutL (tabbed X[k]) (X[k].1 : Int) ((tabbed X[k]).length : Int) = some X[k].2 := cut48 _ _
  simp only [obind, ht, hc]
  by_cases e : X[k].2 = s
  ·have hkj : k = j := ho k X[k] (List.getElem?_eq_getElem hlt) e
   rw [if_neg (by simp [e]), if_neg (by simp)]
   simp only [Ctl.go]
   subst hkj
   refine find48_none hX hl n (k + 1) _ (by omega) (by omega) (fun x hx2 e2 => ?_)
   obtain ⟨i, hi⟩ := List.getElem?_of_mem hx2
   rw [List.getElem?_drop] at hi
   have := ho _ x hi e2
   omega
  ·have hkj : k ≠ j := fun e2 => e (by subst e2; rw [List.getElem?_eq_getElem hlt] at hj; rw [Option.some.inj hj])
   rw [if_pos (by simpa using e)]
   simp only [Ctl.go]
   exact find48_at hX hl hj ho n (k + 1) (by omega) (by omega)
def occ48 (own : Int → Int) (live : List Int) : Nat → List Int → Int → Nat
 | 0, _, _ => 0
 | n + 1, S, c => (S.flatMap (kidsOf own live)).count c + occ48 own live n (S.flatMap (kidsOf own live)) c
theorem occ48_up (own : Int → Int) (live : List Int) : ∀ (n : Nat) (S : List Int) (c : Int), occ48 own live (n + 1) S c = live.count c * (S.count (own c) + occ48 own live n S (own c))
 | 0, S, c => by simp [occ48, kids_count, Nat.mul_comm]
 | n + 1, S, c => by
  rw [occ48, occ48_up own live n (S.flatMap (kidsOf own live)) c, kids_count, occ48, Nat.mul_add, Nat.mul_add, Nat.mul_comm (S.count (own c))]
  rw [Nat.mul_add]
theorem treeL_count {own : Int → Int} {live : List Int} {ln : Int → List UInt8} : ∀ (n d : Nat) (S : List Int) (x : Int), ((S.flatMap (treeL ln (kidsOf own live) n d)).map (·.2)).count x = occ48 own live n S x
 | 0, d, S, x => by
  have : ∀ S : List Int, S.flatMap (treeL ln (kidsOf own live) 0 d) = [] := fun S => by induction S <;> simp_all [treeL]
  rw [this]; rfl
 | n + 1, d, S, x => by
  have h4 : S.flatMap (treeL ln (kidsOf own live) (n + 1) d) = (S.flatMap (kidsOf own live)).flatMap fun c => (d, c) :: treeL ln (kidsOf own live) n (d + 1) c := by
   rw [List.flatMap_assoc]; rfl
  rw [h4, occ48, ← treeL_count (ln := ln) n (d + 1) (S.flatMap (kidsOf own live)) x]
  generalize S.flatMap (kidsOf own live) = K
  induction K with
  | nil => rfl
  | cons c K ih =>
   simp only [List.flatMap_cons, List.map_append, List.map_cons, List.count_append, List.count_cons, List.cons_append] at *
   rw [ih]; omega
def UpTo48 (own : Int → Int) (live : List Int) : Nat → Int → Int → Prop
 | 0, c, r => c = r ∧ live.count c = 0
 | j + 1, c, r => live.count c = 1 ∧ UpTo48 own live j (own c) r
theorem occ48_dead {own : Int → Int} {live : List Int} {c : Int} (h : live.count c = 0) : ∀ (n : Nat) (S : List Int), occ48 own live n S c = 0
 | 0, S => rfl
 | n + 1, S => by rw [occ48_up, h, Nat.zero_mul]
theorem occ48_chain {own : Int → Int} {live : List Int} {r0 : Int} (h0 : live.count r0 = 0) : ∀ (j n : Nat) (c r : Int), UpTo48 own live (j + 1) c r → j + 1 ≤ n → occ48 own live n [r0] c = if r = r0 then 1 else 0
 | j, 0, c, r, _, hn => by omega
 | 0, n + 1, c, r, h, _ => by
  obtain ⟨h1, h2, h3⟩ := h
  rw [occ48_up, h1, h2, occ48_dead (by rw [← h2]; exact h3), Nat.one_mul, List.count_cons]
  by_cases e : r = r0
  ·subst e; simp
  ·rw [if_neg e]; simp; exact fun e2 => e e2.symm
 | j + 1, n + 1, c, r, h, hn => by
  obtain ⟨h1, h2⟩ := h
  have h4 := h2.1
  have h5 : [r0].count (own c) = 0 := List.count_eq_zero.2 fun hm => by
   rw [List.mem_singleton] at hm
   rw [hm, h0] at h4; cases h4
  rw [occ48_up, h1, h5, occ48_chain h0 j n (own c) r h2 (by omega), Nat.one_mul, Nat.zero_add]
theorem rst_bytes : ∀ (f m : Nat), ∀ z ∈ rst f m, ∃ k : Nat, k < 10 ∧ z = ((48 + k : Nat) : Int)
 | 0, m, z, h => by simp [rst] at h
 | f + 1, m, z, h => by
  unfold rst at h
  split at h
  ·rcases List.mem_cons.1 h with rfl | h
   ·exact ⟨m / 10 % 10, by omega, rfl⟩
   ·exact rst_bytes f (m / 10) z h
  ·simp at h
theorem dig_byte {k : Nat} (h : k < 10) : UInt8.ofNat (48 + k) ≠ 10 ∧ UInt8.ofNat (48 + k) ≠ 32 ∧ UInt8.ofNat (48 + k) ≠ 9 := by
 have : k = 0 ∨ k = 1 ∨ k = 2 ∨ k = 3 ∨ k = 4 ∨ k = 5 ∨ k = 6 ∨ k = 7 ∨ k = 8 ∨ k = 9 := by omega
 rcases this with rfl | rfl | rfl | rfl | rfl | rfl | rfl | rfl | rfl | rfl <;> decide
theorem digS_bytes (a : Int) : ∀ b ∈ digS a, b ≠ 10 ∧ b ≠ 32 ∧ b ≠ 9 := by
 intro b hb
 unfold digS at hb
 rcases List.mem_append.1 hb with hb | hb
 ·split at hb
  ·rw [List.mem_singleton] at hb; subst hb; decide
  ·simp at hb
 ·unfold strL at hb
  rcases List.mem_append.1 hb with hb | hb
  ·obtain ⟨z, hz, rfl⟩ := List.mem_map.1 hb
   obtain ⟨k, hk, rfl⟩ := rst_bytes _ _ z (List.mem_reverse.1 hz)
   rw [Int.toNat_natCast]; exact dig_byte hk
  ·obtain ⟨z, hz, rfl⟩ := List.mem_map.1 hb
   rw [List.mem_singleton] at hz
   subst hz
   rw [Int.toNat_natCast]; exact dig_byte (by omega)
abbrev ByteOk (b : UInt8) : Prop := b ≠ 10
theorem valS_bytes (v : GVal) : ∀ b ∈ valS v, ByteOk b := by
 intro b hb
 unfold valS at hb
 rcases List.mem_append.1 hb with hb | hb
 ·split at hb
  ·rw [List.mem_singleton] at hb; subst hb; decide
  ·simp at hb
 ·exact (digS_bytes _ b hb).1
theorem prsS_bytes {fs : List GSlot_field} (hn : ∀ s ∈ fs, ∀ b ∈ s.fVar.fName, ByteOk b) : ∀ (l : List GVal) (k : Nat), ∀ s ∈ prsS fs l k, ∀ b ∈ s, ByteOk b
 | [], k, s, hs, b, hb => by simp [prsS] at hs
 | v :: t, k, s, hs, b, hb => by
  rcases List.mem_cons.1 hs with rfl | hs
  ·rcases List.mem_append.1 hb with hb | hb
   ·rcases List.mem_append.1 hb with hb | hb
    ·unfold nameS at hb
     split at hb
     ·rename_i x hx; exact hn x (List.mem_of_getElem? hx) b hb
     ·rw [List.mem_singleton] at hb; subst hb; decide
    ·rw [List.mem_singleton] at hb; subst hb; decide
   ·exact valS_bytes v b hb
  ·exact prsS_bytes hn t (k + 1) s hs b hb
def GoodL (own : Int → Int) (live : List Int) (o : Int) (d : Nat) (L : List (Nat × Int)) : Prop :=
 ∀ (i : Nat) (x : Nat × Int), L[i]? = some x → x.2 ∈ live ∧ ((own x.2 = o ∧ x.1 = d) ∨ ∃ (k : Nat) (y : Nat × Int), k < i ∧ L[k]? = some y ∧ y.2 = own x.2 ∧ y.1 + 1 = x.1)
theorem goodL_append {own : Int → Int} {live : List Int} {o : Int} {d : Nat} {L1 L2 : List (Nat × Int)} (h1 : GoodL own live o d L1) (h2 : GoodL own live o d L2) : GoodL own live o d (L1 ++ L2) := by
 intro i x hx
 by_cases hi : i < L1.length
 ·rw [List.getElem?_append_left hi] at hx
  obtain ⟨a, b⟩ := h1 i x hx
  refine ⟨a, b.imp id ?_⟩
  rintro ⟨k, y, hk, hy, e⟩
  exact ⟨k, y, hk, by rw [List.getElem?_append_left (by omega)]; exact hy, e⟩
 ·rw [List.getElem?_append_right (by omega)] at hx
  obtain ⟨a, b⟩ := h2 _ x hx
  refine ⟨a, b.imp id ?_⟩
  rintro ⟨k, y, hk, hy, e⟩
  exact ⟨k + L1.length, y, by omega, by rw [List.getElem?_append_right (by omega), Nat.add_sub_cancel]; exact hy, e⟩
theorem goodL_cons {own : Int → Int} {live : List Int} {o c : Int} {d : Nat} {L : List (Nat × Int)} (hc : c ∈ live) (ho : own c = o) (h : GoodL own live c (d + 1) L) : GoodL own live o d ((d, c) :: L) := by
 intro i x hx
 cases i with
 | zero =>
  rw [List.getElem?_cons_zero, Option.some.injEq] at hx
  subst hx
  exact ⟨hc, .inl ⟨ho, rfl⟩⟩
 | succ i =>
  rw [List.getElem?_cons_succ] at hx
  obtain ⟨a, b⟩ := h i x hx
  refine ⟨a, .inr ?_⟩
  rcases b with ⟨e1, e2⟩ | ⟨k, y, hk, hy, e⟩
  ·exact ⟨0, (d, c), by omega, rfl, e1.symm, e2.symm⟩
  ·exact ⟨k + 1, y, by omega, by rw [List.getElem?_cons_succ]; exact hy, e⟩
theorem treeL_good (own : Int → Int) (live : List Int) (ln : Int → List UInt8) : ∀ (n d : Nat) (o : Int), GoodL own live o d (treeL ln (kidsOf own live) n d o)
 | 0, d, o => fun i x hx => by simp [treeL] at hx
 | n + 1, d, o => by
  rw [treeL]
  have hK : ∀ c ∈ kidsOf own live o, c ∈ live ∧ own c = o := fun c hc => by
   have := List.mem_filter.1 hc
   exact ⟨this.1, by simpa using this.2⟩
  generalize kidsOf own live o = K at hK
  induction K with
  | nil => exact fun i x hx => by simp at hx
  | cons c K ih =>
   rw [List.flatMap_cons]
   exact goodL_append (goodL_cons (hK c (by simp)).1 (hK c (by simp)).2 (treeL_good own live ln n (d + 1) c)) (ih fun x hx => hK x (by simp [hx]))
def HangL (own : Int → Int) (L : List (Nat × Int)) : Prop :=
 ∀ (i : Nat) (x : Nat × Int), L[i]? = some x → 0 < x.2 → (own x.2 ≤ 0 → x.1 = 1) ∧ (0 < own x.2 → ∃ (k : Nat) (y : Nat × Int), k < i ∧ L[k]? = some y ∧ y.2 = own x.2 ∧ y.1 + 1 = x.1)
theorem hangL_append {own : Int → Int} {L1 L2 : List (Nat × Int)} (h1 : HangL own L1) (h2 : HangL own L2) : HangL own (L1 ++ L2) := by
 intro i x hx hp
 by_cases hi : i < L1.length
 ·rw [List.getElem?_append_left hi] at hx
  obtain ⟨a, b⟩ := h1 i x hx hp
  refine ⟨a, fun h => ?_⟩
  obtain ⟨k, y, hk, hy, e⟩ := b h
  exact ⟨k, y, hk, by rw [List.getElem?_append_left (by omega)]; exact hy, e⟩
 ·rw [List.getElem?_append_right (by omega)] at hx
  obtain ⟨a, b⟩ := h2 _ x hx hp
  refine ⟨a, fun h => ?_⟩
  obtain ⟨k, y, hk, hy, e⟩ := b h
  exact ⟨k + L1.length, y, by omega, by rw [List.getElem?_append_right (by omega), Nat.add_sub_cancel]; exact hy, e⟩
theorem hangL_head {own : Int → Int} {L : List (Nat × Int)} {r : Int} (hr : r ≤ 0) (h : HangL own L) : HangL own ((0, r) :: L) := by
 intro i x hx hp
 cases i with
 | zero =>
  rw [List.getElem?_cons_zero, Option.some.injEq] at hx
  subst hx
  simp only at hp; omega
 | succ i =>
  rw [List.getElem?_cons_succ] at hx
  obtain ⟨a, b⟩ := h i x hx hp
  refine ⟨a, fun h => ?_⟩
  obtain ⟨k, y, hk, hy, e⟩ := b h
  exact ⟨k + 1, y, by omega, by rw [List.getElem?_cons_succ]; exact hy, e⟩
theorem hangL_good {own : Int → Int} {live : List Int} {o : Int} {L : List (Nat × Int)} (ho : o ≤ 0) (hl : ∀ c ∈ live, 0 < c) (h : GoodL own live o 1 L) : HangL own L := by
 intro i x hx hp
 obtain ⟨a, b⟩ := h i x hx
 rcases b with ⟨e1, e2⟩ | ⟨k, y, hk, hy, e1, e2⟩
 ·exact ⟨fun _ => e2, fun h => by omega⟩
 ·exact ⟨fun h2 => by have := hl _ (h k y hy).1; omega, fun _ => ⟨k, y, hk, hy, e1, e2⟩⟩
def clusF (T : Int → List (Nat × Int)) : Nat → Nat → List (Nat × Int)
 | 0, _ => []
 | m + 1, k => (if T (-(k : Int)) = [] then [] else (0, -(k : Int)) :: T (-(k : Int))) ++ clusF T m (k + 1)
theorem clusF_hang {own : Int → Int} {T : Int → List (Nat × Int)} (h : ∀ o, o ≤ 0 → HangL own (T o)) : ∀ m k, HangL own (clusF T m k)
 | 0, k => fun i x hx => by simp [clusF] at hx
 | m + 1, k => by
  rw [clusF]
  refine hangL_append ?_ (clusF_hang h m (k + 1))
  split
  ·exact fun i x hx => by simp at hx
  ·exact hangL_head (by omega) (h _ (by omega))
theorem clusF_count {T : Int → List (Nat × Int)} {r c : Int} (hc : 0 < c) (h : ∀ k : Nat, 1 ≤ k → ((T (-(k : Int))).map (·.2)).count c = if r = -(k : Int) then 1 else 0) : ∀ (m k : Nat), 1 ≤ k → ((clusF T m k).map (·.2)).count c = if (k : Int) ≤ -r ∧ -r < ((k + m : Nat) : Int) then 1 else 0
 | 0, k, _ => by rw [if_neg (by omega)]; rfl
 | m + 1, k, hk => by
  rw [clusF, List.map_append, List.count_append, clusF_count hc h m (k + 1) (by omega)]
  have e : ((if T (-(k : Int)) = [] then [] else (0, -(k : Int)) :: T (-(k : Int))).map (·.2)).count c = if r = -(k : Int) then 1 else 0 := by
   rw [← h k hk]
   split
   ·rename_i e; rw [e]
   ·rw [List.map_cons, List.count_cons]
    have : ((-(k : Int)) == c) = false := by rw [beq_eq_false_iff_ne]; omega
    simp [this]
  rw [e]
  split <;> split <;> split <;> omega
def allF (own : Int → Int) (live : List Int) (ln : Int → List UInt8) (m : Nat) : List (Nat × Int) := ((0, 0) :: treeL ln (kidsOf own live) 50 1 0) ++ clusF (treeL ln (kidsOf own live) 50 1) m 1
theorem allF_hang {own : Int → Int} {live : List Int} {ln : Int → List UInt8} (hl : ∀ c ∈ live, 0 < c) (m : Nat) : HangL own (allF own live ln m) := by
 have h : ∀ o, o ≤ 0 → HangL own (treeL ln (kidsOf own live) 50 1 o) := fun o ho => hangL_good ho hl (treeL_good own live ln 50 1 o)
 exact hangL_append (hangL_head (by omega) (h 0 (by omega))) (clusF_hang h m 1)
theorem allF_count {own : Int → Int} {live : List Int} {ln : Int → List UInt8} (hl : ∀ c ∈ live, 0 < c) {m j : Nat} {c r : Int} (hu : UpTo48 own live (j + 1) c r) (hj : j + 1 ≤ 50) (hr : r ≤ 0) (hm : -r ≤ (m : Int)) (hc : 0 < c) : ((allF own live ln m).map (·.2)).count c = 1 := by
 have h0 : ∀ o : Int, o ≤ 0 → live.count o = 0 := fun o ho => List.count_eq_zero.2 fun h => by have := hl o h; omega
 have ht : ∀ o : Int, o ≤ 0 → ((treeL ln (kidsOf own live) 50 1 o).map (·.2)).count c = if r = o then 1 else 0 := fun o ho => by
  rw [← occ48_chain (h0 o ho) j 50 c r hu hj, ← treeL_count (ln := ln) 50 1 [o] c]
  simp
 have h1 := clusF_count (T := treeL ln (kidsOf own live) 50 1) hc (fun k hk => ht (-(k : Int)) (by omega)) m 1 (by omega)
 unfold allF
 rw [List.map_append, List.count_append, h1, List.map_cons, List.count_cons, ht 0 (by omega)]
 have : ((0 : Int) == c) = false := by rw [beq_eq_false_iff_ne]; omega
 simp only [this, Bool.false_eq_true, if_false, Nat.add_zero]
 by_cases e0 : r = 0
 ·rw [if_pos e0, if_neg (by omega)]
 ·rw [if_neg e0, if_pos (by omega)]
theorem once_at {c : Int} : ∀ {L : List (Nat × Int)}, (L.map (·.2)).count c = 1 → ∃ (j d : Nat), L[j]? = some (d, c) ∧ ∀ (i : Nat) (x : Nat × Int), L[i]? = some x → x.2 = c → i = j
 | [], h => by simp at h
 | x :: L, h => by
  rw [List.map_cons, List.count_cons] at h
  by_cases e : x.2 = c
  ·have h0 : (L.map (·.2)).count c = 0 := by simp [e] at h ⊢; exact h
   refine ⟨0, x.1, by rw [List.getElem?_cons_zero, ← e], fun i y hy hy2 => ?_⟩
   cases i with
   | zero => rfl
   | succ i =>
    rw [List.getElem?_cons_succ] at hy
    exact absurd (List.mem_map.2 ⟨y, List.mem_of_getElem? hy, hy2⟩) (List.count_eq_zero.1 h0)
  ·have h1 : (L.map (·.2)).count c = 1 := by simpa [e] using h
   obtain ⟨j, d, h2, h3⟩ := once_at h1
   refine ⟨j + 1, d, by rw [List.getElem?_cons_succ]; exact h2, fun i y hy hy2 => ?_⟩
   cases i with
   | zero =>
    rw [List.getElem?_cons_zero, Option.some.injEq] at hy
    subst hy; exact absurd hy2 e
   | succ i =>
    rw [List.getElem?_cons_succ] at hy
    rw [h3 i y hy hy2]
theorem flat10_len (L : List (List UInt8)) : L.length ≤ (L.flatMap fun s => s ++ [10]).length ∧ ∀ s ∈ L, s.length ≤ (L.flatMap fun s => s ++ [10]).length := by
 induction L with
 | nil => simp
 | cons s L ih =>
  simp only [List.flatMap_cons, List.length_append, List.length_cons, List.length_nil] at *
  refine ⟨by omega, fun x hx => ?_⟩
  rcases List.mem_cons.1 hx with rfl | hx
  ·omega
  ·have := ih.2 x hx; omega
theorem cut32 : ∀ {a b : List UInt8} {r s : List UInt8}, (∀ x ∈ a, x ≠ 32) → (∀ x ∈ b, x ≠ 32) → a ++ 32 :: r = b ++ 32 :: s → a = b
 | [], [], _, _, _, _, _ => rfl
 | [], y :: b, _, _, _, hb, h => by simp at h; exact absurd h.1.symm (hb y (by simp))
 | x :: a, [], _, _, ha, _, h => by simp at h; exact absurd h.1 (ha x (by simp))
 | x :: a, y :: b, _, _, ha, hb, h => by
  simp only [List.cons_append, List.cons.injEq] at h
  rw [h.1, cut32 (fun z hz => ha z (by simp [hz])) (fun z hz => hb z (by simp [hz])) h.2]
def lnF (p : List GClass) (l : List GCell) (o : Int) : List UInt8 := if o = 0 then [119, 111, 114, 108, 100] else if o < 0 then clusW ++ digS o else lineS p l o
def tabF (p : List GClass) (l : List GCell) (x : Nat × Int) : List UInt8 := tabbed (x.1, lnF p l x.2)
abbrev TL (p : List GClass) (l : List GCell) : Int → List (Nat × Int) := treeL (lineS p l) (kidsOf (ownC l) (liveS l 0)) 50 1
abbrev FF (p : List GClass) (l : List GCell) (m : Nat) : List (Nat × Int) := allF (ownC l) (liveS l 0) (lineS p l) m
theorem live_pos {l : List GCell} : ∀ c ∈ liveS l 0, 0 < c := fun c hc => by
 obtain ⟨j, h1, _⟩ := liveS_mem l 0 c hc
 omega
theorem TT_lines (p : List GClass) (l : List GCell) (o : Int) : TT p l 50 1 o = ((TL p l o).map (tabF p l)).flatMap fun s => s ++ [10] := by
 show treeT (lineS p l) (kidsOf (ownC l) (liveS l 0)) 50 1 o = _
 rw [treeT_lines]
 congr 1
 apply List.map_congr_left
 intro x hx
 obtain ⟨i, hi⟩ := List.getElem?_of_mem hx
 have h := live_pos _ (treeL_good _ _ _ 50 1 o i x hi).1
 unfold tabF tabbed lnF
 rw [if_neg (by omega), if_neg (by omega)]
theorem TT_nil2 (p : List GClass) (l : List GCell) (o : Int) : TT p l 50 1 o = [] ↔ TL p l o = [] := by
 rw [TT_lines]
 cases TL p l o with
 | nil => simp
 | cons x L => simp
theorem clusT_lines (p : List GClass) (l : List GCell) : ∀ (m k : Nat), 1 ≤ k → clusT p l m k = ((clusF (TL p l) m k).map (tabF p l)).flatMap fun s => s ++ [10]
 | 0, k, _ => rfl
 | m + 1, k, hk => by
  rw [clusT, clusF, clusT_lines p l m (k + 1) (by omega), List.map_append, List.flatMap_append]
  congr 1
  unfold oneC
  by_cases h : TL p l (-(k : Int)) = []
  ·rw [if_pos ((TT_nil2 p l _).2 h), if_pos h]; rfl
  ·rw [if_neg (fun e => h ((TT_nil2 p l _).1 e)), if_neg h, List.map_cons, List.flatMap_cons, ← TT_lines]
   congr 1
   unfold tabF tabbed lnF
   rw [if_neg (by omega), if_pos (by omega)]
   simp
theorem treeText_lines (p : List GClass) (l : List GCell) (a2 : Int) : treeText p l a2 = ((FF p l a2.toNat).map (tabF p l)).flatMap fun s => s ++ [10] := by
 unfold treeText FF allF
 rw [TT_lines, clusT_lines p l a2.toNat 1 (by omega), List.map_append, List.flatMap_append, List.map_cons, List.flatMap_cons]
 rfl
theorem clusT_len {p : List GClass} {l : List GCell} {NB : Nat} (E : Env48 p l NB) : ∀ (m k : Nat), (clusT p l m k).length ≤ m * 30000000100
 | 0, k => by simp [clusT]
 | m + 1, k => by
  have h1 := oneC_len E k
  have h2 := clusT_len E m (k + 1)
  rw [clusT, List.length_append, Nat.succ_mul]
  generalize m * 30000000100 = z at h2 ⊢
  omega
theorem treeText_len {p : List GClass} {l : List GCell} {NB : Nat} (E : Env48 p l NB) {a2 : Int} (ha : a2 ≤ 100) : (treeText p l a2).length ≤ 4000000000000 := by
 have h1 := TT_len E 0
 have h2 := clusT_len E a2.toNat 1
 have hA : a2.toNat ≤ 100 := by omega
 have h3 : a2.toNat * 30000000100 ≤ 3000000010000 := Nat.mul_le_mul_right 30000000100 hA
 unfold treeText
 rw [List.length_append, List.length_append]
 generalize a2.toNat * 30000000100 = z at h2 h3
 simp only [List.length_cons, List.length_nil]
 omega
def NoTen (p : List GClass) (l : List GCell) : Prop := (∀ x ∈ l, ∀ b ∈ x.fClass, b ≠ 10) ∧ ∀ c ∈ p, ∀ v ∈ c.fFields, ∀ b ∈ v.fName, b ≠ 10
theorem lineS_bytes {p : List GClass} {l : List GCell} (h : NoTen p l) (c : Int) : ∀ b ∈ lineS p l c, b ≠ 10 := by
 intro b hb
 unfold lineS at hb
 split at hb
 ·rename_i x hx
  have hxm := List.mem_of_getElem? hx
  simp only [List.mem_append] at hb
  rcases hb with (((hb | hb) | hb) | hb) | hb
  ·rw [List.mem_singleton] at hb; subst hb; decide
  ·exact (digS_bytes c b hb).1
  ·rw [List.mem_singleton] at hb; subst hb; decide
  ·exact h.1 x hxm b hb
  ·obtain ⟨s, hs, hb⟩ := List.mem_flatMap.1 hb
   rcases List.mem_append.1 hb with hb | hb
   ·rw [List.mem_singleton] at hb; subst hb; decide
   ·refine prsS_bytes (fs := flds p x.fClass) (fun s hs b hb => ?_) _ _ s hs b hb
    obtain ⟨c, hc, hv⟩ := flds_mem hs
    exact h.2 c hc _ hv b hb
 ·simp at hb
theorem lnF_bytes {p : List GClass} {l : List GCell} (h : NoTen p l) (o : Int) : ∀ b ∈ lnF p l o, b ≠ 10 := by
 intro b hb
 unfold lnF at hb
 split at hb
 ·revert b; decide
 ·split at hb
  ·rcases List.mem_append.1 hb with hb | hb
   ·have h10 : ∀ b ∈ clusW, b ≠ 10 := by unfold clusW; decide
    exact h10 b hb
   ·exact (digS_bytes o b hb).1
  ·exact lineS_bytes h o b hb
theorem tabF_bytes {p : List GClass} {l : List GCell} (h : NoTen p l) (x : Nat × Int) : ∀ b ∈ tabF p l x, b ≠ 10 := by
 intro b hb
 unfold tabF tabbed at hb
 rcases List.mem_append.1 hb with hb | hb
 ·have := List.eq_of_mem_replicate hb
  subst this; decide
 ·exact lnF_bytes h _ b hb
theorem lines_tree {p : List GClass} {l : List GCell} {NB : Nat} (E : Env48 p l NB) (h : NoTen p l) {a2 : Int} (ha : a2 ≤ 100) : law48_lines (treeText p l a2) = some ((FF p l a2.toNat).map (tabF p l)) := by
 rw [law48_lines_eq (by have := treeText_len E ha; omega), treeText_lines, linesS_all]
 intro s hs b hb
 obtain ⟨x, _, rfl⟩ := List.mem_map.1 hs
 exact tabF_bytes h x b hb
theorem line_head {p : List GClass} {l : List GCell} {c : Int} (hc : Alive l c) : ∃ r, lineS p l c = 64 :: (digS c ++ 32 :: r) := by
 obtain ⟨k, e1, hk, _⟩ := hc
 have e0 : (c - 1).toNat = k := by omega
 unfold lineS
 rw [e0, List.getElem?_eq_getElem hk]
 exact ⟨l[k].fClass ++ (prsS (flds p l[k].fClass) l[k].fFields 0).flatMap fun s => [32] ++ s, by simp⟩
theorem line_inj {p : List GClass} {l : List GCell} {c c' : Int} (hl : l.length ≤ 12) (hc : Alive l c) (hc' : Alive l c') (h : lineS p l c = lineS p l c') : c = c' := by
 obtain ⟨r, e⟩ := line_head (p := p) hc
 obtain ⟨r', e'⟩ := line_head (p := p) hc'
 rw [e, e', List.cons.injEq] at h
 have hd := cut32 (fun x hx => (digS_bytes c x hx).2.1) (fun x hx => (digS_bytes c' x hx).2.1) h.2
 obtain ⟨k, e1, hk, _⟩ := hc
 obtain ⟨k', e1', hk', _⟩ := hc'
 have n1 := numberS_digS (n := k + 1) (by omega)
 have n2 := numberS_digS (n := k' + 1) (by omega)
 rw [← e1] at n1
 rw [← e1', ← hd, n1, Prod.mk.injEq] at n2
 exact n2.1
theorem FF_keys {p : List GClass} {l : List GCell} {m : Nat} : ∀ x ∈ FF p l m, x.2 ≤ 0 ∨ Alive l x.2 := by
 have ht : ∀ o, ∀ x ∈ TL p l o, Alive l x.2 := fun o x hx => by
  obtain ⟨i, hi⟩ := List.getElem?_of_mem hx
  exact alive_of (treeL_good _ _ _ 50 1 o i x hi).1
 have hcl : ∀ (m k : Nat), ∀ x ∈ clusF (TL p l) m k, x.2 ≤ 0 ∨ Alive l x.2 := by
  intro m
  induction m with
  | zero => intro k x hx; simp [clusF] at hx
  | succ m ih =>
   intro k x hx
   rw [clusF, List.mem_append] at hx
   rcases hx with hx | hx
   ·split at hx
    ·simp at hx
    ·rcases List.mem_cons.1 hx with rfl | hx
     ·exact .inl (by simp only; omega)
     ·exact .inr (ht _ x hx)
   ·exact ih (k + 1) x hx
 intro x hx
 unfold FF allF at hx
 rw [List.mem_append] at hx
 rcases hx with hx | hx
 ·rcases List.mem_cons.1 hx with rfl | hx
  ·exact .inl (by simp)
  ·exact .inr (ht 0 x hx)
 ·exact hcl m 1 x hx
theorem lnF_alive {p : List GClass} {l : List GCell} {c : Int} (hc : Alive l c) : lnF p l c = lineS p l c := by
 obtain ⟨k, e1, _⟩ := hc
 unfold lnF
 rw [if_neg (by omega), if_neg (by omega)]
theorem lnF_inj {p : List GClass} {l : List GCell} {c o : Int} (hl : l.length ≤ 12) (hc : Alive l c) (ho : o ≤ 0 ∨ Alive l o) (h : lnF p l o = lineS p l c) : o = c := by
 rcases ho with ho | ho
 ·exfalso
  obtain ⟨r, e⟩ := line_head (p := p) hc
  rw [e] at h
  unfold lnF at h
  split at h
  ·simp at h
  ·rw [if_pos (by omega)] at h
   unfold clusW at h
   simp at h
 ·rw [lnF_alive ho] at h
  exact line_inj hl ho hc h
theorem lnF_first {p : List GClass} {l : List GCell} {o : Int} (ho : o ≤ 0 ∨ Alive l o) : (lnF p l o)[0]? ≠ some 9 := by
 rcases ho with ho | ho
 ·unfold lnF
  split
  ·simp
  ·rw [if_pos (by omega)]
   unfold clusW
   simp
 ·obtain ⟨r, e⟩ := line_head (p := p) ho
  rw [lnF_alive ho, e]
  simp
theorem find_tree {p : List GClass} {l : List GCell} {NB : Nat} (E : Env48 p l NB) {a2 : Int} (ha : a2 ≤ 100) {c : Int} (hc : Alive l c) (h1 : ((FF p l a2.toNat).map (·.2)).count c = 1) :
  ∃ (j d : Nat), (FF p l a2.toNat)[j]? = some (d, c) ∧ (∀ (i : Nat) (x : Nat × Int), (FF p l a2.toNat)[i]? = some x → x.2 = c → i = j) ∧ law48_find ((FF p l a2.toNat).map (tabF p l)) (lineS p l c) = some (j : Int) := by
 obtain ⟨j, d, h2, h3⟩ := once_at h1
 refine ⟨j, d, h2, h3, ?_⟩
 have hlen := treeText_len E ha
 have hfl := flat10_len ((FF p l a2.toNat).map (tabF p l))
 rw [← treeText_lines] at hfl
 have e : (FF p l a2.toNat).map (tabF p l) = ((FF p l a2.toNat).map fun x => (x.1, lnF p l x.2)).map tabbed := by rw [List.map_map]; rfl
 have hX : ∀ x ∈ (FF p l a2.toNat).map fun x => (x.1, lnF p l x.2), x.2[0]? ≠ some 9 ∧ x.1 + x.2.length ≤ 8000000000000 := by
  intro x hx
  obtain ⟨y, hy, rfl⟩ := List.mem_map.1 hx
  refine ⟨lnF_first (FF_keys y hy), ?_⟩
  have := hfl.2 _ (List.mem_map.2 ⟨y, hy, rfl⟩)
  unfold tabF tabbed at this
  rw [List.length_append, List.length_replicate] at this
  simp only at this ⊢
  omega
 have hll : ((FF p l a2.toNat).map fun x => (x.1, lnF p l x.2)).length ≤ 8000000000000 := by
  have := hfl.1
  rw [List.length_map] at this ⊢
  omega
 have hj : ((FF p l a2.toNat).map fun x => (x.1, lnF p l x.2))[j]? = some (d, lineS p l c) := by
  rw [List.getElem?_map, h2, Option.map_some]
  simp only [lnF_alive hc]
 have ho : ∀ (i : Nat) (x : Nat × List UInt8), ((FF p l a2.toNat).map fun x => (x.1, lnF p l x.2))[i]? = some x → x.2 = lineS p l c → i = j := by
  intro i x hx hs
  rw [List.getElem?_map] at hx
  cases hy : (FF p l a2.toNat)[i]? with
  | none => rw [hy] at hx; cases hx
  | some y =>
   rw [hy, Option.map_some, Option.some.injEq] at hx
   subst hx
   exact h3 i y hy (lnF_inj E.hl hc (FF_keys y (List.mem_of_getElem? hy)) hs)
 have hf := find48_at hX hll hj ho (((FF p l a2.toNat).map fun x => (x.1, lnF p l x.2)).length + 1) 0 (by omega) (by omega)
 unfold law48_find
 rw [e]
 simp only [fuel_len, List.length_map] at hf ⊢
 rw [show (0 : Int) = ((0 : Nat) : Int) from rfl, hf]
 rfl
theorem tabs_tree {p : List GClass} {l : List GCell} {NB : Nat} (E : Env48 p l NB) {a2 : Int} (ha : a2 ≤ 100) {j : Nat} {x : Nat × Int} (hx : (FF p l a2.toNat)[j]? = some x) :
  idx ((FF p l a2.toNat).map (tabF p l)) (j : Int) = some (tabF p l x) ∧ law48_tabs (tabF p l x) = some (x.1 : Int) := by
 have hm := List.mem_of_getElem? hx
 have hlen := treeText_len E ha
 have hfl := (flat10_len ((FF p l a2.toNat).map (tabF p l))).2 _ (List.mem_map.2 ⟨x, hm, rfl⟩)
 rw [← treeText_lines] at hfl
 refine ⟨by rw [idx_nat, List.getElem?_map, hx]; rfl, ?_⟩
 unfold tabF tabbed at hfl ⊢
 rw [List.length_append, List.length_replicate] at hfl
 exact law48_tabs_eq (lnF_first (FF_keys x hm)) (by simp only at hfl ⊢; omega)
def upC (l : List GCell) (o : Int) : Int := if 1 ≤ o ∧ o ≤ (l.length : Int) then ownC l o else 0
theorem ref36_Up_eq {l : List GCell} (hl : l.length ≤ 12) (o : Int) : ref36_Up l o = some (upC l o) := by
 unfold ref36_Up upC
 by_cases h : 1 ≤ o ∧ o ≤ (l.length : Int)
 ·obtain ⟨k, e1, hk⟩ : ∃ k : Nat, o = ((k + 1 : Nat) : Int) ∧ k < l.length := ⟨(o - 1).toNat, by omega, by omega⟩
  have e0 : o - 1 = (k : Int) := by omega
  rw [if_neg (by simp; omega), if_pos h]
  simp only [obs]
  rw [if_neg (by simp; omega), e0, w64 (by omega) (by omega), idx_lt hk]
  simp only [obs]
  unfold ownC
  rw [e0, Int.toNat_natCast, List.getElem?_eq_getElem hk]
 ·rw [if_neg h]
  by_cases h1 : o < 1
  ·rw [if_pos (by simpa using h1)]
   simp only [obs, if_true]
  ·rw [if_neg (by simpa using h1)]
   simp only [obs]
   rw [if_pos (by simp; omega)]
theorem ref36_way_L {l : List GCell} (hl : l.length ≤ 12) : ∀ (n k : Nat) (o : Int) (out : List Int), n + k = l.length + 3 → k ≤ l.length + 2 → out.length ≤ k → ∃ r, ref36_way_L1 l n o out (k : Int) = some r ∧ r.length ≤ l.length + 2
 | 0, k, o, out, h1, h2, _ => by omega
 | n + 1, k, o, out, h1, h2, h3 => by
  simp only [ref36_way_L1]
  have e1 : w_i64 ((l.length : Int) + 1) = ((l.length + 1 : Nat) : Int) := by rw [w64 (by omega) (by omega)]; omega
  rw [e1]
  by_cases hk : k ≤ l.length + 1
  ·rw [if_pos (by simp; omega)]
   simp only [obs]
   by_cases ho : o = 0
   ·rw [if_neg (by simp [ho])]
    exact ⟨out, rfl, by omega⟩
   ·rw [if_pos (by simpa using ho), room_ok (by simp; omega)]
    simp only [obs]
    rw [ref36_Up_eq hl, w64_succ (m := l.length + 2) (by omega) (by omega)]
    simp only [obs]
    exact ref36_way_L hl n (k + 1) _ _ (by omega) (by omega) (by simp; omega)
  ·rw [if_neg (by simp; omega)]
   simp only [obs]
   rw [if_neg (by simp)]
   exact ⟨out, rfl, by omega⟩
theorem ref36_Inside_L {a : Int} {w : List Int} (hw : w.length ≤ 1000000) : ∀ (n k : Nat), n + k = w.length + 1 → k ≤ w.length → ref36_Inside_L1 a w n (k : Int) = some (.stop true) ∨ ref36_Inside_L1 a w n (k : Int) = some (.next ())
 | 0, k, h1, h2 => by omega
 | n + 1, k, h1, h2 => by
  simp only [ref36_Inside_L1]
  by_cases hlt : k < w.length
  ·rw [if_pos (by simpa using hlt), idx_lt hlt, w64_succ hlt (by omega)]
   simp only [obs]
   split
   ·exact .inl rfl
   ·exact ref36_Inside_L hw n (k + 1) (by omega) (by omega)
  ·rw [if_neg (by simpa using hlt)]; exact .inr rfl
theorem ref36_Inside_eq {l : List GCell} (hl : l.length ≤ 12) (a b : Int) : ∃ r, ref36_Inside l a b = some r := by
 unfold ref36_Inside
 by_cases h1 : (a == b) = true
 ·rw [if_pos h1]; simp only [obs, if_true]; exact ⟨_, rfl⟩
 rw [if_neg h1]
 simp only [obs]
 by_cases h2 : (b == 0) = true
 ·rw [if_pos h2]; exact ⟨_, rfl⟩
 rw [if_neg h2]
 unfold ref36_way
 obtain ⟨w, e, hw⟩ := ref36_way_L hl (l.length + 3) 0 a [] (by omega) (by omega) (by simp)
 rw [show ((0 : Nat) : Int) = 0 from rfl] at e
 rw [e]
 simp only [obs, fuel_len]
 rw [show (0 : Int) = ((0 : Nat) : Int) from rfl]
 rcases ref36_Inside_L (a := b) (w := w) (by omega) (w.length + 1) 0 (by omega) (by omega) with h | h
 ·rw [h]; exact ⟨_, rfl⟩
 ·rw [h]; exact ⟨_, rfl⟩
def walkU (l : List GCell) : Nat → Int → Int
 | 0, o => o
 | n + 1, o => if 0 < o then walkU l n (upC l o) else o
theorem walkU_neg (l : List GCell) {o : Int} (h : o ≤ 0) : ∀ n, walkU l n o = o
 | 0 => rfl
 | n + 1 => by rw [walkU, if_neg (by omega)]
theorem ref36_Right_L2_eq {l : List GCell} (hl : l.length ≤ 12) : ∀ (n k : Nat) (o : Int), n + k = l.length + 1 → k ≤ l.length → ref36_Right_L2 l n o (k : Int) = some (walkU l (l.length - k) o)
 | 0, k, o, h1, h2 => by omega
 | n + 1, k, o, h1, h2 => by
  simp only [ref36_Right_L2]
  by_cases hlt : k < l.length
  ·rw [if_pos (by simpa using hlt), w64_succ hlt (by omega)]
   simp only [obs]
   rw [show l.length - k = (l.length - (k + 1)) + 1 by omega, walkU]
   by_cases ho : 0 < o
   ·rw [if_pos (by simpa using ho), if_pos ho, ref36_Up_eq hl]
    simp only [obs]
    exact ref36_Right_L2_eq hl n (k + 1) _ (by omega) (by omega)
   ·rw [if_neg (by simpa using ho), if_neg ho]
  ·rw [if_neg (by simpa using hlt), show l.length - k = 0 by omega]
   simp only [obs, walkU]
   rw [if_neg (by simp)]
theorem ref36_Right_L3_tot {l : List GCell} (hl : l.length ≤ 12) (a : Int) (x : GCell) : ∀ (n k : Nat), n + k = 5 → k ≤ 4 → ∃ c, ref36_Right_L3 l a x n (k : Int) = some c ∧ (c = .stop false ∨ c = .next ())
 | 0, k, h1, h2 => by omega
 | n + 1, k, h1, h2 => by
  simp only [ref36_Right_L3]
  by_cases hlt : k < 4
  ·obtain ⟨y, hy⟩ : ∃ y, idx (x.fOwn).l (k : Int) = some y := by
    have : k < (x.fOwn).l.length := hlt
    exact ⟨_, idx_lt this⟩
   obtain ⟨r, hr⟩ := ref36_Inside_eq hl x.fOwn.a0 y
   rw [if_pos (by simp; omega), w64_succ (m := 4) hlt (by omega)]
   simp only [hy, hr, obs]
   have ih := ref36_Right_L3_tot hl a x n (k + 1) (by omega) (by omega)
   repeat' split
   all_goals simp only [obs]
   all_goals first | exact ⟨_, rfl, .inl rfl⟩ | (split <;> first | exact ⟨_, rfl, .inl rfl⟩ | exact ih)
  ·rw [if_neg (by simp; omega)]
   exact ⟨_, rfl, .inr rfl⟩
theorem ref36_Right_L3_first {l : List GCell} (hl : l.length ≤ 12) {a : Int} (ha0 : 0 ≤ a) (ha : a ≤ 4096) (x : GCell) {n : Nat} (hn : ∃ c, ref36_Right_L3 l a x n ((1 : Nat) : Int) = some c ∧ (c = .stop false ∨ c = .next ())) : ∃ c, ref36_Right_L3 l a x (n + 1) 0 = some c ∧ (c = .stop false ∨ c = .next () ∧ x.fOwn.a0 ≤ (l.length : Int) ∧ -a ≤ x.fOwn.a0) := by
 simp only [ref36_Right_L3]
 have hy : idx (x.fOwn).l (0 : Int) = some x.fOwn.a0 := by
  rw [show (0 : Int) = ((0 : Nat) : Int) from rfl, idx_nat]; rfl
 obtain ⟨r, hr⟩ := ref36_Inside_eq hl x.fOwn.a0 x.fOwn.a0
 rw [if_pos (by simp)]
 have hw : w_i64 (0 + 1) = ((1 : Nat) : Int) := by rw [w64 (by omega) (by omega)]; rfl
 have hng : w_i64 (0 - a) = -a := by rw [w64 (by omega) (by omega)]; omega
 rw [hw, hng]
 simp only [hy, hr, obs]
 obtain ⟨c, hc, hc2⟩ := hn
 by_cases h1 : decide (x.fOwn.a0 > (l.length : Int)) = true
 ·rw [if_pos h1]; simp only [obs, if_true]; exact ⟨_, rfl, .inl rfl⟩
 rw [if_neg h1]
 have h1' : x.fOwn.a0 ≤ (l.length : Int) := by simpa using h1
 by_cases h2 : decide (x.fOwn.a0 < 0) = true
 ·rw [if_pos h2]
  by_cases h3 : decide (x.fOwn.a0 < -a) = true
  ·rw [if_pos h3]; simp only [obs, if_true]; exact ⟨_, rfl, .inl rfl⟩
  rw [if_neg h3]
  have h3' : -a ≤ x.fOwn.a0 := by simpa using h3
  simp only [obs]
  split
  ·exact ⟨_, rfl, .inl rfl⟩
  ·rw [hc]
   rcases hc2 with rfl | rfl
   ·exact ⟨_, rfl, .inl rfl⟩
   ·exact ⟨_, rfl, .inr ⟨rfl, h1', h3'⟩⟩
 ·rw [if_neg h2]
  have h2' : 0 ≤ x.fOwn.a0 := by simpa using h2
  simp only [obs]
  split
  ·exact ⟨_, rfl, .inl rfl⟩
  ·rw [hc]
   rcases hc2 with rfl | rfl
   ·exact ⟨_, rfl, .inl rfl⟩
   ·exact ⟨_, rfl, .inr ⟨rfl, h1', by omega⟩⟩
theorem ref36_Right_L3_eq {l : List GCell} (hl : l.length ≤ 12) {a : Int} (ha0 : 0 ≤ a) (ha : a ≤ 4096) (x : GCell) : ∃ c, ref36_Right_L3 l a x (((4 : Int) - (0)).toNat + 1) 0 = some c ∧ (c = .stop false ∨ c = .next () ∧ x.fOwn.a0 ≤ (l.length : Int) ∧ -a ≤ x.fOwn.a0) := by
 have e5 : ((4 : Int) - (0)).toNat = 4 := by decide
 rw [e5]
 exact ref36_Right_L3_first hl ha0 ha x (ref36_Right_L3_tot hl a x 4 1 (by omega) (by omega))
theorem ref36_Right_L1_eq {l : List GCell} (hl : l.length ≤ 12) {a : Int} (ha0 : 0 ≤ a) (ha : a ≤ 4096) : ∀ (n k : Nat), n + k = l.length + 2 → 1 ≤ k → k ≤ l.length + 1 →
  ∃ c, ref36_Right_L1 l a n (k : Int) = some c ∧ (c = .stop false ∨ c = .next () ∧ ∀ j : Nat, k ≤ j → j ≤ l.length → walkU l l.length (j : Int) ≤ 0 ∧ ownC l (j : Int) ≤ (l.length : Int) ∧ -a ≤ ownC l (j : Int))
 | 0, k, h1, h2, h3 => by omega
 | n + 1, k, h1, h2, h3 => by
  simp only [ref36_Right_L1]
  by_cases hlt : k ≤ l.length
  ·have hk : k - 1 < l.length := by omega
   have e0 : (k : Int) - 1 = ((k - 1 : Nat) : Int) := by omega
   have e2 := ref36_Right_L2_eq hl (l.length + 1) 0 (k : Int) (by omega) (by omega)
   rw [show ((0 : Nat) : Int) = 0 from rfl, Nat.sub_zero] at e2
   rw [if_pos (by simpa using hlt), e2, w64_succ (m := l.length + 1) (by omega) (by omega), e0, w64 (by omega) (by omega), idx_lt hk]
   simp only [obs]
   by_cases hw : decide (walkU l l.length (k : Int) > 0) = true
   ·rw [if_pos hw]; exact ⟨_, rfl, .inl rfl⟩
   rw [if_neg hw]
   have hw' : walkU l l.length (k : Int) ≤ 0 := by simpa using hw
   obtain ⟨c, hc, hc2⟩ := ref36_Right_L3_eq hl ha0 ha l[k - 1]
   rw [hc]
   simp only [obs]
   have how : ownC l (k : Int) = l[k - 1].fOwn.a0 := by
    unfold ownC
    rw [e0, Int.toNat_natCast, List.getElem?_eq_getElem hk]
   rcases hc2 with rfl | ⟨rfl, h4, h5⟩
   ·exact ⟨_, rfl, .inl rfl⟩
   ·obtain ⟨c, hc, hc2⟩ := ref36_Right_L1_eq hl ha0 ha n (k + 1) (by omega) (by omega) (by omega)
    refine ⟨c, hc, hc2.imp id ?_⟩
    rintro ⟨rfl, h6⟩
    refine ⟨rfl, fun j hj hj2 => ?_⟩
    by_cases e : k = j
    ·subst e; rw [how]; exact ⟨hw', h4, h5⟩
    ·exact h6 j (by omega) hj2
  ·rw [if_neg (by simpa using hlt)]
   exact ⟨_, rfl, .inr ⟨rfl, fun j hj hj2 => by omega⟩⟩
theorem ref36_Right_eq {l : List GCell} (hl : l.length ≤ 12) {a : Int} (ha0 : 0 ≤ a) (ha : a ≤ 4096) : ∃ b, ref36_Right l a = some b ∧ (b = true → ∀ j : Nat, 1 ≤ j → j ≤ l.length → walkU l l.length (j : Int) ≤ 0 ∧ ownC l (j : Int) ≤ (l.length : Int) ∧ -a ≤ ownC l (j : Int)) := by
 obtain ⟨c, hc, hc2⟩ := ref36_Right_L1_eq hl ha0 ha (l.length + 1) 1 (by omega) (by omega) (by omega)
 unfold ref36_Right
 rw [show ((1 : Nat) : Int) = 1 from rfl] at hc
 rw [hc]
 simp only [obs]
 rcases hc2 with rfl | ⟨rfl, h⟩
 ·exact ⟨false, rfl, fun h => by cases h⟩
 ·exact ⟨true, rfl, fun _ => h⟩
theorem walk_up {l : List GCell} (hlive : ∀ c : Int, 1 ≤ c → c ≤ (l.length : Int) → (liveS l 0).count c = 1) (hown : ∀ j : Nat, 1 ≤ j → j ≤ l.length → ownC l (j : Int) ≤ (l.length : Int)) : ∀ (n : Nat) (c : Int), 1 ≤ c → c ≤ (l.length : Int) → walkU l n c ≤ 0 →
  ∃ j, j + 1 ≤ n ∧ UpTo48 (ownC l) (liveS l 0) (j + 1) c (walkU l n c) ∧ ∃ i : Nat, 1 ≤ i ∧ i ≤ l.length ∧ walkU l n c = ownC l (i : Int)
 | 0, c, h1, h2, h3 => by simp only [walkU] at h3; omega
 | n + 1, c, h1, h2, h3 => by
  have e : walkU l (n + 1) c = walkU l n (ownC l c) := by
   rw [walkU, if_pos (by omega)]
   unfold upC
   rw [if_pos ⟨h1, h2⟩]
  have hc := hown c.toNat (by omega) (by omega)
  have ec : ((c.toNat : Nat) : Int) = c := by omega
  rw [ec] at hc
  rw [e] at h3 ⊢
  by_cases ho : ownC l c ≤ 0
  ·rw [walkU_neg l ho] at h3 ⊢
   exact ⟨0, by omega, ⟨hlive c h1 h2, rfl, List.count_eq_zero.2 fun hm => by have := live_pos _ hm; omega⟩, c.toNat, by omega, by omega, by rw [ec]⟩
  ·obtain ⟨j, hj, hu, hi⟩ := walk_up hlive hown n (ownC l c) (by omega) hc h3
   exact ⟨j + 1, by omega, ⟨hlive c h1 h2, hu⟩, hi⟩
theorem goc {α R S : Type} {a : α} {f : α → Ctl (Option R) S} : obind (some a) f = f a := rfl
theorem deep_L2 {l : List GCell} {k : Nat} (hk : k < l.length) (hl : l[k].fClass.length ≤ 30) (haw : law48_awake = some true) : ∀ (n i : Nat), n + i = l[k].fClass.length + 1 → i ≤ l[k].fClass.length →
  law48_DotDeep_L2 l (k : Int) n (i : Int) = some (.stop true) ∨ law48_DotDeep_L2 l (k : Int) n (i : Int) = some (.next ()) ∧ ∀ b ∈ l[k].fClass.drop i, b ≠ 10
 | 0, i, h1, h2 => by omega
 | n + 1, i, h1, h2 => by
  simp only [law48_DotDeep_L2, idx_lt hk, obs]
  by_cases hlt : i < l[k].fClass.length
  ·rw [if_pos (by simpa using hlt), idx_lt hlt, w64_succ hlt (by omega), haw]
   simp only [obs]
   by_cases h3 : decide ((l[k].fClass[i].toNat : Int) ≤ 32) = true
   ·rw [if_pos h3]; exact .inl rfl
   rw [if_neg h3]
   rcases deep_L2 hk hl haw n (i + 1) (by omega) (by omega) with h | ⟨h, h4⟩
   ·exact .inl h
   ·refine .inr ⟨h, fun b hb => ?_⟩
    rw [List.drop_eq_getElem_cons hlt] at hb
    rcases List.mem_cons.1 hb with rfl | hb
    ·intro e
     rw [e] at h3
     exact h3 (by decide)
    ·exact h4 b hb
  ·rw [if_neg (by simpa using hlt)]
   exact .inr ⟨rfl, fun b hb => by rw [List.drop_eq_nil_of_le (by omega)] at hb; simp at hb⟩
theorem deep_L1 {l : List GCell} (hl : l.length ≤ 12) (hc : ∀ x ∈ l, x.fClass.length ≤ 30) (haw : law48_awake = some true) : ∀ (n k : Nat), n + k = l.length + 1 → k ≤ l.length →
  law48_DotDeep_L1 l n (k : Int) = some (.stop true) ∨ law48_DotDeep_L1 l n (k : Int) = some (.next ()) ∧ ∀ x ∈ l.drop k, x.fDead = false ∧ ∀ b ∈ x.fClass, b ≠ 10
 | 0, k, h1, h2 => by omega
 | n + 1, k, h1, h2 => by
  simp only [law48_DotDeep_L1]
  by_cases hlt : k < l.length
  ·rw [if_pos (by simpa using hlt), idx_lt hlt, w64_succ hlt (by omega), haw]
   simp only [obs, Option.getD_some, fuel_len]
   by_cases hd : l[k].fDead = true
   ·rw [if_pos hd]; exact .inl rfl
   rw [if_neg hd]
   have h3 := deep_L2 hlt (hc _ (List.getElem_mem hlt)) haw (l[k].fClass.length + 1) 0 (by omega) (by omega)
   rw [show ((0 : Nat) : Int) = 0 from rfl] at h3
   rcases h3 with h3 | ⟨h3, h4⟩
   ·rw [h3]; exact .inl rfl
   ·rw [h3]
    simp only [obs, Ctl.elim]
    rcases deep_L1 hl hc haw n (k + 1) (by omega) (by omega) with h | ⟨h, h5⟩
    ·exact .inl h
    ·refine .inr ⟨h, fun x hx => ?_⟩
     rw [List.drop_eq_getElem_cons hlt] at hx
     rcases List.mem_cons.1 hx with rfl | hx
     ·exact ⟨by simpa using hd, by simpa using h4⟩
     ·exact h5 x hx
  ·rw [if_neg (by simpa using hlt)]
   exact .inr ⟨rfl, fun x hx => by rw [List.drop_eq_nil_of_le (by omega)] at hx; simp at hx⟩
theorem deep_L5 {v : GVar} (hl : v.fName.length ≤ 2000000) (haw : law48_awake = some true) : ∀ (n i : Nat), n + i = v.fName.length + 1 → i ≤ v.fName.length →
  law48_DotDeep_L5 v n (i : Int) = some (.stop true) ∨ law48_DotDeep_L5 v n (i : Int) = some (.next ()) ∧ ∀ b ∈ v.fName.drop i, b ≠ 10
 | 0, i, h1, h2 => by omega
 | n + 1, i, h1, h2 => by
  simp only [law48_DotDeep_L5]
  by_cases hlt : i < v.fName.length
  ·rw [if_pos (by simpa using hlt), idx_lt hlt, w64_succ hlt (by omega), haw]
   simp only [obs]
   by_cases h3 : decide ((v.fName[i].toNat : Int) ≤ 32) = true
   ·rw [if_pos h3]; exact .inl rfl
   rw [if_neg h3]
   rcases deep_L5 hl haw n (i + 1) (by omega) (by omega) with h | ⟨h, h4⟩
   ·exact .inl h
   ·refine .inr ⟨h, fun b hb => ?_⟩
    rw [List.drop_eq_getElem_cons hlt] at hb
    rcases List.mem_cons.1 hb with rfl | hb
    ·intro e
     rw [e] at h3
     exact h3 (by decide)
    ·exact h4 b hb
  ·rw [if_neg (by simpa using hlt)]
   exact .inr ⟨rfl, fun b hb => by rw [List.drop_eq_nil_of_le (by omega)] at hb; simp at hb⟩
theorem deep_L4 {p : List GClass} {k : Nat} (hk : k < p.length) (hf : p[k].fFields.length ≤ 2000000) (hn : ∀ v ∈ p[k].fFields, v.fName.length ≤ 2000000) (haw : law48_awake = some true) : ∀ (n i : Nat), n + i = p[k].fFields.length + 1 → i ≤ p[k].fFields.length →
  law48_DotDeep_L4 p (k : Int) n (i : Int) = some (.stop true) ∨ law48_DotDeep_L4 p (k : Int) n (i : Int) = some (.next ()) ∧ ∀ v ∈ p[k].fFields.drop i, ∀ b ∈ v.fName, b ≠ 10
 | 0, i, h1, h2 => by omega
 | n + 1, i, h1, h2 => by
  simp only [law48_DotDeep_L4, idx_lt hk, obs]
  by_cases hlt : i < p[k].fFields.length
  ·rw [if_pos (by simpa using hlt), idx_lt hlt, w64_succ hlt (by omega)]
   simp only [obs, fuel_len]
   have h3 := deep_L5 (hn _ (List.getElem_mem hlt)) haw (p[k].fFields[i].fName.length + 1) 0 (by omega) (by omega)
   rw [show ((0 : Nat) : Int) = 0 from rfl] at h3
   rcases h3 with h3 | ⟨h3, h4⟩
   ·rw [h3]; exact .inl rfl
   ·rw [h3]
    simp only [obs, Ctl.elim]
    rcases deep_L4 hk hf hn haw n (i + 1) (by omega) (by omega) with h | ⟨h, h5⟩
    ·exact .inl h
    ·refine .inr ⟨h, fun x hx => ?_⟩
     rw [List.drop_eq_getElem_cons hlt] at hx
     rcases List.mem_cons.1 hx with rfl | hx
     ·simpa using h4
     ·exact h5 x hx
  ·rw [if_neg (by simpa using hlt)]
   exact .inr ⟨rfl, fun x hx => by rw [List.drop_eq_nil_of_le (by omega)] at hx; simp at hx⟩
theorem deep_L3 {p : List GClass} (hp : p.length ≤ 2000000) (hf : ∀ c ∈ p, c.fFields.length ≤ 2000000 ∧ ∀ v ∈ c.fFields, v.fName.length ≤ 2000000) (haw : law48_awake = some true) : ∀ (n k : Nat), n + k = p.length + 1 → k ≤ p.length →
  law48_DotDeep_L3 p n (k : Int) = some (.stop true) ∨ law48_DotDeep_L3 p n (k : Int) = some (.next ()) ∧ ∀ c ∈ p.drop k, ∀ v ∈ c.fFields, ∀ b ∈ v.fName, b ≠ 10
 | 0, k, h1, h2 => by omega
 | n + 1, k, h1, h2 => by
  simp only [law48_DotDeep_L3]
  by_cases hlt : k < p.length
  ·rw [if_pos (by simpa using hlt), idx_lt hlt, w64_succ hlt (by omega)]
   simp only [obs, Option.getD_some, fuel_len]
   have hf1 := hf _ (List.getElem_mem hlt)
   have h3 := deep_L4 hlt hf1.1 hf1.2 haw (p[k].fFields.length + 1) 0 (by omega) (by omega)
   rw [show ((0 : Nat) : Int) = 0 from rfl] at h3
   rcases h3 with h3 | ⟨h3, h4⟩
   ·rw [h3]; exact .inl rfl
   ·rw [h3]
    simp only [obs, Ctl.elim]
    rcases deep_L3 hp hf haw n (k + 1) (by omega) (by omega) with h | ⟨h, h5⟩
    ·exact .inl h
    ·refine .inr ⟨h, fun x hx => ?_⟩
     rw [List.drop_eq_getElem_cons hlt] at hx
     rcases List.mem_cons.1 hx with rfl | hx
     ·simpa using h4
     ·exact h5 x hx
  ·rw [if_neg (by simpa using hlt)]
   exact .inr ⟨rfl, fun x hx => by rw [List.drop_eq_nil_of_le (by omega)] at hx; simp at hx⟩
theorem deep_L6 {p : List GClass} {l : List GCell} {NB : Nat} (E : Env48 p l NB) {a2 : Int} (ha : a2 ≤ 100) (hal : ∀ c : Int, 1 ≤ c → c ≤ (l.length : Int) → Alive l c ∧ ((FF p l a2.toNat).map (·.2)).count c = 1) (hown : ∀ j : Nat, 1 ≤ j → j ≤ l.length → ownC l (j : Int) ≤ (l.length : Int)) :
  ∀ (n k : Nat), n + k = l.length + 2 → 1 ≤ k → k ≤ l.length + 1 → law48_DotDeep_L6 p l ((FF p l a2.toNat).map (tabF p l)) n (k : Int) = some (.next ())
 | 0, k, h1, h2, h3 => by omega
 | n + 1, k, h1, h2, h3 => by
  have hl := E.hl
  simp only [law48_DotDeep_L6]
  by_cases hlt : k ≤ l.length
  ·obtain ⟨hA, hcnt⟩ := hal (k : Int) (by omega) (by omega)
   obtain ⟨j, d, hj, huniq, hfind⟩ := find_tree E ha hA hcnt
   obtain ⟨hidx, htab⟩ := tabs_tree E ha hj
   have hk : k - 1 < l.length := by omega
   have e0 : (k : Int) - 1 = ((k - 1 : Nat) : Int) := by omega
   have how : ownC l (k : Int) = l[k - 1].fOwn.a0 := by
    unfold ownC
    rw [e0, Int.toNat_natCast, List.getElem?_eq_getElem hk]
   have hj1 : 1 ≤ j := by
    rcases Nat.eq_zero_or_pos j with rfl | h
    ·unfold FF allF at hj
     rw [List.cons_append, List.getElem?_cons_zero, Option.some.injEq, Prod.mk.injEq] at hj
     omega
    ·exact h
   have hh := allF_hang (own := ownC l) (ln := lineS p l) live_pos a2.toNat j (d, (k : Int)) hj (by simp only; omega)
   rw [if_pos (by simpa using hlt), w64_succ (m := l.length + 1) (by omega) (by omega), dot_Line_eq E hA, e0, w64 (by omega) (by omega), idx_lt hk]
   simp only [goc, hfind, hidx, htab]
   rw [if_neg (by simp; omega)]
   simp only [how] at hh
   by_cases ho : l[k - 1].fOwn.a0 ≤ 0
   ·have hd := hh.1 ho
    rw [if_pos (by simpa using ho)]
    simp only [htab, obs, goc]
    rw [if_neg (by simp [hd]), if_neg (by simp; omega)]
    simp only [Ctl.go]
    exact deep_L6 E ha hal hown n (k + 1) (by omega) (by omega) (by omega)
   ·obtain ⟨i, y, hi, hy, e1, e2⟩ := hh.2 (by omega)
    have how2 := hown k h2 hlt
    rw [how] at how2
    obtain ⟨hA2, hcnt2⟩ := hal l[k - 1].fOwn.a0 (by omega) how2
    obtain ⟨j2, d2, hj2, huniq2, hfind2⟩ := find_tree E ha hA2 hcnt2
    obtain ⟨hidx2, htab2⟩ := tabs_tree E ha hj2
    have hij := huniq2 i y hy e1
    subst hij
    have hyd : y = (d2, l[k - 1].fOwn.a0) := by
     have := hy.symm.trans hj2
     exact Option.some.inj this
    have hd2 : d2 + 1 = d := by rw [hyd] at e2; exact e2
    have hlen := (tabs_tree E ha hj)
    have hjl : i < j := hi
    have hdl : d2 ≤ 4000000000000 := by
     have hfl := (flat10_len ((FF p l a2.toNat).map (tabF p l))).2 _ (List.mem_map.2 ⟨_, List.mem_of_getElem? hj2, rfl⟩)
     have := treeText_len E ha
     rw [← treeText_lines] at hfl
     unfold tabF tabbed at hfl
     rw [List.length_append, List.length_replicate] at hfl
     simp only at hfl
     omega
    rw [if_neg (by simpa using ho)]
    simp only [obs, goc]
    rw [if_neg (by simp), if_pos (by first | (simp; done) | (simp; omega)), dot_Line_eq E hA2]
    simp only [goc, hfind2, hidx2, htab2]
    rw [if_neg (by first | (simp; done) | (simp; omega)), if_neg (by first | (simp; done) | (simp; omega))]
    simp only [htab, htab2, obs, goc]
    have hw : w_i64 ((d2 : Int) + 1) = (d : Int) := by rw [w64 (by omega) (by omega)]; omega
    rw [hw, if_neg (by simp)]
    simp only [Ctl.go]
    exact deep_L6 E ha hal hown n (k + 1) (by omega) (by omega) (by omega)
  ·rw [if_neg (by simpa using hlt)]
theorem live_count1 {l : List GCell} (hd : ∀ x ∈ l, x.fDead = false) : ∀ c : Int, 1 ≤ c → c ≤ (l.length : Int) → (liveS l 0).count c = 1 := by
 have h : ∀ (t : List GCell) (k : Nat), (∀ x ∈ t, x.fDead = false) → ∀ c : Int, ((k + 1 : Nat) : Int) ≤ c → c ≤ ((k + t.length : Nat) : Int) → (liveS t k).count c = 1 := by
  intro t
  induction t with
  | nil => intro k _ c h1 h2; simp at h2; omega
  | cons x t ih =>
   intro k hx c h1 h2
   rw [liveS, if_neg (by rw [hx x (by simp)]; simp), List.count_append]
   by_cases e : c = ((k + 1 : Nat) : Int)
   ·have h0 : (liveS t (k + 1)).count c = 0 := List.count_eq_zero.2 fun hm => by
     obtain ⟨j, h3, _⟩ := liveS_mem t (k + 1) c hm
     omega
    rw [h0, e]
    simp
   ·have h3 : [((k + 1 : Nat) : Int)].count c = 0 := List.count_eq_zero.2 fun hm => e (List.mem_singleton.1 hm)
    rw [h3, ih (k + 1) (fun y hy => hx y (by simp [hy])) c (by omega) (by simp at h2 ⊢; omega)]
 exact fun c h1 h2 => h l 0 hd c (by simpa using h1) (by simpa using h2)
theorem law48_DotDeep_true {a0 : List GClass} {a1 : List GCell} {a2 : Int} (h0 : listok (fun y => goodGClass y) a0) (h1 : listok (fun y => goodGCell y) a1) (_h2 : i64ok a2) (hu : lsum uGClass a0 ≤ 1048576) : law48_DotDeep a0 a1 a2 = some true := by
 have haw : law48_awake = some true := by decide +kernel
 have hml : a1.length ≤ maxLen := h1.1
 simp only [maxLen] at hml
 obtain ⟨b, hb, hbf⟩ := heavy_eq h0
 obtain ⟨g, hg, hgf⟩ := great48_eq (h := a1) (by omega)
 unfold law48_DotDeep
 rw [hb]
 simp only [obs]
 cases b with
 | true => simp only [if_true, obs, haw]
 | false =>
  obtain ⟨hp, hf⟩ := hbf rfl
  simp only [Bool.false_eq_true, if_false]
  rw [hg]
  simp only [obs]
  cases g with
  | true => simp only [if_true, obs, haw]
  | false =>
   simp only [Bool.false_eq_true, if_false, obs]
   by_cases ha1 : a2 < 0
   ·rw [if_pos (by simpa using ha1)]; simp only [if_true, obs, haw]
   rw [if_neg (by simpa using ha1)]
   by_cases ha : a2 > 100
   ·rw [if_pos (by simpa using ha)]; simp only [if_true, obs, haw]
   rw [if_neg (by simpa using ha)]
   have E := env48 h1 hu hp hf (hgf rfl)
   have hl := E.hl
   obtain ⟨r1, e1, _⟩ := ref36_Right_eq hl (a := 4096) (by omega) (by omega)
   obtain ⟨r2, e2, hr2⟩ := ref36_Right_eq hl (a := a2) (by omega) (by omega)
   unfold law48_bushy
   rw [e1, e2]
   simp only [obs]
   cases r1 with
   | false => simp only [Bool.not_false, if_true, obs, haw]
   | true =>
    simp only [Bool.not_true, Bool.false_eq_true, if_false, obs]
    cases r2 with
    | false => simp only [Bool.not_false, if_true, obs, haw]
    | true =>
     simp only [Bool.not_true, Bool.false_eq_true, if_false, obs, fuel_len]
     have hr := hr2 rfl
     rcases deep_L1 hl (fun x hx => (E.hc x hx).2.1) haw (a1.length + 1) 0 (by omega) (by omega) with h3 | ⟨h3, h4⟩
     ·rw [show (0 : Int) = ((0 : Nat) : Int) from rfl, h3]; rfl
     rw [show ((0 : Nat) : Int) = 0 from rfl] at h3
     rw [h3]
     simp only [obs, Ctl.elim]
     have hfl : ∀ c ∈ a0, c.fFields.length ≤ 2000000 ∧ ∀ v ∈ c.fFields, v.fName.length ≤ 2000000 := fun c hc => by
      have k1 := lsum_mem48 uGClass a0 c hc
      have k4 : lsum uGVar c.fFields ≤ uGClass c := by unfold uGClass; omega
      refine ⟨?_, fun v hv => ?_⟩
      ·have := hf c hc; omega
      ·have k2 := lsum_mem48 uGVar c.fFields v hv
       have k3 : v.fName.length ≤ uGVar v := by unfold uGVar; omega
       omega
     rcases deep_L3 (by omega) hfl haw (a0.length + 1) 0 (by omega) (by omega) with h5 | ⟨h5, h6⟩
     ·rw [show (0 : Int) = ((0 : Nat) : Int) from rfl, h5]; rfl
     rw [show ((0 : Nat) : Int) = 0 from rfl] at h5
     rw [h5]
     simp only [obs, Ctl.elim]
     rw [List.drop_zero] at h4 h6
     have hten : NoTen a0 a1 := ⟨fun x hx => (h4 x hx).2, h6⟩
     have hA2 : a2 ≤ 100 := by omega
     rw [dot_Tree_eq E hA2]
     simp only [obs]
     rw [lines_tree E hten hA2]
     simp only [obs]
     have hlen0 : ((((FF a0 a1 a2.toNat).map (tabF a0 a1)).length : Int) == 0) = false := by
      unfold FF allF
      simp
      omega
     have hidx0 : idx ((FF a0 a1 a2.toNat).map (tabF a0 a1)) 0 = some [119, 111, 114, 108, 100] := by
      rw [show (0 : Int) = ((0 : Nat) : Int) from rfl, idx_nat]
      rfl
     rw [hlen0, hidx0]
     simp only [Bool.false_eq_true, if_false, obs]
     rw [if_neg (by decide)]
     have hlc := live_count1 fun x hx => (h4 x hx).1
     have hown : ∀ j : Nat, 1 ≤ j → j ≤ a1.length → ownC a1 (j : Int) ≤ (a1.length : Int) := fun j hj hj2 => (hr j hj hj2).2.1
     have hal : ∀ c : Int, 1 ≤ c → c ≤ (a1.length : Int) → Alive a1 c ∧ ((FF a0 a1 a2.toNat).map (·.2)).count c = 1 := fun c hc hc2 => by
      have h7 := hlc c hc hc2
      refine ⟨alive_of (List.count_pos_iff.1 (by omega)), ?_⟩
      have ec : ((c.toNat : Nat) : Int) = c := by omega
      have h8 := hr c.toNat (by omega) (by omega)
      rw [ec] at h8
      obtain ⟨j, hj, hu, i, hi, hi2, he⟩ := walk_up hlc hown a1.length c hc hc2 h8.1
      have h9 := (hr i hi hi2).2.2
      rw [← he] at h9
      exact allF_count live_pos hu (by omega) h8.1 (by omega) (by omega)
     have h10 := deep_L6 E hA2 hal hown (a1.length + 1) 1 (by omega) (by omega) (by omega)
     rw [show ((1 : Nat) : Int) = 1 from rfl] at h10
     rw [h10]
     simp only [obs, Ctl.elim, haw]
end Go.Proofs.YthhdlpggmmfaiaaGreat
