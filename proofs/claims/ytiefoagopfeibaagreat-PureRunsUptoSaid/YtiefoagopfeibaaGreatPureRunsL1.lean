/- A part of the proof that the law PureRuns gives true for every input. -/
import Derived.Test.YtiefoagopfeibaaGreatPureRunsA2
import Derived.Test.YtiefoagopfeibaaGreatPureRunsA3
import Derived.Test.YtiefoagopfeibaaGreatPureRunsT
import Derived.Test.YtiefoagopfeibaaGreatPureRunsA4
import Derived.Test.YtiefoagopfeibaaGreatPureRunsI
import Derived.Test.YtiefoagopfeibaaGreatPureRunsD
/- The plain law. -/
namespace Go.Proofs.YtiefoagopfeibaaGreat
open Go.RowKit Go.Abs
def Tot {α : Type} (o : Option α) : Prop := ∃ r, o = some r
theorem tot_some {α : Type} (x : α) : Tot (some x) := ⟨x, rfl⟩
theorem tot_bind {α β : Type} {a : Option α} {f : α → Option β} (h : Tot a) (h2 : ∀ x, a = some x → Tot (f x)) : Tot (Option.bind a f) := by
 obtain ⟨x, rfl⟩ := h
 exact h2 x rfl
theorem tot_ite {α : Type} {b : Bool} {x y : Option α} (h1 : b = true → Tot x) (h2 : b = false → Tot y) : Tot (if b = true then x else y) := by
 cases b with
 | true => exact h1 rfl
 | false => exact h2 rfl
theorem tot_elim {R S α : Type} {r : Ctl R S} {f : R → Option α} {g : S → Option α} (h1 : ∀ v, Tot (f v)) (h2 : ∀ s, Tot (g s)) : Tot (Ctl.elim r f g) := by
 cases r with
 | stop v => exact h1 v
 | next s => exact h2 s
theorem tot_loop1 {ρ : Type} (F : Nat → Int → Option ρ) (len : Nat) (h1 : ∀ (n k : Nat), k < len → Tot (F n ((k + 1 : Nat) : Int)) → Tot (F (n + 1) (k : Int))) (h2 : ∀ (n k : Nat), ¬ k < len → Tot (F (n + 1) (k : Int))) :
  ∀ (n k : Nat), n + k = len + 1 → k ≤ len → Tot (F n (k : Int))
 | 0, k, h, hk => by omega
 | n + 1, k, h, hk => by
  by_cases hlt : k < len
  ·exact h1 n k hlt (tot_loop1 F len h1 h2 n (k + 1) (by omega) (by omega))
  ·exact h2 n k hlt
theorem tot_loop2 {σ ρ : Type} (F : Nat → σ → Int → Option ρ) (len : Nat) (h1 : ∀ (n k : Nat) (s : σ), k < len → (∀ s', Tot (F n s' ((k + 1 : Nat) : Int))) → Tot (F (n + 1) s (k : Int))) (h2 : ∀ (n k : Nat) (s : σ), ¬ k < len → Tot (F (n + 1) s (k : Int))) :
  ∀ (n k : Nat) (s : σ), n + k = len + 1 → k ≤ len → Tot (F n s (k : Int))
 | 0, k, s, h, hk => by omega
 | n + 1, k, s, h, hk => by
  by_cases hlt : k < len
  ·exact h1 n k s hlt (fun s' => tot_loop2 F len h1 h2 n (k + 1) s' (by omega) (by omega))
  ·exact h2 n k s hlt
theorem fuel_len (m : Nat) : (((m : Int) : Int) - (0)).toNat + 1 = m + 1 := by omega
theorem lsum_mem {α : Type} {u : α → Nat} {l : List α} {y : α} : y ∈ l → u y ≤ lsum u l := by
 induction l with
 | nil => intro h; simp at h
 | cons x l ih =>
  intro h
  simp only [lsum]
  rcases List.mem_cons.1 h with rfl | h
  ·omega
  ·have := ih h; omega
theorem len_lsum {α : Type} {u : α → Nat} (h : ∀ y, 1 ≤ u y) : ∀ l : List α, l.length ≤ lsum u l
 | [] => Nat.le_refl _
 | x :: l => by simp only [lsum, List.length_cons]; have := h x; have := len_lsum h l; omega
theorem lsum_le {α : Type} {u v : α → Nat} : ∀ {l : List α}, (∀ y ∈ l, u y ≤ v y) → lsum u l ≤ lsum v l
 | [], _ => Nat.le_refl _
 | x :: l, h => by simp only [lsum]; have := h x (by simp); have := lsum_le (l := l) (fun y hy => h y (by simp [hy])); omega
theorem lsum_drop {α : Type} (u : α → Nat) {l : List α} {k : Nat} (h : k < l.length) : lsum u (l.drop k) = u l[k] + lsum u (l.drop (k + 1)) := by rw [List.drop_eq_getElem_cons h]; rfl
theorem uE_p (x : GExpr) : x.fName.length < uGExpr x ∧ lsum uGExpr x.fKids < uGExpr x := by rw [uGExpr_eq]; omega
theorem uM_p (x : GMethod) : x.fName.length < uGMethod x ∧ uGType x.fRet < uGMethod x ∧ 1 + lsum uGVar x.fParams + lsum uGVar x.fLocals + lsum uGStmt x.fBody < uGMethod x := by unfold uGMethod; omega
theorem uC_p (x : GClass) : x.fName.length < uGClass x ∧ lsum (fun s => List.length s + 1) x.fParams < uGClass x ∧ x.fSuper.length < uGClass x ∧ lsum uGOwner x.fAbove < uGClass x ∧ lsum uGVar x.fFields + lsum uGMethod x.fMethods < uGClass x := by unfold uGClass; omega
theorem mLE_sum : ∀ l : List GExpr, mLGExpr l = lsum mGExpr l
 | [] => by simp only [mLGExpr, lsum]
 | x :: l => by simp only [mLGExpr, lsum, mLE_sum l]
theorem mLS_sum : ∀ l : List GStmt, mLGStmt l = lsum mGStmt l
 | [] => by simp only [mLGStmt, lsum]
 | x :: l => by simp only [mLGStmt, lsum, mLS_sum l]
theorem mE_eq (e : GExpr) : mGExpr e = 1 + lsum mGExpr e.fKids := by rw [← mLE_sum]; cases e; simp only [mGExpr]
theorem mS_eq (e : GStmt) : mGStmt e = 1 + mGExpr e.fE + lsum mGExpr e.fArgs + lsum mGStmt e.fBody + lsum mGStmt e.fElse := by rw [← mLS_sum, ← mLS_sum, ← mLE_sum]; cases e; simp only [mGStmt]
theorem mE_u : ∀ (n : Nat) (e : GExpr), mGExpr e ≤ n → mGExpr e ≤ uGExpr e
 | 0, e, h => by rw [mE_eq] at h; omega
 | n + 1, e, h => by
  rw [mE_eq] at h
  rw [mE_eq]
  have := (uE_p e).2
  have := lsum_le (u := mGExpr) (v := uGExpr) (l := e.fKids) (fun y hy => mE_u n y (by have := lsum_mem (u := mGExpr) hy; omega))
  omega
theorem mE_le (e : GExpr) : mGExpr e ≤ uGExpr e := mE_u _ e (Nat.le_refl _)
theorem mS_u : ∀ (n : Nat) (e : GStmt), mGStmt e ≤ n → mGStmt e ≤ uGStmt e
 | 0, e, h => by rw [mS_eq] at h; omega
 | n + 1, e, h => by
  rw [mS_eq] at h
  rw [mS_eq, uGStmt_eq]
  have h1 := lsum_le (u := mGExpr) (v := uGExpr) (l := e.fArgs) (fun y _ => mE_le y)
  have h2 := lsum_le (u := mGStmt) (v := uGStmt) (l := e.fBody) (fun y hy => mS_u n y (by have := lsum_mem (u := mGStmt) hy; omega))
  have h3 := lsum_le (u := mGStmt) (v := uGStmt) (l := e.fElse) (fun y hy => mS_u n y (by have := lsum_mem (u := mGStmt) hy; omega))
  have h4 := mE_le e.fE
  omega
theorem mS_le (e : GStmt) : mGStmt e ≤ uGStmt e := mS_u _ e (Nat.le_refl _)
theorem mE_mem {l : List GExpr} {e : GExpr} : e ∈ l → mGExpr e ≤ mLGExpr l := by
 induction l with
 | nil => intro h; simp at h
 | cons x l ih =>
  intro h
  simp only [mLGExpr]
  rcases List.mem_cons.1 h with rfl | h
  ·omega
  ·have := ih h; omega
theorem mS_mem {l : List GStmt} {e : GStmt} : e ∈ l → mGStmt e ≤ mLGStmt l := by
 induction l with
 | nil => intro h; simp at h
 | cons x l ih =>
  intro h
  simp only [mLGStmt]
  rcases List.mem_cons.1 h with rfl | h
  ·omega
  ·have := ih h; omega
theorem hE_eq (e : GExpr) : mGExpr e = 1 + mLGExpr e.fKids := by cases e; simp only [mGExpr]
theorem hS_eq (e : GStmt) : mGStmt e = 1 + mGExpr e.fE + mLGExpr e.fArgs + mLGStmt e.fBody + mLGStmt e.fElse := by cases e; simp only [mGStmt]
theorem goodE {e : GExpr} (h : goodGExpr e) : e.fKids.length ≤ maxLen ∧ ∀ y ∈ e.fKids, goodGExpr y := by cases h; exact ⟨by assumption, by assumption⟩
theorem goodS {e : GStmt} (h : goodGStmt e) : goodGExpr e.fE ∧ listok (fun y => goodGExpr y) e.fArgs ∧ (e.fBody.length ≤ maxLen ∧ ∀ y ∈ e.fBody, goodGStmt y) ∧ (e.fElse.length ≤ maxLen ∧ ∀ y ∈ e.fElse, goodGStmt y) := by
 cases h
 exact ⟨by assumption, by assumption, ⟨by assumption, by assumption⟩, ⟨by assumption, by assumption⟩⟩
theorem tot_kids : ∀ (n : Nat) (e : GExpr) (d : Int), goodGExpr e → mGExpr e < n → Tot (ref10_kids n e d)
 | 0, e, d, _, h => by omega
 | n + 1, e, d, hg, hm => by
  obtain ⟨hl, hk⟩ := goodE hg
  simp only [maxLen] at hl
  simp only [ref10_kids, fuel_len]
  refine tot_bind (tot_ite (fun _ => tot_some _) (fun _ => tot_some _)) fun x _ => tot_ite (fun _ => tot_some _) fun _ => ?_
  refine tot_bind ?_ fun lr _ => tot_elim (fun v => tot_some _) (fun _ => tot_some _)
  refine tot_loop1 (ref10_kids_L1 e d (ref10_kids n)) e.fKids.length (fun m k hlt ih => ?_) (fun m k hlt => ?_) _ 0 (by omega) (by omega)
  ·simp only [ref10_kids_L1]
   rw [if_pos (by simpa using hlt), idx_lt hlt, w64_succ hlt (by omega)]
   simp only [obs]
   have hmem := List.getElem_mem hlt
   have h1 := mE_mem hmem
   rw [hE_eq] at hm
   refine tot_bind (tot_kids n _ _ (hk _ hmem) (by omega)) fun y _ => tot_ite (fun _ => tot_some _) fun _ => ih
  ·simp only [ref10_kids_L1]
   rw [if_neg (by simpa using hlt)]
   exact tot_some _
theorem tot_much : ∀ (n : Nat) (e : GStmt) (d : Int), goodGStmt e → mGStmt e < n → Tot (ref10_much n e d)
 | 0, e, d, _, h => by omega
 | n + 1, e, d, hg, hm => by
  obtain ⟨hE, ⟨hal, ha⟩, ⟨hbl, hb⟩, ⟨hll, hl⟩⟩ := goodS hg
  simp only [maxLen] at hal hbl hll
  rw [hS_eq] at hm
  simp only [ref10_much, fuel_len]
  refine tot_bind ?_ fun x _ => tot_ite (fun _ => tot_some _) fun _ => ?_
  ·exact tot_ite (fun _ => tot_some _) fun _ => tot_ite (fun _ => tot_some _) fun _ => tot_ite (fun _ => tot_some _) fun _ => tot_ite (fun _ => tot_some _) fun _ => tot_bind (tot_kids _ _ _ hE (by omega)) fun _ _ => tot_some _
  refine tot_bind ?_ fun lr _ => tot_elim (fun v => tot_some _) fun _ => tot_bind ?_ fun lr _ => tot_elim (fun v => tot_some _) fun _ => tot_bind ?_ fun lr _ => tot_elim (fun v => tot_some _) fun _ => tot_some _
  ·refine tot_loop1 (ref10_much_L1 e) e.fArgs.length (fun m k hlt ih => ?_) (fun m k hlt => ?_) _ 0 (by omega) (by omega)
   ·simp only [ref10_much_L1]
    rw [if_pos (by simpa using hlt), idx_lt hlt, w64_succ hlt (by omega)]
    simp only [obs]
    exact tot_bind (tot_kids _ _ _ (ha _ (List.getElem_mem hlt)) (by omega)) fun y _ => tot_ite (fun _ => tot_some _) fun _ => ih
   ·simp only [ref10_much_L1]
    rw [if_neg (by simpa using hlt)]
    exact tot_some _
  ·refine tot_loop1 (ref10_much_L2 e d (ref10_much n)) e.fBody.length (fun m k hlt ih => ?_) (fun m k hlt => ?_) _ 0 (by omega) (by omega)
   ·simp only [ref10_much_L2]
    rw [if_pos (by simpa using hlt), idx_lt hlt, w64_succ hlt (by omega)]
    simp only [obs]
    have h1 := mS_mem (List.getElem_mem hlt)
    exact tot_bind (tot_much n _ _ (hb _ (List.getElem_mem hlt)) (by omega)) fun y _ => tot_ite (fun _ => tot_some _) fun _ => ih
   ·simp only [ref10_much_L2]
    rw [if_neg (by simpa using hlt)]
    exact tot_some _
  ·refine tot_loop1 (ref10_much_L3 e d (ref10_much n)) e.fElse.length (fun m k hlt ih => ?_) (fun m k hlt => ?_) _ 0 (by omega) (by omega)
   ·simp only [ref10_much_L3]
    rw [if_pos (by simpa using hlt), idx_lt hlt, w64_succ hlt (by omega)]
    simp only [obs]
    have h1 := mS_mem (List.getElem_mem hlt)
    exact tot_bind (tot_much n _ _ (hl _ (List.getElem_mem hlt)) (by omega)) fun y _ => tot_ite (fun _ => tot_some _) fun _ => ih
   ·simp only [ref10_much_L3]
    rw [if_neg (by simpa using hlt)]
    exact tot_some _
theorem tot_size : ∀ (n : Nat) (e : GStmt), goodGStmt e → mGStmt e < n → Tot (ref08_Size n e)
 | 0, e, _, h => by omega
 | n + 1, e, hg, hm => by
  obtain ⟨hE, ⟨hal, ha⟩, ⟨hbl, hb⟩, ⟨hll, hl⟩⟩ := goodS hg
  simp only [maxLen] at hbl hll
  rw [hS_eq] at hm
  simp only [ref08_Size, fuel_len]
  refine tot_bind ?_ fun x _ => tot_bind ?_ fun _ _ => tot_some _
  ·refine tot_loop2 (ref08_Size_L1 e (ref08_Size n)) e.fBody.length (fun m k s hlt ih => ?_) (fun m k s hlt => ?_) _ 0 _ (by omega) (by omega)
   ·simp only [ref08_Size_L1]
    rw [if_pos (by simpa using hlt), idx_lt hlt, w64_succ hlt (by omega)]
    simp only [obs]
    have h1 := mS_mem (List.getElem_mem hlt)
    exact tot_bind (tot_size n _ (hb _ (List.getElem_mem hlt)) (by omega)) fun y _ => ih _
   ·simp only [ref08_Size_L1]
    rw [if_neg (by simpa using hlt)]
    exact tot_some _
  ·refine tot_loop2 (ref08_Size_L2 e (ref08_Size n)) e.fElse.length (fun m k s hlt ih => ?_) (fun m k s hlt => ?_) _ 0 _ (by omega) (by omega)
   ·simp only [ref08_Size_L2]
    rw [if_pos (by simpa using hlt), idx_lt hlt, w64_succ hlt (by omega)]
    simp only [obs]
    have h1 := mS_mem (List.getElem_mem hlt)
    exact tot_bind (tot_size n _ (hl _ (List.getElem_mem hlt)) (by omega)) fun y _ => ih _
   ·simp only [ref08_Size_L2]
    rw [if_neg (by simpa using hlt)]
    exact tot_some _
theorem tot_uniques {m : GMethod} (h : goodGMethod m) : Tot (ref10_uniques m) := by
 have hp : m.fParams.length ≤ maxLen := h.2.2.2.1.1
 have hl : m.fLocals.length ≤ maxLen := h.2.2.2.2.1.1
 simp only [maxLen] at hp hl
 simp only [ref10_uniques, fuel_len]
 refine tot_bind ?_ fun x _ => tot_bind ?_ fun _ _ => tot_some _
 ·refine tot_loop2 (ref10_uniques_L1 m) m.fParams.length (fun n k s hlt ih => ?_) (fun n k s hlt => ?_) _ 0 _ (by omega) (by omega)
  ·simp only [ref10_uniques_L1]
   rw [if_pos (by simpa using hlt), idx_lt hlt, w64_succ hlt (by omega)]
   simp only [obs]
   exact tot_bind (tot_ite (fun _ => tot_some _) fun _ => tot_some _) fun y _ => ih _
  ·simp only [ref10_uniques_L1]
   rw [if_neg (by simpa using hlt)]
   exact tot_some _
 ·refine tot_loop2 (ref10_uniques_L2 m) m.fLocals.length (fun n k s hlt ih => ?_) (fun n k s hlt => ?_) _ 0 _ (by omega) (by omega)
  ·simp only [ref10_uniques_L2]
   rw [if_pos (by simpa using hlt), idx_lt hlt, w64_succ hlt (by omega)]
   simp only [obs]
   exact tot_bind (tot_ite (fun _ => tot_some _) fun _ => tot_some _) fun y _ => ih _
  ·simp only [ref10_uniques_L2]
   rw [if_neg (by simpa using hlt)]
   exact tot_some _
def TotT {S : Type} (o : Option (Ctl Bool S)) : Prop := o = some (.stop true) ∨ ∃ v, o = some (.next v)
theorem totT_bind {α S : Type} {a : Option α} {f : α → Option (Ctl Bool S)} (h : Tot a) (h2 : ∀ x, a = some x → TotT (f x)) : TotT (Option.bind a f) := by
 obtain ⟨x, rfl⟩ := h
 exact h2 x rfl
theorem totT_ite {S : Type} {b : Bool} {y : Option (Ctl Bool S)} (h2 : b = false → TotT y) : TotT (if b = true then some (.stop true) else y) := by
 cases b with
 | true => exact .inl rfl
 | false => exact h2 rfl
theorem tot_heavy3 {m : GMethod} (hg : listok (fun y => goodGStmt y) m.fBody) : ∀ (n k : Nat) (x : Int), n + k = m.fBody.length + 1 → k ≤ m.fBody.length → TotT (ref10_Heavy_L3 m n x (k : Int))
 | 0, k, x, h, hk => by omega
 | n + 1, k, x, h, hk => by
  obtain ⟨hl, hb⟩ := hg
  simp only [maxLen] at hl
  simp only [ref10_Heavy_L3]
  by_cases hlt : k < m.fBody.length
  ·have hmem := hb _ (List.getElem_mem hlt)
   rw [if_pos (by simpa using hlt), idx_lt hlt, w64_succ hlt (by omega)]
   refine totT_bind (tot_ite (fun _ => tot_some _) fun _ => tot_bind (tot_some _) fun y hy => ?_) fun b _ => totT_ite fun _ => ?_
   ·cases hy
    exact tot_bind (tot_much _ _ _ hmem (by omega)) fun _ _ => tot_some _
   ·refine totT_bind (tot_some _) fun y hy => ?_
    cases hy
    exact totT_bind (tot_size _ _ hmem (by omega)) fun z _ => tot_heavy3 ⟨by simp only [maxLen]; omega, hb⟩ n (k + 1) _ (by omega) (by omega)
  ·rw [if_neg (by simpa using hlt)]
   exact .inr ⟨_, rfl⟩
def LightC (c : GClass) : Prop := c.fParams.length ≤ 20 ∧ c.fAbove.length ≤ 20 ∧ c.fFields.length ≤ 40 ∧ c.fMethods.length ≤ 40 ∧ ∀ m ∈ c.fMethods, m.fParams.length ≤ 40 ∧ m.fLocals.length ≤ 40 ∧ m.fBody.length ≤ 500
theorem tot_heavy2c {c : GClass} (hg : listok (fun y => goodGMethod y) c.fMethods) : ∀ (n k : Nat) (x : Int), n + k = c.fMethods.length + 1 → k ≤ c.fMethods.length →
  ref10_Heavy_L2 c n x (k : Int) = some (.stop true) ∨ ((∃ v, ref10_Heavy_L2 c n x (k : Int) = some (.next v)) ∧ ∀ m ∈ c.fMethods.drop k, m.fParams.length ≤ 40 ∧ m.fLocals.length ≤ 40 ∧ m.fBody.length ≤ 500)
 | 0, k, x, h, hk => by omega
 | n + 1, k, x, h, hk => by
  obtain ⟨hl, hb⟩ := hg
  simp only [maxLen] at hl
  simp only [ref10_Heavy_L2, fuel_len]
  by_cases hlt : k < c.fMethods.length
  ·have hmem := hb _ (List.getElem_mem hlt)
   rw [if_pos (by simpa using hlt), idx_lt hlt, w64_succ hlt (by omega)]
   simp only [obs]
   by_cases h1 : (decide ((c.fMethods[k].fParams.length : Int) > 40)) = true
   ·rw [if_pos h1]; exact .inl rfl
   rw [if_neg h1]
   by_cases h2 : (decide ((c.fMethods[k].fLocals.length : Int) > 40)) = true
   ·rw [if_pos h2]; exact .inl rfl
   rw [if_neg h2]
   by_cases h3 : (decide ((c.fMethods[k].fBody.length : Int) > 500)) = true
   ·rw [if_pos h3]; exact .inl rfl
   rw [if_neg h3]
   obtain ⟨u, hu⟩ := tot_uniques hmem
   rw [hu]
   simp only [obs]
   by_cases h4 : (decide (u > 8)) = true
   ·rw [if_pos h4]; exact .inl rfl
   rw [if_neg h4]
   rcases tot_heavy3 (m := c.fMethods[k]) hmem.2.2.2.2.2.1 (c.fMethods[k].fBody.length + 1) 0 x (by omega) (by omega) with h5 | ⟨v, h5⟩
   ·rw [show (0 : Int) = ((0 : Nat) : Int) from rfl, h5]; exact .inl rfl
   ·rw [show (0 : Int) = ((0 : Nat) : Int) from rfl, h5]
    simp only [obs, Ctl.elim]
    rcases tot_heavy2c (c := c) ⟨by simp only [maxLen]; omega, hb⟩ n (k + 1) v (by omega) (by omega) with h7 | ⟨h7, h8⟩
    ·exact .inl h7
    ·refine .inr ⟨h7, fun m hm => ?_⟩
     rw [List.drop_eq_getElem_cons hlt] at hm
     rcases List.mem_cons.1 hm with rfl | hm
     ·simp at h1 h2 h3; omega
     ·exact h8 m hm
  ·rw [if_neg (by simpa using hlt), List.drop_eq_nil_of_le (by omega)]
   exact .inr ⟨⟨_, rfl⟩, fun c hc => by simp at hc⟩
theorem tot_heavy1c {p : List GClass} (hg : listok (fun y => goodGClass y) p) : ∀ (n k : Nat) (x : Int), n + k = p.length + 1 → k ≤ p.length →
  ref10_Heavy_L1 p n x (k : Int) = some (.stop true) ∨ ((∃ v, ref10_Heavy_L1 p n x (k : Int) = some (.next v)) ∧ ∀ c ∈ p.drop k, p.length ≤ 30 ∧ LightC c)
 | 0, k, x, h, hk => by omega
 | n + 1, k, x, h, hk => by
  obtain ⟨hl, hb⟩ := hg
  simp only [maxLen] at hl
  simp only [ref10_Heavy_L1, fuel_len]
  by_cases hlt : k < p.length
  ·have hmem := hb _ (List.getElem_mem hlt)
   rw [if_pos (by simpa using hlt), idx_lt hlt, w64_succ hlt (by omega)]
   simp only [obs]
   by_cases h1 : (decide ((p.length : Int) > 30)) = true
   ·rw [if_pos h1]; exact .inl rfl
   rw [if_neg h1]
   by_cases h2 : (decide ((p[k].fParams.length : Int) > 20)) = true
   ·rw [if_pos h2]; exact .inl rfl
   rw [if_neg h2]
   by_cases h3 : (decide ((p[k].fAbove.length : Int) > 20)) = true
   ·rw [if_pos h3]; exact .inl rfl
   rw [if_neg h3]
   by_cases h4 : (decide ((p[k].fFields.length : Int) > 40)) = true
   ·rw [if_pos h4]; exact .inl rfl
   rw [if_neg h4]
   simp only [obs]
   by_cases h5 : (decide ((p[k].fMethods.length : Int) > 40)) = true
   ·rw [if_pos h5]; exact .inl rfl
   rw [if_neg h5]
   rcases tot_heavy2c (c := p[k]) hmem.2.2.2.2.2.1 (p[k].fMethods.length + 1) 0 x (by omega) (by omega) with h6 | ⟨⟨v, h6⟩, hm⟩
   ·rw [show (0 : Int) = ((0 : Nat) : Int) from rfl, h6]; exact .inl rfl
   ·rw [show (0 : Int) = ((0 : Nat) : Int) from rfl, h6]
    simp only [obs, Ctl.elim]
    rcases tot_heavy1c (p := p) ⟨by simp only [maxLen]; omega, hb⟩ n (k + 1) v (by omega) (by omega) with h7 | ⟨h7, h8⟩
    ·exact .inl h7
    ·refine .inr ⟨h7, fun c hc => ?_⟩
     rw [List.drop_eq_getElem_cons hlt] at hc
     rcases List.mem_cons.1 hc with rfl | hc
     ·rw [List.drop_zero] at hm
      simp at h1 h2 h3 h4 h5
      exact ⟨by omega, by omega, by omega, by omega, by omega, hm⟩
     ·exact h8 c hc
  ·rw [if_neg (by simpa using hlt), List.drop_eq_nil_of_le (by omega)]
   exact .inr ⟨⟨_, rfl⟩, fun c hc => by simp at hc⟩
theorem heavy_eqc {p : List GClass} (hg : listok (fun y => goodGClass y) p) : ∃ b, ref10_Heavy p = some b ∧ (b = false → p.length ≤ 30 ∧ ∀ c ∈ p, LightC c) := by
 simp only [ref10_Heavy, fuel_len]
 rcases tot_heavy1c hg (p.length + 1) 0 0 (by omega) (by omega) with h | ⟨⟨v, h⟩, h2⟩
 ·rw [show (0 : Int) = ((0 : Nat) : Int) from rfl] at h ⊢
  rw [h]; exact ⟨true, rfl, fun hb => by cases hb⟩
 ·rw [show (0 : Int) = ((0 : Nat) : Int) from rfl] at h ⊢
  rw [h]
  refine ⟨_, rfl, fun _ => ?_⟩
  simp only [List.drop_zero] at h2
  refine ⟨?_, fun c hc => (h2 c hc).2⟩
  cases p with
  | nil => simp
  | cons c p => exact (h2 c (by simp)).1
def thisL (m : Nat) : List GOwner := ⟨2, 0⟩ :: (List.range m).map fun (k : Nat) => ⟨3, (k : Int) + 1⟩
def mkC (m : Nat) : GClass := { zGClass with fParams := List.replicate m [] }
theorem rT_len {a b : GClass} (h : a.fParams.length = b.fParams.length) : ∀ (n : Nat) (x : List GOwner) (y : Int), raise_This_L1 a n x y = raise_This_L1 b n x y
 | 0, _, _ => rfl
 | n + 1, x, y => by simp only [raise_This_L1, h, rT_len h n]
theorem r15T_len {a b : GClass} (h : a.fParams.length = b.fParams.length) : ∀ (n : Nat) (x : List GOwner) (y : Int), ref15_This_L1 a n x y = ref15_This_L1 b n x y
 | 0, _, _ => rfl
 | n + 1, x, y => by simp only [ref15_This_L1, h, r15T_len h n]
theorem rT_all : ∀ m : Nat, m ≤ 60 → raise_This (mkC m) = some (thisL m) ∧ ref15_This (mkC m) = some (thisL m) := by
 have h : ∀ m : Fin 61, raise_This (mkC m.val) = some (thisL m.val) ∧ ref15_This (mkC m.val) = some (thisL m.val) := by decide +kernel
 exact fun m hm => h ⟨m, by omega⟩
theorem raise_This_eq {c : GClass} (h : c.fParams.length ≤ 60) : raise_This c = some (thisL c.fParams.length) ∧ ref15_This c = some (thisL c.fParams.length) := by
 have hl : c.fParams.length = (mkC c.fParams.length).fParams.length := by simp [mkC]
 obtain ⟨h1, h2⟩ := rT_all _ h
 unfold raise_This at h1 ⊢
 unfold ref15_This at h2 ⊢
 refine ⟨?_, ?_⟩
 ·rw [← h1, ← hl]
  simp only [rT_len hl]
 ·rw [← h2, ← hl]
  simp only [r15T_len hl]
def zero4 : A4 GOwner := ⟨zGOwner, zGOwner, zGOwner, zGOwner⟩
def thisT (c : GClass) : GType := { fKind := 2, fClass := c.fName, fN := if c.fParams.length < 3 then (c.fParams.length : Int) else 3, fOwn := A4.cp zero4 (thisL c.fParams.length) }
theorem thisL_len (m : Nat) : (thisL m).length = m + 1 := by simp [thisL]
theorem scope_This_eq {c : GClass} (h : c.fParams.length ≤ 60) : scope_This c = some (thisT c) := by
 unfold scope_This thisT
 rw [(raise_This_eq h).1, obs]
 congr 2
 rw [List.length_map, thisL_len]
 by_cases h3 : c.fParams.length < 3
 ·rw [if_pos h3, show Nat.min (c.fParams.length + 1) 4 = c.fParams.length + 1 from Nat.min_eq_left (by omega), show ((c.fParams.length + 1 : Nat) : Int) - 1 = (c.fParams.length : Int) by omega, w64 (by omega) (by omega)]; rfl
 ·rw [if_neg h3, show Nat.min (c.fParams.length + 1) 4 = 4 from Nat.min_eq_right (by omega)]; rfl
theorem thisL_3 (m : Nat) : ∃ r, thisL (m + 3) = ⟨2, 0⟩ :: ⟨3, 1⟩ :: ⟨3, 2⟩ :: ⟨3, 3⟩ :: r := by
 refine ⟨(thisL (m + 3)).drop 4, ?_⟩
 simp only [thisL, List.range_succ_eq_map, List.map_cons, List.map_map, List.drop_succ_cons, List.drop_zero]
 rfl
theorem ref18_This_eq {c : GClass} (h : c.fParams.length ≤ 60) : ref18_This c = some (thisT c) := by
 unfold ref18_This thisT
 rw [(raise_This_eq h).2, obs]
 have hm : c.fParams.length = 0 ∨ c.fParams.length = 1 ∨ c.fParams.length = 2 ∨ 3 ≤ c.fParams.length := by omega
 rcases hm with e | e | e | e
 ·rw [e]; rfl
 ·rw [e]; rfl
 ·rw [e]; rfl
 ·obtain ⟨k, hk⟩ : ∃ k, c.fParams.length = k + 3 := ⟨c.fParams.length - 3, by omega⟩
  obtain ⟨r, hr⟩ := thisL_3 k
  rw [hk, hr, if_neg (by omega), if_neg (by omega)]
  rfl
def varsS (m : GMethod) : List GVar := m.fParams ++ m.fLocals
theorem ref12_Vars_eq {m : GMethod} (h1 : m.fParams.length ≤ 100) (h2 : m.fLocals.length ≤ 100) : ref12_Vars m = some (varsS m) := by
 unfold ref12_Vars varsS
 rw [room_ok (by simp; omega), obs, room_ok (by simp; omega), obs]
 rfl
theorem arena_Vars_eq {m : GMethod} (h1 : m.fParams.length ≤ 100) (h2 : m.fLocals.length ≤ 100) : arena_Vars m = some (varsS m) := by
 unfold arena_Vars varsS slices_Concat_api_Var
 generalize m.fParams = p at *
 generalize m.fLocals = l at *
 have hL2 : ([p, l] : List (List GVar)).length = 2 := rfl
 have e1 : slices_Concat_api_Var_L1 [p, l] (((([p, l] : List (List GVar)).length : Int) - (0)).toNat + 1) 0 0 = some ((p.length : Int) + (l.length : Int)) := by
  have w1 : w_i64 (0 + (p.length : Int)) = (p.length : Int) := by rw [w64 (by omega) (by omega)]; omega
  have w2 : w_i64 ((p.length : Int) + (l.length : Int)) = (p.length : Int) + (l.length : Int) := w64 (by omega) (by omega)
  have i0 : idx [p, l] 0 = some p := rfl
  have i1 : idx [p, l] (w_i64 (0 + 1)) = some l := rfl
  have k2 : w_i64 (w_i64 (0 + 1) + 1) = 2 := rfl
  have k1 : w_i64 (0 + 1) = 1 := rfl
  have n0 : ¬ ((p.length : Int) < 0) := by omega
  have n1 : ¬ ((p.length : Int) + (l.length : Int) < 0) := by omega
  show slices_Concat_api_Var_L1 [p, l] (2 + 1) 0 0 = _
  simp only [slices_Concat_api_Var_L1, hL2]
  rw [if_pos (by decide), i0, obs, w1, if_neg (by simp), if_pos (by decide), i1, obs, w2, if_neg (by simpa using n1), if_neg (by decide)]
 have e2 : slices_Grow_api_Var ((p.length : Int) + (l.length : Int)) = some [] := by
  unfold slices_Grow_api_Var
  rw [if_neg (by simp; omega), show w_i64 (0 - 0) = 0 from rfl, Int.sub_zero, w64 (by omega) (by omega)]
  by_cases h0 : (p.length : Int) + (l.length : Int) > 0
  ·have hz : zerOk ((p.length : Int) + (l.length : Int)) 120 = some () := by unfold zerOk; rw [if_pos ⟨by omega, by omega⟩]
   have hc : cutL (List.replicate ((p.length : Int) + (l.length : Int)).toNat zGVar) 0 0 = some [] := by
    unfold cutL
    rw [if_pos ⟨by omega, by omega, by simp; omega⟩]; simp
   rw [if_pos (by simpa using h0), hz, obs, hc, obs]
  ·rw [if_neg (by simpa using h0)]
 have e3 : slices_Concat_api_Var_L2 [p, l] (((([p, l] : List (List GVar)).length : Int) - (0)).toNat + 1) [] 0 = some (p ++ l) := by
  have i0 : idx [p, l] 0 = some p := rfl
  have i1 : idx [p, l] (w_i64 (0 + 1)) = some l := rfl
  show slices_Concat_api_Var_L2 [p, l] (2 + 1) [] 0 = _
  simp only [slices_Concat_api_Var_L2, hL2]
  rw [if_pos (by decide), i0, obs, room_ok (by simp; omega), obs, if_pos (by decide), i1, obs, room_ok (by simp; omega), obs, if_neg (by decide)]
  simp
 rw [e1, obs, e2, obs, e3, obs, obs]
def isV (name : List UInt8) (v : GVar) : Bool := v.fName == name
def placeS (m : GMethod) (name : List UInt8) : Int := match (varsS m).findIdx? (isV name) with | some i => (i : Int) | none => -1
theorem idxV {l : List GVar} (hl : l.length ≤ 1000) (name : List UInt8) : slices_IndexFunc_api_Var l (fun (z4 : GVar) => scope_Place_1 z4 name) = some (match l.findIdx? (isV name) with | some i => (i : Int) | none => -1) := by
 unfold slices_IndexFunc_api_Var
 rw [findL (slices_IndexFunc_api_Var_L1 l (fun (z4 : GVar) => scope_Place_1 z4 name)) (b := isV name) (by omega) (fun n x => by rw [slices_IndexFunc_api_Var_L1]; rfl), obs]
 cases l.findIdx? (isV name) <;> rfl
theorem scope_Place_eq {m : GMethod} (h1 : m.fParams.length ≤ 100) (h2 : m.fLocals.length ≤ 100) (name : List UInt8) : scope_Place m name = some (placeS m name) := by
 unfold scope_Place placeS varsS
 rw [idxV (by omega), obs, idxV (by omega), List.findIdx?_append]
 cases hp : m.fParams.findIdx? (isV name) with
 | some i => simp
 | none =>
  cases hl : m.fLocals.findIdx? (isV name) with
  | none => simp
  | some j =>
   have := (List.findIdx?_eq_some_iff_getElem.1 hl).1
   have e1 : ¬ ((-1 : Int) ≥ 0) := by omega
   have e2 : ¬ ((j : Int) < 0) := by omega
   simp only [decide_eq_false e1, decide_eq_false e2, Bool.false_eq_true, if_false, obs]
   rw [w64 (by omega) (by omega)]
   simp; omega
theorem ref18_Place_eq {m : GMethod} (h1 : m.fParams.length ≤ 100) (h2 : m.fLocals.length ≤ 100) (name : List UInt8) : ref18_Place m name = some (placeS m name) := by
 unfold ref18_Place placeS
 have hl : (varsS m).length ≤ 1000 := by unfold varsS; simp; omega
 rw [ref12_Vars_eq h1 h2, obs, findL (ref18_Place_L1 name (varsS m)) (b := isV name) (by omega) (fun n x => by rw [ref18_Place_L1]; rfl), obs]
 cases (varsS m).findIdx? (isV name) <;> rfl
theorem placeS_lt {m : GMethod} {name : List UInt8} (h : ¬ placeS m name < 0) : ∃ v, idx (varsS m) (placeS m name) = some v := by
 unfold placeS at *
 cases hf : (varsS m).findIdx? (isV name) with
 | none => rw [hf] at h; simp at h
 | some i =>
  have hlt := (List.findIdx?_eq_some_iff_getElem.1 hf).1
  exact ⟨_, idx_lt hlt⟩
theorem scope_Type_eq {c : GClass} {m : GMethod} (hc : c.fParams.length ≤ 60) (h1 : m.fParams.length ≤ 100) (h2 : m.fLocals.length ≤ 100) (name : List UInt8) : ∃ r, scope_Type c m name = some r ∧ ref18_Type c m name = some r := by
 unfold scope_Type ref18_Type
 rw [scope_This_eq hc, ref18_This_eq hc, scope_Place_eq h1 h2, ref18_Place_eq h1 h2, arena_Vars_eq h1 h2, ref12_Vars_eq h1 h2]
 by_cases hn : (name == [116, 104, 105, 115]) = true
 ·rw [if_pos hn]; exact ⟨_, rfl, rfl⟩
 ·rw [if_neg hn]; simp only [obs]
  by_cases hp : placeS m name < 0
  ·rw [if_pos (by simpa using hp)]; exact ⟨_, rfl, rfl⟩
  ·obtain ⟨v, hv⟩ := placeS_lt hp
   rw [if_neg (by simpa using hp), hv]; exact ⟨_, rfl, rfl⟩
def fiN : List GClass → Nat → List UInt8 → Option Nat
 | [], _, _ => none
 | c :: t, k, name => if c.fName == name then some k else fiN t (k + 1) name
def fi (p : List GClass) (name : List UInt8) : Option Nat := fiN p 0 name
def fnd (p : List GClass) (name : List UInt8) : Int := match fi p name with | some i => (i : Int) | none => -1
theorem fiN_spec : ∀ (l : List GClass) (k : Nat) (name : List UInt8) (i : Nat), fiN l k name = some i → k ≤ i ∧ ∃ c, l[i - k]? = some c ∧ c.fName = name
 | [], k, name, i, h => by simp [fiN] at h
 | c :: t, k, name, i, h => by
  simp only [fiN] at h
  split at h
  ·rename_i hc
   cases h
   exact ⟨Nat.le_refl _, c, by simp, by simpa using hc⟩
  ·obtain ⟨h1, c', h2, h3⟩ := fiN_spec t (k + 1) name i h
   refine ⟨by omega, c', ?_, h3⟩
   rw [show i - k = (i - (k + 1)) + 1 by omega, List.getElem?_cons_succ]
   exact h2
theorem fi_spec {p : List GClass} {name : List UInt8} {i : Nat} (h : fi p name = some i) : ∃ c, p[i]? = some c ∧ c.fName = name := by
 obtain ⟨_, c, h1, h2⟩ := fiN_spec p 0 name i h
 exact ⟨c, by simpa using h1, h2⟩
theorem fi_lt {p : List GClass} {name : List UInt8} {i : Nat} (h : fi p name = some i) : i < p.length := by
 obtain ⟨c, h1, _⟩ := fi_spec h
 exact (List.getElem?_eq_some_iff.1 h1).1
theorem fnd_some {p : List GClass} {name : List UInt8} {i : Nat} (h : fi p name = some i) : fnd p name = (i : Int) := by unfold fnd; rw [h]
theorem fnd_none {p : List GClass} {name : List UInt8} (h : fi p name = none) : fnd p name = -1 := by unfold fnd; rw [h]
def hit (o : Option Nat) : Ctl Int Unit := match o with | some i => .stop (i : Int) | none => .next ()
theorem indexFunc_L {p : List GClass} (name : List UInt8) (hp : p.length < 9223372036854775806) : ∀ (n k : Nat), n + k = p.length + 1 → k ≤ p.length →
  slices_IndexFunc_api_Class_L1 p (fun (z1 : GClass) => table_Find_1 z1 name) n (k : Int) = some (hit (fiN (p.drop k) k name))
 | 0, k, h, hk => by omega
 | n + 1, k, h, hk => by
  simp only [slices_IndexFunc_api_Class_L1]
  by_cases hlt : k < p.length
  ·rw [if_pos (by simpa using hlt), idx_lt hlt, List.drop_eq_getElem_cons hlt]
   simp only [obs, table_Find_1, fiN]
   by_cases hc : (p[k].fName == name) = true
   ·rw [if_pos hc, if_pos hc]; rfl
   ·rw [if_neg hc, if_neg hc, w64_succ hlt (by omega)]
    exact indexFunc_L name hp n (k + 1) (by omega) (by omega)
  ·rw [if_neg (by simpa using hlt), List.drop_eq_nil_of_le (by omega)]
   rfl
theorem table_Find_eq {p : List GClass} (hp : p.length < 9223372036854775806) (name : List UInt8) : table_Find p name = some (fnd p name) := by
 unfold table_Find slices_IndexFunc_api_Class
 have h := indexFunc_L name hp (p.length + 1) 0 (by omega) (by omega)
 rw [show (((p.length : Int) : Int) - (0)).toNat + 1 = p.length + 1 by omega, show (0 : Int) = ((0 : Nat) : Int) from rfl, h]
 simp only [List.drop_zero, obs]
 unfold fnd fi hit
 cases fiN p 0 name <;> rfl
theorem ref13_Find_L {p : List GClass} (name : List UInt8) (hp : p.length < 9223372036854775806) : ∀ (n k : Nat), n + k = p.length + 1 → k ≤ p.length →
  ref13_Find_L1 p name n (k : Int) = some (hit (fiN (p.drop k) k name))
 | 0, k, h, hk => by omega
 | n + 1, k, h, hk => by
  simp only [ref13_Find_L1]
  by_cases hlt : k < p.length
  ·rw [if_pos (by simpa using hlt), idx_lt hlt, List.drop_eq_getElem_cons hlt]
   simp only [obs, fiN]
   by_cases hc : (p[k].fName == name) = true
   ·rw [if_pos hc, if_pos hc]; rfl
   ·rw [if_neg hc, if_neg hc, w64_succ hlt (by omega)]
    exact ref13_Find_L name hp n (k + 1) (by omega) (by omega)
  ·rw [if_neg (by simpa using hlt), List.drop_eq_nil_of_le (by omega)]
   rfl
theorem ref13_Find_eq {p : List GClass} (hp : p.length < 9223372036854775806) (name : List UInt8) : ref13_Find p name = some (fnd p name) := by
 unfold ref13_Find
 have h := ref13_Find_L name hp (p.length + 1) 0 (by omega) (by omega)
 rw [show (((p.length : Int) : Int) - (0)).toNat + 1 = p.length + 1 by omega, show (0 : Int) = ((0 : Nat) : Int) from rfl, h]
 simp only [List.drop_zero, obs]
 unfold fnd fi hit
 cases fiN p 0 name <;> rfl
def sup (p : List GClass) (i : Nat) : List UInt8 := match p[i]? with | some c => c.fSuper | none => []
def upN (p : List GClass) : Nat → List UInt8 → List Nat
 | 0, _ => []
 | n + 1, name => match fi p name with
  | none => []
  | some i => if sup p i == [] then [i] else i :: upN p n (sup p i)
theorem itR_up_n_eq {p : List GClass} (hp : p.length < 9223372036854775806) : ∀ (n : Nat) (name : List UInt8), itR_up_n p n name = some ((upN p n name).map Int.ofNat)
 | 0, name => rfl
 | n + 1, name => by
  simp only [itR_up_n, upN, table_Find_eq hp, obs]
  cases hf : fi p name with
  | none => rw [fnd_none hf]; simp
  | some i =>
   rw [fnd_some hf, if_neg (by omega)]
   obtain ⟨c, hc, _⟩ := fi_spec hf
   have hidx : idx p (i : Int) = some c := by rw [idx_nat]; exact hc
   rw [hidx]
   have hs : sup p i = c.fSuper := by unfold sup; rw [hc]
   simp only [obs, hs]
   by_cases he : (c.fSuper == []) = true
   ·rw [if_pos he, if_pos he]; rfl
   ·rw [if_neg he, if_neg he, itR_up_n_eq hp n c.fSuper]; rfl
theorem itR_up_eq {p : List GClass} (hp : p.length < 9223372036854775806) (name : List UInt8) : itR_up p name = some ((upN p (p.length + 1) name).map Int.ofNat) := by
 unfold itR_up; rw [if_pos hp, itR_up_n_eq hp]
def chN (p : List GClass) : Nat → List Nat → List UInt8 → List Nat
 | 0, out, _ => out
 | n + 1, out, name => match fi p name with
  | none => out
  | some i => if i ∈ out then out else if sup p i == [] then out ++ [i] else chN p n (out ++ [i]) (sup p i)
def ch (p : List GClass) (name : List UInt8) : List Nat := chN p (p.length + 1) [] name
theorem nodup_len : ∀ (L : Nat) (l : List Nat), l.Nodup → (∀ x ∈ l, x < L) → l.length ≤ L
 | 0, l, _, h => by
  cases l with
  | nil => exact Nat.le_refl _
  | cons x l => have := h x (by simp); omega
 | L + 1, l, hn, h => by
  have h1 := nodup_len L (l.erase L) (hn.erase L) (fun x hx => by
   have := (hn.mem_erase_iff.1 hx)
   have := h x this.2
   omega)
  by_cases hm : L ∈ l
  ·have := List.length_erase_of_mem hm; omega
  ·rw [List.erase_of_not_mem hm] at h1; omega
structure Way (p : List GClass) (out : List Nat) (name : List UInt8) : Prop where
 nd : out.Nodup
 lt : ∀ x ∈ out, x < p.length
 nx : ∀ x ∈ out, sup p x ≠ [] ∧ (sup p x = name ∨ ∃ j, fi p (sup p x) = some j ∧ j ∈ out)
 own : ∀ x ∈ out, ∃ nm, fi p nm = some x
theorem Way.nil (p : List GClass) (name : List UInt8) : Way p [] name := ⟨List.nodup_nil, by simp, by simp, by simp⟩
theorem Way.snoc {p : List GClass} {out : List Nat} {name : List UInt8} {i : Nat} (h : Way p out name) (hf : fi p name = some i) (hi : i ∉ out) (hs : sup p i ≠ []) : Way p (out ++ [i]) (sup p i) := by
 refine ⟨?_, fun x hx => ?_, fun x hx => ?_, fun x hx => ?_⟩
 ·refine List.nodup_append.2 ⟨h.nd, by simp, fun a ha b hb => ?_⟩
  simp at hb; subst hb; rintro rfl; exact hi ha
 ·rcases List.mem_append.1 hx with hx | hx
  ·exact h.lt x hx
  ·simp at hx; subst hx; exact fi_lt hf
 ·rcases List.mem_append.1 hx with hx | hx
  ·obtain ⟨h1, h2⟩ := h.nx x hx
   refine ⟨h1, .inr ?_⟩
   rcases h2 with h2 | ⟨j, h2, h3⟩
   ·exact ⟨i, by rw [h2]; exact hf, by simp⟩
   ·exact ⟨j, h2, by simp [h3]⟩
  ·simp at hx; subst hx; exact ⟨hs, .inl rfl⟩
 ·rcases List.mem_append.1 hx with hx | hx
  ·exact h.own x hx
  ·simp at hx; subst hx; exact ⟨name, hf⟩
def Shut (p : List GClass) (S : List Nat) : Prop := ∀ x ∈ S, sup p x ≠ [] → ∀ j, fi p (sup p x) = some j → j ∈ S
theorem upN_shut {p : List GClass} {S : List Nat} (h : Shut p S) : ∀ (n : Nat) (name : List UInt8), (∀ j, fi p name = some j → j ∈ S) → ∀ x ∈ upN p n name, x ∈ S
 | 0, name, _, x, hx => by simp [upN] at hx
 | n + 1, name, hs, x, hx => by
  simp only [upN] at hx
  cases hf : fi p name with
  | none => rw [hf] at hx; simp at hx
  | some i =>
   rw [hf] at hx
   have hi := hs i hf
   simp only at hx
   split at hx
   ·simp at hx; subst hx; exact hi
   ·rename_i he
    rcases List.mem_cons.1 hx with rfl | hx
    ·exact hi
    ·exact upN_shut h n _ (fun j hj => h i hi (by simpa using he) j hj) x hx
theorem upN_round {p : List GClass} {S : List Nat} (h : ∀ x ∈ S, sup p x ≠ [] ∧ ∃ j, fi p (sup p x) = some j ∧ j ∈ S) : ∀ (n : Nat) (name : List UInt8) (i : Nat), fi p name = some i → i ∈ S → (upN p n name).length = n
 | 0, name, i, _, _ => rfl
 | n + 1, name, i, hf, hi => by
  obtain ⟨h1, j, h2, h3⟩ := h i hi
  simp only [upN, hf]
  rw [if_neg (by simpa using h1)]
  simp [upN_round h n _ j h2 h3]
def back (p : List GClass) (l : List Nat) : Bool := match l.getLast? with
 | none => false
 | some i => !(sup p i == []) && (match fi p (sup p i) with | some j => decide (j ∈ l) | none => false)
theorem upN_chN {p : List GClass} : ∀ (n : Nat) (out : List Nat) (name : List UInt8), n + out.length = p.length + 1 → Way p out name → (out = [] ∨ ∃ x, out.getLast? = some x ∧ sup p x = name) →
  ∃ R, out ++ upN p n name = chN p n out name ++ R ∧ (∀ x ∈ R, x ∈ chN p n out name) ∧ (∀ x ∈ out, x ∈ chN p n out name) ∧ (∀ j, fi p name = some j → j ∈ chN p n out name) ∧ Shut p (chN p n out name) ∧ (chN p n out name).Nodup ∧ (∀ x ∈ chN p n out name, x < p.length ∧ ∃ nm, fi p nm = some x) ∧
   (back p (chN p n out name) = decide ((upN p n name).length = n))
 | 0, out, name, hn, hw, hl => by
  exfalso
  have := nodup_len p.length out hw.nd hw.lt
  omega
 | n + 1, out, name, hn, hw, hl => by
  have hlen := nodup_len p.length out hw.nd hw.lt
  cases hf : fi p name with
  | none =>
   simp only [upN, chN, hf]
   refine ⟨[], by simp, by simp, fun x hx => hx, by simp, fun x hx hne j hj => ?_, hw.nd, fun x hx => ⟨hw.lt x hx, hw.own x hx⟩, ?_⟩
   ·rcases (hw.nx x hx).2 with h1 | ⟨j', h1, h2⟩
    ·rw [h1, hf] at hj; cases hj
    ·rw [h1] at hj; cases hj; exact h2
   ·have : back p out = false := by
     unfold back
     rcases hl with rfl | ⟨x, h1, h2⟩
     ·rfl
     ·rw [h1]; simp only [h2, hf, Bool.and_false]
    rw [this]; simp
  | some i =>
   simp only [upN, chN, hf]
   by_cases hi : i ∈ out
   ·rw [if_pos hi]
    have hround : ∀ x ∈ out, sup p x ≠ [] ∧ ∃ j, fi p (sup p x) = some j ∧ j ∈ out := by
     intro x hx
     obtain ⟨h1, h2⟩ := hw.nx x hx
     refine ⟨h1, ?_⟩
     rcases h2 with h2 | h2
     ·exact ⟨i, by rw [h2]; exact hf, hi⟩
     ·exact h2
    have hshut : Shut p out := fun x hx _ j hj => by
     obtain ⟨_, j', h1, h2⟩ := hround x hx
     rw [h1] at hj; cases hj; exact h2
    have hsub := upN_shut hshut (n + 1) name (fun j hj => by rw [hf] at hj; cases hj; exact hi)
    have hfull := upN_round hround (n + 1) name i hf hi
    simp only [upN, hf] at hsub hfull
    refine ⟨_, rfl, hsub, fun x hx => hx, fun j hj => by cases hj; exact hi, hshut, hw.nd, fun x hx => ⟨hw.lt x hx, hw.own x hx⟩, ?_⟩
    rw [hfull]
    have : back p out = true := by
     unfold back
     rcases hl with rfl | ⟨x, h1, h2⟩
     ·simp at hi
     ·have hx : x ∈ out := List.mem_of_getLast? h1
      rw [h1]
      simp only [h2, hf, hi, decide_true, Bool.and_true]
      have := (hw.nx x hx).1
      rw [h2] at this
      simpa using this
    rw [this]; simp
   ·rw [if_neg hi]
    by_cases hs : (sup p i == []) = true
    ·rw [if_pos hs, if_pos hs]
     have hs' : sup p i = [] := by simpa using hs
     have hw2 : (out ++ [i]).Nodup := List.nodup_append.2 ⟨hw.nd, by simp, fun a ha b hb => by
      simp at hb; subst hb; rintro rfl; exact hi ha⟩
     have hlt2 : ∀ x ∈ out ++ [i], x < p.length := fun x hx => by
      rcases List.mem_append.1 hx with hx | hx
      ·exact hw.lt x hx
      ·simp at hx; subst hx; exact fi_lt hf
     have hlen2 := nodup_len p.length _ hw2 hlt2
     refine ⟨[], by simp, by simp, fun x hx => by simp [hx], fun j hj => by cases hj; simp, fun x hx hne j hj => ?_, hw2, fun x hx => ⟨hlt2 x hx, ?_⟩, ?_⟩
     ·rcases List.mem_append.1 hx with hx | hx
      ·rcases (hw.nx x hx).2 with h1 | ⟨j', h1, h2⟩
       ·rw [h1, hf] at hj; cases hj; simp
       ·rw [h1] at hj; cases hj; simp [h2]
      ·simp at hx; subst hx; exact absurd hs' hne
     ·rcases List.mem_append.1 hx with hx | hx
      ·exact hw.own x hx
      ·simp at hx; subst hx; exact ⟨name, hf⟩
     ·have : back p (out ++ [i]) = false := by
       unfold back; simp [hs']
      rw [this]
      simp at hlen2
      simp; omega
    ·rw [if_neg hs, if_neg hs]
     have hs' : sup p i ≠ [] := by simpa using hs
     obtain ⟨R, k1, k2, k3, k4, k5, k6, k7, k8⟩ := upN_chN n (out ++ [i]) (sup p i) (by simp; omega) (hw.snoc hf hi hs') (.inr ⟨i, by simp, rfl⟩)
     refine ⟨R, by rw [← k1]; simp, k2, fun x hx => k3 x (by simp [hx]), fun j hj => by cases hj; exact k3 i (by simp), k5, k6, k7, ?_⟩
     rw [k8]; simp
theorem ch_facts (p : List GClass) (name : List UInt8) : ∃ R, upN p (p.length + 1) name = ch p name ++ R ∧ (∀ x ∈ R, x ∈ ch p name) ∧ (∀ j, fi p name = some j → j ∈ ch p name) ∧ Shut p (ch p name) ∧ (ch p name).Nodup ∧ (∀ x ∈ ch p name, x < p.length ∧ ∃ nm, fi p nm = some x) ∧
  (back p (ch p name) = decide ((upN p (p.length + 1) name).length = p.length + 1)) := by
 obtain ⟨R, k1, k2, k3, k4, k5, k6, k7, k8⟩ := upN_chN (p.length + 1) [] name (by simp) (Way.nil p name) (.inl rfl)
 exact ⟨R, by unfold ch; simpa using k1, k2, k4, k5, k6, k7, k8⟩
theorem mem_up {p : List GClass} {name : List UInt8} {x : Nat} : x ∈ upN p (p.length + 1) name ↔ x ∈ ch p name := by
 obtain ⟨R, k1, k2, _⟩ := ch_facts p name
 rw [k1]
 constructor
 ·intro h
  rcases List.mem_append.1 h with h | h
  ·exact h
  ·exact k2 x h
 ·intro h; simp [h]
theorem idxI_L {l : List Int} (a : Int) (hp : l.length < 9223372036854775806) : ∀ (n k : Nat), n + k = l.length + 1 → k ≤ l.length →
  ∃ r, slices_Index_int_L1 l a n (k : Int) = some r ∧ ((∃ v : Int, r = .stop v ∧ 0 ≤ v ∧ a ∈ l.drop k) ∨ (r = .next () ∧ a ∉ l.drop k))
 | 0, k, h, hk => by omega
 | n + 1, k, h, hk => by
  simp only [slices_Index_int_L1]
  by_cases hlt : k < l.length
  ·rw [if_pos (by simpa using hlt), idx_lt hlt, List.drop_eq_getElem_cons hlt]
   simp only [obs]
   by_cases hc : (a == l[k]) = true
   ·rw [if_pos hc]
    have hc' : a = l[k] := by simpa using hc
    exact ⟨_, rfl, .inl ⟨_, rfl, by omega, by rw [hc']; exact List.mem_cons_self⟩⟩
   ·rw [if_neg hc, w64_succ hlt (by omega)]
    obtain ⟨r, h1, h2⟩ := idxI_L a hp n (k + 1) (by omega) (by omega)
    refine ⟨r, h1, ?_⟩
    have hne : a ≠ l[k] := by simpa using hc
    rcases h2 with ⟨v, h3, h4, h5⟩ | ⟨h3, h4⟩
    ·exact .inl ⟨v, h3, h4, List.mem_cons_of_mem _ h5⟩
    ·exact .inr ⟨h3, fun hm => (List.mem_cons.1 hm).elim hne h4⟩
  ·rw [if_neg (by simpa using hlt), List.drop_eq_nil_of_le (by omega)]
   exact ⟨_, rfl, .inr ⟨rfl, by simp⟩⟩
theorem contains_eq {l : List Int} (hp : l.length < 9223372036854775806) (a : Int) : slices_Contains_int l a = some (decide (a ∈ l)) := by
 unfold slices_Contains_int slices_Index_int
 obtain ⟨r, h1, h2⟩ := idxI_L a hp (l.length + 1) 0 (by omega) (by omega)
 rw [show (((l.length : Int) : Int) - (0)).toNat + 1 = l.length + 1 by omega, show (0 : Int) = ((0 : Nat) : Int) from rfl, h1]
 rcases h2 with ⟨v, rfl, h3, h4⟩ | ⟨rfl, h4⟩
 ·simp only [obs, Ctl.elim]
  simp only [List.drop_zero] at h4
  simp [h4, h3]
 ·simp only [obs, Ctl.elim]
  simp only [List.drop_zero] at h4
  simp [h4]
theorem mem_cast {i : Nat} {l : List Nat} : ((i : Int) ∈ l.map Int.ofNat) ↔ i ∈ l := by
 rw [List.mem_map]
 constructor
 ·rintro ⟨j, h1, h2⟩
  have : j = i := Int.ofNat.inj h2
  exact this ▸ h1
 ·intro h; exact ⟨i, h, rfl⟩
theorem chain_runs {p : List GClass} (hp : p.length ≤ 1000000) : ∀ (n : Nat) (out : List Nat) (name : List UInt8), n + out.length = p.length + 1 →
  ∃ r, runs above_Chain_B1 ((upN p n name).map Int.ofNat) (out.map Int.ofNat) = some r ∧ Ctl.elim r (fun x => x) (fun x => x) = (chN p n out name).map Int.ofNat
 | 0, out, name, _ => ⟨_, rfl, rfl⟩
 | n + 1, out, name, hn => by
  have hout : (out.map Int.ofNat).length < 9223372036854775806 := by simp; omega
  have hroom : room (((out.map Int.ofNat).length : Int) + (([(0 : Int)].length : Nat) : Int)) 8 = some () := room_ok (by simp; omega)
  simp only [upN, chN]
  cases hf : fi p name with
  | none => exact ⟨_, rfl, rfl⟩
  | some i =>
   simp only
   have hstep : ∀ rest, runs above_Chain_B1 (((i : Nat) :: rest).map Int.ofNat) (out.map Int.ofNat) = if i ∈ out then some (.stop (out.map Int.ofNat)) else runs above_Chain_B1 (rest.map Int.ofNat) ((out ++ [i]).map Int.ofNat) := by
    intro rest
    simp only [List.map_cons, runs, above_Chain_B1]
    rw [contains_eq hout]
    simp only [obs]
    by_cases hi : i ∈ out
    ·have : Int.ofNat i ∈ out.map Int.ofNat := mem_cast.2 hi
     rw [if_pos hi, if_pos (by simpa using this)]
     rfl
    ·have hni : ¬ Int.ofNat i ∈ out.map Int.ofNat := fun h => hi (mem_cast.1 h)
     rw [if_neg hi, if_neg (by simpa using hni)]
     rw [show (([Int.ofNat i].length : Nat) : Int) = (([(0 : Int)].length : Nat) : Int) from rfl, hroom]
     simp [obs, Ctl.elim]
   by_cases hi : i ∈ out
   ·rw [if_pos hi]
    split
    ·rw [hstep, if_pos hi]; exact ⟨_, rfl, rfl⟩
    ·rw [hstep, if_pos hi]; exact ⟨_, rfl, rfl⟩
   ·rw [if_neg hi]
    by_cases hs : (sup p i == []) = true
    ·rw [if_pos hs, if_pos hs, hstep, if_neg hi]
     exact ⟨_, rfl, rfl⟩
    ·rw [if_neg hs, if_neg hs, hstep, if_neg hi]
     exact chain_runs hp n (out ++ [i]) (sup p i) (by simp; omega)
theorem above_Chain_eq {p : List GClass} (hp : p.length ≤ 1000000) (name : List UInt8) : above_Chain p name = some ((ch p name).map Int.ofNat) := by
 unfold above_Chain above_up
 simp only [obs]
 rw [itR_up_eq (by omega)]
 simp only [obs]
 obtain ⟨r, h1, h2⟩ := chain_runs hp (p.length + 1) [] name (by simp)
 rw [show ([] : List Int) = ([] : List Nat).map Int.ofNat from rfl, h1]
 unfold ch
 rw [← h2]
 cases r <;> rfl
theorem ch_len (p : List GClass) (name : List UInt8) : (ch p name).length ≤ p.length := by
 obtain ⟨_, _, _, _, _, k6, k7, _⟩ := ch_facts p name
 exact nodup_len _ _ k6 (fun x hx => (k7 x hx).1)
theorem has_L {l : List Int} (a : Int) (hp : l.length < 9223372036854775806) : ∀ (n k : Nat), n + k = l.length + 1 → k ≤ l.length →
  ref14_has_L1 l a n (k : Int) = some (if a ∈ l.drop k then .stop true else .next ())
 | 0, k, h, hk => by omega
 | n + 1, k, h, hk => by
  simp only [ref14_has_L1]
  by_cases hlt : k < l.length
  ·rw [if_pos (by simpa using hlt), idx_lt hlt, List.drop_eq_getElem_cons hlt]
   simp only [obs]
   by_cases hc : (l[k] == a) = true
   ·rw [if_pos hc]
    simp at hc
    rw [if_pos (by rw [← hc]; exact List.mem_cons_self)]
   ·rw [if_neg hc, w64_succ hlt (by omega), has_L a hp n (k + 1) (by omega) (by omega)]
    have hne : a ≠ l[k] := fun e => hc (by simp [e])
    have e : (a ∈ l[k] :: l.drop (k + 1)) ↔ a ∈ l.drop (k + 1) := ⟨fun hm => (List.mem_cons.1 hm).resolve_left hne, List.mem_cons_of_mem _⟩
    simp only [e]
  ·rw [if_neg (by simpa using hlt), List.drop_eq_nil_of_le (by omega)]
   simp
theorem has_eq {l : List Int} (hp : l.length < 9223372036854775806) (a : Int) : ref14_has l a = some (decide (a ∈ l)) := by
 unfold ref14_has
 have h := has_L a hp (l.length + 1) 0 (by omega) (by omega)
 rw [show (((l.length : Int) : Int) - (0)).toNat + 1 = l.length + 1 by omega, show (0 : Int) = ((0 : Nat) : Int) from rfl, h]
 simp only [obs, List.drop_zero]
 by_cases hm : a ∈ l
 ·simp [hm, Ctl.elim]
 ·simp [hm, Ctl.elim]
theorem refChain_L {p : List GClass} (hp : p.length ≤ 1000000) : ∀ (n : Nat) (out : List Nat) (name : List UInt8), n + out.length = p.length + 1 → Way p out name →
  ∃ r, ref14_Chain_L1 p (n + 1) (out.map Int.ofNat) (fnd p name) = some r ∧ Ctl.elim r (fun x => x) (fun x => x) = (chN p n out name).map Int.ofNat
 | 0, out, name, hn, hw => by
  exfalso
  have := nodup_len p.length out hw.nd hw.lt
  omega
 | n + 1, out, name, hn, hw => by
  have hout : (out.map Int.ofNat).length < 9223372036854775806 := by simp; omega
  have hroom : ∀ z : Int, room (((out.map Int.ofNat).length : Int) + (([z].length : Nat) : Int)) 8 = some () := fun z => room_ok (by simp; omega)
  simp only [ref14_Chain_L1]
  cases hf : fi p name with
  | none =>
   rw [fnd_none hf]
   refine ⟨.next (out.map Int.ofNat), rfl, ?_⟩
   simp [chN, hf, Ctl.elim]
  | some i =>
   rw [fnd_some hf, has_eq hout]
   obtain ⟨c, hc, _⟩ := fi_spec hf
   have hidx : idx p (i : Int) = some c := by rw [idx_nat]; exact hc
   have hsup : sup p i = c.fSuper := by unfold sup; rw [hc]
   have hd : decide ((i : Int) ≥ 0) = true := by simp
   rw [if_pos hd]
   simp only [chN, hf, obs, hroom, hidx]
   by_cases hi : i ∈ out
   ·rw [if_neg (by simpa using mem_cast.2 hi), if_pos hi]
    exact ⟨_, rfl, rfl⟩
   ·have hni : ¬ (i : Int) ∈ out.map Int.ofNat := fun h => hi (mem_cast.1 h)
    rw [if_pos (by simpa using hni), if_neg hi]
    have hcat : out.map Int.ofNat ++ [(i : Int)] = (out ++ [i]).map Int.ofNat := by simp
    rw [hcat, hsup]
    by_cases hs : (c.fSuper == []) = true
    ·rw [if_pos hs, if_pos hs]
     exact ⟨_, rfl, rfl⟩
    ·rw [if_neg hs, if_neg hs, ref13_Find_eq (by omega)]
     simp only [obs]
     have hs' : sup p i ≠ [] := by rw [hsup]; simpa using hs
     have := refChain_L hp n (out ++ [i]) (sup p i) (by simp; omega) (hw.snoc hf hi hs')
     rw [hsup] at this
     exact this
theorem ref_Chain_eq {p : List GClass} (hp : p.length ≤ 1000000) (name : List UInt8) : ref14_Chain p name = some ((ch p name).map Int.ofNat) := by
 unfold ref14_Chain
 rw [ref13_Find_eq (by omega)]
 obtain ⟨r, h1, h2⟩ := refChain_L hp (p.length + 1) [] name (by simp) (Way.nil p name)
 simp only [obs]
 rw [show p.length + 2 = p.length + 1 + 1 from rfl, show ([] : List Int) = ([] : List Nat).map Int.ofNat from rfl, h1]
 unfold ch
 rw [← h2]
 cases r <;> rfl
theorem below_runs (y : Int) : ∀ (l : List Int), ∃ r, runs (above_Below_B1 y) l () = some r ∧ ((r = .stop () ∧ y ∈ l) ∨ (r = .next () ∧ y ∉ l))
 | [] => ⟨_, rfl, .inr ⟨rfl, by simp⟩⟩
 | x :: l => by
  simp only [runs, above_Below_B1]
  by_cases hc : (x == y) = true
  ·rw [if_pos hc]
   have hc' : x = y := by simpa using hc
   exact ⟨_, rfl, .inl ⟨rfl, by rw [hc']; exact List.mem_cons_self⟩⟩
  ·rw [if_neg hc]
   have hne : y ≠ x := fun e => hc (by simp [e])
   obtain ⟨r, h1, h2⟩ := below_runs y l
   refine ⟨r, h1, ?_⟩
   rcases h2 with ⟨h3, h4⟩ | ⟨h3, h4⟩
   ·exact .inl ⟨h3, List.mem_cons_of_mem _ h4⟩
   ·exact .inr ⟨h3, fun hm => (List.mem_cons.1 hm).elim hne h4⟩
def bel (p : List GClass) (a b : List UInt8) : Bool := match fi p b with | some j => decide (j ∈ ch p a) | none => false
theorem fnd_mem {p : List GClass} {b : List UInt8} (l : List Nat) : decide (fnd p b ∈ l.map Int.ofNat) = match fi p b with | some j => decide (j ∈ l) | none => false := by
 cases hf : fi p b with
 | none =>
  rw [fnd_none hf]
  simp only [decide_eq_false_iff_not]
  intro h
  obtain ⟨j, _, hj⟩ := List.mem_map.1 h
  have : (0 : Int) ≤ Int.ofNat j := Int.natCast_nonneg j
  omega
 | some j =>
  rw [fnd_some hf]
  simp only [mem_cast]
theorem above_Below_eq {p : List GClass} (hp : p.length ≤ 1000000) (a b : List UInt8) : above_Below p a b = some (bel p a b) := by
 unfold above_Below above_up
 rw [table_Find_eq (by omega)]
 simp only [obs, itR_up_eq (p := p) (by omega)]
 obtain ⟨r, h1, h2⟩ := below_runs (fnd p b) ((upN p (p.length + 1) a).map Int.ofNat)
 rw [h1]
 have hb : bel p a b = decide (fnd p b ∈ (upN p (p.length + 1) a).map Int.ofNat) := by
  rw [fnd_mem]
  unfold bel
  cases fi p b with
  | none => rfl
  | some j => simp only [mem_up]
 rcases h2 with ⟨rfl, h3⟩ | ⟨rfl, h3⟩
 ·rw [hb, decide_eq_true h3]; rfl
 ·rw [hb, decide_eq_false h3]; rfl
theorem ref_Below_eq {p : List GClass} (hp : p.length ≤ 1000000) (a b : List UInt8) : ref14_Below p a b = some (bel p a b) := by
 unfold ref14_Below
 rw [ref13_Find_eq (by omega)]
 have hcl : ((ch p a).map Int.ofNat).length < 9223372036854775806 := by have := ch_len p a; simp; omega
 simp only [obs, ref_Chain_eq hp, has_eq hcl, fnd_mem]
 unfold bel
 cases hf : fi p b with
 | none => rw [fnd_none hf]; rfl
 | some j => rw [fnd_some hf, if_pos (by simp)]
def meth (c : GClass) (name : List UInt8) : Option GMethod := c.fMethods.find? fun m => m.fName == name
def fstM (p : List GClass) (name : List UInt8) : List Nat → Option (List UInt8 × GMethod)
 | [] => none
 | i :: r => match p[i]? with
  | some c => (match meth c name with | some m => some (c.fName, m) | none => fstM p name r)
  | none => none
def fnd1 (o : Option (List UInt8 × GMethod)) (z : GFound_method) : GFound_method × Bool := match o with | some x => ({ fClass := x.1, fMethod := x.2 }, true) | none => (z, false)
theorem walk_L2 {p : List GClass} {c : GClass} {i : Nat} (hi : p[i]? = some c) (name : List UInt8) (z : GFound_method) (hl : c.fMethods.length ≤ 9223372036854775807) : ∀ (n k : Nat), n + k = c.fMethods.length + 1 → k ≤ c.fMethods.length →
  method_walk_w_L2 name p (i : Int) c n z false (k : Int) = some (match (c.fMethods.drop k).find? (fun m => m.fName == name) with | some m => .stop (({ fClass := c.fName, fMethod := m } : GFound_method), true) | none => .next (z, false))
 | 0, k, h, hk => by omega
 | n + 1, k, h, hk => by
  rw [method_walk_w_L2]
  by_cases hlt : k < c.fMethods.length
  ·rw [if_pos (by simpa using hlt), idx_lt hlt, obs, List.drop_eq_getElem_cons hlt, List.find?_cons]
   unfold method_first_1_w
   by_cases hn : (c.fMethods[k].fName == name) = true
   ·simp only [hn, if_true, idx_nat, hi, obs]
    rfl
   ·simp only [Bool.not_eq_true] at hn
    simp only [hn]
    rw [if_neg (by simp), obs, if_neg (by simp), w64_succ hlt hl]
    exact walk_L2 hi name z hl n (k + 1) (by omega) (by omega)
  ·rw [if_neg (by simpa using hlt), List.drop_eq_nil_of_le (by omega)]; rfl
theorem walk_L1 {p : List GClass} (hm : ∀ c ∈ p, c.fMethods.length ≤ 9223372036854775807) (name : List UInt8) (z : GFound_method) (l : List Nat) (hl : ∀ x ∈ l, x < p.length) (hll : l.length ≤ 1000000) : ∀ (n k : Nat), n + k = l.length + 1 → k ≤ l.length →
  method_walk_w_L1 p (l.map Int.ofNat) name p n z false (k : Int) = some (match fstM p name (l.drop k) with | some x => .stop (({ fClass := x.1, fMethod := x.2 } : GFound_method), true) | none => .next (z, false))
 | 0, k, h, hk => by omega
 | n + 1, k, h, hk => by
  rw [method_walk_w_L1]
  by_cases hlt : k < l.length
  ·have hx := hl l[k] (List.getElem_mem hlt)
   have hc : p[l[k]]? = some p[l[k]] := List.getElem?_eq_getElem hx
   rw [if_pos (by simpa using hlt), idx_lt (by simpa using hlt), obs, List.getElem_map, show Int.ofNat l[k] = ((l[k] : Nat) : Int) from rfl, idx_nat, hc, obs, fuel_len, show (0 : Int) = ((0 : Nat) : Int) from rfl, walk_L2 hc name z (hm _ (List.getElem_mem hx)) _ 0 (by omega) (by omega), obs, List.drop_zero, List.drop_eq_getElem_cons hlt]
   simp only [fstM, hc, meth]
   cases hf : p[l[k]].fMethods.find? (fun m => m.fName == name) with
   | some m => rfl
   | none =>
    show method_walk_w_L1 p (l.map Int.ofNat) name p n z false (w_i64 ((k : Int) + 1)) = _
    rw [w64_succ hlt (by omega)]
    exact walk_L1 hm name z l hl hll n (k + 1) (by omega) (by omega)
  ·rw [if_neg (by simpa using hlt), List.drop_eq_nil_of_le (by omega)]; rfl
def zfm : GFound_method := { fClass := [], fMethod := zGMethod }
theorem method_first_eq {p : List GClass} (hm : ∀ c ∈ p, c.fMethods.length ≤ 9223372036854775807) (name : List UInt8) (l : List Nat) (hl : ∀ x ∈ l, x < p.length) (hll : l.length ≤ 1000000) : method_first p (l.map Int.ofNat) name = some (fnd1 (fstM p name l) zfm) := by
 unfold method_first method_walk_w
 rw [fuel_len, show (0 : Int) = ((0 : Nat) : Int) from rfl, walk_L1 hm name _ l hl hll _ 0 (by simp) (by omega), obs, List.drop_zero]
 cases fstM p name l <;> rfl
theorem ch_lt (p : List GClass) (name : List UInt8) : ∀ x ∈ ch p name, x < p.length := by
 obtain ⟨_, _, _, _, _, _, k7, _⟩ := ch_facts p name
 exact fun x hx => (k7 x hx).1
theorem method_Find_eq {p : List GClass} (hp : p.length ≤ 1000000) (hm : ∀ c ∈ p, c.fMethods.length ≤ 9223372036854775807) (a name : List UInt8) : method_Find p a name = some (fnd1 (fstM p name (ch p a)) zfm) := by
 unfold method_Find
 have := ch_len p a
 rw [above_Chain_eq hp, obs, method_first_eq hm name _ (ch_lt p a) (by omega), obs]
def fnd2 (o : Option (List UInt8 × GMethod)) : GFound_ref17 × Bool := match o with | some x => ({ fClass := x.1, fMethod := x.2 }, true) | none => ({ fClass := [], fMethod := zGMethod }, false)
theorem ref_own_L (c : GClass) (name : List UInt8) (hl : c.fMethods.length ≤ 9223372036854775807) : ∀ (n k : Nat), n + k = c.fMethods.length + 1 → k ≤ c.fMethods.length →
  ref17_own_L1 c name n (k : Int) = some (match (c.fMethods.drop k).find? (fun m => m.fName == name) with | some m => .stop (({ fClass := c.fName, fMethod := m } : GFound_ref17), true) | none => .next ())
 | 0, k, h, hk => by omega
 | n + 1, k, h, hk => by
  rw [ref17_own_L1]
  by_cases hlt : k < c.fMethods.length
  ·rw [if_pos (by simpa using hlt), idx_lt hlt, obs, obs, List.drop_eq_getElem_cons hlt, List.find?_cons]
   by_cases hn : (c.fMethods[k].fName == name) = true
   ·simp only [hn, if_true]
   ·simp only [Bool.not_eq_true] at hn
    simp only [hn]
    rw [if_neg (by simp), w64_succ hlt hl]
    exact ref_own_L c name hl n (k + 1) (by omega) (by omega)
  ·rw [if_neg (by simpa using hlt), List.drop_eq_nil_of_le (by omega)]; rfl
theorem ref_own_eq (c : GClass) (name : List UInt8) (hl : c.fMethods.length ≤ 9223372036854775807) : ref17_own c name = some (match meth c name with | some m => (({ fClass := c.fName, fMethod := m } : GFound_ref17), true) | none => (({ fClass := [], fMethod := zGMethod } : GFound_ref17), false)) := by
 unfold ref17_own meth
 rw [fuel_len, show (0 : Int) = ((0 : Nat) : Int) from rfl, ref_own_L c name hl _ 0 (by omega) (by omega), obs, List.drop_zero]
 cases c.fMethods.find? (fun m => m.fName == name) <;> rfl
theorem among_L {p : List GClass} (hm : ∀ c ∈ p, c.fMethods.length ≤ 9223372036854775807) (name : List UInt8) (l : List Nat) (hl : ∀ x ∈ l, x < p.length) (hll : l.length ≤ 1000000) : ∀ (n k : Nat), n + k = l.length + 1 → k ≤ l.length →
  ref17_among_L1 p (l.map Int.ofNat) name n (k : Int) = some (match fstM p name (l.drop k) with | some x => .stop (({ fClass := x.1, fMethod := x.2 } : GFound_ref17), true) | none => .next ())
 | 0, k, h, hk => by omega
 | n + 1, k, h, hk => by
  rw [ref17_among_L1]
  by_cases hlt : k < l.length
  ·have hx := hl l[k] (List.getElem_mem hlt)
   have hc : p[l[k]]? = some p[l[k]] := List.getElem?_eq_getElem hx
   rw [if_pos (by simpa using hlt), idx_lt (by simpa using hlt), obs, List.getElem_map, show Int.ofNat l[k] = ((l[k] : Nat) : Int) from rfl, idx_nat, hc, obs, ref_own_eq _ _ (hm _ (List.getElem_mem hx)), obs, List.drop_eq_getElem_cons hlt]
   simp only [fstM, hc]
   cases hf : meth p[l[k]] name with
   | some m => rfl
   | none =>
    rw [if_neg (by simp), w64_succ hlt (by omega)]
    exact among_L hm name l hl hll n (k + 1) (by omega) (by omega)
  ·rw [if_neg (by simpa using hlt), List.drop_eq_nil_of_le (by omega)]; rfl
theorem among_eq {p : List GClass} (hm : ∀ c ∈ p, c.fMethods.length ≤ 9223372036854775807) (name : List UInt8) (l : List Nat) (hl : ∀ x ∈ l, x < p.length) (hll : l.length ≤ 1000000) : ref17_among p (l.map Int.ofNat) name = some (fnd2 (fstM p name l)) := by
 unfold ref17_among
 rw [fuel_len, show (0 : Int) = ((0 : Nat) : Int) from rfl, among_L hm name l hl hll _ 0 (by simp) (by omega), obs, List.drop_zero]
 cases fstM p name l <;> rfl
theorem ref17_Find_eq {p : List GClass} (hp : p.length ≤ 1000000) (hm : ∀ c ∈ p, c.fMethods.length ≤ 9223372036854775807) (a name : List UInt8) : ref17_Find p a name = some (fnd2 (fstM p name (ch p a))) := by
 unfold ref17_Find
 have := ch_len p a
 rw [ref_Chain_eq hp, obs, among_eq hm name _ (ch_lt p a) (by omega), obs]
theorem preSL_len : ∀ (n : Nat) (l : List GStmt) (d : Int), mLGStmt l ≤ n → (preSL d l).length ≤ mLGStmt l
 | _, [], d, _ => by simp [preSL]
 | 0, x :: l, d, h => by
  have := itmS x
  simp only [mLGStmt] at h; omega
 | n + 1, x :: l, d, h => by
  simp only [mLGStmt] at h ⊢
  have h1 := itmS x
  have a1 := preSL_len n x.fBody (d + 1) (by omega)
  have a2 := preSL_len n x.fElse (d + 1) (by omega)
  have a3 := preSL_len n l d (by omega)
  simp only [preSL, preS_eq d x, List.cons_append, List.length_cons, List.length_append]; omega
def lnR (a : GLine_ref12) (y : Int × GStmt) : GLine_ref12 := { a with fDeep := y.1, fS := y.2 }
theorem lines12_eq : ∀ (n : Nat) (l : List GStmt) (a : GLine_ref12), mLGStmt l < n → mLGStmt l ≤ 1048576 → 0 ≤ a.fDeep → a.fDeep + mLGStmt l ≤ 4000000 → ref12_lines n l a = some ((preSL a.fDeep l).map (lnR a))
 | 0, l, a, h, _, _, _ => by omega
 | n + 1, l, a, h, hM, h0, hd => by
  have hlm := itlen l
  have loop : ∀ (t : List GStmt) (pre : List GStmt) (acc : List GLine_ref12) (f : Nat), l = pre ++ t → t.length < f → acc.length + mLGStmt t ≤ 2000000 →
    ref12_lines_L1 l a (ref12_lines n) f acc (pre.length : Int) = some (acc ++ (preSL a.fDeep t).map (lnR a)) := by
   intro t
   induction t with
   | nil =>
    intro pre acc f hl hf _
    cases f with
    | zero => simp at hf
    | succ f =>
     simp only [List.append_nil] at hl
     subst hl
     simp [ref12_lines_L1, preSL]
   | cons x t ih =>
    intro pre acc f hl hf hr
    cases f with
    | zero => simp at hf
    | succ f =>
     have hx : idx l (pre.length : Int) = some x := by rw [hl, idx_lt (by simp)]; simp
     have hlt : (pre.length : Int) < (l.length : Int) := by rw [hl, List.length_append, List.length_cons]; omega
     have hmx := itmS x
     simp only [mSL_cons] at hr
     have hml : mGStmt x ≤ mLGStmt l := by
      rw [hl]
      clear ih hx hlt hf hr hlm hM hd h hl
      induction pre with
      | nil => simp only [List.nil_append, mSL_cons]; omega
      | cons y pre ihp => simp only [List.cons_append, mSL_cons]; omega
     have hw : w_i64 (a.fDeep + 1) = a.fDeep + 1 := w64 (by omega) (by omega)
     have hw2 : w_i64 ((pre.length : Int) + 1) = ((pre ++ [x]).length : Int) := by
      have : pre.length < l.length := by rw [hl]; simp
      rw [w64 (by omega) (by omega)]; simp
     have e1 := lines12_eq n x.fBody ({ ({ a with fS := x } : GLine_ref12) with fDeep := a.fDeep + 1 }) (by omega) (by omega) (by simp only; omega) (by simp only; omega)
     have e2 := lines12_eq n x.fElse ({ ({ a with fS := x } : GLine_ref12) with fDeep := a.fDeep + 1 }) (by omega) (by omega) (by simp only; omega) (by simp only; omega)
     have l1 := preSL_len _ x.fBody (a.fDeep + 1) (Nat.le_refl _)
     have l2 := preSL_len _ x.fElse (a.fDeep + 1) (Nat.le_refl _)
     rw [ref12_lines_L1, if_pos (by simpa using hlt), hx]
     simp only [obs, hw, hw2]
     rw [room_ok (by simp; omega), obs, e1, obs, room_ok (by simp; omega), obs, e2, obs, room_ok (by simp; omega), obs]
     rw [ih (pre ++ [x]) _ f (by simp [hl]) (by simp at hf; omega) (by simp; omega)]
     simp only [preSL, preS_eq a.fDeep x, List.cons_append, List.map_cons, List.map_append, List.append_assoc, List.nil_append]
     rfl
  have := loop l [] [] ((((l.length : Int) : Int) - (0)).toNat + 1) (by simp) (by omega) (by simp; omega)
  rw [ref12_lines, show (0 : Int) = (([] : List GStmt).length : Int) from rfl, show ((((l.length : Int) : Int) - ((([] : List GStmt).length : Nat) : Int)).toNat + 1) = ((((l.length : Int) : Int) - (0)).toNat + 1) from rfl, this, obs]
  simp
def lnM (i k : Int) (m : GMethod) : List GLine_ref12 := (preSL 0 m.fBody).map fun y => { fClass := i, fMethod := k, fDeep := y.1, fS := y.2 }
def lnF (i : Int) : Nat → List GMethod → List GLine_ref12
 | _, [] => []
 | k, m :: ms => lnM i (k : Int) m ++ lnF i (k + 1) ms
def lnG : Nat → List GClass → List GLine_ref12
 | _, [] => []
 | i, c :: cs => lnF (i : Int) 0 c.fMethods ++ lnG (i + 1) cs
theorem lnM_len (i k : Int) (m : GMethod) : (lnM i k m).length ≤ lsum uGStmt m.fBody := by
 unfold lnM
 rw [List.length_map]
 have := preSL_len _ m.fBody 0 (Nat.le_refl _)
 have h2 := mLS_sum m.fBody
 have h3 := lsum_le (l := m.fBody) (u := mGStmt) (v := uGStmt) (fun y _ => mS_le y)
 omega
theorem stmts_L2 {p : List GClass} {i : Nat} {c : GClass} (hc : p[i]? = some c) (hu : lsum uGMethod c.fMethods ≤ 1048576) : ∀ (n k : Nat) (acc : List GLine_ref12), n + k = c.fMethods.length + 1 → k ≤ c.fMethods.length → acc.length + lsum uGMethod (c.fMethods.drop k) ≤ 4000000 →
  ref12_Stmts_L2 p (i : Int) n acc (k : Int) = some (acc ++ lnF (i : Int) k (c.fMethods.drop k))
 | 0, k, acc, h, hk, _ => by omega
 | n + 1, k, acc, h, hk, hr => by
  have hcl := len_lsum (u := uGMethod) (fun y => by have := uM_p y; omega) c.fMethods
  rw [ref12_Stmts_L2, idx_nat, hc, obs]
  by_cases hlt : k < c.fMethods.length
  ·have hm := lsum_mem (u := uGMethod) (List.getElem_mem hlt)
   rw [lsum_drop uGMethod hlt] at hr
   have hup := uM_p c.fMethods[k]
   have h2 := mLS_sum c.fMethods[k].fBody
   have h3 := lsum_le (l := c.fMethods[k].fBody) (u := mGStmt) (v := uGStmt) (fun y _ => mS_le y)
   have hl := lnM_len (i : Int) (k : Int) c.fMethods[k]
   rw [if_pos (by simpa using hlt), obs, idx_lt hlt]
   simp only [obs]
   rw [lines12_eq _ _ _ (by omega) (by omega) (by simp) (by simp only; omega), obs]
   rw [show (preSL (GLine_ref12.fDeep { fClass := (i : Int), fMethod := (k : Int), fDeep := 0, fS := zGStmt }) c.fMethods[k].fBody).map (lnR { fClass := (i : Int), fMethod := (k : Int), fDeep := 0, fS := zGStmt }) = lnM (i : Int) (k : Int) c.fMethods[k] from rfl]
   rw [room_ok (by omega), obs, w64_succ hlt (by omega), stmts_L2 hc hu n (k + 1) _ (by omega) (by omega) (by simp; omega), List.drop_eq_getElem_cons hlt]
   simp only [lnF, List.append_assoc]
  ·rw [if_neg (by simpa using hlt), List.drop_eq_nil_of_le (by omega)]; simp [lnF]
theorem lnF_len (i : Int) : ∀ (l : List GMethod) (k : Nat), (lnF i k l).length ≤ lsum uGMethod l
 | [], _ => by simp [lnF]
 | m :: l, k => by
  have h1 := lnM_len i (k : Int) m
  have h2 := lnF_len i l (k + 1)
  have h3 := uM_p m
  simp only [lnF, lsum, List.length_append]; omega
theorem stmts_L1 {p : List GClass} (hu : lsum uGClass p ≤ 1048576) : ∀ (n k : Nat) (acc : List GLine_ref12), n + k = p.length + 1 → k ≤ p.length → acc.length + lsum uGClass (p.drop k) ≤ 2000000 →
  ref12_Stmts_L1 p n acc (k : Int) = some (acc ++ lnG k (p.drop k))
 | 0, k, acc, h, hk, _ => by omega
 | n + 1, k, acc, h, hk, hr => by
  have hcl := len_lsum (u := uGClass) (fun y => by have := uC_p y; omega) p
  rw [ref12_Stmts_L1]
  by_cases hlt : k < p.length
  ·have hm := lsum_mem (u := uGClass) (List.getElem_mem hlt)
   rw [lsum_drop uGClass hlt] at hr
   have hup := uC_p p[k]
   have hl := lnF_len (k : Int) p[k].fMethods 0
   have hc : p[k]? = some p[k] := List.getElem?_eq_getElem hlt
   rw [if_pos (by simpa using hlt), idx_lt hlt]
   simp only [obs, Option.getD_some]
   rw [fuel_len, show (0 : Int) = ((0 : Nat) : Int) from rfl, stmts_L2 hc (by omega) _ 0 acc (by omega) (by omega) (by rw [List.drop_zero]; omega), obs, w64_succ hlt (by omega), List.drop_zero, stmts_L1 hu n (k + 1) _ (by omega) (by omega) (by simp; omega), List.drop_eq_getElem_cons hlt]
   simp only [lnG, List.append_assoc]
  ·rw [if_neg (by simpa using hlt), List.drop_eq_nil_of_le (by omega)]; simp [lnG]
theorem ref12_Stmts_eq {p : List GClass} (hu : lsum uGClass p ≤ 1048576) : ref12_Stmts p = some (lnG 0 p) := by
 unfold ref12_Stmts
 rw [fuel_len, show (0 : Int) = ((0 : Nat) : Int) from rfl, stmts_L1 hu _ 0 [] (by omega) (by omega) (by simp; omega), obs, List.drop_zero]; rfl
theorem lnG_len : ∀ (l : List GClass) (k : Nat), (lnG k l).length ≤ lsum uGClass l
 | [], k => by simp [lnG]
 | c :: l, k => by
  have h1 := lnF_len (k : Int) c.fMethods 0
  have h2 := lnG_len l (k + 1)
  have h3 := uC_p c
  simp only [lnG, lsum, List.length_append]; omega
structure Light (p : List GClass) : Prop where
 hp : p.length ≤ 30
 hl : ∀ c ∈ p, LightC c
theorem Light.ms {p : List GClass} (h : Light p) : ∀ c ∈ p, c.fMethods.length ≤ 9223372036854775807 := fun c hc => by have := (h.hl c hc).2.2.2.1; omega
def preRuns (a0 : List GClass) (a1 a2 : List UInt8) : Option (List (A2 Int)) :=
 (__pure_walker__call_w a1 a2 a0 (0, (fun _ => none)) []).bind fun y3 =>
 (pure_Runs_L1 a0 a1 ((a0.map fun c => c.fMethods.length).foldr (· + ·) 0 + 1) y3.1.1 y3.1.2 y3.2 0).bind fun (_, _, x82) => some x82
theorem runs_pre (a0 : List GClass) (a1 a2 : List UInt8) : pure_Runs a0 a1 a2 = (preRuns a0 a1 a2).bind sortP := by
 unfold pure_Runs preRuns
 cases __pure_walker__call_w a1 a2 a0 (0, (fun _ => none)) [] with
 | none => rfl
 | some y =>
  simp only [obs]
  cases pure_Runs_L1 a0 a1 ((a0.map fun c => c.fMethods.length).foldr (· + ·) 0 + 1) y.1.1 y.1.2 y.2 0 with
  | none => rfl
  | some z =>
   obtain ⟨z1, z2, z3⟩ := z
   simp only [obs]
   cases sortP z3 <;> rfl
theorem sortP_len {l r : List (A2 Int)} (h : sortP l = some r) : r.length = l.length := by
 unfold sortP at h
 split at h
 ·cases h; simp
 ·cases h
def awake22 (T : List UInt8) : Option Bool :=
 (ref09_Of T).bind fun y3 => (pure_Check y3.1).bind fun y5 => if (bGFault y5 ({ fErr := 20, fAt := 33 } : GFault)) then (preRuns y3.1 [65] [107]).bind fun l => if l.length < 4611686018427387904 then some ((l.length : Int) == 2) else none else none
theorem awake22_ok {T : List UInt8} (h : awake22 T = some true) : ((ref09_Of T).bind fun (y3 : List GClass × GFault) => (pure_Check y3.1).bind fun y5 => if (bGFault y5 ({ fErr := 20, fAt := 33 } : GFault)) then (pure_Runs y3.1 [65] [107]).bind fun (y8 : List (A2 Int)) => some ((y8.length : Int) == 2) else none) = some true := by
 rw [← h]
 unfold awake22
 cases ref09_Of T with
 | none => rfl
 | some y3 =>
  simp only [obs]
  cases pure_Check y3.1 with
  | none => rfl
  | some y5 =>
   simp only [obs]
   rw [runs_pre]
   cases preRuns y3.1 [65] [107] with
   | none => rfl
   | some l =>
    simp only [obs]
    by_cases hl : l.length < 4611686018427387904
    ·have : sortP l = some (l.mergeSort fun x y => !(ltOf cfP) y x) := by unfold sortP; rw [if_pos hl]
     have h2 := sortP_len this
     rw [this, if_pos hl]
     simp only [obs, h2]
    ·have : sortP l = none := by unfold sortP; rw [if_neg hl]
     rw [this, if_neg hl]
     rfl
theorem law22_awake_eq : law22_awake = some true := by
 unfold law22_awake
 exact awake22_ok (by decide +kernel)
theorem in64_nat {k : Nat} (h : k ≤ 9000000000000) : in64 (k : Int) = true := by
 unfold in64
 simp only [IntKind.min, IntKind.max, IntKind.signed, IntKind.bits, Bool.and_eq_true, decide_eq_true_eq, if_true]
 omega
theorem kb2_inj {a b c d : Int} (ha : in64 a = true) (hb : in64 b = true) (hc : in64 c = true) (hd : in64 d = true) (h : kb2 a b = kb2 c d) : a = c ∧ b = d := by
 have := keyBytes_inj (l := [.int .i64 a, .int .i64 b]) (l' := [.int .i64 c, .int .i64 d]) ⟨rfl, rfl, trivial⟩ (fun x hx => by
  rcases List.mem_cons.1 hx with rfl | hx
  ·exact ha
  ·rcases List.mem_cons.1 hx with rfl | hx
   ·exact hb
   ·cases hx) (fun x hx => by
  rcases List.mem_cons.1 hx with rfl | hx
  ·exact hc
  ·rcases List.mem_cons.1 hx with rfl | hx
   ·exact hd
   ·cases hx) h
 simp at this
 exact this
def isM (N : List UInt8) (m : GMethod) : Bool := m.fName == N
def plI (c : GClass) (N : List UInt8) : Int := match c.fMethods.findIdx? (isM N) with | some k => (k : Int) | none => -1
def posM (p : List GClass) (N : List UInt8) (x : List UInt8 × GMethod) : A2 Int := ⟨fnd p x.1, match fi p x.1 with | some i => (match p[i]? with | some c => plI c N | none => -1) | none => -1⟩
def tgt (p : List GClass) (C N : List UInt8) (c : GClass) : Option (A2 Int) := if bel p c.fName C = true then (fstM p N (ch p c.fName)).map (posM p N) else none
structure Spot (p : List GClass) (a : A2 Int) (i k : Nat) (c : GClass) (m : GMethod) : Prop where
 e : a = ⟨(i : Int), (k : Int)⟩
 hc : p[i]? = some c
 hm : c.fMethods[k]? = some m
theorem fstM_mem2 {p : List GClass} {name : List UInt8} : ∀ {l : List Nat} {x : List UInt8 × GMethod}, fstM p name l = some x → ∃ i ∈ l, ∃ c, p[i]? = some c ∧ c.fName = x.1 ∧ meth c name = some x.2
 | [], x, h => by cases h
 | i :: r, x, h => by
  simp only [fstM] at h
  split at h
  ·rename_i c hc
   split at h
   ·rename_i m hm
    cases h
    exact ⟨i, by simp, c, hc, rfl, hm⟩
   ·obtain ⟨j, hj, r⟩ := fstM_mem2 h
    exact ⟨j, by simp [hj], r⟩
  ·cases h
theorem find_idx {α : Type} {q : α → Bool} : ∀ {l : List α} {x : α}, l.find? q = some x → ∃ k : Nat, l.findIdx? q = some k ∧ l[k]? = some x
 | [], x, h => by cases h
 | y :: l, x, h => by
  rw [List.findIdx?_cons]
  cases hq : q y with
  | true =>
   rw [List.find?_cons_of_pos hq] at h
   cases h
   exact ⟨0, by simp, rfl⟩
  | false =>
   rw [List.find?_cons_of_neg (by simp [hq])] at h
   obtain ⟨k, h1, h2⟩ := find_idx h
   exact ⟨k + 1, by simp [h1], by simpa using h2⟩
theorem pos_spot {p : List GClass} {N a : List UInt8} {x : List UInt8 × GMethod} (h : fstM p N (ch p a) = some x) : ∃ i k c', fi p x.1 = some i ∧ Spot p (posM p N x) i k c' x.2 ∧ c'.fMethods.findIdx? (isM N) = some k ∧ x.2.fName = N ∧ c'.fName = x.1 ∧ i ∈ ch p a := by
 obtain ⟨i, hi, c', hc, hn, hm⟩ := fstM_mem2 h
 obtain ⟨R, _, _, _, _, _, h6, _⟩ := ch_facts p a
 obtain ⟨_, nm, hnm⟩ := h6 i hi
 obtain ⟨c2, hc2, hn2⟩ := fi_spec hnm
 rw [hc] at hc2; cases hc2
 have hfi : fi p x.1 = some i := by rw [← hn, hn2]; exact hnm
 obtain ⟨k, hk1, hk2⟩ := find_idx hm
 have hk1' : c'.fMethods.findIdx? (isM N) = some k := hk1
 refine ⟨i, k, c', hfi, ⟨?_, hc, hk2⟩, hk1', ?_, hn, hi⟩
 ·unfold posM plI
  rw [fnd_some hfi, hfi]
  simp only [hc, hk1']
 ·have := List.find?_some hm
  simpa using this
theorem tgt_spot {p : List GClass} {C N : List UInt8} {c : GClass} {a : A2 Int} (h : tgt p C N c = some a) : ∃ x i k c', bel p c.fName C = true ∧ fstM p N (ch p c.fName) = some x ∧ fi p x.1 = some i ∧ Spot p a i k c' x.2 ∧ c'.fMethods.findIdx? (isM N) = some k ∧ x.2.fName = N := by
 unfold tgt at h
 split at h
 ·rename_i hb
  cases hx : fstM p N (ch p c.fName) with
  | none => rw [hx] at h; cases h
  | some x =>
   rw [hx] at h
   simp only [Option.map_some, Option.some.injEq] at h
   obtain ⟨i, k, c', h1, h2, h3, h4, _⟩ := pos_spot hx
   exact ⟨x, i, k, c', hb, rfl, h1, h ▸ h2, h3, h4⟩
 ·cases h
theorem method_idx {p : List GClass} {c : GClass} (hl : c.fMethods.length ≤ 9223372036854775807) (N : List UInt8) : slices_IndexFunc_api_Method c.fMethods (fun (z : GMethod) => __pure_walker__call_1 z N) = some (plI c N) := by
 unfold slices_IndexFunc_api_Method
 rw [findL (slices_IndexFunc_api_Method_L1 c.fMethods (fun (z : GMethod) => __pure_walker__call_1 z N)) (b := isM N) (by omega) (fun n x => by rw [slices_IndexFunc_api_Method_L1]; rfl), obs, find_any]
 rfl
def addT (l : List (A2 Int)) : Option (A2 Int) → List (A2 Int)
 | none => l
 | some a => if a ∈ l then l else l ++ [a]
def callT (p : List GClass) (q : List UInt8 × List UInt8) (l : List (A2 Int)) : List (A2 Int) := p.foldl (fun l c => addT l (tgt p q.1 q.2 c)) l
def ValP (p : List GClass) (a : A2 Int) : Prop := ∃ i k c m, Spot p a i k c m
structure InvR (p : List GClass) (n : Nat) (met : List UInt8 → Option Int) (todo : List (A2 Int)) : Prop where
 val : ∀ a ∈ todo, ValP p a
 nd : todo.Nodup
 met : ∀ a, ValP p a → 0 ≤ (met (kb2 a.a0 a.a1)).getD 0 ∧ (met (kb2 a.a0 a.a1)).getD 0 ≤ n ∧ (a ∈ todo ↔ 1 ≤ (met (kb2 a.a0 a.a1)).getD 0)
 len : todo.length ≤ n
theorem val64 {p : List GClass} (hL : Light p) {a : A2 Int} (h : ValP p a) : in64 a.a0 = true ∧ in64 a.a1 = true := by
 obtain ⟨i, k, c, m, rfl, hc, hm⟩ := h
 obtain ⟨h1, e1⟩ := List.getElem?_eq_some_iff.1 hc
 obtain ⟨h2, _⟩ := List.getElem?_eq_some_iff.1 hm
 have := hL.hp
 have := (hL.hl c (List.mem_of_getElem? hc)).2.2.2.1
 exact ⟨in64_nat (by omega), in64_nat (by omega)⟩
theorem call_step {p : List GClass} (hL : Light p) {n : Nat} {met : List UInt8 → Option Int} {todo : List (A2 Int)} (hI : InvR p n met todo) (hn : n ≤ 1000000000000) {a : A2 Int} (ha : ValP p a) :
  let v := (met (kb2 a.a0 a.a1)).getD 0
  mget2 met a.a0 a.a1 = some v ∧ ment n a.a0 a.a1 = some () ∧ w_i64 (v + 1) = v + 1 ∧ chk64 (v + 1) = some () ∧ mget2 (mset2 met (kb2 a.a0 a.a1) (v + 1)) a.a0 a.a1 = some (v + 1) ∧ (v + 1 = 1 ↔ a ∉ todo) ∧ InvR p (n + 1) (mset2 met (kb2 a.a0 a.a1) (v + 1)) (addT todo (some a)) := by
 intro v
 obtain ⟨i1, i2⟩ := val64 hL ha
 obtain ⟨m0, m1, m2⟩ := hI.met a ha
 have hv0 : 0 ≤ v := m0
 have hv1 : v ≤ n := m1
 have hvm : a ∈ todo ↔ 1 ≤ v := m2
 refine ⟨by unfold mget2; rw [i1, i2]; rfl, ?_, w64 (by omega) (by omega), ?_, ?_, ?_, ?_, ?_, ?_, ?_⟩
 ·unfold ment
  have : Nat.blt n maxLen = true := by rw [Nat.blt_eq]; simp only [maxLen]; omega
  rw [i1, i2, this]; rfl
 ·have : in64 (v + 1) = true := by
   have := in64_nat (k := (v + 1).toNat) (by omega)
   rwa [show (((v + 1).toNat : Nat) : Int) = v + 1 by omega] at this
  unfold chk64; rw [this]; rfl
 ·unfold mget2 mset2; rw [i1, i2]; simp
 ·rw [hvm]; omega
 ·intro b hb
  simp only [addT] at hb
  split at hb
  ·exact hI.val b hb
  ·rcases List.mem_append.1 hb with hb | hb
   ·exact hI.val b hb
   ·rw [List.mem_singleton.1 hb]; exact ha
 ·simp only [addT]
  split
  ·exact hI.nd
  ·rename_i hnm
   exact List.nodup_append.2 ⟨hI.nd, by simp, fun x hx y hy => by rw [List.mem_singleton.1 hy]; intro e; exact hnm (e ▸ hx)⟩
 ·intro b hb
  obtain ⟨j1, j2⟩ := val64 hL hb
  obtain ⟨b0, b1, b2⟩ := hI.met b hb
  by_cases hab : b = a
  ·subst hab
   have e : (mset2 met (kb2 b.a0 b.a1) (v + 1) (kb2 b.a0 b.a1)).getD 0 = v + 1 := by unfold mset2; simp
   rw [e]
   refine ⟨by omega, by omega, ?_⟩
   simp only [addT]
   split
   ·rename_i h; constructor <;> intro _; omega; exact h
   ·constructor <;> intro _; omega; simp
  ·have hk : ¬ kb2 b.a0 b.a1 = kb2 a.a0 a.a1 := by
    intro h
    obtain ⟨q1, q2⟩ := kb2_inj j1 j2 i1 i2 h
    apply hab
    cases a; cases b
    simp only at q1 q2
    subst q1 q2; rfl
   have e : (mset2 met (kb2 a.a0 a.a1) (v + 1) (kb2 b.a0 b.a1)) = met (kb2 b.a0 b.a1) := by unfold mset2; rw [if_neg hk]
   rw [e]
   refine ⟨b0, by omega, ?_⟩
   simp only [addT]
   split
   ·exact b2
   ·rw [List.mem_append, List.mem_singleton]
    constructor
    ·rintro (h | h)
     ·exact b2.1 h
     ·exact absurd h hab
    ·intro h; exact .inl (b2.2 h)
 ·have := hI.len
  simp only [addT]
  split
  ·omega
  ·simp; omega
theorem call_L {p : List GClass} (hL : Light p) (C N : List UInt8) : ∀ (f k : Nat) (n : Nat) (met : List UInt8 → Option Int) (todo : List (A2 Int)), f + k = p.length + 1 → k ≤ p.length → InvR p n met todo → n + (p.length - k) ≤ 900000000000 →
  ∃ n' met', __pure_walker__call_w_L1 C N p f n met todo (k : Int) = some (n', met', (p.drop k).foldl (fun l c => addT l (tgt p C N c)) todo) ∧ InvR p n' met' ((p.drop k).foldl (fun l c => addT l (tgt p C N c)) todo) ∧ n' ≤ n + (p.length - k)
 | 0, k, n, met, todo, h, hk, _, _ => by omega
 | f + 1, k, n, met, todo, h, hk, hI, hn => by
  have hp := hL.hp
  rw [__pure_walker__call_w_L1]
  by_cases hlt : k < p.length
  ·rw [if_pos (by simpa using hlt), idx_lt hlt, List.drop_eq_getElem_cons hlt, List.foldl_cons]
   simp only [obs]
   rw [above_Below_eq (by omega)]
   simp only [obs]
   cases hb : bel p p[k].fName C with
   | false =>
    have ht : tgt p C N p[k] = none := by unfold tgt; rw [hb]; simp
    simp only [Bool.not_false, if_true, obs]
    rw [w64_succ hlt (by omega), ht]
    obtain ⟨n', met', e1, e2, e3⟩ := call_L hL C N f (k + 1) n met todo (by omega) (by omega) hI (by omega)
    exact ⟨n', met', e1, e2, by omega⟩
   | true =>
    simp only [Bool.not_true, Bool.false_eq_true, if_false]
    rw [method_Find_eq (by omega) hL.ms]
    simp only [obs]
    cases hx : fstM p N (ch p p[k].fName) with
    | none =>
     have ht : tgt p C N p[k] = none := by unfold tgt; rw [hb, hx]; simp
     simp only [fnd1, Bool.not_false, if_true, obs]
     rw [w64_succ hlt (by omega), ht]
     obtain ⟨n', met', e1, e2, e3⟩ := call_L hL C N f (k + 1) n met todo (by omega) (by omega) hI (by omega)
     exact ⟨n', met', e1, e2, by omega⟩
    | some x =>
     have ht : tgt p C N p[k] = some (posM p N x) := by unfold tgt; rw [hb, hx]; simp
     obtain ⟨i, j, c', h1, h2, h3, _⟩ := pos_spot hx
     have hval : ValP p (posM p N x) := ⟨i, j, c', x.2, h2⟩
     obtain ⟨s1, s2, s3, s4, s5, s6, s7⟩ := call_step hL hI (by omega) hval
     simp only [fnd1, Bool.not_true, Bool.false_eq_true, if_false]
     rw [table_Find_eq (by omega)]
     simp only [obs]
     rw [fnd_some h1, idx_nat, h2.hc]
     simp only [obs]
     rw [method_idx (p := p) (by have := hL.ms c' (List.mem_of_getElem? h2.hc); exact this) N]
     simp only [obs]
     have epl : plI c' N = (j : Int) := by unfold plI; rw [h3]
     have ep : posM p N x = ⟨(i : Int), plI c' N⟩ := by rw [h2.e, epl]
     rw [ep] at s1 s2 s3 s4 s5 s6 s7
     simp only at s1 s2 s3 s4 s5 s6 s7
     rw [s1]
     simp only [obs]
     rw [s2]
     simp only [obs]
     rw [s3, s4]
     simp only [obs]
     rw [s5]
     simp only [obs]
     rw [ht, ep]
     by_cases hm : (⟨(i : Int), plI c' N⟩ : A2 Int) ∈ todo
     ·have hne : ¬ (Option.getD (met (kb2 (i : Int) (plI c' N))) 0 + 1 = 1) := fun h => (s6.1 h) hm
      have ea : addT todo (some ⟨(i : Int), plI c' N⟩) = todo := by simp only [addT]; rw [if_pos hm]
      rw [ea] at s7 ⊢
      rw [if_neg (by simpa using hne)]
      simp only [obs]
      rw [w64_succ hlt (by omega)]
      obtain ⟨n', met', e1, e2, e3⟩ := call_L hL C N f (k + 1) (n + 1) _ todo (by omega) (by omega) s7 (by omega)
      exact ⟨n', met', e1, e2, by omega⟩
     ·have hne : (Option.getD (met (kb2 (i : Int) (plI c' N))) 0 + 1 = 1) := s6.2 hm
      have ea : addT todo (some ⟨(i : Int), plI c' N⟩) = todo ++ [⟨(i : Int), plI c' N⟩] := by simp only [addT]; rw [if_neg hm]
      rw [ea] at s7 ⊢
      have hlen := hI.len
      rw [if_pos (by simpa using hne), room_ok (by simp; omega)]
      simp only [obs]
      rw [w64_succ hlt (by omega)]
      obtain ⟨n', met', e1, e2, e3⟩ := call_L hL C N f (k + 1) (n + 1) _ (todo ++ [⟨(i : Int), plI c' N⟩]) (by omega) (by omega) s7 (by omega)
      exact ⟨n', met', e1, e2, by omega⟩
  ·rw [if_neg (by simpa using hlt), List.drop_eq_nil_of_le (by omega)]
   exact ⟨n, met, rfl, hI, by omega⟩
theorem call_eq {p : List GClass} (hL : Light p) (q : List UInt8 × List UInt8) {n : Nat} {met : List UInt8 → Option Int} {todo : List (A2 Int)} (hI : InvR p n met todo) (hn : n ≤ 800000000000) :
  ∃ n' met', __pure_walker__call_w q.1 q.2 p (n, met) todo = some ((n', met'), callT p q todo) ∧ InvR p n' met' (callT p q todo) ∧ n' ≤ n + 30 := by
 have hp := hL.hp
 obtain ⟨n', met', e1, e2, e3⟩ := call_L hL q.1 q.2 (p.length + 1) 0 n met todo (by omega) (by omega) hI (by omega)
 refine ⟨n', met', ?_, ?_, by omega⟩
 ·unfold __pure_walker__call_w
  rw [fuel_len, show (0 : Int) = ((0 : Nat) : Int) from rfl, e1]
  simp only [obs, List.drop_zero]
  rfl
 ·simpa [callT] using e2
def callOf (c : GClass) (m : GMethod) (s : GStmt) : Option (List UInt8 × List UInt8) := match ref18_Type c m s.fY with
 | some r => if r.2 = true ∧ s.fKind = 4 ∧ r.1.fKind = 2 then some (r.1.fClass, s.fName) else none
 | none => none
def callsOf (c : GClass) (m : GMethod) : List (List UInt8 × List UInt8) := (preSL 0 m.fBody).filterMap fun y => callOf c m y.2
def walkT (p : List GClass) (l : List (List UInt8 × List UInt8)) (todo : List (A2 Int)) : List (A2 Int) := l.foldl (fun t q => callT p q t) todo
theorem walkT_app (p : List GClass) (a b : List (List UInt8 × List UInt8)) (t : List (A2 Int)) : walkT p (a ++ b) t = walkT p b (walkT p a t) := by unfold walkT; rw [List.foldl_append]
theorem callOf_pre (c : GClass) (m : GMethod) : ∀ (n : Nat) (l : List GStmt) (d e : Int), mLGStmt l ≤ n → (preSL d l).filterMap (fun y => callOf c m y.2) = (preSL e l).filterMap (fun y => callOf c m y.2)
 | _, [], d, e, _ => by simp [preSL]
 | 0, x :: l, d, e, h => by have := itmS x; simp only [mLGStmt] at h; omega
 | n + 1, x :: l, d, e, h => by
  simp only [mLGStmt] at h
  have h1 := itmS x
  simp only [preSL, preS_eq d x, preS_eq e x, List.cons_append, List.filterMap_cons, List.filterMap_append]
  rw [callOf_pre c m n x.fBody (d + 1) (e + 1) (by omega), callOf_pre c m n x.fElse (d + 1) (e + 1) (by omega), callOf_pre c m n l d e (by omega)]
def bCalls (c : GClass) (m : GMethod) (l : List GStmt) : List (List UInt8 × List UInt8) := (preSL 0 l).filterMap fun y => callOf c m y.2
theorem bCalls_cons (c : GClass) (m : GMethod) (x : GStmt) (l : List GStmt) : bCalls c m (x :: l) = (match callOf c m x with | some q => [q] | none => []) ++ (bCalls c m x.fBody ++ (bCalls c m x.fElse ++ bCalls c m l)) := by
 unfold bCalls
 simp only [preSL, preS_eq 0 x, List.cons_append, List.filterMap_cons, List.filterMap_append]
 rw [callOf_pre c m _ x.fBody (0 + 1) 0 (Nat.le_refl _), callOf_pre c m _ x.fElse (0 + 1) 0 (Nat.le_refl _)]
 cases callOf c m x <;> simp
theorem body_eq {p : List GClass} (hL : Light p) {c : GClass} {m : GMethod} (hc : LightC c) (h1 : m.fParams.length ≤ 40) (h2 : m.fLocals.length ≤ 40) : ∀ (f : Nat) (l : List GStmt) (n : Nat) (met : List UInt8 → Option Int) (todo : List (A2 Int)), mLGStmt l < f → mLGStmt l ≤ 1048576 → InvR p n met todo → n + 30 * mLGStmt l ≤ 700000000000 →
  ∃ n' met', __pure_walker__body_w f c m l p (n, met) todo = some ((n', met'), walkT p (bCalls c m l) todo) ∧ InvR p n' met' (walkT p (bCalls c m l) todo) ∧ n' ≤ n + 30 * mLGStmt l
 | 0, l, n, met, todo, h, _, _, _ => by omega
 | f + 1, l, n, met, todo, h, hM, hI, hn => by
  have hlm := itlen l
  have loop : ∀ (t : List GStmt) (pre : List GStmt) (n : Nat) (met : List UInt8 → Option Int) (todo : List (A2 Int)) (g : Nat), l = pre ++ t → t.length < g → InvR p n met todo → n + 30 * mLGStmt t ≤ 700000000000 →
    ∃ n' met', __pure_walker__body_w_L1 c m l p (__pure_walker__body_w f) g n met todo (pre.length : Int) = some (n', met', walkT p (bCalls c m t) todo) ∧ InvR p n' met' (walkT p (bCalls c m t) todo) ∧ n' ≤ n + 30 * mLGStmt t := by
   intro t
   induction t with
   | nil =>
    intro pre n met todo g hl hg hI hn
    cases g with
    | zero => simp at hg
    | succ g =>
     simp only [List.append_nil] at hl
     subst hl
     exact ⟨n, met, by simp [__pure_walker__body_w_L1, bCalls, preSL, walkT], by simpa [bCalls, preSL, walkT] using hI, by omega⟩
   | cons x t ih =>
    intro pre n met todo g hl hg hI hn
    cases g with
    | zero => simp at hg
    | succ g =>
     have hx : idx l (pre.length : Int) = some x := by rw [hl, idx_lt (by simp)]; simp
     have hlt : (pre.length : Int) < (l.length : Int) := by rw [hl, List.length_append, List.length_cons]; omega
     have hmx := itmS x
     simp only [mSL_cons] at hn ⊢
     have hml : mGStmt x ≤ mLGStmt l := by
      rw [hl]
      clear ih hx hlt hg hlm hM h hl hn
      induction pre with
      | nil => simp only [List.nil_append, mSL_cons]; omega
      | cons y pre ihp => simp only [List.cons_append, mSL_cons]; omega
     have hw2 : w_i64 ((pre.length : Int) + 1) = ((pre ++ [x]).length : Int) := by
      have : pre.length < l.length := by rw [hl]; simp
      rw [w64 (by omega) (by omega)]; simp
     obtain ⟨r, r1, r2⟩ := scope_Type_eq (c := c) (m := m) (by have := hc.1; omega) (by omega) (by omega) x.fY
     have e0 : ∃ n1 met1, ((scope_Type c m x.fY).bind fun y76 =>
       (if y76.2 = true then if (x.fKind == 4) then some (y76.1.fKind == 2) else some false else some false : Option (Bool)).bind fun x80 =>
       if x80 = true then (__pure_walker__call_w y76.1.fClass x.fName p (n, met) todo).bind fun y84 => some (y84.1.1, y84.1.2, y84.2) else some (n, met, todo) : Option (Nat × (List UInt8 → Option Int) × (List (A2 Int)))) = some (n1, met1, walkT p (match callOf c m x with | some q => [q] | none => []) todo) ∧ InvR p n1 met1 (walkT p (match callOf c m x with | some q => [q] | none => []) todo) ∧ n1 ≤ n + 30 := by
      rw [r1, obs]
      have hb : (if r.2 = true then if (x.fKind == 4) then some (r.1.fKind == 2) else some false else some false : Option (Bool)) = some (decide (r.2 = true ∧ x.fKind = 4 ∧ r.1.fKind = 2)) := by
       by_cases a1 : r.2 = true
       ·by_cases a2 : x.fKind = 4
        ·by_cases a3 : r.1.fKind = 2 <;> simp [a1, a2, a3]
        ·simp [a1, a2]
       ·simp [a1]
      rw [hb, obs]
      unfold callOf
      rw [r2]
      by_cases hq : r.2 = true ∧ x.fKind = 4 ∧ r.1.fKind = 2
      ·rw [if_pos (by simpa using hq)]
       simp only [if_pos hq]
       obtain ⟨n1, met1, q1, q2, q3⟩ := call_eq hL (r.1.fClass, x.fName) hI (by omega)
       refine ⟨n1, met1, ?_, ?_, by omega⟩
       ·simp only at q1
        rw [q1, obs]; rfl
       ·exact q2
      ·rw [if_neg (by simpa using hq)]
       simp only [if_neg hq]
       exact ⟨n, met, rfl, hI, by omega⟩
     obtain ⟨n1, met1, a1, a2, a3⟩ := e0
     obtain ⟨n2, met2, b1, b2, b3⟩ := body_eq hL hc h1 h2 f x.fBody n1 met1 _ (by omega) (by omega) a2 (by omega)
     obtain ⟨n3, met3, c1, c2, c3⟩ := body_eq hL hc h1 h2 f x.fElse n2 met2 _ (by omega) (by omega) b2 (by omega)
     obtain ⟨n4, met4, d1, d2, d3⟩ := ih (pre ++ [x]) n3 met3 _ g (by simp [hl]) (by simp at hg; omega) c2 (by omega)
     rw [bCalls_cons, walkT_app, walkT_app, walkT_app]
     refine ⟨n4, met4, ?_, d2, by omega⟩
     rw [__pure_walker__body_w_L1, if_pos (by simpa using hlt), hx]
     simp only [obs]
     rw [a1]
     simp only [obs]
     rw [b1]
     simp only [obs]
     rw [c1]
     simp only [obs]
     rw [hw2, d1]
  obtain ⟨n', met', e1, e2, e3⟩ := loop l [] n met todo ((((l.length : Int) : Int) - (0)).toNat + 1) (by simp) (by omega) hI hn
  refine ⟨n', met', ?_, e2, e3⟩
  rw [__pure_walker__body_w, show (0 : Int) = (([] : List GStmt).length : Int) from rfl, show ((((l.length : Int) : Int) - ((([] : List GStmt).length : Nat) : Int)).toNat + 1) = ((((l.length : Int) : Int) - (0)).toNat + 1) from rfl, e1, obs]
inductive Rch (p : List GClass) (q0 : List UInt8 × List UInt8) : A2 Int → Prop
 | start {c : GClass} {a : A2 Int} : c ∈ p → tgt p q0.1 q0.2 c = some a → Rch p q0 a
 | step {a : A2 Int} {i k : Nat} {c0 : GClass} {m0 : GMethod} {q : List UInt8 × List UInt8} {c : GClass} {b : A2 Int} : Rch p q0 a → Spot p a i k c0 m0 → q ∈ callsOf c0 m0 → c ∈ p → tgt p q.1 q.2 c = some b → Rch p q0 b
theorem tgt_val {p : List GClass} {C N : List UInt8} {c : GClass} {a : A2 Int} (h : tgt p C N c = some a) : ValP p a := by
 obtain ⟨x, i, k, c', _, _, _, h1, _⟩ := tgt_spot h
 exact ⟨i, k, c', x.2, h1⟩
theorem Rch.val {p : List GClass} {q0 : List UInt8 × List UInt8} {a : A2 Int} (h : Rch p q0 a) : ValP p a := by
 cases h with
 | start _ h => exact tgt_val h
 | step _ _ _ _ h => exact tgt_val h
theorem Spot.fn {p : List GClass} {a : A2 Int} {i k i' k' : Nat} {c c' : GClass} {m m' : GMethod} (h : Spot p a i k c m) (h' : Spot p a i' k' c' m') : i' = i ∧ k' = k ∧ c' = c ∧ m' = m := by
 have e := h.e.symm.trans h'.e
 simp only [A2.mk.injEq] at e
 have e1 : i' = i := by omega
 have e2 : k' = k := by omega
 subst e1 e2
 have q1 := h'.hc; rw [h.hc] at q1; cases q1
 have q2 := h'.hm; rw [h.hm] at q2; cases q2
 exact ⟨rfl, rfl, rfl, rfl⟩
theorem mem_addT {l : List (A2 Int)} {o : Option (A2 Int)} {x : A2 Int} : x ∈ addT l o ↔ x ∈ l ∨ o = some x := by
 cases o with
 | none => simp [addT]
 | some a =>
  simp only [addT, Option.some.injEq]
  split
  ·rename_i h
   constructor
   ·exact .inl
   ·rintro (h2 | rfl)
    ·exact h2
    ·exact h
  ·rw [List.mem_append, List.mem_singleton]
   constructor
   ·rintro (h | rfl)
    ·exact .inl h
    ·exact .inr rfl
   ·rintro (h | rfl)
    ·exact .inl h
    ·exact .inr rfl
theorem mem_foldT {p : List GClass} {C N : List UInt8} {x : A2 Int} : ∀ (cs : List GClass) (l : List (A2 Int)), x ∈ cs.foldl (fun l c => addT l (tgt p C N c)) l ↔ x ∈ l ∨ ∃ c ∈ cs, tgt p C N c = some x
 | [], l => by simp
 | c :: cs, l => by
  rw [List.foldl_cons, mem_foldT cs, mem_addT]
  simp only [List.mem_cons, exists_eq_or_imp, or_assoc]
theorem mem_walkT {p : List GClass} {x : A2 Int} : ∀ (qs : List (List UInt8 × List UInt8)) (l : List (A2 Int)), x ∈ walkT p qs l ↔ x ∈ l ∨ ∃ q ∈ qs, ∃ c ∈ p, tgt p q.1 q.2 c = some x
 | [], l => by simp [walkT]
 | q :: qs, l => by
  have := mem_walkT (p := p) (x := x) qs (callT p q l)
  unfold walkT at this ⊢
  rw [List.foldl_cons, this]
  unfold callT
  rw [mem_foldT]
  simp only [List.mem_cons, exists_eq_or_imp, or_assoc]
theorem addT_pre (l : List (A2 Int)) (o : Option (A2 Int)) : ∃ r, addT l o = l ++ r := by
 cases o with
 | none => exact ⟨[], by simp [addT]⟩
 | some a =>
  simp only [addT]
  split
  ·exact ⟨[], by simp⟩
  ·exact ⟨[a], rfl⟩
theorem callT_pre {p : List GClass} {C N : List UInt8} : ∀ (cs : List GClass) (l : List (A2 Int)), ∃ r, cs.foldl (fun l c => addT l (tgt p C N c)) l = l ++ r
 | [], l => ⟨[], by simp⟩
 | c :: cs, l => by
  obtain ⟨r1, h1⟩ := addT_pre l (tgt p C N c)
  obtain ⟨r2, h2⟩ := callT_pre (p := p) (C := C) (N := N) cs (addT l (tgt p C N c))
  exact ⟨r1 ++ r2, by rw [List.foldl_cons, h2, h1, List.append_assoc]⟩
theorem walkT_pre {p : List GClass} : ∀ (qs : List (List UInt8 × List UInt8)) (l : List (A2 Int)), ∃ r, walkT p qs l = l ++ r
 | [], l => ⟨[], by simp [walkT]⟩
 | q :: qs, l => by
  obtain ⟨r1, h1⟩ := callT_pre (p := p) (C := q.1) (N := q.2) p l
  obtain ⟨r2, h2⟩ := walkT_pre (p := p) qs (callT p q l)
  unfold walkT at h2 ⊢
  exact ⟨r1 ++ r2, by rw [List.foldl_cons, h2]; unfold callT; rw [h1, List.append_assoc]⟩
def allF (i : Nat) : Nat → List GMethod → List (A2 Int)
 | _, [] => []
 | k, _ :: ms => ⟨(i : Int), (k : Int)⟩ :: allF i (k + 1) ms
def allG : Nat → List GClass → List (A2 Int)
 | _, [] => []
 | i, c :: cs => allF i 0 c.fMethods ++ allG (i + 1) cs
theorem allF_len (i : Nat) : ∀ (k : Nat) (l : List GMethod), (allF i k l).length = l.length
 | _, [] => rfl
 | k, _ :: l => by simp [allF, allF_len i (k + 1) l]
theorem allG_len : ∀ (i : Nat) (l : List GClass), (allG i l).length = (l.map fun c => c.fMethods.length).foldr (· + ·) 0
 | _, [] => rfl
 | i, c :: l => by simp [allG, allF_len, allG_len (i + 1) l]
theorem mem_allF {i : Nat} {a : A2 Int} : ∀ {l : List GMethod} {k : Nat}, a ∈ allF i k l ↔ ∃ (j : Nat) (m : GMethod), l[j]? = some m ∧ a = ⟨(i : Int), ((k + j : Nat) : Int)⟩
 | [], k => by simp [allF]
 | x :: l, k => by
  simp only [allF, List.mem_cons]
  rw [mem_allF (l := l) (k := k + 1)]
  constructor
  ·rintro (rfl | ⟨j, m, h1, h2⟩)
   ·exact ⟨0, x, rfl, rfl⟩
   ·exact ⟨j + 1, m, by simpa using h1, by rw [h2]; simp only [A2.mk.injEq, true_and]; omega⟩
  ·rintro ⟨j, m, h1, h2⟩
   cases j with
   | zero => exact .inl h2
   | succ j => exact .inr ⟨j, m, by simpa using h1, by rw [h2]; simp only [A2.mk.injEq, true_and]; omega⟩
theorem mem_allG {a : A2 Int} : ∀ {l : List GClass} {i : Nat}, a ∈ allG i l ↔ ∃ (j : Nat) (c : GClass) (k : Nat) (m : GMethod), l[j]? = some c ∧ c.fMethods[k]? = some m ∧ a = ⟨((i + j : Nat) : Int), (k : Int)⟩
 | [], i => by simp [allG]
 | x :: l, i => by
  simp only [allG, List.mem_append]
  rw [mem_allG (l := l) (i := i + 1), mem_allF]
  constructor
  ·rintro (⟨k, m, h1, h2⟩ | ⟨j, c, k, m, h1, h2, h3⟩)
   ·exact ⟨0, x, k, m, rfl, h1, by rw [h2]; simp⟩
   ·exact ⟨j + 1, c, k, m, by simpa using h1, h2, by rw [h3]; simp only [A2.mk.injEq, and_true]; omega⟩
  ·rintro ⟨j, c, k, m, h1, h2, h3⟩
   cases j with
   | zero =>
    simp only [List.getElem?_cons_zero, Option.some.injEq] at h1
    subst h1
    exact .inl ⟨k, m, h2, by rw [h3]; simp⟩
   | succ j => exact .inr ⟨j, c, k, m, by simpa using h1, h2, by rw [h3]; simp only [A2.mk.injEq, and_true]; omega⟩
theorem mem_all {p : List GClass} {a : A2 Int} : a ∈ allG 0 p ↔ ValP p a := by
 rw [mem_allG]
 constructor
 ·rintro ⟨j, c, k, m, h1, h2, h3⟩
  exact ⟨j, k, c, m, by rw [h3]; simp, h1, h2⟩
 ·rintro ⟨i, k, c, m, h1, h2, h3⟩
  exact ⟨i, c, k, m, h2, h3, by rw [h1]; simp⟩
theorem Light.all {p : List GClass} (h : Light p) : (allG 0 p).length ≤ 1200 := by
 have : ∀ (l : List GClass) (i : Nat), (∀ c ∈ l, c.fMethods.length ≤ 40) → (allG i l).length ≤ 40 * l.length := by
  intro l
  induction l with
  | nil => intro i _; simp [allG]
  | cons c l ih =>
   intro i hc
   have h1 := ih (i + 1) (fun x hx => hc x (by simp [hx]))
   have h2 := hc c (by simp)
   simp only [allG, List.length_append, allF_len, List.length_cons]; omega
 have h1 := this p 0 (fun c hc => (h.hl c hc).2.2.2.1)
 have := h.hp
 omega
theorem body_small {p : List GClass} (hu : lsum uGClass p ≤ 1048576) {a : A2 Int} {i k : Nat} {c : GClass} {m : GMethod} (h : Spot p a i k c m) : mLGStmt m.fBody ≤ 1048576 := by
 have uc := lsum_mem (u := uGClass) (List.mem_of_getElem? h.hc)
 have ucp := uC_p c
 have um := lsum_mem (u := uGMethod) (List.mem_of_getElem? h.hm)
 have ump := uM_p m
 have h2 := mLS_sum m.fBody
 have h3 := lsum_le (l := m.fBody) (u := mGStmt) (v := uGStmt) (fun y _ => mS_le y)
 omega
def Done (p : List GClass) (q : List UInt8 × List UInt8) (l : List (A2 Int)) : Prop := ∀ c ∈ p, ∀ b, tgt p q.1 q.2 c = some b → b ∈ l
theorem runs_L {p : List GClass} (hL : Light p) (hu : lsum uGClass p ≤ 1048576) (q0 : List UInt8 × List UInt8) : ∀ (f k n : Nat) (met : List UInt8 → Option Int) (todo : List (A2 Int)), f + k = (allG 0 p).length + 1 → k ≤ todo.length → InvR p n met todo → (∀ a ∈ todo, Rch p q0 a) → Done p q0 todo →
  (∀ j, j < k → ∀ a, todo[j]? = some a → ∀ i' k' c0 m0, Spot p a i' k' c0 m0 → ∀ q ∈ callsOf c0 m0, Done p q todo) → n ≤ 30 + k * 31457280 →
  ∃ n' met' todo', pure_Runs_L1 p q0.1 f n met todo (k : Int) = some (n', met', todo') ∧ InvR p n' met' todo' ∧ ∀ a, a ∈ todo' ↔ Rch p q0 a
 | f, k, n, met, todo, h, hk, hI, hR, hS, hC, hn => by
  have hall := hL.all
  have htl : todo.length ≤ (allG 0 p).length := hI.nd.length_le_of_subset (fun a ha => mem_all.2 (hI.val a ha))
  match f, h with
  | 0, h => omega
  | f + 1, h =>
  rw [pure_Runs_L1]
  by_cases hlt : k < todo.length
  ·obtain ⟨i, j, c, m, hsp⟩ := hI.val _ (List.getElem_mem hlt)
   have hcm := List.mem_of_getElem? hsp.hc
   have hmm := List.mem_of_getElem? hsp.hm
   have hlc := hL.hl c hcm
   have hlm := hlc.2.2.2.2 m hmm
   have hbs := body_small hu hsp
   obtain ⟨n1, met1, e1, e2, e3⟩ := body_eq hL hlc hlm.1 hlm.2.1 (mLGStmt m.fBody + 1) m.fBody n met todo (by omega) hbs hI (by omega)
   have ecalls : bCalls c m m.fBody = callsOf c m := rfl
   rw [ecalls] at e1 e2
   obtain ⟨r, hr⟩ := walkT_pre (p := p) (callsOf c m) todo
   have hmem : ∀ x, x ∈ walkT p (callsOf c m) todo ↔ x ∈ todo ∨ ∃ q ∈ callsOf c m, ∃ c ∈ p, tgt p q.1 q.2 c = some x := fun x => mem_walkT _ _
   have hsub : ∀ x ∈ todo, x ∈ walkT p (callsOf c m) todo := fun x hx => (hmem x).2 (.inl hx)
   have hx0 : idx p (todo[k]).a0 = some c := by rw [hsp.e]; simp only [idx_nat]; exact hsp.hc
   have hx1 : idx c.fMethods (todo[k]).a1 = some m := by rw [hsp.e]; simp only [idx_nat]; exact hsp.hm
   obtain ⟨n', met', todo', g1, g2, g3⟩ := runs_L hL hu q0 f (k + 1) n1 met1 (walkT p (callsOf c m) todo) (by omega) (by rw [hr]; simp; omega) e2 (fun a ha => by
    rcases (hmem a).1 ha with ha | ⟨q, hq, c', hc', ht⟩
    ·exact hR a ha
    ·exact .step (hR _ (List.getElem_mem hlt)) hsp hq hc' ht) (fun c' hc' b hb => hsub b (hS c' hc' b hb)) (fun j' hj' a ha i' k' c0 m0 hs0 q hq => by
    by_cases hjk : j' < k
    ·have ha' : todo[j']? = some a := by
      rw [hr, List.getElem?_append_left (by omega)] at ha
      exact ha
     intro c' hc' b hb
     exact hsub b (hC j' hjk a ha' i' k' c0 m0 hs0 q hq c' hc' b hb)
    ·have : j' = k := by omega
     subst this
     have ha' : todo[j'] = a := by
      rw [hr, List.getElem?_append_left hlt, List.getElem?_eq_getElem hlt] at ha
      exact Option.some.inj ha
     rw [ha'] at hsp
     obtain ⟨_, _, rfl, rfl⟩ := hsp.fn hs0
     intro c' hc' b hb
     exact (hmem b).2 (.inr ⟨q, hq, c', hc', hb⟩)) (by omega)
   refine ⟨n', met', todo', ?_, g2, g3⟩
   rw [if_pos (by simpa using hlt), idx_lt hlt]
   simp only [obs]
   rw [hx0]
   simp only [obs]
   rw [hx1]
   simp only [obs]
   rw [e1]
   simp only [obs]
   rw [w64_succ hlt (by omega)]
   exact g1
  ·refine ⟨n, met, todo, by rw [if_neg (by simpa using hlt)], hI, fun a => ⟨hR a, fun ha => ?_⟩⟩
   induction ha with
   | start hc ht => exact hS _ hc _ ht
   | step h1 h2 h3 h4 h5 ih =>
    obtain ⟨j, hj, e⟩ := List.getElem_of_mem ih
    exact hC j (by omega) _ (by rw [List.getElem?_eq_getElem hj, e]) _ _ _ _ h2 _ h3 _ h4 _ h5
theorem pure_Runs_un {p : List GClass} (hL : Light p) (hu : lsum uGClass p ≤ 1048576) (C N : List UInt8) : ∃ todo, preRuns p C N = some todo ∧ todo.Nodup ∧ todo.length ≤ 1200 ∧ ∀ a, a ∈ todo ↔ Rch p (C, N) a := by
 have h0 : InvR p 0 (fun _ => none) [] := ⟨by simp, by simp, fun a _ => by simp, by simp⟩
 obtain ⟨n1, met1, e1, e2, e3⟩ := call_eq hL (C, N) h0 (by omega)
 have hm : ∀ x, x ∈ callT p (C, N) [] ↔ ∃ c ∈ p, tgt p C N c = some x := fun x => by unfold callT; rw [mem_foldT]; simp
 obtain ⟨n', met', todo', g1, g2, g3⟩ := runs_L hL hu (C, N) ((allG 0 p).length + 1) 0 n1 met1 _ (by omega) (by omega) e2 (fun a ha => by
  obtain ⟨c, hc, ht⟩ := (hm a).1 ha
  exact .start hc ht) (fun c hc b hb => (hm b).2 ⟨c, hc, hb⟩) (fun j hj => by omega) (by omega)
 have hall := hL.all
 refine ⟨todo', ?_, g2.nd, ?_, g3⟩
 ·unfold preRuns
  simp only at e1
  rw [e1]
  simp only [obs]
  rw [← allG_len 0 p, show (0 : Int) = ((0 : Nat) : Int) from rfl]
  simp only at g1
  rw [g1]
  rfl
 ·have := g2.nd.length_le_of_subset (fun a ha => mem_all.2 (g2.val a ha))
  omega
def ltA (x y : A2 Int) : Prop := x.a0 < y.a0 ∨ (x.a0 = y.a0 ∧ x.a1 < y.a1)
theorem sortP_spec {l : List (A2 Int)} (hl : l.length ≤ 1000000) (hn : l.Nodup) : ∃ r, sortP l = some r ∧ (∀ a, a ∈ r ↔ a ∈ l) ∧ r.Pairwise ltA := by
 refine ⟨l.mergeSort fun x y => !(ltOf cfP) y x, by unfold sortP; rw [if_pos (by omega)], fun a => (List.mergeSort_perm _ _).mem_iff, ?_⟩
 have h1 := List.pairwise_mergeSort (le := fun x y : A2 Int => !(ltOf cfP) y x) (fun a b c h1 h2 => by
  simp only [ltP, Bool.not_eq_true', decide_eq_false_iff_not] at *; omega) (fun a b => by
  simp only [ltP, Bool.or_eq_true, Bool.not_eq_true', decide_eq_false_iff_not]; omega) l
 have h2 := ((List.mergeSort_perm l fun x y => !(ltOf cfP) y x).nodup_iff).2 hn
 refine (h1.and h2).imp ?_
 intro a b ⟨h3, h4⟩
 simp only [ltP, Bool.not_eq_true', decide_eq_false_iff_not] at h3
 unfold ltA
 by_cases e0 : a.a0 = b.a0
 ·by_cases e1 : a.a1 = b.a1
  ·exact absurd (by cases a; cases b; simp only at e0 e1; subst e0 e1; rfl) h4
  ·omega
 ·omega
theorem sorted_uniq : ∀ {l m : List (A2 Int)}, l.Pairwise ltA → m.Pairwise ltA → (∀ a, a ∈ l ↔ a ∈ m) → l = m
 | [], [], _, _, _ => rfl
 | [], b :: m, _, _, h => by have := (h b).2 (by simp); cases this
 | a :: l, [], _, _, h => by have := (h a).1 (by simp); cases this
 | a :: l, b :: m, h1, h2, h => by
  obtain ⟨h1a, h1b⟩ := List.pairwise_cons.1 h1
  obtain ⟨h2a, h2b⟩ := List.pairwise_cons.1 h2
  have irr : ∀ x : A2 Int, ¬ ltA x x := fun x h => by unfold ltA at h; omega
  have asy : ∀ x y : A2 Int, ltA x y → ltA y x → False := fun x y h h' => by unfold ltA at h h'; omega
  have e : a = b := by
   rcases List.mem_cons.1 ((h a).1 (by simp)) with e | e
   ·exact e
   ·rcases List.mem_cons.1 ((h b).2 (by simp)) with e' | e'
    ·exact e'.symm
    ·exact (asy _ _ (h1a _ e') (h2a _ e)).elim
  subst e
  congr 1
  refine sorted_uniq h1b h2b fun x => ⟨fun hx => ?_, fun hx => ?_⟩
  ·rcases List.mem_cons.1 ((h x).1 (by simp [hx])) with e | e
   ·exact absurd (e ▸ h1a x hx) (irr _)
   ·exact e
  ·rcases List.mem_cons.1 ((h x).2 (by simp [hx])) with e | e
   ·exact absurd (e ▸ h2a x hx) (irr _)
   ·exact e
theorem pure_Runs_eq {p : List GClass} (hL : Light p) (hu : lsum uGClass p ≤ 1048576) (C N : List UInt8) : ∃ r, pure_Runs p C N = some r ∧ r.Pairwise ltA ∧ r.length ≤ 1200 ∧ ∀ a, a ∈ r ↔ Rch p (C, N) a := by
 obtain ⟨todo, h1, h2, h3, h4⟩ := pure_Runs_un hL hu C N
 obtain ⟨r, g1, g2, g3⟩ := sortP_spec (by omega) h2
 refine ⟨r, by rw [runs_pre, h1, obs, g1], g3, ?_, fun a => (g2 a).trans (h4 a)⟩
 rw [sortP_len g1]; exact h3
theorem place22_eq {c : GClass} (hl : c.fMethods.length ≤ 9223372036854775807) (N : List UInt8) : ref22_place c N = some (plI c N) := by
 unfold ref22_place
 rw [findL (ref22_place_L1 c N) (b := isM N) (by omega) (fun n x => by rw [ref22_place_L1]; rfl), obs, find_any]
 rfl
theorem bcall_iff (a b : GCall_ref22) : bGCall_ref22 a b = true ↔ a = b := by
 cases a; cases b
 unfold bGCall_ref22
 simp
def tg (p : List GClass) (g : GCall_ref22) (c : GClass) : Option (A2 Int) := tgt p g.fClass g.fName c
def runB (p : List GClass) (l : List GCall_ref22) (a : A2 Int) : Bool := l.any fun g => p.any fun c => decide (tg p g c = some a)
theorem runB_iff {p : List GClass} {l : List GCall_ref22} {a : A2 Int} : runB p l a = true ↔ ∃ g ∈ l, ∃ c ∈ p, tg p g c = some a := by
 unfold runB
 simp [List.any_eq_true]
theorem cond22 {p : List GClass} (hL : Light p) (g : GCall_ref22) (cj : GClass) {i k : Nat} {c : GClass} {m : GMethod} (h : Spot p ⟨(i : Int), (k : Int)⟩ i k c m) :
  ((ref17_Find p cj.fName g.fName).bind fun y317 =>
   (if y317.2 = true then
    (ref14_Below p cj.fName g.fClass).bind fun y324 =>
    if y324 = true then
     (ref13_Find p y317.1.fClass).bind fun (y327 : Int) =>
     if (y327 == (i : Int)) then
      if (m.fName == g.fName) then
       (ref22_place c m.fName).bind fun (y335 : Int) => some (y335 == (k : Int))
      else some false
     else some false
    else some false
   else some false : Option (Bool))) = some (decide (tg p g cj = some ⟨(i : Int), (k : Int)⟩)) := by
 have hp := hL.hp
 rw [ref17_Find_eq (by omega) hL.ms, obs]
 unfold tg tgt
 cases hx : fstM p g.fName (ch p cj.fName) with
 | none =>
  rw [if_neg (by simp [fnd2])]
  cases bel p cj.fName g.fClass <;> simp
 | some x =>
  obtain ⟨i', k', c', h1, h2, h3, h4, _⟩ := pos_spot hx
  rw [if_pos (by simp [fnd2]), ref_Below_eq (by omega), obs]
  cases hb : bel p cj.fName g.fClass with
  | false => simp
  | true =>
   rw [if_pos rfl, if_pos rfl]
   simp only [fnd2, Option.map_some, Option.some.injEq]
   rw [ref13_Find_eq (by omega), obs, fnd_some h1]
   by_cases hi : i' = i
   ·subst hi
    rw [if_pos (by simp)]
    have q1 := h2.hc; rw [h.hc] at q1; cases q1
    by_cases hn : m.fName = g.fName
    ·rw [if_pos (by simpa using hn), place22_eq (hL.ms _ (List.mem_of_getElem? h.hc)), obs, h2.e, hn]
     unfold plI
     rw [h3]
     simp only [A2.mk.injEq, true_and]
     rw [Option.some.injEq, Bool.eq_iff_iff]; simp
    ·rw [if_neg (by simpa using hn)]
     have : posM p g.fName x ≠ ⟨(i' : Int), (k : Int)⟩ := by
      rw [h2.e]
      intro e
      simp only [A2.mk.injEq, true_and] at e
      have : k' = k := by omega
      subst this
      have q2 := h2.hm; rw [h.hm] at q2; cases q2
      exact hn h4
     simp [this]
   ·rw [if_neg (by simpa using fun e : (i' : Int) = i => hi (by omega))]
    have : posM p g.fName x ≠ ⟨(i : Int), (k : Int)⟩ := by
     rw [h2.e]
     intro e
     simp only [A2.mk.injEq] at e
     exact hi (by omega)
    simp [this]
theorem runs22_L2 {p : List GClass} (hL : Light p) {l : List GCall_ref22} {g : GCall_ref22} {kx : Nat} (hg : l[kx]? = some g) {i k : Nat} {c : GClass} {m : GMethod} (h : Spot p ⟨(i : Int), (k : Int)⟩ i k c m) : ∀ (n j : Nat), n + j = p.length + 1 → j ≤ p.length →
  ref22_runs_L2 p l (i : Int) (k : Int) m (kx : Int) n (j : Int) = some (if (p.drop j).any (fun c => decide (tg p g c = some ⟨(i : Int), (k : Int)⟩)) = true then .stop true else .next ())
 | 0, j, h1, h2 => by omega
 | n + 1, j, h1, h2 => by
  have hp := hL.hp
  have hgi : idx l (kx : Int) = some g := by rw [idx_nat, hg]
  rw [ref22_runs_L2]
  by_cases hlt : j < p.length
  ·have hc := cond22 hL g p[j] h
   have hci : idx p (i : Int) = some c := by rw [idx_nat, h.hc]
   rw [if_pos (by simpa using hlt), idx_lt hlt, hgi, hci]
   simp only [obs]
   rw [List.drop_eq_getElem_cons hlt, List.any_cons, w64_succ hlt (by omega), runs22_L2 hL hg h n (j + 1) (by omega) (by omega)]
   have e : ∀ (F : Bool → Option (Ctl Bool Unit)), ((ref17_Find p p[j].fName g.fName).bind fun y317 =>
    (if y317.2 = true then
     (ref14_Below p p[j].fName g.fClass).bind fun y324 =>
     if y324 = true then
      (ref13_Find p y317.1.fClass).bind fun (y327 : Int) =>
      if (y327 == (i : Int)) then
       if (m.fName == g.fName) then
        (ref22_place c m.fName).bind fun (y335 : Int) => some (y335 == (k : Int))
       else some false
      else some false
     else some false
    else some false : Option (Bool)).bind F) = F (decide (tg p g p[j] = some ⟨(i : Int), (k : Int)⟩)) := by
    intro F
    rw [← Option.bind_assoc, hc, obs]
   rw [e]
   cases decide (tg p g p[j] = some ⟨(i : Int), (k : Int)⟩) <;> simp
  ·rw [if_neg (by simpa using hlt), List.drop_eq_nil_of_le (by omega)]; rfl
theorem runs22_L1 {p : List GClass} (hL : Light p) {l : List GCall_ref22} (hl : l.length ≤ 4000000) {i k : Nat} {c : GClass} {m : GMethod} (h : Spot p ⟨(i : Int), (k : Int)⟩ i k c m) : ∀ (n j : Nat), n + j = l.length + 1 → j ≤ l.length →
  ref22_runs_L1 p l (i : Int) (k : Int) m n (j : Int) = some (if (l.drop j).any (fun g => p.any fun c => decide (tg p g c = some ⟨(i : Int), (k : Int)⟩)) = true then .stop true else .next ())
 | 0, j, h1, h2 => by omega
 | n + 1, j, h1, h2 => by
  rw [ref22_runs_L1]
  by_cases hlt : j < l.length
  ·rw [if_pos (by simpa using hlt), fuel_len, show (0 : Int) = ((0 : Nat) : Int) from rfl, runs22_L2 hL (List.getElem?_eq_getElem hlt) h _ 0 (by omega) (by omega), obs, List.drop_zero, List.drop_eq_getElem_cons hlt, List.any_cons]
   cases p.any fun c => decide (tg p l[j] c = some ⟨(i : Int), (k : Int)⟩) with
   | true => simp [Ctl.elim]
   | false =>
    simp only [Bool.false_eq_true, if_false, Ctl.elim, Bool.false_or]
    rw [w64_succ hlt (by omega)]
    exact runs22_L1 hL hl h n (j + 1) (by omega) (by omega)
  ·rw [if_neg (by simpa using hlt), List.drop_eq_nil_of_le (by omega)]; rfl
theorem runs22_eq {p : List GClass} (hL : Light p) {l : List GCall_ref22} (hl : l.length ≤ 4000000) {i k : Nat} {c : GClass} {m : GMethod} (h : Spot p ⟨(i : Int), (k : Int)⟩ i k c m) : ref22_runs p l (i : Int) (k : Int) = some (runB p l ⟨(i : Int), (k : Int)⟩) := by
 unfold ref22_runs
 rw [idx_nat, h.hc]
 simp only [obs]
 rw [idx_nat, h.hm]
 simp only [obs]
 rw [fuel_len, show (0 : Int) = ((0 : Nat) : Int) from rfl, runs22_L1 hL hl h _ 0 (by omega) (by omega), obs, List.drop_zero]
 unfold runB
 split <;> simp_all [Ctl.elim]
theorem type_ms {c : GClass} (hc : c.fParams.length ≤ 60) (ms : List GMethod) (m : GMethod) (n : List UInt8) : ref18_Type { c with fMethods := ms } m n = ref18_Type c m n := by
 unfold ref18_Type
 rw [ref18_This_eq hc, ref18_This_eq (c := { c with fMethods := ms }) hc]
 rfl
def mkG (q : List UInt8 × List UInt8) : GCall_ref22 := { fClass := q.1, fName := q.2 }
theorem calls22_L {c : GClass} {m : GMethod} (hc : c.fParams.length ≤ 60) (h1 : m.fParams.length ≤ 100) (h2 : m.fLocals.length ≤ 100) {l : List GLine_ref12} (hl : l.length ≤ 4000000) : ∀ (n j : Nat) (acc : List GCall_ref22), n + j = l.length + 1 → j ≤ l.length → acc.length ≤ j →
  ref22_calls_L1 m c l n acc (j : Int) = some (acc ++ (l.drop j).filterMap fun x => (callOf c m x.fS).map mkG)
 | 0, j, acc, h, hj, _ => by omega
 | n + 1, j, acc, h, hj, ha => by
  rw [ref22_calls_L1]
  by_cases hlt : j < l.length
  ·obtain ⟨r, r1, r2⟩ := scope_Type_eq (c := c) (m := m) hc h1 h2 l[j].fS.fY
   rw [if_pos (by simpa using hlt), idx_lt hlt]
   simp only [obs]
   rw [show ref18_Type ({ c with fMethods := [m] } : GClass) m l[j].fS.fY = some r by rw [type_ms hc, r2]]
   simp only [obs]
   have hb : (if r.2 = true then if (l[j].fS.fKind == 4) then some (r.1.fKind == 2) else some false else some false : Option (Bool)) = some (decide (r.2 = true ∧ l[j].fS.fKind = 4 ∧ r.1.fKind = 2)) := by
    by_cases a1 : r.2 = true
    ·by_cases a2 : l[j].fS.fKind = 4
     ·by_cases a3 : r.1.fKind = 2 <;> simp [a1, a2, a3]
     ·simp [a1, a2]
    ·simp [a1]
   rw [hb, obs, List.drop_eq_getElem_cons hlt, List.filterMap_cons, w64_succ hlt (by omega)]
   by_cases hq : r.2 = true ∧ l[j].fS.fKind = 4 ∧ r.1.fKind = 2
   ·have e : callOf c m l[j].fS = some (r.1.fClass, l[j].fS.fName) := by unfold callOf; rw [r2]; simp only [if_pos hq]
    rw [if_pos (by simpa using hq), room_ok (by simp; omega), e]
    simp only [obs, Option.map_some]
    rw [calls22_L hc h1 h2 hl n (j + 1) _ (by omega) (by omega) (by simp; omega)]
    simp [mkG]
   ·have e : callOf c m l[j].fS = none := by unfold callOf; rw [r2]; simp only [if_neg hq]
    rw [if_neg (by simpa using hq), e]
    simp only [obs, Option.map_none]
    rw [calls22_L hc h1 h2 hl n (j + 1) _ (by omega) (by omega) (by omega)]
  ·rw [if_neg (by simpa using hlt), List.drop_eq_nil_of_le (by omega)]; simp
def callsG (c : GClass) (m : GMethod) : List GCall_ref22 := (callsOf c m).map mkG
theorem ref22_calls_eq {p : List GClass} (hL : Light p) (hu : lsum uGClass p ≤ 1048576) {i k : Nat} {c : GClass} {m : GMethod} {a : A2 Int} (h : Spot p a i k c m) : ref22_calls p (i : Int) m = some (callsG c m) := by
 have hcm := List.mem_of_getElem? h.hc
 have hmm := List.mem_of_getElem? h.hm
 have hlc := hL.hl c hcm
 have hlm := hlc.2.2.2.2 m hmm
 have uc := lsum_mem (u := uGClass) hcm
 have um := lsum_mem (u := uGMethod) hmm
 have hu1 : lsum uGClass [({ c with fMethods := [m] } : GClass)] ≤ 1048576 := by
  have e : uGClass ({ c with fMethods := [m] } : GClass) + lsum uGMethod c.fMethods = uGClass c + uGMethod m := by
   unfold uGClass
   simp only [lsum]
   omega
  simp only [lsum]
  omega
 unfold ref22_calls
 rw [idx_nat, h.hc, obs, ref12_Stmts_eq hu1, obs]
 have e1 : lnG 0 [({ c with fMethods := [m] } : GClass)] = lnM 0 0 m := by simp [lnG, lnF]
 have hlen : (lnM 0 0 m).length ≤ 4000000 := by
  have := lnG_len [({ c with fMethods := [m] } : GClass)] 0
  rw [e1] at this; omega
 rw [e1, fuel_len]
 have e2 : ref22_calls_L1 m c (lnM 0 0 m) ((lnM 0 0 m).length + 1) [] 0 = _ := calls22_L (c := c) (m := m) (by have := hlc.1; omega) (by omega) (by omega) hlen ((lnM 0 0 m).length + 1) 0 [] (by omega) (by omega) (by simp)
 rw [e2, obs, List.drop_zero, List.nil_append]
 unfold callsG callsOf lnM
 rw [List.filterMap_map, List.map_filterMap]
 rfl
theorem has22_eq {l : List GCall_ref22} (hl : l.length ≤ 4000000) (g : GCall_ref22) : ref22_has l g = some (decide (g ∈ l)) := by
 unfold ref22_has
 rw [anyL (ref22_has_L1 l g) (b := fun x => bGCall_ref22 x g) (r := true) (by omega) (fun n x => by rw [ref22_has_L1]), obs]
 have : (l.any fun x => bGCall_ref22 x g) = decide (g ∈ l) := by
  rw [Bool.eq_iff_iff]
  simp only [List.any_eq_true, bcall_iff, decide_eq_true_eq]
  exact ⟨fun ⟨x, h1, h2⟩ => h2 ▸ h1, fun h => ⟨g, h, rfl⟩⟩
 rw [this]
 cases decide (g ∈ l) <;> simp [Ctl.elim]
def addG (l : List GCall_ref22) (g : GCall_ref22) : List GCall_ref22 := if g ∈ l then l else l ++ [g]
theorem mem_addsG {x : GCall_ref22} : ∀ (ys l : List GCall_ref22), x ∈ ys.foldl addG l ↔ x ∈ l ∨ x ∈ ys
 | [], l => by simp
 | y :: ys, l => by
  rw [List.foldl_cons, mem_addsG ys]
  unfold addG
  simp only [List.mem_cons]
  by_cases h : y ∈ l
  ·rw [if_pos h]
   constructor
   ·rintro (h1 | h1)
    ·exact .inl h1
    ·exact .inr (.inr h1)
   ·rintro (h1 | rfl | h1)
    ·exact .inl h1
    ·exact .inl h
    ·exact .inr h1
  ·rw [if_neg h]
   simp only [List.mem_append, List.mem_singleton, or_assoc]
theorem addsG_pre : ∀ (ys l : List GCall_ref22), ∃ r, ys.foldl addG l = l ++ r
 | [], l => ⟨[], by simp⟩
 | y :: ys, l => by
  obtain ⟨r, hr⟩ := addsG_pre ys (addG l y)
  rw [List.foldl_cons, hr]
  unfold addG
  split
  ·exact ⟨r, rfl⟩
  ·exact ⟨y :: r, by simp⟩
theorem addG_nd {l : List GCall_ref22} (h : l.Nodup) (g : GCall_ref22) : (addG l g).Nodup := by
 unfold addG
 split
 ·exact h
 ·rename_i hn
  exact List.nodup_append.2 ⟨h, by simp, fun x hx y hy => by rw [List.mem_singleton.1 hy]; intro e; exact hn (e ▸ hx)⟩
theorem addsG_nd : ∀ (ys l : List GCall_ref22), l.Nodup → (ys.foldl addG l).Nodup
 | [], _, h => h
 | y :: ys, l, h => by rw [List.foldl_cons]; exact addsG_nd ys _ (addG_nd h y)
theorem runs22_L4 {ys : List GCall_ref22} (hy : ys.length ≤ 2000000) : ∀ (n j : Nat) (l : List GCall_ref22), n + j = ys.length + 1 → j ≤ ys.length → l.length ≤ 1200000 + j →
  ref22_Runs_L4 ys n l (j : Int) = some ((ys.drop j).foldl addG l)
 | 0, j, l, h, hj, _ => by omega
 | n + 1, j, l, h, hj, hl => by
  rw [ref22_Runs_L4]
  by_cases hlt : j < ys.length
  ·rw [if_pos (by simpa using hlt), idx_lt hlt]
   simp only [obs]
   rw [has22_eq (by omega)]
   simp only [obs]
   rw [List.drop_eq_getElem_cons hlt, List.foldl_cons, w64_succ hlt (by omega)]
   by_cases hm : ys[j] ∈ l
   ·have e : addG l ys[j] = l := by unfold addG; rw [if_pos hm]
    rw [if_neg (by simpa using hm), e]
    simp only [obs]
    exact runs22_L4 hy n (j + 1) l (by omega) (by omega) (by omega)
   ·have e : addG l ys[j] = l ++ [ys[j]] := by unfold addG; rw [if_neg hm]
    rw [if_pos (by simpa using hm), room_ok (by simp; omega), e]
    simp only [obs]
    exact runs22_L4 hy n (j + 1) (l ++ [ys[j]]) (by omega) (by omega) (by simp; omega)
  ·rw [if_neg (by simpa using hlt), List.drop_eq_nil_of_le (by omega)]; rfl
def callsAt (p : List GClass) (a : A2 Int) : List GCall_ref22 := match idx p a.a0 with | some c => (match idx c.fMethods a.a1 with | some m => callsG c m | none => []) | none => []
theorem callsAt_spot {p : List GClass} {a : A2 Int} {i k : Nat} {c : GClass} {m : GMethod} (h : Spot p a i k c m) : callsAt p a = callsG c m := by
 unfold callsAt
 rw [h.e]
 simp only [idx_nat, h.hc, h.hm]
def stepR (p : List GClass) (l0 : List GCall_ref22) (s : List GCall_ref22 × List (A2 Int)) (a : A2 Int) : List GCall_ref22 × List (A2 Int) := if runB p l0 a = true then ((callsAt p a).foldl addG s.1, s.2 ++ [a]) else s
def allC (p : List GClass) : List GCall_ref22 := (allG 0 p).flatMap (callsAt p)
structure InvC (p : List GClass) (g0 : GCall_ref22) (l0 l : List GCall_ref22) : Prop where
 pre : ∃ r, l = l0 ++ r
 nd : l.Nodup
 sub : ∀ g ∈ l, g ∈ g0 :: allC p
theorem callsG_len (c : GClass) (m : GMethod) : (callsG c m).length ≤ mLGStmt m.fBody := by
 unfold callsG callsOf
 rw [List.length_map]
 exact Nat.le_trans (List.length_filterMap_le _ _) (preSL_len _ m.fBody 0 (Nat.le_refl _))
theorem allC_len (p : List GClass) : (allC p).length ≤ mLGClass p := by
 have hF : ∀ (c : GClass) (i : Nat) (t : List GMethod) (k : Nat), p[i]? = some c → (∀ j, t[j]? = c.fMethods[k + j]?) → ((allF i k t).flatMap (callsAt p)).length ≤ mLGMethod t := by
  intro c i t
  induction t with
  | nil => intro k _ _; simp [allF]
  | cons m t ih =>
   intro k hc ht
   have h0 := ht 0
   simp only [List.getElem?_cons_zero, Nat.add_zero] at h0
   have h1 := ih (k + 1) hc (fun j => by have := ht (j + 1); simp only [List.getElem?_cons_succ] at this; rw [this]; congr 1; omega)
   have h2 : callsAt p ⟨(i : Int), (k : Int)⟩ = callsG c m := callsAt_spot (i := i) (k := k) ⟨rfl, hc, h0.symm⟩
   have h3 := callsG_len c m
   have h4 : mLGStmt m.fBody ≤ mGMethod m := by cases m; simp [mGMethod]
   simp only [allF, List.flatMap_cons, List.length_append, h2, mLGMethod]; omega
 have hG : ∀ (t : List GClass) (i : Nat), (∀ j, t[j]? = p[i + j]?) → ((allG i t).flatMap (callsAt p)).length ≤ mLGClass t := by
  intro t
  induction t with
  | nil => intro i _; simp [allG]
  | cons c t ih =>
   intro i ht
   have h0 := ht 0
   simp only [List.getElem?_cons_zero, Nat.add_zero] at h0
   have h1 := ih (i + 1) (fun j => by have := ht (j + 1); simp only [List.getElem?_cons_succ] at this; rw [this]; congr 1; omega)
   have h2 := hF c i c.fMethods 0 h0.symm (fun j => by simp)
   have h3 : mLGMethod c.fMethods ≤ mGClass c := by cases c; simp [mGClass]
   simp only [allG, List.flatMap_append, List.length_append, mLGClass]; omega
 exact hG p 0 (fun j => by simp)
theorem mG_le {p : List GClass} (hu : lsum uGClass p ≤ 1048576) : mLGClass p ≤ 1048576 := by
 have hM : ∀ t : List GMethod, mLGMethod t ≤ lsum uGMethod t := by
  intro t
  induction t with
  | nil => simp [mLGMethod, lsum]
  | cons m t ih =>
   have h1 := uM_p m
   have h2 := mLS_sum m.fBody
   have h3 := lsum_le (l := m.fBody) (u := mGStmt) (v := uGStmt) (fun y _ => mS_le y)
   have h4 : mGMethod m = 1 + mLGStmt m.fBody := by cases m; rfl
   simp only [mLGMethod, lsum]; omega
 have hC : ∀ t : List GClass, mLGClass t ≤ lsum uGClass t := by
  intro t
  induction t with
  | nil => simp [mLGClass, lsum]
  | cons c t ih =>
   have h1 := uC_p c
   have h2 := hM c.fMethods
   have h4 : mGClass c = 1 + mLGMethod c.fMethods := by cases c; rfl
   simp only [mLGClass, lsum]; omega
 have := hC p
 omega
theorem InvC.len {p : List GClass} {g0 : GCall_ref22} {l0 l : List GCall_ref22} (h : InvC p g0 l0 l) : l.length ≤ mLGClass p + 1 := by
 have h1 := h.nd.length_le_of_subset (fun g hg => h.sub g hg)
 have h2 := allC_len p
 simp only [List.length_cons] at h1
 omega
theorem InvC.step {p : List GClass} {g0 : GCall_ref22} {l0 l : List GCall_ref22} (h : InvC p g0 l0 l) {a : A2 Int} (ha : ValP p a) (out : List (A2 Int)) : InvC p g0 l0 (stepR p l0 (l, out) a).1 := by
 unfold stepR
 split
 ·obtain ⟨r, hr⟩ := h.pre
  obtain ⟨r2, hr2⟩ := addsG_pre (callsAt p a) l
  refine ⟨⟨r ++ r2, by show (callsAt p a).foldl addG l = l0 ++ (r ++ r2); rw [hr2, hr, List.append_assoc]⟩, addsG_nd _ _ h.nd, fun g hg => ?_⟩
  rcases (mem_addsG _ _).1 hg with hg | hg
  ·exact h.sub g hg
  ·exact List.mem_cons_of_mem _ (List.mem_flatMap.2 ⟨a, mem_all.2 ha, hg⟩)
 ·exact h
theorem runs22_L3 {p : List GClass} (hL : Light p) (hu : lsum uGClass p ≤ 1048576) {g0 : GCall_ref22} {l0 : List GCall_ref22} {i : Nat} {c : GClass} (hc : p[i]? = some c) : ∀ (n k : Nat) (l : List GCall_ref22) (out : List (A2 Int)), n + k = c.fMethods.length + 1 → k ≤ c.fMethods.length → InvC p g0 l0 l → out.length ≤ 40 * i + k →
  ∃ l' out', ref22_Runs_L3 p l0 (i : Int) n l out (k : Int) = some (l', out') ∧ (allF i k (c.fMethods.drop k)).foldl (stepR p l0) (l, out) = (l', out') ∧ InvC p g0 l0 l' ∧ out'.length ≤ 40 * i + c.fMethods.length
 | 0, k, l, out, h, hk, _, _ => by omega
 | n + 1, k, l, out, h, hk, hI, ho => by
  have hcm := List.mem_of_getElem? hc
  have hlc := hL.hl c hcm
  have hp := hL.hp
  obtain ⟨hip, _⟩ := List.getElem?_eq_some_iff.1 hc
  have hll := hI.len
  have hmg := mG_le hu
  rw [ref22_Runs_L3, idx_nat, hc, obs]
  by_cases hlt : k < c.fMethods.length
  ·have hsp : Spot p ⟨(i : Int), (k : Int)⟩ i k c c.fMethods[k] := ⟨rfl, hc, List.getElem?_eq_getElem hlt⟩
   obtain ⟨r, hr⟩ := hI.pre
   have hl0 : l0.length ≤ l.length := by rw [hr]; simp
   have hcut : cutL l 0 (l0.length : Int) = some l0 := by
    have ht : l.take l0.length = l0 := by rw [hr]; simp
    unfold cutL
    rw [if_pos ⟨by omega, by omega, by omega⟩]
    simp [ht]
   have h40 := hlc.2.2.2.1
   rw [if_pos (by simpa using hlt), hcut]
   simp only [obs]
   rw [runs22_eq hL (by omega) hsp]
   simp only [obs]
   rw [List.drop_eq_getElem_cons hlt]
   simp only [allF, List.foldl_cons]
   have hst := hI.step ⟨i, k, c, _, hsp⟩ out
   cases hb : runB p l0 ⟨(i : Int), (k : Int)⟩ with
   | false =>
    have e : stepR p l0 (l, out) ⟨(i : Int), (k : Int)⟩ = (l, out) := by unfold stepR; rw [hb]; simp
    rw [e] at hst ⊢
    simp only [Bool.not_false, if_true, obs]
    rw [w64_succ hlt (by omega)]
    exact runs22_L3 hL hu hc n (k + 1) l out (by omega) (by omega) hI (by omega)
   | true =>
    have e : stepR p l0 (l, out) ⟨(i : Int), (k : Int)⟩ = ((callsAt p ⟨(i : Int), (k : Int)⟩).foldl addG l, out ++ [⟨(i : Int), (k : Int)⟩]) := by unfold stepR; rw [hb]; simp
    rw [e] at hst ⊢
    simp only [Bool.not_true, Bool.false_eq_true, if_false]
    rw [room_ok (by simp; omega)]
    simp only [obs]
    rw [idx_lt hlt]
    simp only [obs]
    rw [ref22_calls_eq hL hu hsp]
    simp only [obs]
    have hcl := callsG_len c c.fMethods[k]
    have hbs := body_small hu hsp
    rw [fuel_len, show (0 : Int) = ((0 : Nat) : Int) from rfl, runs22_L4 (by omega) _ 0 l (by omega) (by omega) (by omega)]
    simp only [obs, List.drop_zero]
    rw [callsAt_spot hsp] at hst ⊢
    rw [w64_succ hlt (by omega)]
    exact runs22_L3 hL hu hc n (k + 1) _ _ (by omega) (by omega) hst (by simp; omega)
  ·rw [if_neg (by simpa using hlt), List.drop_eq_nil_of_le (by omega)]
   exact ⟨l, out, rfl, rfl, hI, by omega⟩
theorem runs22_LL2 {p : List GClass} (hL : Light p) (hu : lsum uGClass p ≤ 1048576) {g0 : GCall_ref22} {l0 : List GCall_ref22} : ∀ (n i : Nat) (l : List GCall_ref22) (out : List (A2 Int)), n + i = p.length + 1 → i ≤ p.length → InvC p g0 l0 l → out.length ≤ 40 * i →
  ∃ l' out', ref22_Runs_L2 p l0 n l out (i : Int) = some (l', out') ∧ (allG i (p.drop i)).foldl (stepR p l0) (l, out) = (l', out') ∧ InvC p g0 l0 l'
 | 0, i, l, out, h, hi, _, _ => by omega
 | n + 1, i, l, out, h, hi, hI, ho => by
  have hp := hL.hp
  rw [ref22_Runs_L2]
  by_cases hlt : i < p.length
  ·have hc : p[i]? = some p[i] := List.getElem?_eq_getElem hlt
   have hlc := hL.hl _ (List.getElem_mem hlt)
   obtain ⟨l1, o1, e1, e2, e3, e4⟩ := runs22_L3 (g0 := g0) (l0 := l0) hL hu hc (p[i].fMethods.length + 1) 0 l out (by omega) (by omega) hI (by omega)
   rw [List.drop_zero] at e2
   obtain ⟨l2, o2, g1, g2, g3⟩ := runs22_LL2 (g0 := g0) (l0 := l0) hL hu n (i + 1) l1 o1 (by omega) (by omega) e3 (by have := hlc.2.2.2.1; omega)
   refine ⟨l2, o2, ?_, ?_, g3⟩
   ·rw [if_pos (by simpa using hlt), idx_lt hlt]
    simp only [obs, Option.getD_some]
    rw [fuel_len, show (0 : Int) = ((0 : Nat) : Int) from rfl, e1]
    simp only [obs]
    rw [w64_succ hlt (by omega)]
    exact g1
   ·rw [List.drop_eq_getElem_cons hlt]
    simp only [allG, List.foldl_append]
    rw [e2, g2]
  ·rw [if_neg (by simpa using hlt), List.drop_eq_nil_of_le (by omega)]
   exact ⟨l, out, rfl, rfl, hI⟩
theorem stepR_out {p : List GClass} {l0 : List GCall_ref22} : ∀ (as' : List (A2 Int)) (s : List GCall_ref22 × List (A2 Int)), (as'.foldl (stepR p l0) s).2 = s.2 ++ as'.filter (runB p l0) ∧ ∀ g, g ∈ (as'.foldl (stepR p l0) s).1 ↔ g ∈ s.1 ∨ ∃ a ∈ as', runB p l0 a = true ∧ g ∈ callsAt p a
 | [], s => by simp
 | a :: as', s => by
  obtain ⟨h1, h2⟩ := stepR_out as' (stepR p l0 s a)
  rw [List.foldl_cons]
  refine ⟨?_, fun g => ?_⟩
  ·rw [h1, List.filter_cons]
   unfold stepR
   split <;> simp
  ·rw [h2]
   simp only [List.mem_cons, exists_eq_or_imp]
   have : g ∈ (stepR p l0 s a).1 ↔ g ∈ s.1 ∨ (runB p l0 a = true ∧ g ∈ callsAt p a) := by
    unfold stepR
    split
    ·rename_i hb
     simp only [mem_addsG, hb, true_and]
    ·rename_i hb
     simp [hb]
   rw [this, or_assoc]
theorem all_sorted (p : List GClass) : (allG 0 p).Pairwise ltA := by
 have hF : ∀ (i : Nat) (t : List GMethod) (k : Nat), (allF i k t).Pairwise ltA := by
  intro i t
  induction t with
  | nil => intro k; simp [allF]
  | cons m t ih =>
   intro k
   simp only [allF]
   refine List.pairwise_cons.2 ⟨fun b hb => ?_, ih (k + 1)⟩
   obtain ⟨j, _, _, rfl⟩ := mem_allF.1 hb
   exact .inr ⟨rfl, by simp only; omega⟩
 have hG : ∀ (t : List GClass) (i : Nat), (allG i t).Pairwise ltA := by
  intro t
  induction t with
  | nil => intro i; simp [allG]
  | cons c t ih =>
   intro i
   simp only [allG]
   refine List.pairwise_append.2 ⟨hF i _ 0, ih (i + 1), fun a ha b hb => ?_⟩
   obtain ⟨j, _, _, rfl⟩ := mem_allF.1 ha
   obtain ⟨j2, _, k2, _, _, _, rfl⟩ := mem_allG.1 hb
   exact .inl (by simp only; omega)
 exact hG p 0
def qG (g : GCall_ref22) : List UInt8 × List UInt8 := (g.fClass, g.fName)
def RC (p : List GClass) (g0 g : GCall_ref22) : Prop := g = g0 ∨ ∃ a, Rch p (qG g0) a ∧ g ∈ callsAt p a
theorem runs22_LL1 {p : List GClass} (hL : Light p) (hu : lsum uGClass p ≤ 1048576) {g0 : GCall_ref22} : ∀ (f : Nat) (l : List GCall_ref22), mLGClass p + 2 ≤ f + l.length → InvC p g0 [g0] l → (∀ g ∈ l, RC p g0 g) →
  ∃ out, ref22_Runs_L1 p f l = some (.stop out) ∧ out.Pairwise ltA ∧ ∀ a, a ∈ out ↔ Rch p (qG g0) a
 | 0, l, hf, hI, hR => by have := hI.len; omega
 | f + 1, l, hf, hI, hR => by
  have hI' : InvC p g0 l l := ⟨⟨[], by simp⟩, hI.nd, hI.sub⟩
  obtain ⟨l', out, e1, e2, e3⟩ := runs22_LL2 (g0 := g0) (l0 := l) hL hu (p.length + 1) 0 l [] (by omega) (by omega) hI' (by simp)
  rw [List.drop_zero] at e2
  obtain ⟨s1, s2⟩ := stepR_out (p := p) (l0 := l) (allG 0 p) (l, [])
  rw [e2] at s1 s2
  simp only [List.nil_append] at s1 s2
  have hrun : ∀ a, runB p l a = true → Rch p (qG g0) a := by
   intro a ha
   obtain ⟨g, hg, c, hc, ht⟩ := runB_iff.1 ha
   rcases hR g hg with rfl | ⟨b, hb, hgb⟩
   ·exact .start hc ht
   ·obtain ⟨i, k, c0, m0, hsp⟩ := hb.val
    rw [callsAt_spot hsp] at hgb
    obtain ⟨q, hq, rfl⟩ := List.mem_map.1 hgb
    exact .step hb hsp hq hc ht
  rw [ref22_Runs_L1, fuel_len, show (0 : Int) = ((0 : Nat) : Int) from rfl, e1]
  simp only [obs]
  obtain ⟨r, hr⟩ := e3.pre
  by_cases hlen : l'.length = l.length
  ·rw [if_pos (by simp [hlen])]
   have hr0 : r = [] := by rw [hr] at hlen; simpa using hlen
   rw [hr0, List.append_nil] at hr
   rw [hr] at s2
   refine ⟨out, rfl, ?_, fun a => ?_⟩
   ·rw [s1]; exact (all_sorted p).filter _
   ·have hfw : ∀ a, runB p l a = true → a ∈ out := fun a ha => by
     rw [s1, List.mem_filter]
     exact ⟨mem_all.2 (hrun a ha).val, ha⟩
    constructor
    ·intro ha
     rw [s1, List.mem_filter] at ha
     exact hrun a ha.2
    ·intro ha
     have hg0 : g0 ∈ l := by
      obtain ⟨t, ht⟩ := hI.pre
      rw [ht]; simp
     induction ha with
     | start hc ht => exact hfw _ (runB_iff.2 ⟨g0, hg0, _, hc, ht⟩)
     | @step a i k c0 m0 q c b h1 h2 h3 h4 h5 ih =>
      rw [s1, List.mem_filter] at ih
      have : mkG q ∈ l := (s2 (mkG q)).2 (.inr ⟨a, ih.1, ih.2, by rw [callsAt_spot h2]; exact List.mem_map.2 ⟨q, h3, rfl⟩⟩)
      exact hfw _ (runB_iff.2 ⟨mkG q, this, _, h4, h5⟩)
  ·have hgt : l.length + 1 ≤ l'.length := by
    rw [hr] at hlen ⊢
    simp only [List.length_append] at hlen ⊢
    omega
   rw [if_neg (by simpa using fun e : (l'.length : Int) = l.length => hlen (by omega))]
   refine runs22_LL1 hL hu f l' (by omega) ⟨?_, e3.nd, e3.sub⟩ fun g hg => ?_
   ·obtain ⟨t, ht⟩ := hI.pre
    exact ⟨t ++ r, by rw [hr, ht, List.append_assoc]⟩
   ·rcases (s2 g).1 hg with hg | ⟨a, _, ha, hga⟩
    ·exact hR g hg
    ·exact .inr ⟨a, hrun a ha, hga⟩
theorem ref22_Runs_eq {p : List GClass} (hL : Light p) (hu : lsum uGClass p ≤ 1048576) (C N : List UInt8) : ∃ r, ref22_Runs p C N = some r ∧ r.Pairwise ltA ∧ ∀ a, a ∈ r ↔ Rch p (C, N) a := by
 obtain ⟨out, e1, e2, e3⟩ := runs22_LL1 (g0 := ⟨C, N⟩) hL hu (mLGClass p + 2) [⟨C, N⟩] (by simp) ⟨⟨[], by simp⟩, by simp, by simp⟩ (by simp [RC])
 refine ⟨out, ?_, e2, e3⟩
 unfold ref22_Runs
 rw [e1]; rfl
theorem law22_PureRuns_true {a0 : List GClass} {a1 a2 : List UInt8} (h0 : listok (fun y => goodGClass y) a0) (_h1 : strok a1) (_h2 : strok a2) (hu : lsum uGClass a0 ≤ 1048576) : law22_PureRuns a0 a1 a2 = some true := by
 have haw := law22_awake_eq
 unfold law22_PureRuns
 obtain ⟨b1, hb1, hb2⟩ := heavy_eqc h0
 rw [hb1, obs]
 cases b1 with
 | true => rw [if_pos rfl, obs, if_pos rfl, haw]; rfl
 | false =>
  obtain ⟨q1, q2⟩ := hb2 rfl
  have hL : Light a0 := ⟨q1, q2⟩
  rw [if_neg (by simp), obs]
  by_cases h8 : (a0.length : Int) > 8
  ·rw [if_pos (by simpa using h8), haw]; rfl
  ·rw [if_neg (by simpa using h8)]
   obtain ⟨r, e1, e2, e3, e4⟩ := pure_Runs_eq hL hu a1 a2
   obtain ⟨r', g1, g2, g3⟩ := ref22_Runs_eq hL hu a1 a2
   have : r' = r := sorted_uniq g2 e2 fun a => (g3 a).trans (e4 a).symm
   subst this
   rw [e1, g1]
   simp only [obs]
   rw [if_neg (by simp)]
   have hLp : ∀ (n k : Nat), n + k = r'.length + 1 → k ≤ r'.length → law22_PureRuns_L1 r' r' n (k : Int) = some (.next ()) := by
    intro n
    induction n with
    | zero => intro k h hk; omega
    | succ n ih =>
     intro k h hk
     rw [law22_PureRuns_L1]
     by_cases hlt : k < r'.length
     ·have e : bA2Int r'[k] r'[k] = true := by unfold bA2Int; simp
      rw [if_pos (by simpa using hlt), idx_lt hlt]
      simp only [obs]
      rw [e, if_neg (by simp), w64_succ hlt (by omega)]
      exact ih (k + 1) (by omega) (by omega)
     ·rw [if_neg (by simpa using hlt)]
   rw [fuel_len, show (0 : Int) = ((0 : Nat) : Int) from rfl, hLp _ 0 (by omega) (by omega)]
   simp only [obs, Ctl.elim]
   rw [haw]; rfl
end Go.Proofs.YtiefoagopfeibaaGreat
