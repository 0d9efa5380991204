/- A part of the proof that the law FlowStmt gives true for every input. -/
import Derived.Test.YthhdlpggmmfaiaaGreatFlowStmtA2
import Derived.Test.YthhdlpggmmfaiaaGreatFlowStmtA3
import Derived.Test.YthhdlpggmmfaiaaGreatFlowStmtT
import Derived.Test.YthhdlpggmmfaiaaGreatFlowStmtA4
import Derived.Test.YthhdlpggmmfaiaaGreatFlowStmtI
import Derived.Test.YthhdlpggmmfaiaaGreatFlowStmtD
/- The plain law. -/
namespace Go.Proofs.YthhdlpggmmfaiaaGreat
open Go.RowKit Go.Abs
def bI (b : BitVec 64) : Int := (b.toNat : Int)
theorem bI_inj {a b : BitVec 64} : bI a = bI b ↔ a = b := by
 unfold bI
 constructor
 ·intro h; exact BitVec.eq_of_toNat_eq (by exact_mod_cast h)
 ·rintro rfl; rfl
theorem ofI_bI (a : BitVec 64) : BitVec.ofInt 64 (bI a) = a := by
 unfold bI; rw [BitVec.ofInt_natCast, BitVec.ofNat_toNat]; simp
theorem wrapU (n : Nat) (h : n < 18446744073709551616) : IntKind.u64.wrap (n : Int) = (n : Int) := by
 have e : IntKind.u64.wrap (n : Int) = (n : Int) % 18446744073709551616 := rfl
 rw [e]; omega
theorem bitsB (f : BitVec 64 → BitVec 64 → BitVec 64) (a b : BitVec 64) : bitsI .u64 f (bI a) (bI b) = bI (f a b) := by
 show IntKind.u64.wrap ((f (BitVec.ofInt 64 (bI a)) (BitVec.ofInt 64 (bI b))).toNat : Int) = _
 rw [ofI_bI, ofI_bI, wrapU _ (f a b).isLt]; rfl
theorem andB (a b : BitVec 64) : andI .u64 (bI a) (bI b) = bI (a &&& b) := bitsB _ a b
theorem orB (a b : BitVec 64) : orI .u64 (bI a) (bI b) = bI (a ||| b) := bitsB _ a b
theorem notB (a b : BitVec 64) : notI .u64 (bI a) (bI b) = bI (a &&& ~~~b) := bitsB _ a b
theorem shlB (j : Nat) (h : j < 64) : shlI .u64 1 (j : Int) = some (bI (BitVec.twoPow 64 j)) := by
 unfold shlI
 rw [if_pos (by omega)]
 have h2 : (2 : Nat) ^ j < 18446744073709551616 := by
  have : (2 : Nat) ^ j < 2 ^ 64 := Nat.pow_lt_pow_right (by omega) h
  simpa using this
 have e : min ((j : Nat) : Int).toNat IntKind.u64.bits = j := by show min _ 64 = _; omega
 rw [e]
 have e2 : (1 : Int) * 2 ^ j = ((2 ^ j : Nat) : Int) := by simp
 rw [e2, wrapU _ h2]
 unfold bI
 rw [BitVec.toNat_twoPow, Nat.mod_eq_of_lt (by simpa using h2)]
def oneB (j : Nat) : BitVec 64 := BitVec.twoPow 64 j
theorem has_one (a : BitVec 64) {j : Nat} (h : j < 64) : (bI (a &&& oneB j) != bI (oneB j)) = !a.getLsbD j := by
 unfold oneB
 rw [BitVec.and_twoPow]
 have hne : bI (0#64) ≠ bI (BitVec.twoPow 64 j) := by
  rw [Ne, bI_inj]
  intro e
  have := congrArg (fun x => BitVec.getLsbD x j) e
  simp [BitVec.getLsbD_twoPow, h] at this
 cases a.getLsbD j with
 | true => simp
 | false => simpa using hne
theorem nz_one (a : BitVec 64) {j : Nat} (h : j < 64) : (bI (a &&& oneB j) != 0) = a.getLsbD j := by
 unfold oneB
 rw [BitVec.and_twoPow]
 cases hj : a.getLsbD j with
 | true =>
  have : bI (BitVec.twoPow 64 j) ≠ bI 0#64 := by
   rw [Ne, bI_inj]
   intro e
   have := congrArg (fun x => BitVec.getLsbD x j) e
   simp [BitVec.getLsbD_twoPow, h] at this
  simpa [bI] using this
 | false => simp [bI]
theorem get_or (a : BitVec 64) {i j : Nat} (h : j < 64) : (a ||| oneB j).getLsbD i = (a.getLsbD i || decide (j = i)) := by
 unfold oneB; rw [BitVec.getLsbD_or, BitVec.getLsbD_twoPow]; simp [h]
theorem get_not (a : BitVec 64) {i j : Nat} (h : j < 64) (hi : i < 64) : (a &&& ~~~oneB j).getLsbD i = (a.getLsbD i && !decide (j = i)) := by
 unfold oneB; rw [BitVec.getLsbD_and, BitVec.getLsbD_not, BitVec.getLsbD_twoPow]; simp [h, hi]
def Tot {α : Type} (o : Option α) : Prop := ∃ r, o = some r
theorem tot_some {α : Type} (x : α) : Tot (some x) := ⟨x, rfl⟩
theorem tot_bind {α β : Type} {a : Option α} {f : α → Option β} (h : Tot a) (h2 : ∀ x, a = some x → Tot (f x)) : Tot (Option.bind a f) := by
 obtain ⟨x, rfl⟩ := h
 exact h2 x rfl
theorem tot_ite {α : Type} {b : Bool} {x y : Option α} (h1 : b = true → Tot x) (h2 : b = false → Tot y) : Tot (if b = true then x else y) := by
 cases b with
 | true => exact h1 rfl
 | false => exact h2 rfl
theorem tot_elim {R S α : Type} {r : Ctl R S} {f : R → Option α} {g : S → Option α} (h1 : ∀ v, Tot (f v)) (h2 : ∀ s, Tot (g s)) : Tot (Ctl.elim r f g) := by
 cases r with
 | stop v => exact h1 v
 | next s => exact h2 s
theorem tot_loop1 {ρ : Type} (F : Nat → Int → Option ρ) (len : Nat) (h1 : ∀ (n k : Nat), k < len → Tot (F n ((k + 1 : Nat) : Int)) → Tot (F (n + 1) (k : Int))) (h2 : ∀ (n k : Nat), ¬ k < len → Tot (F (n + 1) (k : Int))) :
  ∀ (n k : Nat), n + k = len + 1 → k ≤ len → Tot (F n (k : Int))
 | 0, k, h, hk => by omega
 | n + 1, k, h, hk => by
  by_cases hlt : k < len
  ·exact h1 n k hlt (tot_loop1 F len h1 h2 n (k + 1) (by omega) (by omega))
  ·exact h2 n k hlt
theorem tot_loop2 {σ ρ : Type} (F : Nat → σ → Int → Option ρ) (len : Nat) (h1 : ∀ (n k : Nat) (s : σ), k < len → (∀ s', Tot (F n s' ((k + 1 : Nat) : Int))) → Tot (F (n + 1) s (k : Int))) (h2 : ∀ (n k : Nat) (s : σ), ¬ k < len → Tot (F (n + 1) s (k : Int))) :
  ∀ (n k : Nat) (s : σ), n + k = len + 1 → k ≤ len → Tot (F n s (k : Int))
 | 0, k, s, h, hk => by omega
 | n + 1, k, s, h, hk => by
  by_cases hlt : k < len
  ·exact h1 n k s hlt (fun s' => tot_loop2 F len h1 h2 n (k + 1) s' (by omega) (by omega))
  ·exact h2 n k s hlt
theorem fuel_len (m : Nat) : (((m : Int) : Int) - (0)).toNat + 1 = m + 1 := by omega
def TP {α : Type} (Q : α → Prop) (o : Option α) : Prop := ∃ r, o = some r ∧ Q r
theorem tp_some {α : Type} {Q : α → Prop} {x : α} (h : Q x) : TP Q (some x) := ⟨x, rfl, h⟩
theorem tp_bind {α β : Type} {R : α → Prop} {Q : β → Prop} {a : Option α} {f : α → Option β} (h : TP R a) (h2 : ∀ x, R x → TP Q (f x)) : TP Q (Option.bind a f) := by
 obtain ⟨x, rfl, hx⟩ := h
 exact h2 x hx
theorem tp_ite {α : Type} {Q : α → Prop} {b : Bool} {x y : Option α} (h1 : b = true → TP Q x) (h2 : b = false → TP Q y) : TP Q (if b = true then x else y) := by
 cases b with
 | true => exact h1 rfl
 | false => exact h2 rfl
theorem tp_of {α : Type} {o : Option α} (h : Tot o) : TP (fun _ => True) o := by obtain ⟨r, h⟩ := h; exact ⟨r, h, trivial⟩
theorem tot_of {α : Type} {Q : α → Prop} {o : Option α} (h : TP Q o) : Tot o := by obtain ⟨r, h, _⟩ := h; exact ⟨r, h⟩
theorem lsum_mem {α : Type} {u : α → Nat} {l : List α} {y : α} : y ∈ l → u y ≤ lsum u l := by
 induction l with
 | nil => intro h; simp at h
 | cons x l ih =>
  intro h
  simp only [lsum]
  rcases List.mem_cons.1 h with rfl | h
  ·omega
  ·have := ih h; omega
theorem len_lsum {α : Type} {u : α → Nat} (h : ∀ y, 1 ≤ u y) : ∀ l : List α, l.length ≤ lsum u l
 | [] => Nat.le_refl _
 | x :: l => by simp only [lsum, List.length_cons]; have := h x; have := len_lsum h l; omega
theorem lsum_le {α : Type} {u v : α → Nat} : ∀ {l : List α}, (∀ y ∈ l, u y ≤ v y) → lsum u l ≤ lsum v l
 | [], _ => Nat.le_refl _
 | x :: l, h => by simp only [lsum]; have := h x (by simp); have := lsum_le (l := l) (fun y hy => h y (by simp [hy])); omega
theorem lsum_drop {α : Type} (u : α → Nat) {l : List α} {k : Nat} (h : k < l.length) : lsum u (l.drop k) = u l[k] + lsum u (l.drop (k + 1)) := by rw [List.drop_eq_getElem_cons h]; rfl
theorem u1_str (s : List UInt8) : 1 ≤ List.length s + 1 := by omega
theorem u1_O (x : GOwner) : 1 ≤ uGOwner x := by unfold uGOwner; omega
theorem u1_V (x : GVar) : 1 ≤ uGVar x := by unfold uGVar; omega
theorem u1_E (x : GExpr) : 1 ≤ uGExpr x := by rw [uGExpr_eq]; omega
theorem u1_S (x : GStmt) : 1 ≤ uGStmt x := by rw [uGStmt_eq]; omega
theorem u1_M (x : GMethod) : 1 ≤ uGMethod x := by unfold uGMethod; omega
theorem u1_C (x : GClass) : 1 ≤ uGClass x := by unfold uGClass; omega
theorem uT_p (x : GType) : x.fClass.length < uGType x := by unfold uGType; omega
theorem uV_p (x : GVar) : x.fName.length < uGVar x ∧ uGType x.fType < uGVar x := by unfold uGVar; omega
theorem uE_p (x : GExpr) : x.fName.length < uGExpr x ∧ lsum uGExpr x.fKids < uGExpr x := by rw [uGExpr_eq]; omega
theorem uS_p (x : GStmt) : x.fX.length < uGStmt x ∧ x.fY.length < uGStmt x ∧ x.fName.length < uGStmt x ∧ uGType x.fType < uGStmt x ∧ uGExpr x.fE < uGStmt x ∧ lsum uGExpr x.fArgs < uGStmt x ∧ 1 + lsum uGStmt x.fBody + lsum uGStmt x.fElse < uGStmt x := by rw [uGStmt_eq]; omega
theorem uM_p (x : GMethod) : x.fName.length < uGMethod x ∧ uGType x.fRet < uGMethod x ∧ 1 + lsum uGVar x.fParams + lsum uGVar x.fLocals + lsum uGStmt x.fBody < uGMethod x := by unfold uGMethod; omega
theorem uC_p (x : GClass) : x.fName.length < uGClass x ∧ lsum (fun s => List.length s + 1) x.fParams < uGClass x ∧ x.fSuper.length < uGClass x ∧ lsum uGOwner x.fAbove < uGClass x ∧ lsum uGVar x.fFields + lsum uGMethod x.fMethods < uGClass x := by unfold uGClass; omega
theorem mLE_sum : ∀ l : List GExpr, mLGExpr l = lsum mGExpr l
 | [] => by simp only [mLGExpr, lsum]
 | x :: l => by simp only [mLGExpr, lsum, mLE_sum l]
theorem mLS_sum : ∀ l : List GStmt, mLGStmt l = lsum mGStmt l
 | [] => by simp only [mLGStmt, lsum]
 | x :: l => by simp only [mLGStmt, lsum, mLS_sum l]
theorem mE_eq (e : GExpr) : mGExpr e = 1 + lsum mGExpr e.fKids := by rw [← mLE_sum]; cases e; simp only [mGExpr]
theorem mS_eq (e : GStmt) : mGStmt e = 1 + mGExpr e.fE + lsum mGExpr e.fArgs + lsum mGStmt e.fBody + lsum mGStmt e.fElse := by rw [← mLS_sum, ← mLS_sum, ← mLE_sum]; cases e; simp only [mGStmt]
theorem mE_u : ∀ (n : Nat) (e : GExpr), mGExpr e ≤ n → mGExpr e ≤ uGExpr e
 | 0, e, h => by rw [mE_eq] at h; omega
 | n + 1, e, h => by
  rw [mE_eq] at h
  rw [mE_eq]
  have := (uE_p e).2
  have := lsum_le (u := mGExpr) (v := uGExpr) (l := e.fKids) (fun y hy => mE_u n y (by have := lsum_mem (u := mGExpr) hy; omega))
  omega
theorem mE_le (e : GExpr) : mGExpr e ≤ uGExpr e := mE_u _ e (Nat.le_refl _)
theorem mS_u : ∀ (n : Nat) (e : GStmt), mGStmt e ≤ n → mGStmt e ≤ uGStmt e
 | 0, e, h => by rw [mS_eq] at h; omega
 | n + 1, e, h => by
  rw [mS_eq] at h
  rw [mS_eq, uGStmt_eq]
  have h1 := lsum_le (u := mGExpr) (v := uGExpr) (l := e.fArgs) (fun y _ => mE_le y)
  have h2 := lsum_le (u := mGStmt) (v := uGStmt) (l := e.fBody) (fun y hy => mS_u n y (by have := lsum_mem (u := mGStmt) hy; omega))
  have h3 := lsum_le (u := mGStmt) (v := uGStmt) (l := e.fElse) (fun y hy => mS_u n y (by have := lsum_mem (u := mGStmt) hy; omega))
  have h4 := mE_le e.fE
  omega
theorem mS_le (e : GStmt) : mGStmt e ≤ uGStmt e := mS_u _ e (Nat.le_refl _)
theorem tot_Letter (b : Int) : Tot (ref02_Letter b) := by
 unfold ref02_Letter
 repeat (first | exact tot_some _ | refine tot_ite (fun _ => ?_) fun _ => ?_)
theorem tot_Digit (b : Int) : Tot (ref02_Digit b) := by
 unfold ref02_Digit
 repeat (first | exact tot_some _ | refine tot_ite (fun _ => ?_) fun _ => ?_)
theorem tot_Find (s : List UInt8) : Tot (ref02_Find s) := by
 unfold ref02_Find
 refine tot_bind (show Tot ref02_Words from tot_some _) fun W hW => ?_
 have hl : W.length ≤ 9223372036854775807 := by unfold ref02_Words at hW; cases hW; simp
 rw [fuel_len]
 refine tot_bind ?_ fun _ _ => tot_elim (fun _ => tot_some _) fun _ => tot_some _
 refine tot_loop1 (ref02_Find_L1 s W) W.length (fun m k hlt ih => ?_) (fun m k hlt => ?_) _ 0 (by omega) (by omega)
 ·rw [ref02_Find_L1, if_pos (by simpa using hlt), idx_lt hlt, w64_succ hlt hl, obs]
  exact tot_ite (fun _ => tot_some _) fun _ => ih
 ·rw [ref02_Find_L1, if_neg (by simpa using hlt)]; exact tot_some _
theorem tot_Name {s : List UInt8} (h : s.length ≤ 9223372036854775807) : Tot (ref02_Name s) := by
 unfold ref02_Name
 rw [fuel_len]
 refine tot_bind (tot_ite (fun _ => tot_some _) fun h1 => tot_ite (fun _ => tot_some _) fun _ => ?_) fun _ _ => tot_ite (fun _ => tot_some _) fun _ => tot_bind ?_ fun _ _ => tot_elim (fun _ => tot_some _) fun _ => tot_some _
 ·have h0 : 0 < s.length := by simp at h1; omega
  rw [show (0 : Int) = ((0 : Nat) : Int) from rfl, idx_lt h0, obs]
  exact tot_bind (tot_Letter _) fun _ _ => tot_ite (fun _ => tot_some _) fun _ => tot_bind (tot_Find _) fun _ _ => tot_some _
 ·refine tot_loop1 (ref02_Name_L1 s) s.length (fun m k hlt ih => ?_) (fun m k hlt => ?_) _ 0 (by omega) (by omega)
  ·rw [ref02_Name_L1, if_pos (by simpa using hlt), idx_lt hlt, w64_succ hlt h]
   simp only [obs]
   exact tot_bind (tot_bind (tot_Letter _) fun _ _ => tot_ite (fun _ => tot_bind (tot_Digit _) fun _ _ => tot_some _) fun _ => tot_some _) fun _ _ => tot_ite (fun _ => tot_some _) fun _ => ih
  ·rw [ref02_Name_L1, if_neg (by simpa using hlt)]; exact tot_some _
theorem tot_ORight (o : GOwner) (n : Int) : Tot (ref04_Right o n) := by
 unfold ref04_Right
 repeat (first | exact tot_some _ | refine tot_ite (fun _ => ?_) fun _ => ?_)
theorem tot_TRight {t : GType} (n : Int) (h : t.fClass.length ≤ 9223372036854775807) : Tot (ref05_Right t n) := by
 unfold ref05_Right
 rw [show (((4 : Int) : Int) - (0)).toNat + 1 = t.fOwn.l.length + 1 from rfl]
 refine tot_bind (tot_ite (fun _ => tot_some _) fun _ => tot_some _) fun _ _ => tot_ite (fun _ => tot_some _) fun _ => tot_bind ?_ fun _ _ => tot_ite (fun _ => tot_some _) fun _ => tot_bind ?_ fun _ _ => tot_elim (fun _ => tot_some _) fun _ => tot_some _
 ·exact tot_ite (fun _ => tot_some _) fun _ => tot_bind (tot_Name h) fun _ _ => tot_ite (fun _ => tot_some _) fun _ => tot_ite (fun _ => tot_some _) fun _ => tot_some _
 ·refine tot_loop1 (ref05_Right_L1 t n) t.fOwn.l.length (fun m k hlt ih => ?_) (fun m k hlt => ?_) _ 0 (by omega) (by omega)
  ·have h4 : t.fOwn.l.length = 4 := rfl
   rw [ref05_Right_L1, if_pos (by simp; omega), idx_lt hlt, w64_succ hlt (by omega), obs]
   refine tot_bind ?_ fun _ _ => tot_ite (fun _ => tot_some _) fun _ => ih
   repeat (first | exact tot_some _ | exact tot_ORight _ _ | refine tot_ite (fun _ => ?_) fun _ => ?_ | refine tot_bind ?_ fun _ _ => ?_)
  ·have h4 : t.fOwn.l.length = 4 := rfl
   rw [ref05_Right_L1, if_neg (by simp; omega)]; exact tot_some _
theorem tot_ESame : ∀ (n : Nat) (a b : GExpr), mGExpr a < n → n ≤ 9223372036854775807 → Tot (ref06_Same n a b)
 | 0, a, b, h, _ => by omega
 | n + 1, a, b, h, hn => by
  rw [mE_eq] at h
  have hl := len_lsum (u := mGExpr) (fun y => by rw [mE_eq]; omega) a.fKids
  simp only [ref06_Same, fuel_len]
  by_cases hk : ((a.fKids.length : Int) != (b.fKids.length : Int)) = true
  ·refine tot_bind (a := _) (f := _) ?_ fun x hx => tot_ite (fun _ => tot_some _) fun hf => ?_
   ·exact tot_ite (fun _ => tot_some _) fun _ => tot_ite (fun _ => tot_some _) fun _ => tot_ite (fun _ => tot_some _) fun _ => tot_some _
   ·exfalso
    subst hf
    rw [hk] at hx
    revert hx
    split
    ·intro h; cases h
    ·split
     ·intro h; cases h
     ·split
      ·intro h; cases h
      ·intro h; cases h
  ·have hlen : a.fKids.length = b.fKids.length := by simp at hk; omega
   refine tot_bind (tot_ite (fun _ => tot_some _) fun _ => tot_ite (fun _ => tot_some _) fun _ => tot_ite (fun _ => tot_some _) fun _ => tot_some _) fun _ _ => tot_ite (fun _ => tot_some _) fun _ => tot_bind ?_ fun _ _ => tot_elim (fun _ => tot_some _) fun _ => tot_some _
   refine tot_loop1 (ref06_Same_L1 a b (ref06_Same n)) a.fKids.length (fun m k hlt ih => ?_) (fun m k hlt => ?_) _ 0 (by omega) (by omega)
   ·rw [ref06_Same_L1, if_pos (by simpa using hlt), idx_lt hlt, idx_lt (show k < b.fKids.length by omega), w64_succ hlt (by omega), obs, obs]
    have := lsum_mem (u := mGExpr) (List.getElem_mem hlt)
    exact tot_bind (tot_ESame n _ _ (by omega) (by omega)) fun _ _ => tot_ite (fun _ => tot_some _) fun _ => ih
   ·rw [ref06_Same_L1, if_neg (by simpa using hlt)]; exact tot_some _
theorem tot_kids6 (k : Int) : Tot (ref06_kids k) := by
 unfold ref06_kids
 repeat (first | exact tot_some _ | refine tot_ite (fun _ => ?_) fun _ => ?_ | refine tot_bind ?_ fun _ _ => ?_)
theorem tot_Eform : ∀ (n : Nat) (e : GExpr), mGExpr e < n → uGExpr e ≤ 1048576 → Tot (ref06_form n e)
 | 0, e, h, _ => by omega
 | n + 1, e, h, hu => by
  rw [mE_eq] at h
  have hp := uE_p e
  have hl := len_lsum u1_E e.fKids
  have hN : Tot (ref02_Name e.fName) := tot_Name (by omega)
  simp only [ref06_form, fuel_len]
  refine tot_bind ?_ fun _ _ => tot_ite (fun _ => tot_some _) fun _ => tot_bind ?_ fun _ _ => tot_elim (fun _ => tot_some _) fun _ => tot_some _
  ·repeat (first | exact tot_some _ | exact hN | exact tot_kids6 _ | refine tot_ite (fun _ => ?_) fun _ => ?_ | refine tot_bind ?_ fun _ _ => ?_)
  ·refine tot_loop1 (ref06_form_L1 e (ref06_form n)) e.fKids.length (fun m k hlt ih => ?_) (fun m k hlt => ?_) _ 0 (by omega) (by omega)
   ·rw [ref06_form_L1, if_pos (by simpa using hlt), idx_lt hlt, w64_succ hlt (by omega), obs, obs]
    have h1 := lsum_mem (u := mGExpr) (List.getElem_mem hlt)
    have h2 := lsum_mem (u := uGExpr) (List.getElem_mem hlt)
    refine tot_bind (tot_bind (tot_Eform n _ (by omega) (by omega)) fun _ _ => ?_) fun _ _ => tot_ite (fun _ => tot_some _) fun _ => ih
    repeat (first | exact tot_some _ | refine tot_ite (fun _ => ?_) fun _ => ?_)
   ·rw [ref06_form_L1, if_neg (by simpa using hlt)]; exact tot_some _
theorem tot_EDeep : ∀ (n : Nat) (e : GExpr), mGExpr e < n → uGExpr e ≤ 1048576 → Tot (ref06_Deep n e)
 | 0, e, h, _ => by omega
 | n + 1, e, h, hu => by
  rw [mE_eq] at h
  have hp := uE_p e
  have hl := len_lsum u1_E e.fKids
  simp only [ref06_Deep, fuel_len]
  refine tot_bind ?_ fun _ _ => tot_some _
  refine tot_loop2 (ref06_Deep_L1 e (ref06_Deep n)) e.fKids.length (fun m k s hlt ih => ?_) (fun m k s hlt => ?_) _ 0 _ (by omega) (by omega)
  ·rw [ref06_Deep_L1, if_pos (by simpa using hlt), idx_lt hlt, w64_succ hlt (by omega), obs]
   have h1 := lsum_mem (u := mGExpr) (List.getElem_mem hlt)
   have h2 := lsum_mem (u := uGExpr) (List.getElem_mem hlt)
   exact tot_bind (tot_EDeep n _ (by omega) (by omega)) fun _ _ => ih _
  ·rw [ref06_Deep_L1, if_neg (by simpa using hlt)]; exact tot_some _
theorem tot_ERight {e : GExpr} (hu : uGExpr e ≤ 1048576) : Tot (ref06_Right e) := by
 unfold ref06_Right
 exact tot_bind (tot_Eform _ _ (by omega) hu) fun _ _ => tot_ite (fun _ => tot_bind (tot_EDeep _ _ (by omega) hu) fun _ _ => tot_some _) fun _ => tot_some _
theorem tp_Blank (s : GStmt) : TP (fun y => mGExpr y.fE ≤ mGExpr s.fE + 1) (ref08_Blank s) := by
 unfold ref08_Blank
 have b : ∀ {b : Option Bool} (_ : Tot b), TP (fun _ => True) b := fun h => tp_of h
 have e1 : mGExpr ({ fKind := 0, fNum := 0, fName := [], fKids := [] } : GExpr) = 1 := by rw [mE_eq]; rfl
 refine tp_bind (R := fun y : GStmt => mGExpr y.fE ≤ mGExpr s.fE + 1) (tp_bind (b ?_) fun x _ => tp_ite (fun _ => tp_some (by simp)) fun _ => tp_some (by simp)) fun y1 h1 => ?_
 ·repeat (first | exact tot_some _ | refine tot_ite (fun _ => ?_) fun _ => ?_)
 refine tp_bind (R := fun y : GStmt => mGExpr y.fE ≤ mGExpr s.fE + 1) (tp_bind (b ?_) fun x _ => tp_ite (fun _ => tp_some h1) fun _ => tp_some h1) fun y2 h2 => ?_
 ·repeat (first | exact tot_some _ | refine tot_ite (fun _ => ?_) fun _ => ?_)
 refine tp_bind (R := fun y : GStmt => mGExpr y.fE ≤ mGExpr s.fE + 1) (tp_bind (b ?_) fun x _ => tp_ite (fun _ => tp_some h2) fun _ => tp_some h2) fun y3 h3 => ?_
 ·repeat (first | exact tot_some _ | refine tot_ite (fun _ => ?_) fun _ => ?_)
 refine tp_bind (R := fun y : GStmt => mGExpr y.fE ≤ mGExpr s.fE + 1) (tp_bind (b ?_) fun x _ => tp_ite (fun _ => tp_some h3) fun _ => tp_some h3) fun y4 h4 => ?_
 ·repeat (first | exact tot_some _ | refine tot_ite (fun _ => ?_) fun _ => ?_)
 refine tp_bind (R := fun y : GStmt => mGExpr y.fE ≤ mGExpr s.fE + 1) (tp_bind (b ?_) fun x _ => tp_ite (fun _ => tp_some (by show mGExpr ({ fKind := 0, fNum := 0, fName := [], fKids := [] } : GExpr) ≤ _; omega)) fun _ => tp_some h4) fun y5 h5 => ?_
 ·repeat (first | exact tot_some _ | refine tot_ite (fun _ => ?_) fun _ => ?_)
 refine tp_bind (R := fun y : GStmt => mGExpr y.fE ≤ mGExpr s.fE + 1) (tp_ite (fun _ => tp_some h5) fun _ => tp_some h5) fun y6 h6 => ?_
 refine tp_bind (R := fun y : GStmt => mGExpr y.fE ≤ mGExpr s.fE + 1) (tp_bind (b ?_) fun x _ => tp_ite (fun _ => tp_some h6) fun _ => tp_some h6) fun y7 h7 => ?_
 ·repeat (first | exact tot_some _ | refine tot_ite (fun _ => ?_) fun _ => ?_)
 exact tp_ite (fun _ => tp_some h7) fun _ => tp_some h7
theorem tot_only {s : GStmt} (hu : uGStmt s ≤ 1048576) : Tot (ref08_only s) := by
 unfold ref08_only
 have hp := uS_p s
 have hm := mE_le s.fE
 have e1 : mGExpr ({ fKind := 0, fNum := 0, fName := [], fKids := [] } : GExpr) = 1 := by rw [mE_eq]; rfl
 refine tot_of (tp_bind (tp_Blank s) fun y hy => tp_of ?_)
 have hS : Tot (ref06_Same (mGExpr y.fE + mGExpr ({ fKind := 0, fNum := 0, fName := [], fKids := [] } : GExpr) + 1) y.fE ({ fKind := 0, fNum := 0, fName := [], fKids := [] } : GExpr)) := tot_ESame _ _ _ (by omega) (by omega)
 repeat (first | exact tot_some _ | exact hS | refine tot_ite (fun _ => ?_) fun _ => ?_ | refine tot_bind ?_ fun _ _ => ?_)
theorem tot_Snames {s : GStmt} (n : Int) (hu : uGStmt s ≤ 1048576) : Tot (ref08_names s n) := by
 unfold ref08_names
 have hp := uS_p s
 have ht := uT_p s.fType
 have h1 : Tot (ref02_Name s.fX) := tot_Name (by omega)
 have h2 : Tot (ref02_Name s.fY) := tot_Name (by omega)
 have h3 : Tot (ref02_Name s.fName) := tot_Name (by omega)
 have h4 : Tot (ref05_Right s.fType n) := tot_TRight _ (by omega)
 repeat (first | exact tot_some _ | exact h1 | exact h2 | exact h3 | exact h4 | refine tot_ite (fun _ => ?_) fun _ => ?_ | refine tot_bind ?_ fun _ _ => ?_)
theorem tot_tells {s : GStmt} (hu : uGStmt s ≤ 1048576) : Tot (ref08_tells s) := by
 unfold ref08_tells
 rw [fuel_len]
 have hp := uS_p s
 have hm := mE_le s.fE
 have hl := len_lsum u1_E s.fArgs
 have e1 : mGExpr ({ fKind := 0, fNum := 0, fName := [], fKids := [] } : GExpr) = 1 := by rw [mE_eq]; rfl
 have hS : Tot (ref06_Same (mGExpr s.fE + mGExpr ({ fKind := 0, fNum := 0, fName := [], fKids := [] } : GExpr) + 1) s.fE ({ fKind := 0, fNum := 0, fName := [], fKids := [] } : GExpr)) := tot_ESame _ _ _ (by omega) (by omega)
 have hR : Tot (ref06_Right s.fE) := tot_ERight (by omega)
 have hL : Tot (ref08_tells_L1 s (s.fArgs.length + 1) 0) := by
  refine tot_loop1 (ref08_tells_L1 s) s.fArgs.length (fun m k hlt ih => ?_) (fun m k hlt => ?_) _ 0 (by omega) (by omega)
  ·rw [ref08_tells_L1, if_pos (by simpa using hlt), idx_lt hlt, w64_succ hlt (by omega), obs]
   have h2 := lsum_mem (u := uGExpr) (List.getElem_mem hlt)
   exact tot_bind (tot_ERight (by omega)) fun _ _ => tot_ite (fun _ => tot_some _) fun _ => ih
  ·rw [ref08_tells_L1, if_neg (by simpa using hlt)]; exact tot_some _
 repeat (first | exact tot_some _ | exact hS | exact hR | exact hL | refine tot_ite (fun _ => ?_) fun _ => ?_ | refine tot_elim (fun _ => ?_) fun _ => ?_ | refine tot_bind ?_ fun _ _ => ?_)
theorem tot_Sform : ∀ (n : Nat) (s : GStmt) (p : Int), mGStmt s < n → uGStmt s ≤ 1048576 → Tot (ref08_form n s p)
 | 0, s, p, h, _ => by omega
 | n + 1, s, p, h, hu => by
  rw [mS_eq] at h
  have hp := uS_p s
  have hl1 := len_lsum u1_S s.fBody
  have hl2 := len_lsum u1_S s.fElse
  simp only [ref08_form, fuel_len]
  have hL1 : Tot (ref08_form_L1 s p (ref08_form n) (s.fBody.length + 1) 0) := by
   refine tot_loop1 (ref08_form_L1 s p (ref08_form n)) s.fBody.length (fun m k hlt ih => ?_) (fun m k hlt => ?_) _ 0 (by omega) (by omega)
   ·rw [ref08_form_L1, if_pos (by simpa using hlt), idx_lt hlt, w64_succ hlt (by omega), obs]
    have h1 := lsum_mem (u := mGStmt) (List.getElem_mem hlt)
    have h2 := lsum_mem (u := uGStmt) (List.getElem_mem hlt)
    exact tot_bind (tot_Sform n _ _ (by omega) (by omega)) fun _ _ => tot_ite (fun _ => tot_some _) fun _ => ih
   ·rw [ref08_form_L1, if_neg (by simpa using hlt)]; exact tot_some _
  have hL2 : Tot (ref08_form_L2 s p (ref08_form n) (s.fElse.length + 1) 0) := by
   refine tot_loop1 (ref08_form_L2 s p (ref08_form n)) s.fElse.length (fun m k hlt ih => ?_) (fun m k hlt => ?_) _ 0 (by omega) (by omega)
   ·rw [ref08_form_L2, if_pos (by simpa using hlt), idx_lt hlt, w64_succ hlt (by omega), obs]
    have h1 := lsum_mem (u := mGStmt) (List.getElem_mem hlt)
    have h2 := lsum_mem (u := uGStmt) (List.getElem_mem hlt)
    exact tot_bind (tot_Sform n _ _ (by omega) (by omega)) fun _ _ => tot_ite (fun _ => tot_some _) fun _ => ih
   ·rw [ref08_form_L2, if_neg (by simpa using hlt)]; exact tot_some _
  have h1 := tot_only hu
  have h2 := tot_Snames p hu
  have h3 := tot_tells hu
  repeat (first | exact tot_some _ | exact hL1 | exact hL2 | exact h1 | exact h2 | exact h3 | refine tot_ite (fun _ => ?_) fun _ => ?_ | refine tot_elim (fun _ => ?_) fun _ => ?_ | refine tot_bind ?_ fun _ _ => ?_)
theorem tot_SDeep : ∀ (n : Nat) (s : GStmt), mGStmt s < n → uGStmt s ≤ 1048576 → Tot (ref08_Deep n s)
 | 0, s, h, _ => by omega
 | n + 1, s, h, hu => by
  rw [mS_eq] at h
  have hp := uS_p s
  have hl1 := len_lsum u1_S s.fBody
  have hl2 := len_lsum u1_S s.fElse
  simp only [ref08_Deep, fuel_len]
  refine tot_bind ?_ fun _ _ => tot_bind ?_ fun _ _ => tot_some _
  ·refine tot_loop2 (ref08_Deep_L1 s (ref08_Deep n)) s.fBody.length (fun m k x hlt ih => ?_) (fun m k x hlt => ?_) _ 0 _ (by omega) (by omega)
   ·rw [ref08_Deep_L1, if_pos (by simpa using hlt), idx_lt hlt, w64_succ hlt (by omega), obs]
    have h1 := lsum_mem (u := mGStmt) (List.getElem_mem hlt)
    have h2 := lsum_mem (u := uGStmt) (List.getElem_mem hlt)
    exact tot_bind (tot_SDeep n _ (by omega) (by omega)) fun _ _ => ih _
   ·rw [ref08_Deep_L1, if_neg (by simpa using hlt)]; exact tot_some _
  ·refine tot_loop2 (ref08_Deep_L2 s (ref08_Deep n)) s.fElse.length (fun m k x hlt ih => ?_) (fun m k x hlt => ?_) _ 0 _ (by omega) (by omega)
   ·rw [ref08_Deep_L2, if_pos (by simpa using hlt), idx_lt hlt, w64_succ hlt (by omega), obs]
    have h1 := lsum_mem (u := mGStmt) (List.getElem_mem hlt)
    have h2 := lsum_mem (u := uGStmt) (List.getElem_mem hlt)
    exact tot_bind (tot_SDeep n _ (by omega) (by omega)) fun _ _ => ih _
   ·rw [ref08_Deep_L2, if_neg (by simpa using hlt)]; exact tot_some _
theorem tot_SRight {s : GStmt} (p : Int) (hu : uGStmt s ≤ 1048576) : Tot (ref08_Right s p) := by
 unfold ref08_Right
 exact tot_bind (tot_Sform _ _ _ (by omega) hu) fun _ _ => tot_ite (fun _ => tot_bind (tot_SDeep _ _ (by omega) hu) fun _ _ => tot_some _) fun _ => tot_some _
theorem tot_written {t : GType} (p : Int) (hu : uGType t ≤ 1048576) : Tot (ref10_written t p) := by
 unfold ref10_written
 have := uT_p t
 have h1 : Tot (ref05_Right t p) := tot_TRight _ (by omega)
 repeat (first | exact tot_some _ | exact h1 | refine tot_ite (fun _ => ?_) fun _ => ?_ | refine tot_bind ?_ fun _ _ => ?_)
theorem tot_vars {l : List GVar} (m p : Int) (hu : lsum uGVar l ≤ 1048576) : Tot (ref10_vars l m p) := by
 unfold ref10_vars
 rw [fuel_len]
 have hl := len_lsum u1_V l
 refine tot_bind ?_ fun _ _ => tot_elim (fun _ => tot_some _) fun _ => tot_some _
 refine tot_loop1 (ref10_vars_L1 l p) l.length (fun m k hlt ih => ?_) (fun m k hlt => ?_) _ 0 (by omega) (by omega)
 ·rw [ref10_vars_L1, if_pos (by simpa using hlt), idx_lt hlt, w64_succ hlt (by omega), obs, obs, obs]
  have h2 := lsum_mem (u := uGVar) (List.getElem_mem hlt)
  have h3 := uV_p l[k]
  exact tot_bind (tot_bind (tot_Name (by omega)) fun _ _ => tot_ite (fun _ => tot_some _) fun _ => tot_ite (fun _ => tot_some _) fun _ => tot_bind (tot_written _ (by omega)) fun _ _ => tot_some _) fun _ _ => tot_ite (fun _ => tot_some _) fun _ => ih
 ·rw [ref10_vars_L1, if_neg (by simpa using hlt)]; exact tot_some _
theorem tot_open : ∀ (n : Nat) (l : List GStmt) (p : Int), mLGStmt l < n → lsum uGStmt l ≤ 1048576 → Tot (ref10_open n l p)
 | 0, l, p, h, _ => by omega
 | n + 1, l, p, h, hu => by
  have hl := len_lsum u1_S l
  rw [mLS_sum] at h
  simp only [ref10_open, fuel_len]
  refine tot_bind ?_ fun _ _ => tot_elim (fun _ => tot_some _) fun _ => tot_some _
  refine tot_loop1 (ref10_open_L1 l p (ref10_open n)) l.length (fun m k hlt ih => ?_) (fun m k hlt => ?_) _ 0 (by omega) (by omega)
  ·rw [ref10_open_L1, if_pos (by simpa using hlt), idx_lt hlt, w64_succ hlt (by omega)]
   simp only [obs]
   have h1 := lsum_mem (u := mGStmt) (List.getElem_mem hlt)
   have h2 := lsum_mem (u := uGStmt) (List.getElem_mem hlt)
   have h3 := uS_p l[k]
   rw [mS_eq] at h1
   have o1 : Tot (ref10_open n l[k].fBody p) := tot_open n _ _ (by rw [mLS_sum]; omega) (by omega)
   have o2 : Tot (ref10_open n l[k].fElse p) := tot_open n _ _ (by rw [mLS_sum]; omega) (by omega)
   have o3 : Tot (ref10_written l[k].fType p) := tot_written _ (by omega)
   refine tot_bind ?_ fun _ _ => tot_ite (fun _ => tot_some _) fun _ => ih
   repeat (first | exact tot_some _ | exact o1 | exact o2 | exact o3 | refine tot_ite (fun _ => ?_) fun _ => ?_ | refine tot_bind ?_ fun _ _ => ?_)
  ·rw [ref10_open_L1, if_neg (by simpa using hlt)]; exact tot_some _
theorem tot_method10 {m : GMethod} (p : Int) (hu : uGMethod m ≤ 1048576) : Tot (ref10_method m p) := by
 unfold ref10_method
 rw [fuel_len]
 have hp := uM_p m
 have hl := len_lsum u1_S m.fBody
 have hL : Tot (ref10_method_L1 m p (m.fBody.length + 1) 0) := by
  refine tot_loop1 (ref10_method_L1 m p) m.fBody.length (fun n k hlt ih => ?_) (fun n k hlt => ?_) _ 0 (by omega) (by omega)
  ·rw [ref10_method_L1, if_pos (by simpa using hlt), idx_lt hlt, w64_succ hlt (by omega), obs]
   have h2 := lsum_mem (u := uGStmt) (List.getElem_mem hlt)
   exact tot_bind (tot_SRight _ (by omega)) fun _ _ => tot_ite (fun _ => tot_some _) fun _ => ih
  ·rw [ref10_method_L1, if_neg (by simpa using hlt)]; exact tot_some _
 have h1 : Tot (ref02_Name m.fName) := tot_Name (by omega)
 have h2 : Tot (ref10_written m.fRet p) := tot_written _ (by omega)
 have h3 : Tot (ref10_vars m.fParams 5 p) := tot_vars _ _ (by omega)
 have h4 : Tot (ref10_vars m.fLocals 12 p) := tot_vars _ _ (by omega)
 have h5 : Tot (ref10_open (mLGStmt m.fBody + 1) m.fBody p) := tot_open _ _ _ (by omega) (by omega)
 repeat (first | exact tot_some _ | exact hL | exact h1 | exact h2 | exact h3 | exact h4 | exact h5 | refine tot_ite (fun _ => ?_) fun _ => ?_ | refine tot_elim (fun _ => ?_) fun _ => ?_ | refine tot_bind ?_ fun _ _ => ?_)
theorem tot_class10 {c : GClass} (hu : uGClass c ≤ 1048576) : Tot (ref10_class c) := by
 unfold ref10_class
 rw [fuel_len, fuel_len, fuel_len]
 have hp := uC_p c
 have hl1 := len_lsum u1_str c.fParams
 have hl2 := len_lsum u1_O c.fAbove
 have hl3 := len_lsum u1_M c.fMethods
 have hL1 : Tot (ref10_class_L1 c (c.fParams.length + 1) 0) := by
  refine tot_loop1 (ref10_class_L1 c) c.fParams.length (fun n k hlt ih => ?_) (fun n k hlt => ?_) _ 0 (by omega) (by omega)
  ·rw [ref10_class_L1, if_pos (by simpa using hlt), idx_lt hlt, w64_succ hlt (by omega), obs]
   have h2 := lsum_mem (u := fun s => List.length s + 1) (List.getElem_mem hlt)
   exact tot_bind (tot_Name (by omega)) fun _ _ => tot_ite (fun _ => tot_some _) fun _ => ih
  ·rw [ref10_class_L1, if_neg (by simpa using hlt)]; exact tot_some _
 have hL2 : Tot (ref10_class_L2 c (c.fAbove.length + 1) 0) := by
  refine tot_loop1 (ref10_class_L2 c) c.fAbove.length (fun n k hlt ih => ?_) (fun n k hlt => ?_) _ 0 (by omega) (by omega)
  ·rw [ref10_class_L2, if_pos (by simpa using hlt), idx_lt hlt, w64_succ hlt (by omega), obs, obs]
   refine tot_bind (tot_bind (tot_ORight _ _) fun _ _ => ?_) fun _ _ => tot_ite (fun _ => tot_some _) fun _ => ih
   repeat (first | exact tot_some _ | refine tot_ite (fun _ => ?_) fun _ => ?_)
  ·rw [ref10_class_L2, if_neg (by simpa using hlt)]; exact tot_some _
 have hL3 : Tot (ref10_class_L3 c (c.fMethods.length + 1) 0) := by
  refine tot_loop1 (ref10_class_L3 c) c.fMethods.length (fun n k hlt ih => ?_) (fun n k hlt => ?_) _ 0 (by omega) (by omega)
  ·rw [ref10_class_L3, if_pos (by simpa using hlt), idx_lt hlt, w64_succ hlt (by omega), obs]
   have h2 := lsum_mem (u := uGMethod) (List.getElem_mem hlt)
   exact tot_bind (tot_method10 _ (by omega)) fun _ _ => tot_ite (fun _ => tot_some _) fun _ => ih
  ·rw [ref10_class_L3, if_neg (by simpa using hlt)]; exact tot_some _
 have h1 : Tot (ref02_Name c.fName) := tot_Name (by omega)
 have h2 : Tot (ref02_Name c.fSuper) := tot_Name (by omega)
 have h3 : Tot (ref10_vars c.fFields 12 (c.fParams.length : Int)) := tot_vars _ _ (by omega)
 repeat (first | exact tot_some _ | exact hL1 | exact hL2 | exact hL3 | exact h1 | exact h2 | exact h3 | refine tot_ite (fun _ => ?_) fun _ => ?_ | refine tot_elim (fun _ => ?_) fun _ => ?_ | refine tot_bind ?_ fun _ _ => ?_)
theorem tot_SSize : ∀ (n : Nat) (s : GStmt), mGStmt s < n → uGStmt s ≤ 1048576 → Tot (ref08_Size n s)
 | 0, s, h, _ => by omega
 | n + 1, s, h, hu => by
  rw [mS_eq] at h
  have hp := uS_p s
  have hl1 := len_lsum u1_S s.fBody
  have hl2 := len_lsum u1_S s.fElse
  simp only [ref08_Size, fuel_len]
  refine tot_bind ?_ fun _ _ => tot_bind ?_ fun _ _ => tot_some _
  ·refine tot_loop2 (ref08_Size_L1 s (ref08_Size n)) s.fBody.length (fun m k x hlt ih => ?_) (fun m k x hlt => ?_) _ 0 _ (by omega) (by omega)
   ·rw [ref08_Size_L1, if_pos (by simpa using hlt), idx_lt hlt, w64_succ hlt (by omega), obs]
    have h1 := lsum_mem (u := mGStmt) (List.getElem_mem hlt)
    have h2 := lsum_mem (u := uGStmt) (List.getElem_mem hlt)
    exact tot_bind (tot_SSize n _ (by omega) (by omega)) fun _ _ => ih _
   ·rw [ref08_Size_L1, if_neg (by simpa using hlt)]; exact tot_some _
  ·refine tot_loop2 (ref08_Size_L2 s (ref08_Size n)) s.fElse.length (fun m k x hlt ih => ?_) (fun m k x hlt => ?_) _ 0 _ (by omega) (by omega)
   ·rw [ref08_Size_L2, if_pos (by simpa using hlt), idx_lt hlt, w64_succ hlt (by omega), obs]
    have h1 := lsum_mem (u := mGStmt) (List.getElem_mem hlt)
    have h2 := lsum_mem (u := uGStmt) (List.getElem_mem hlt)
    exact tot_bind (tot_SSize n _ (by omega) (by omega)) fun _ _ => ih _
   ·rw [ref08_Size_L2, if_neg (by simpa using hlt)]; exact tot_some _
theorem tot_Stmts {c : GClass} (hu : uGClass c ≤ 1048576) : Tot (ref09_Stmts c) := by
 unfold ref09_Stmts
 rw [fuel_len]
 have hp := uC_p c
 have hl3 := len_lsum u1_M c.fMethods
 refine tot_bind ?_ fun _ _ => tot_some _
 refine tot_loop2 (ref09_Stmts_L1 c) c.fMethods.length (fun n k x hlt ih => ?_) (fun n k x hlt => ?_) _ 0 _ (by omega) (by omega)
 ·rw [ref09_Stmts_L1, if_pos (by simpa using hlt), w64_succ hlt (by omega), idx_lt hlt, obs, Option.getD_some, fuel_len]
  have h2 := lsum_mem (u := uGMethod) (List.getElem_mem hlt)
  have h3 := uM_p c.fMethods[k]
  have hl := len_lsum u1_S c.fMethods[k].fBody
  refine tot_bind ?_ fun _ _ => ih _
  refine tot_loop2 (ref09_Stmts_L2 c (k : Int)) c.fMethods[k].fBody.length (fun m j y hj ih2 => ?_) (fun m j y hj => ?_) _ 0 _ (by omega) (by omega)
  ·rw [ref09_Stmts_L2, idx_lt hlt, obs, if_pos (by simpa using hj), obs, idx_lt hj, obs, w64_succ hj (by omega)]
   have h4 := lsum_mem (u := uGStmt) (List.getElem_mem hj)
   exact tot_bind (tot_SSize _ _ (by omega) (by omega)) fun _ _ => ih2 _
  ·rw [ref09_Stmts_L2, idx_lt hlt, obs, if_neg (by simpa using hj)]; exact tot_some _
 ·rw [ref09_Stmts_L1, if_neg (by simpa using hlt)]; exact tot_some _
theorem tot_Right10 {p : List GClass} (hu : lsum uGClass p ≤ 1048576) : Tot (ref10_Right p) := by
 unfold ref10_Right
 rw [fuel_len]
 have hl := len_lsum u1_C p
 refine tot_bind ?_ fun _ _ => tot_elim (fun _ => tot_some _) fun _ => tot_some _
 refine tot_loop2 (ref10_Right_L1 p) p.length (fun n k x hlt ih => ?_) (fun n k x hlt => ?_) _ 0 _ (by omega) (by omega)
 ·rw [ref10_Right_L1, if_pos (by simpa using hlt), w64_succ hlt (by omega), idx_lt hlt]
  simp only [obs]
  have h2 := lsum_mem (u := uGClass) (List.getElem_mem hlt)
  exact tot_bind (tot_ite (fun _ => tot_some _) fun _ => tot_bind (tot_class10 (by omega)) fun _ _ => tot_some _) fun _ _ => tot_ite (fun _ => tot_some _) fun _ => tot_bind (tot_Stmts (by omega)) fun _ _ => ih _
 ·rw [ref10_Right_L1, if_neg (by simpa using hlt)]; exact tot_some _
theorem mE_mem {l : List GExpr} {e : GExpr} : e ∈ l → mGExpr e ≤ mLGExpr l := by
 induction l with
 | nil => intro h; simp at h
 | cons x l ih =>
  intro h
  simp only [mLGExpr]
  rcases List.mem_cons.1 h with rfl | h
  ·omega
  ·have := ih h; omega
theorem mS_mem {l : List GStmt} {e : GStmt} : e ∈ l → mGStmt e ≤ mLGStmt l := by
 induction l with
 | nil => intro h; simp at h
 | cons x l ih =>
  intro h
  simp only [mLGStmt]
  rcases List.mem_cons.1 h with rfl | h
  ·omega
  ·have := ih h; omega
theorem hE_eq (e : GExpr) : mGExpr e = 1 + mLGExpr e.fKids := by cases e; simp only [mGExpr]
theorem hS_eq (e : GStmt) : mGStmt e = 1 + mGExpr e.fE + mLGExpr e.fArgs + mLGStmt e.fBody + mLGStmt e.fElse := by cases e; simp only [mGStmt]
theorem goodE {e : GExpr} (h : goodGExpr e) : e.fKids.length ≤ maxLen ∧ ∀ y ∈ e.fKids, goodGExpr y := by cases h; exact ⟨by assumption, by assumption⟩
theorem goodS {e : GStmt} (h : goodGStmt e) : goodGExpr e.fE ∧ listok (fun y => goodGExpr y) e.fArgs ∧ (e.fBody.length ≤ maxLen ∧ ∀ y ∈ e.fBody, goodGStmt y) ∧ (e.fElse.length ≤ maxLen ∧ ∀ y ∈ e.fElse, goodGStmt y) := by
 cases h
 exact ⟨by assumption, by assumption, ⟨by assumption, by assumption⟩, ⟨by assumption, by assumption⟩⟩
theorem tot_kids : ∀ (n : Nat) (e : GExpr) (d : Int), goodGExpr e → mGExpr e < n → Tot (ref10_kids n e d)
 | 0, e, d, _, h => by omega
 | n + 1, e, d, hg, hm => by
  obtain ⟨hl, hk⟩ := goodE hg
  simp only [maxLen] at hl
  simp only [ref10_kids, fuel_len]
  refine tot_bind (tot_ite (fun _ => tot_some _) (fun _ => tot_some _)) fun x _ => tot_ite (fun _ => tot_some _) fun _ => ?_
  refine tot_bind ?_ fun lr _ => tot_elim (fun v => tot_some _) (fun _ => tot_some _)
  refine tot_loop1 (ref10_kids_L1 e d (ref10_kids n)) e.fKids.length (fun m k hlt ih => ?_) (fun m k hlt => ?_) _ 0 (by omega) (by omega)
  ·simp only [ref10_kids_L1]
   rw [if_pos (by simpa using hlt), idx_lt hlt, w64_succ hlt (by omega)]
   simp only [obs]
   have hmem := List.getElem_mem hlt
   have h1 := mE_mem hmem
   rw [hE_eq] at hm
   refine tot_bind (tot_kids n _ _ (hk _ hmem) (by omega)) fun y _ => tot_ite (fun _ => tot_some _) fun _ => ih
  ·simp only [ref10_kids_L1]
   rw [if_neg (by simpa using hlt)]
   exact tot_some _
theorem tot_much : ∀ (n : Nat) (e : GStmt) (d : Int), goodGStmt e → mGStmt e < n → Tot (ref10_much n e d)
 | 0, e, d, _, h => by omega
 | n + 1, e, d, hg, hm => by
  obtain ⟨hE, ⟨hal, ha⟩, ⟨hbl, hb⟩, ⟨hll, hl⟩⟩ := goodS hg
  simp only [maxLen] at hal hbl hll
  rw [hS_eq] at hm
  simp only [ref10_much, fuel_len]
  refine tot_bind ?_ fun x _ => tot_ite (fun _ => tot_some _) fun _ => ?_
  ·exact tot_ite (fun _ => tot_some _) fun _ => tot_ite (fun _ => tot_some _) fun _ => tot_ite (fun _ => tot_some _) fun _ => tot_ite (fun _ => tot_some _) fun _ => tot_bind (tot_kids _ _ _ hE (by omega)) fun _ _ => tot_some _
  refine tot_bind ?_ fun lr _ => tot_elim (fun v => tot_some _) fun _ => tot_bind ?_ fun lr _ => tot_elim (fun v => tot_some _) fun _ => tot_bind ?_ fun lr _ => tot_elim (fun v => tot_some _) fun _ => tot_some _
  ·refine tot_loop1 (ref10_much_L1 e) e.fArgs.length (fun m k hlt ih => ?_) (fun m k hlt => ?_) _ 0 (by omega) (by omega)
   ·simp only [ref10_much_L1]
    rw [if_pos (by simpa using hlt), idx_lt hlt, w64_succ hlt (by omega)]
    simp only [obs]
    exact tot_bind (tot_kids _ _ _ (ha _ (List.getElem_mem hlt)) (by omega)) fun y _ => tot_ite (fun _ => tot_some _) fun _ => ih
   ·simp only [ref10_much_L1]
    rw [if_neg (by simpa using hlt)]
    exact tot_some _
  ·refine tot_loop1 (ref10_much_L2 e d (ref10_much n)) e.fBody.length (fun m k hlt ih => ?_) (fun m k hlt => ?_) _ 0 (by omega) (by omega)
   ·simp only [ref10_much_L2]
    rw [if_pos (by simpa using hlt), idx_lt hlt, w64_succ hlt (by omega)]
    simp only [obs]
    have h1 := mS_mem (List.getElem_mem hlt)
    exact tot_bind (tot_much n _ _ (hb _ (List.getElem_mem hlt)) (by omega)) fun y _ => tot_ite (fun _ => tot_some _) fun _ => ih
   ·simp only [ref10_much_L2]
    rw [if_neg (by simpa using hlt)]
    exact tot_some _
  ·refine tot_loop1 (ref10_much_L3 e d (ref10_much n)) e.fElse.length (fun m k hlt ih => ?_) (fun m k hlt => ?_) _ 0 (by omega) (by omega)
   ·simp only [ref10_much_L3]
    rw [if_pos (by simpa using hlt), idx_lt hlt, w64_succ hlt (by omega)]
    simp only [obs]
    have h1 := mS_mem (List.getElem_mem hlt)
    exact tot_bind (tot_much n _ _ (hl _ (List.getElem_mem hlt)) (by omega)) fun y _ => tot_ite (fun _ => tot_some _) fun _ => ih
   ·simp only [ref10_much_L3]
    rw [if_neg (by simpa using hlt)]
    exact tot_some _
theorem tot_size : ∀ (n : Nat) (e : GStmt), goodGStmt e → mGStmt e < n → Tot (ref08_Size n e)
 | 0, e, _, h => by omega
 | n + 1, e, hg, hm => by
  obtain ⟨hE, ⟨hal, ha⟩, ⟨hbl, hb⟩, ⟨hll, hl⟩⟩ := goodS hg
  simp only [maxLen] at hbl hll
  rw [hS_eq] at hm
  simp only [ref08_Size, fuel_len]
  refine tot_bind ?_ fun x _ => tot_bind ?_ fun _ _ => tot_some _
  ·refine tot_loop2 (ref08_Size_L1 e (ref08_Size n)) e.fBody.length (fun m k s hlt ih => ?_) (fun m k s hlt => ?_) _ 0 _ (by omega) (by omega)
   ·simp only [ref08_Size_L1]
    rw [if_pos (by simpa using hlt), idx_lt hlt, w64_succ hlt (by omega)]
    simp only [obs]
    have h1 := mS_mem (List.getElem_mem hlt)
    exact tot_bind (tot_size n _ (hb _ (List.getElem_mem hlt)) (by omega)) fun y _ => ih _
   ·simp only [ref08_Size_L1]
    rw [if_neg (by simpa using hlt)]
    exact tot_some _
  ·refine tot_loop2 (ref08_Size_L2 e (ref08_Size n)) e.fElse.length (fun m k s hlt ih => ?_) (fun m k s hlt => ?_) _ 0 _ (by omega) (by omega)
   ·simp only [ref08_Size_L2]
    rw [if_pos (by simpa using hlt), idx_lt hlt, w64_succ hlt (by omega)]
    simp only [obs]
    have h1 := mS_mem (List.getElem_mem hlt)
    exact tot_bind (tot_size n _ (hl _ (List.getElem_mem hlt)) (by omega)) fun y _ => ih _
   ·simp only [ref08_Size_L2]
    rw [if_neg (by simpa using hlt)]
    exact tot_some _
theorem tot_uniques {m : GMethod} (h : goodGMethod m) : Tot (ref10_uniques m) := by
 have hp : m.fParams.length ≤ maxLen := h.2.2.2.1.1
 have hl : m.fLocals.length ≤ maxLen := h.2.2.2.2.1.1
 simp only [maxLen] at hp hl
 simp only [ref10_uniques, fuel_len]
 refine tot_bind ?_ fun x _ => tot_bind ?_ fun _ _ => tot_some _
 ·refine tot_loop2 (ref10_uniques_L1 m) m.fParams.length (fun n k s hlt ih => ?_) (fun n k s hlt => ?_) _ 0 _ (by omega) (by omega)
  ·simp only [ref10_uniques_L1]
   rw [if_pos (by simpa using hlt), idx_lt hlt, w64_succ hlt (by omega)]
   simp only [obs]
   exact tot_bind (tot_ite (fun _ => tot_some _) fun _ => tot_some _) fun y _ => ih _
  ·simp only [ref10_uniques_L1]
   rw [if_neg (by simpa using hlt)]
   exact tot_some _
 ·refine tot_loop2 (ref10_uniques_L2 m) m.fLocals.length (fun n k s hlt ih => ?_) (fun n k s hlt => ?_) _ 0 _ (by omega) (by omega)
  ·simp only [ref10_uniques_L2]
   rw [if_pos (by simpa using hlt), idx_lt hlt, w64_succ hlt (by omega)]
   simp only [obs]
   exact tot_bind (tot_ite (fun _ => tot_some _) fun _ => tot_some _) fun y _ => ih _
  ·simp only [ref10_uniques_L2]
   rw [if_neg (by simpa using hlt)]
   exact tot_some _
def TotT {S : Type} (o : Option (Ctl Bool S)) : Prop := o = some (.stop true) ∨ ∃ v, o = some (.next v)
theorem totT_bind {α S : Type} {a : Option α} {f : α → Option (Ctl Bool S)} (h : Tot a) (h2 : ∀ x, a = some x → TotT (f x)) : TotT (Option.bind a f) := by
 obtain ⟨x, rfl⟩ := h
 exact h2 x rfl
theorem totT_ite {S : Type} {b : Bool} {y : Option (Ctl Bool S)} (h2 : b = false → TotT y) : TotT (if b = true then some (.stop true) else y) := by
 cases b with
 | true => exact .inl rfl
 | false => exact h2 rfl
theorem tot_heavy3 {m : GMethod} (hg : listok (fun y => goodGStmt y) m.fBody) : ∀ (n k : Nat) (x : Int), n + k = m.fBody.length + 1 → k ≤ m.fBody.length → TotT (ref10_Heavy_L3 m n x (k : Int))
 | 0, k, x, h, hk => by omega
 | n + 1, k, x, h, hk => by
  obtain ⟨hl, hb⟩ := hg
  simp only [maxLen] at hl
  simp only [ref10_Heavy_L3]
  by_cases hlt : k < m.fBody.length
  ·have hmem := hb _ (List.getElem_mem hlt)
   rw [if_pos (by simpa using hlt), idx_lt hlt, w64_succ hlt (by omega)]
   refine totT_bind (tot_ite (fun _ => tot_some _) fun _ => tot_bind (tot_some _) fun y hy => ?_) fun b _ => totT_ite fun _ => ?_
   ·cases hy
    exact tot_bind (tot_much _ _ _ hmem (by omega)) fun _ _ => tot_some _
   ·refine totT_bind (tot_some _) fun y hy => ?_
    cases hy
    exact totT_bind (tot_size _ _ hmem (by omega)) fun z _ => tot_heavy3 ⟨by simp only [maxLen]; omega, hb⟩ n (k + 1) _ (by omega) (by omega)
  ·rw [if_neg (by simpa using hlt)]
   exact .inr ⟨_, rfl⟩
theorem tot_heavy2 {c : GClass} (hg : listok (fun y => goodGMethod y) c.fMethods) : ∀ (n k : Nat) (x : Int), n + k = c.fMethods.length + 1 → k ≤ c.fMethods.length → TotT (ref10_Heavy_L2 c n x (k : Int))
 | 0, k, x, h, hk => by omega
 | n + 1, k, x, h, hk => by
  obtain ⟨hl, hb⟩ := hg
  simp only [maxLen] at hl
  simp only [ref10_Heavy_L2, fuel_len]
  by_cases hlt : k < c.fMethods.length
  ·have hmem := hb _ (List.getElem_mem hlt)
   rw [if_pos (by simpa using hlt), idx_lt hlt, w64_succ hlt (by omega)]
   refine totT_bind (tot_some _) fun m hm => ?_
   cases hm
   refine totT_bind (tot_ite (fun _ => tot_some _) fun _ => tot_ite (fun _ => tot_some _) fun _ => tot_ite (fun _ => tot_some _) fun _ => tot_bind (tot_uniques hmem) fun _ _ => tot_some _) fun b _ => totT_ite fun _ => ?_
   rcases tot_heavy3 (m := c.fMethods[k]) hmem.2.2.2.2.2.1 (c.fMethods[k].fBody.length + 1) 0 x (by omega) (by omega) with h3 | ⟨v, h3⟩
   ·rw [show (0 : Int) = ((0 : Nat) : Int) from rfl, h3]; exact .inl rfl
   ·rw [show (0 : Int) = ((0 : Nat) : Int) from rfl, h3]
    exact tot_heavy2 ⟨by simp only [maxLen]; omega, hb⟩ n (k + 1) v (by omega) (by omega)
  ·rw [if_neg (by simpa using hlt)]
   exact .inr ⟨_, rfl⟩
theorem tot_heavy1 {p : List GClass} (hg : listok (fun y => goodGClass y) p) : ∀ (n k : Nat) (x : Int), n + k = p.length + 1 → k ≤ p.length →
  ref10_Heavy_L1 p n x (k : Int) = some (.stop true) ∨ ((∃ v, ref10_Heavy_L1 p n x (k : Int) = some (.next v)) ∧ ∀ c ∈ p.drop k, p.length ≤ 30 ∧ c.fFields.length ≤ 40)
 | 0, k, x, h, hk => by omega
 | n + 1, k, x, h, hk => by
  obtain ⟨hl, hb⟩ := hg
  simp only [maxLen] at hl
  simp only [ref10_Heavy_L1, fuel_len]
  by_cases hlt : k < p.length
  ·have hmem := hb _ (List.getElem_mem hlt)
   rw [if_pos (by simpa using hlt), idx_lt hlt, w64_succ hlt (by omega)]
   simp only [obs]
   by_cases h1 : (decide ((p.length : Int) > 30)) = true
   ·rw [if_pos h1]; exact .inl rfl
   rw [if_neg h1]
   by_cases h2 : (decide ((p[k].fParams.length : Int) > 20)) = true
   ·rw [if_pos h2]; exact .inl rfl
   rw [if_neg h2]
   by_cases h3 : (decide ((p[k].fAbove.length : Int) > 20)) = true
   ·rw [if_pos h3]; exact .inl rfl
   rw [if_neg h3]
   by_cases h4 : (decide ((p[k].fFields.length : Int) > 40)) = true
   ·rw [if_pos h4]; exact .inl rfl
   rw [if_neg h4]
   simp only [obs]
   by_cases h5 : (decide ((p[k].fMethods.length : Int) > 40)) = true
   ·rw [if_pos h5]; exact .inl rfl
   rw [if_neg h5]
   rcases tot_heavy2 (c := p[k]) hmem.2.2.2.2.2.1 (p[k].fMethods.length + 1) 0 x (by omega) (by omega) with h6 | ⟨v, h6⟩
   ·rw [show (0 : Int) = ((0 : Nat) : Int) from rfl, h6]; exact .inl rfl
   ·rw [show (0 : Int) = ((0 : Nat) : Int) from rfl, h6]
    simp only [obs, Ctl.elim]
    rcases tot_heavy1 (p := p) ⟨by simp only [maxLen]; omega, hb⟩ n (k + 1) v (by omega) (by omega) with h7 | ⟨h7, h8⟩
    ·exact .inl h7
    ·refine .inr ⟨h7, fun c hc => ?_⟩
     rw [List.drop_eq_getElem_cons hlt] at hc
     rcases List.mem_cons.1 hc with rfl | hc
     ·simp at h1 h4; omega
     ·exact h8 c hc
  ·rw [if_neg (by simpa using hlt), List.drop_eq_nil_of_le (by omega)]
   exact .inr ⟨⟨_, rfl⟩, fun c hc => by simp at hc⟩
theorem heavy_eq {p : List GClass} (hg : listok (fun y => goodGClass y) p) : ∃ b, ref10_Heavy p = some b ∧ (b = false → p.length ≤ 30 ∧ ∀ c ∈ p, c.fFields.length ≤ 40) := by
 simp only [ref10_Heavy, fuel_len]
 rcases tot_heavy1 hg (p.length + 1) 0 0 (by omega) (by omega) with h | ⟨⟨v, h⟩, h2⟩
 ·rw [show (0 : Int) = ((0 : Nat) : Int) from rfl] at h ⊢
  rw [h]; exact ⟨true, rfl, fun hb => by cases hb⟩
 ·rw [show (0 : Int) = ((0 : Nat) : Int) from rfl] at h ⊢
  rw [h]
  refine ⟨_, rfl, fun _ => ?_⟩
  simp only [List.drop_zero] at h2
  refine ⟨?_, fun c hc => (h2 c hc).2⟩
  cases p with
  | nil => simp
  | cons c p => exact (h2 c (by simp)).1
def thisL (m : Nat) : List GOwner := ⟨2, 0⟩ :: (List.range m).map fun (k : Nat) => ⟨3, (k : Int) + 1⟩
def uniq (t : GType) : Bool := decide (t.fKind = 2) && decide (t.fOwn.a0.fKind = 6)
theorem kind_Unique_eq (t : GType) : kind_Unique t = some (uniq t) := by
 unfold kind_Unique uniq
 by_cases h : t.fKind = 2
 ·rw [if_pos (by simpa using h)]; simp [h]; rfl
 ·rw [if_neg (by simpa using h)]; simp [h]
theorem ref05_Unique_eq (t : GType) : ref05_Unique t = some (uniq t) := by
 unfold ref05_Unique uniq
 by_cases h : t.fKind = 2
 ·rw [if_pos (by simpa using h)]; simp [h]; rfl
 ·rw [if_neg (by simpa using h)]; simp [h]
def mkC (m : Nat) : GClass := { zGClass with fParams := List.replicate m [] }
theorem rT_len {a b : GClass} (h : a.fParams.length = b.fParams.length) : ∀ (n : Nat) (x : List GOwner) (y : Int), raise_This_L1 a n x y = raise_This_L1 b n x y
 | 0, _, _ => rfl
 | n + 1, x, y => by simp only [raise_This_L1, h, rT_len h n]
theorem r15T_len {a b : GClass} (h : a.fParams.length = b.fParams.length) : ∀ (n : Nat) (x : List GOwner) (y : Int), ref15_This_L1 a n x y = ref15_This_L1 b n x y
 | 0, _, _ => rfl
 | n + 1, x, y => by simp only [ref15_This_L1, h, r15T_len h n]
theorem rT_all : ∀ m : Nat, m ≤ 60 → raise_This (mkC m) = some (thisL m) ∧ ref15_This (mkC m) = some (thisL m) := by
 have h : ∀ m : Fin 61, raise_This (mkC m.val) = some (thisL m.val) ∧ ref15_This (mkC m.val) = some (thisL m.val) := by decide +kernel
 exact fun m hm => h ⟨m, by omega⟩
theorem raise_This_eq {c : GClass} (h : c.fParams.length ≤ 60) : raise_This c = some (thisL c.fParams.length) ∧ ref15_This c = some (thisL c.fParams.length) := by
 have hl : c.fParams.length = (mkC c.fParams.length).fParams.length := by simp [mkC]
 obtain ⟨h1, h2⟩ := rT_all _ h
 unfold raise_This at h1 ⊢
 unfold ref15_This at h2 ⊢
 refine ⟨?_, ?_⟩
 ·rw [← h1, ← hl]
  simp only [rT_len hl]
 ·rw [← h2, ← hl]
  simp only [r15T_len hl]
def zero4 : A4 GOwner := ⟨zGOwner, zGOwner, zGOwner, zGOwner⟩
def thisT (c : GClass) : GType := { fKind := 2, fClass := c.fName, fN := if c.fParams.length < 3 then (c.fParams.length : Int) else 3, fOwn := A4.cp zero4 (thisL c.fParams.length) }
theorem thisL_len (m : Nat) : (thisL m).length = m + 1 := by simp [thisL]
theorem scope_This_eq {c : GClass} (h : c.fParams.length ≤ 60) : scope_This c = some (thisT c) := by
 unfold scope_This thisT
 rw [(raise_This_eq h).1, obs]
 congr 2
 rw [List.length_map, thisL_len]
 by_cases h3 : c.fParams.length < 3
 ·rw [if_pos h3, show Nat.min (c.fParams.length + 1) 4 = c.fParams.length + 1 from Nat.min_eq_left (by omega), show ((c.fParams.length + 1 : Nat) : Int) - 1 = (c.fParams.length : Int) by omega, w64 (by omega) (by omega)]; rfl
 ·rw [if_neg h3, show Nat.min (c.fParams.length + 1) 4 = 4 from Nat.min_eq_right (by omega)]; rfl
theorem thisL_3 (m : Nat) : ∃ r, thisL (m + 3) = ⟨2, 0⟩ :: ⟨3, 1⟩ :: ⟨3, 2⟩ :: ⟨3, 3⟩ :: r := by
 refine ⟨(thisL (m + 3)).drop 4, ?_⟩
 simp only [thisL, List.range_succ_eq_map, List.map_cons, List.map_map, List.drop_succ_cons, List.drop_zero]
 rfl
theorem ref18_This_eq {c : GClass} (h : c.fParams.length ≤ 60) : ref18_This c = some (thisT c) := by
 unfold ref18_This thisT
 rw [(raise_This_eq h).2, obs]
 have hm : c.fParams.length = 0 ∨ c.fParams.length = 1 ∨ c.fParams.length = 2 ∨ 3 ≤ c.fParams.length := by omega
 rcases hm with e | e | e | e
 ·rw [e]; rfl
 ·rw [e]; rfl
 ·rw [e]; rfl
 ·obtain ⟨k, hk⟩ : ∃ k, c.fParams.length = k + 3 := ⟨c.fParams.length - 3, by omega⟩
  obtain ⟨r, hr⟩ := thisL_3 k
  rw [hk, hr, if_neg (by omega), if_neg (by omega)]
  rfl
def varsS (m : GMethod) : List GVar := m.fParams ++ m.fLocals
theorem ref12_Vars_eq {m : GMethod} (h1 : m.fParams.length ≤ 100) (h2 : m.fLocals.length ≤ 100) : ref12_Vars m = some (varsS m) := by
 unfold ref12_Vars varsS
 rw [room_ok (by simp; omega), obs, room_ok (by simp; omega), obs]
 rfl
theorem arena_Vars_eq {m : GMethod} (h1 : m.fParams.length ≤ 100) (h2 : m.fLocals.length ≤ 100) : arena_Vars m = some (varsS m) := by
 unfold arena_Vars varsS slices_Concat_api_Var
 generalize m.fParams = p at *
 generalize m.fLocals = l at *
 have hL2 : ([p, l] : List (List GVar)).length = 2 := rfl
 have e1 : slices_Concat_api_Var_L1 [p, l] (((([p, l] : List (List GVar)).length : Int) - (0)).toNat + 1) 0 0 = some ((p.length : Int) + (l.length : Int)) := by
  have w1 : w_i64 (0 + (p.length : Int)) = (p.length : Int) := by rw [w64 (by omega) (by omega)]; omega
  have w2 : w_i64 ((p.length : Int) + (l.length : Int)) = (p.length : Int) + (l.length : Int) := w64 (by omega) (by omega)
  have i0 : idx [p, l] 0 = some p := rfl
  have i1 : idx [p, l] (w_i64 (0 + 1)) = some l := rfl
  have k2 : w_i64 (w_i64 (0 + 1) + 1) = 2 := rfl
  have k1 : w_i64 (0 + 1) = 1 := rfl
  have n0 : ¬ ((p.length : Int) < 0) := by omega
  have n1 : ¬ ((p.length : Int) + (l.length : Int) < 0) := by omega
  show slices_Concat_api_Var_L1 [p, l] (2 + 1) 0 0 = _
  simp only [slices_Concat_api_Var_L1, hL2]
  rw [if_pos (by decide), i0, obs, w1, if_neg (by simp), if_pos (by decide), i1, obs, w2, if_neg (by simpa using n1), if_neg (by decide)]
 have e2 : slices_Grow_api_Var ((p.length : Int) + (l.length : Int)) = some [] := by
  unfold slices_Grow_api_Var
  rw [if_neg (by simp; omega), show w_i64 (0 - 0) = 0 from rfl, Int.sub_zero, w64 (by omega) (by omega)]
  by_cases h0 : (p.length : Int) + (l.length : Int) > 0
  ·have hz : zerOk ((p.length : Int) + (l.length : Int)) 120 = some () := by unfold zerOk; rw [if_pos ⟨by omega, by omega⟩]
   have hc : cutL (List.replicate ((p.length : Int) + (l.length : Int)).toNat zGVar) 0 0 = some [] := by
    unfold cutL
    rw [if_pos ⟨by omega, by omega, by simp; omega⟩]; simp
   rw [if_pos (by simpa using h0), hz, obs, hc, obs]
  ·rw [if_neg (by simpa using h0)]
 have e3 : slices_Concat_api_Var_L2 [p, l] (((([p, l] : List (List GVar)).length : Int) - (0)).toNat + 1) [] 0 = some (p ++ l) := by
  have i0 : idx [p, l] 0 = some p := rfl
  have i1 : idx [p, l] (w_i64 (0 + 1)) = some l := rfl
  show slices_Concat_api_Var_L2 [p, l] (2 + 1) [] 0 = _
  simp only [slices_Concat_api_Var_L2, hL2]
  rw [if_pos (by decide), i0, obs, room_ok (by simp; omega), obs, if_pos (by decide), i1, obs, room_ok (by simp; omega), obs, if_neg (by decide)]
  simp
 rw [e1, obs, e2, obs, e3, obs, obs]
def isV (name : List UInt8) (v : GVar) : Bool := v.fName == name
def placeS (m : GMethod) (name : List UInt8) : Int := match (varsS m).findIdx? (isV name) with | some i => (i : Int) | none => -1
theorem idxV {l : List GVar} (hl : l.length ≤ 1000) (name : List UInt8) : slices_IndexFunc_api_Var l (fun (z4 : GVar) => scope_Place_1 z4 name) = some (match l.findIdx? (isV name) with | some i => (i : Int) | none => -1) := by
 unfold slices_IndexFunc_api_Var
 rw [findL (slices_IndexFunc_api_Var_L1 l (fun (z4 : GVar) => scope_Place_1 z4 name)) (b := isV name) (by omega) (fun n x => by rw [slices_IndexFunc_api_Var_L1]; rfl), obs]
 cases l.findIdx? (isV name) <;> rfl
theorem scope_Place_eq {m : GMethod} (h1 : m.fParams.length ≤ 100) (h2 : m.fLocals.length ≤ 100) (name : List UInt8) : scope_Place m name = some (placeS m name) := by
 unfold scope_Place placeS varsS
 rw [idxV (by omega), obs, idxV (by omega), List.findIdx?_append]
 cases hp : m.fParams.findIdx? (isV name) with
 | some i => simp
 | none =>
  cases hl : m.fLocals.findIdx? (isV name) with
  | none => simp
  | some j =>
   have := (List.findIdx?_eq_some_iff_getElem.1 hl).1
   have e1 : ¬ ((-1 : Int) ≥ 0) := by omega
   have e2 : ¬ ((j : Int) < 0) := by omega
   simp only [decide_eq_false e1, decide_eq_false e2, Bool.false_eq_true, if_false, obs]
   rw [w64 (by omega) (by omega)]
   simp; omega
theorem ref18_Place_eq {m : GMethod} (h1 : m.fParams.length ≤ 100) (h2 : m.fLocals.length ≤ 100) (name : List UInt8) : ref18_Place m name = some (placeS m name) := by
 unfold ref18_Place placeS
 have hl : (varsS m).length ≤ 1000 := by unfold varsS; simp; omega
 rw [ref12_Vars_eq h1 h2, obs, findL (ref18_Place_L1 name (varsS m)) (b := isV name) (by omega) (fun n x => by rw [ref18_Place_L1]; rfl), obs]
 cases (varsS m).findIdx? (isV name) <;> rfl
theorem placeS_lt {m : GMethod} {name : List UInt8} (h : ¬ placeS m name < 0) : ∃ v, idx (varsS m) (placeS m name) = some v := by
 unfold placeS at *
 cases hf : (varsS m).findIdx? (isV name) with
 | none => rw [hf] at h; simp at h
 | some i =>
  have hlt := (List.findIdx?_eq_some_iff_getElem.1 hf).1
  exact ⟨_, idx_lt hlt⟩
theorem scope_Type_eq {c : GClass} {m : GMethod} (hc : c.fParams.length ≤ 60) (h1 : m.fParams.length ≤ 100) (h2 : m.fLocals.length ≤ 100) (name : List UInt8) : ∃ r, scope_Type c m name = some r ∧ ref18_Type c m name = some r := by
 unfold scope_Type ref18_Type
 rw [scope_This_eq hc, ref18_This_eq hc, scope_Place_eq h1 h2, ref18_Place_eq h1 h2, arena_Vars_eq h1 h2, ref12_Vars_eq h1 h2]
 by_cases hn : (name == [116, 104, 105, 115]) = true
 ·rw [if_pos hn]; exact ⟨_, rfl, rfl⟩
 ·rw [if_neg hn]; simp only [obs]
  by_cases hp : placeS m name < 0
  ·rw [if_pos (by simpa using hp)]; exact ⟨_, rfl, rfl⟩
  ·obtain ⟨v, hv⟩ := placeS_lt hp
   rw [if_neg (by simpa using hp), hv]; exact ⟨_, rfl, rfl⟩
def isU (V : List GVar) (i : Nat) : Bool := match V[i]? with | some v => uniq v.fType && decide (V.findIdx? (isV v.fName) = some i) | none => false
def uqk (V : List GVar) (k : Nat) : List Nat := (List.range k).filter (isU V)
def uqs (V : List GVar) : List Nat := uqk V V.length
def placeU (V : List GVar) (name : List UInt8) : Option Nat := match V.findIdx? (isV name) with | some i => if isU V i = true then some i else none | none => none
def pI (o : Option Nat) : Int := match o with | some i => (i : Int) | none => -1
theorem isU_lt {V : List GVar} {i : Nat} (h : isU V i = true) : i < V.length := by
 unfold isU at h
 split at h
 ·rename_i hv; exact (List.getElem?_eq_some_iff.1 hv).1
 ·cases h
theorem isU_at {V : List GVar} {k : Nat} (h : k < V.length) : isU V k = (uniq V[k].fType && decide (V.findIdx? (isV V[k].fName) = some k)) := by
 unfold isU; rw [List.getElem?_eq_getElem h]
theorem placeU_some {V : List GVar} {name : List UInt8} {i : Nat} (h : placeU V name = some i) : isU V i = true ∧ ∃ hi : i < V.length, V[i].fName = name := by
 unfold placeU at h
 split at h
 ·rename_i j hj
  split at h
  ·rename_i hu
   cases h
   obtain ⟨hi, h2, _⟩ := List.findIdx?_eq_some_iff_getElem.1 hj
   exact ⟨hu, hi, by simpa [isV] using h2⟩
  ·cases h
 ·cases h
theorem placeU_of {V : List GVar} {k : Nat} (hu : isU V k = true) (h : k < V.length) : placeU V V[k].fName = some k := by
 have h2 := hu
 rw [isU_at h] at h2
 simp only [Bool.and_eq_true, decide_eq_true_eq] at h2
 unfold placeU
 rw [h2.2]
 simp [hu]
theorem mem_uqk {V : List GVar} {k i : Nat} : i ∈ uqk V k ↔ i < k ∧ isU V i = true := by unfold uqk; simp
theorem mem_uqs {V : List GVar} {i : Nat} : i ∈ uqs V ↔ isU V i = true := by
 unfold uqs; rw [mem_uqk]
 exact ⟨fun h => h.2, fun h => ⟨isU_lt h, h⟩⟩
theorem uqk_succ (V : List GVar) (k : Nat) : uqk V (k + 1) = if isU V k = true then uqk V k ++ [k] else uqk V k := by
 unfold uqk
 rw [List.range_succ, List.filter_append]
 cases h : isU V k <;> simp [h]
theorem uqk_len (V : List GVar) (k : Nat) : (uqk V k).length ≤ k := by
 unfold uqk; have := List.length_filter_le (isU V) (List.range k); simpa using this
theorem uqk_app (V : List GVar) (k : Nat) : ∀ d : Nat, ∃ r, uqk V (k + d) = uqk V k ++ r
 | 0 => ⟨[], by simp⟩
 | d + 1 => by
  obtain ⟨r, hr⟩ := uqk_app V k d
  rw [show k + (d + 1) = (k + d) + 1 by omega, uqk_succ]
  split
  ·exact ⟨r ++ [k + d], by rw [hr, List.append_assoc]⟩
  ·exact ⟨r, hr⟩
def rkU (V : List GVar) (i : Nat) : Nat := (uqs V).idxOf i
theorem rkU_at {V : List GVar} {k : Nat} (hu : isU V k = true) : rkU V k = (uqk V k).length := by
 have hlt := isU_lt hu
 obtain ⟨r, hr⟩ := uqk_app V (k + 1) (V.length - (k + 1))
 have hu2 : uqs V = uqk V k ++ k :: r := by
  unfold uqs
  rw [show V.length = (k + 1) + (V.length - (k + 1)) by omega, hr, uqk_succ, if_pos hu, List.append_assoc]; rfl
 unfold rkU
 rw [hu2, List.idxOf_append]
 have : k ∉ uqk V k := fun h => by have := (mem_uqk.1 h).1; omega
 rw [if_neg this]; simp
theorem rkU_lt {V : List GVar} {i : Nat} (hu : isU V i = true) : rkU V i < (uqs V).length := List.idxOf_lt_length_iff.2 (mem_uqs.2 hu)
theorem rkU_get {V : List GVar} {i : Nat} (hu : isU V i = true) : (uqs V)[rkU V i]? = some i := by
 have h := rkU_lt hu
 rw [List.getElem?_eq_getElem h]
 unfold rkU at h ⊢
 rw [List.getElem_idxOf]
theorem rkU_inj {V : List GVar} {i j : Nat} (hi : isU V i = true) (hj : isU V j = true) (h : rkU V i = rkU V j) : i = j := by
 have h1 := rkU_get hi
 rw [h, rkU_get hj] at h1
 exact (Option.some.inj h1).symm
theorem uqs_len (V : List GVar) : (uqs V).length ≤ V.length := uqk_len V _
def nameV (V : List GVar) (i : Nat) : List UInt8 := match V[i]? with | some v => v.fName | none => []
theorem nameV_at {V : List GVar} {k : Nat} (h : k < V.length) : nameV V k = V[k].fName := by unfold nameV; rw [List.getElem?_eq_getElem h]
theorem uq_L {m : GMethod} (h1 : m.fParams.length ≤ 100) (h2 : m.fLocals.length ≤ 100) : ∀ (n k : Nat), n + k = (varsS m).length + 1 → k ≤ (varsS m).length →
  ref23_Uniques_L1 m (varsS m) n ((uqk (varsS m) k).map Int.ofNat) (k : Int) = some ((uqs (varsS m)).map Int.ofNat)
 | 0, k, h, hk => by omega
 | n + 1, k, h, hk => by
  have hV : (varsS m).length ≤ 200 := by unfold varsS; simp; omega
  rw [ref23_Uniques_L1]
  by_cases hlt : k < (varsS m).length
  ·have hU := isU_at hlt
   have hP : (placeS m (varsS m)[k].fName == (k : Int)) = decide ((varsS m).findIdx? (isV (varsS m)[k].fName) = some k) := by
    unfold placeS
    cases (varsS m).findIdx? (isV (varsS m)[k].fName) with
    | none => simp
    | some j => rw [Bool.eq_iff_iff]; simp; omega
   have ih := uq_L h1 h2 n (k + 1) (by omega) (by omega)
   rw [uqk_succ] at ih
   have hl := uqk_len (varsS m) k
   rw [if_pos (by simpa using hlt), idx_lt hlt, obs, ref05_Unique_eq, obs, w64_succ hlt (by omega)]
   simp only [obs, ref18_Place_eq h1 h2, hP]
   cases hq : uniq (varsS m)[k].fType with
   | false =>
    rw [hq] at hU
    simp only [Bool.false_and] at hU
    rw [hU, if_neg (by simp)] at ih
    rw [if_neg (by simp)]; simp only [obs]
    rw [if_neg (by simp), obs]
    exact ih
   | true =>
    rw [hq] at hU
    simp only [Bool.true_and] at hU
    rw [if_pos rfl]; simp only [obs]
    rw [← hU]
    cases hu : isU (varsS m) k with
    | false =>
     rw [hu, if_neg (by simp)] at ih
     rw [if_neg (by simp), obs]; exact ih
    | true =>
     rw [hu, if_pos rfl, List.map_append] at ih
     rw [if_pos rfl, room_ok (by simp; omega), obs, obs]; exact ih
  ·have : k = (varsS m).length := by omega
   rw [if_neg (by simpa using hlt)]; subst this; rfl
theorem ref23_Uniques_eq {m : GMethod} (h1 : m.fParams.length ≤ 100) (h2 : m.fLocals.length ≤ 100) : ref23_Uniques m = some ((uqs (varsS m)).map Int.ofNat) := by
 unfold ref23_Uniques
 rw [ref12_Vars_eq h1 h2, obs, fuel_len, show (0 : Int) = ((0 : Nat) : Int) from rfl]
 have := uq_L h1 h2 ((varsS m).length + 1) 0 (by omega) (by omega)
 rw [show ((uqk (varsS m) 0).map Int.ofNat) = [] from rfl] at this
 rw [this, obs]
theorem place_L {m : GMethod} (h1 : m.fParams.length ≤ 100) (h2 : m.fLocals.length ≤ 100) (name : List UInt8) {l : List Int} (hl : l.length ≤ 1000) : ∀ (n k : Nat), n + k = l.length + 1 → k ≤ l.length →
  ref23_place_L1 m name l n (k : Int) = some (if (l.drop k).contains (placeS m name) = true then .stop (placeS m name) else .next ())
 | 0, k, h, hk => by omega
 | n + 1, k, h, hk => by
  rw [ref23_place_L1]
  by_cases hlt : k < l.length
  ·rw [if_pos (by simpa using hlt), idx_lt hlt, obs, ref18_Place_eq h1 h2, obs, List.drop_eq_getElem_cons hlt, List.contains_cons]
   by_cases he : l[k] = placeS m name
   ·rw [if_pos (by simpa using he), if_pos (by simp [he]), he]; rfl
   ·have he2 : (placeS m name == l[k]) = false := by simpa using fun e => he e.symm
    rw [if_neg (by simpa using he), he2, Bool.false_or, w64_succ hlt (by omega)]
    exact place_L h1 h2 name hl n (k + 1) (by omega) (by omega)
  ·rw [if_neg (by simpa using hlt), List.drop_eq_nil_of_le (by omega)]; rfl
theorem ref23_place_eq {m : GMethod} (h1 : m.fParams.length ≤ 100) (h2 : m.fLocals.length ≤ 100) (name : List UInt8) : ref23_place m name = some (pI (placeU (varsS m) name)) := by
 unfold ref23_place
 have hl := uqs_len (varsS m)
 have hV : (varsS m).length ≤ 200 := by unfold varsS; simp; omega
 rw [ref23_Uniques_eq h1 h2, obs, fuel_len, show (0 : Int) = ((0 : Nat) : Int) from rfl, place_L h1 h2 name (by rw [List.length_map]; omega) _ 0 (by omega) (by omega), obs, List.drop_zero]
 unfold placeU placeS
 cases hf : (varsS m).findIdx? (isV name) with
 | none =>
  have : ((uqs (varsS m)).map Int.ofNat).contains (-1) = false := by
   rw [Bool.eq_false_iff]; intro h
   have := List.contains_iff_mem.1 h
   rw [List.mem_map] at this
   obtain ⟨x, _, hx⟩ := this
   have : (Int.ofNat x) = (x : Int) := rfl
   omega
  simp only [this]; rfl
 | some i =>
  have : ((uqs (varsS m)).map Int.ofNat).contains (i : Int) = isU (varsS m) i := by
   rw [Bool.eq_iff_iff, List.contains_iff_mem, List.mem_map, ← mem_uqs]
   constructor
   ·rintro ⟨x, hx, h⟩; have : x = i := by have : (Int.ofNat x) = (x : Int) := rfl; omega
    subst this; exact hx
   ·intro h; exact ⟨i, h, rfl⟩
  simp only [this]
  cases isU (varsS m) i <;> rfl
def atK (V : List GVar) (k : Nat) : List UInt8 → Option Int := fun name => match placeU V name with | some i => if i < k then some ((rkU V i : Nat) : Int) else none | none => none
def metK (V : List GVar) (k : Nat) : List UInt8 → Option Int := fun x => if (V.take k).countP (isV x) = 0 then none else some (((V.take k).countP (isV x) : Nat) : Int)
def firstK (V : List GVar) (p k : Nat) : BitVec 64 := ((uqk V k).filter fun i => decide (i < p)).foldl (fun b i => b ||| oneB (rkU V i)) 0#64
theorem atK_succ {V : List GVar} {k : Nat} (hlt : k < V.length) : atK V (k + 1) = if isU V k = true then (fun x => if x = V[k].fName then some (((uqk V k).length : Nat) : Int) else atK V k x) else atK V k := by
 by_cases hu : isU V k = true
 ·rw [if_pos hu]
  funext x
  unfold atK
  by_cases hx : x = V[k].fName
  ·rw [if_pos hx, hx, placeU_of hu hlt]
   simp [rkU_at hu]
  ·rw [if_neg hx]
   cases hp : placeU V x with
   | none => rfl
   | some i =>
    obtain ⟨_, hi, h2⟩ := placeU_some hp
    have : i ≠ k := fun e => by subst e; exact hx h2.symm
    by_cases h3 : i < k
    ·simp [h3]; omega
    ·simp [h3]; omega
 ·rw [if_neg hu]
  funext x
  unfold atK
  cases hp : placeU V x with
  | none => rfl
  | some i =>
   obtain ⟨h1, _, _⟩ := placeU_some hp
   have : i ≠ k := fun e => by subst e; exact hu h1
   by_cases h3 : i < k
   ·simp [h3]; omega
   ·simp [h3]; omega
theorem take_count {V : List GVar} {k : Nat} (hlt : k < V.length) (x : List UInt8) : (V.take (k + 1)).countP (isV x) = (V.take k).countP (isV x) + if V[k].fName = x then 1 else 0 := by
 rw [List.take_add_one, List.getElem?_eq_getElem hlt, List.countP_append]
 simp [isV, List.countP_cons]
theorem metK_succ {V : List GVar} {k : Nat} (hlt : k < V.length) : metK V (k + 1) = fun x => if x = V[k].fName then some (((V.take k).countP (isV V[k].fName) : Nat) + 1 : Int) else metK V k x := by
 funext x
 unfold metK
 rw [take_count hlt]
 by_cases hx : x = V[k].fName
 ·subst hx; simp
 ·have : ¬ V[k].fName = x := fun e => hx e.symm
  simp [this, hx]
theorem first_iff {V : List GVar} {k : Nat} (hlt : k < V.length) : V.findIdx? (isV V[k].fName) = some k ↔ (V.take k).countP (isV V[k].fName) = 0 := by
 rw [List.findIdx?_eq_some_iff_getElem, List.countP_eq_zero]
 constructor
 ·rintro ⟨_, _, h⟩ v hv
  obtain ⟨j, hj, rfl⟩ := List.getElem_of_mem hv
  rw [List.getElem_take]
  simp only [List.length_take] at hj
  exact h j (by omega)
 ·intro h
  refine ⟨hlt, by simp [isV], fun j hj => ?_⟩
  refine h _ ?_
  have : (V.take k)[j]? = some V[j] := by rw [List.getElem?_take]; simp [hj]
  exact List.mem_of_getElem? this
theorem count_le {V : List GVar} (k : Nat) (x : List UInt8) : (V.take k).countP (isV x) ≤ V.length := by
 have := List.countP_le_length (p := isV x) (l := V.take k); simp at this; omega
theorem made_L {m : GMethod} (hV : (varsS m).length ≤ 60) (hn : ∀ v ∈ varsS m, v.fName.length ≤ maxLen) : ∀ (n k : Nat), n + k = (varsS m).length + 1 → k ≤ (varsS m).length →
  flow_made_w_L1 m (varsS m) n ((uqk (varsS m) k).map (nameV (varsS m))) (uqk (varsS m) k).length (atK (varsS m) k) (bI (firstK (varsS m) m.fParams.length k)) k (metK (varsS m) k) (k : Int) =
   some ((uqs (varsS m)).map (nameV (varsS m)), (uqs (varsS m)).length, atK (varsS m) (varsS m).length, bI (firstK (varsS m) m.fParams.length (varsS m).length))
 | 0, k, h, hk => by omega
 | n + 1, k, h, hk => by
  rw [flow_made_w_L1]
  by_cases hlt : k < (varsS m).length
  ·have ih := made_L hV hn n (k + 1) (by omega) (by omega)
   rw [metK_succ hlt, atK_succ hlt] at ih
   have hul := uqk_len (varsS m) k
   have hnl := hn _ (List.getElem_mem hlt)
   have hc := count_le (V := varsS m) k (varsS m)[k].fName
   have hm1 : mget (metK (varsS m) k) (varsS m)[k].fName = some (((varsS m).take k).countP (isV (varsS m)[k].fName) : Int) := by
    unfold mget; rw [if_pos hnl]; unfold metK; split
    ·rename_i h0; rw [h0]; rfl
    ·rfl
   have hw : w_i64 ((((varsS m).take k).countP (isV (varsS m)[k].fName) : Nat) + 1 : Int) = (((varsS m).take k).countP (isV (varsS m)[k].fName) : Nat) + 1 := w64 (by omega) (by omega)
   have hm2 : mput k (metK (varsS m) k) (varsS m)[k].fName ((((varsS m).take k).countP (isV (varsS m)[k].fName) : Nat) + 1 : Int) = some (fun x => if x = (varsS m)[k].fName then some ((((varsS m).take k).countP (isV (varsS m)[k].fName) : Nat) + 1 : Int) else metK (varsS m) k x) := by
    unfold mput; rw [if_pos ⟨hnl, by simp only [maxLen]; omega, by simp only [IntKind.min, IntKind.signed, IntKind.bits]; simp; omega, by simp only [IntKind.max, IntKind.signed, IntKind.bits]; simp; omega⟩]
   have hm3 : mget (fun x => if x = (varsS m)[k].fName then some ((((varsS m).take k).countP (isV (varsS m)[k].fName) : Nat) + 1 : Int) else metK (varsS m) k x) (varsS m)[k].fName = some ((((varsS m).take k).countP (isV (varsS m)[k].fName) : Nat) + 1 : Int) := by
    unfold mget; rw [if_pos hnl]; simp
   have h63 : (((((uqk (varsS m) k).map (nameV (varsS m))).length : Nat) : Int) == 63) = false := by simp; omega
   have hcond : (if (decide (((((varsS m).take k).countP (isV (varsS m)[k].fName) : Nat) : Int) + 1 > 1)) = true then some true else Option.bind (kind_Unique (varsS m)[k].fType) fun (y125 : Bool) => if (!y125) = true then some true else some (((((uqk (varsS m) k).map (nameV (varsS m))).length : Nat) : Int) == 63) : Option Bool) = some (!isU (varsS m) k) := by
    rw [h63, kind_Unique_eq, obs, isU_at hlt]
    have hf := first_iff hlt
    by_cases h0 : ((varsS m).take k).countP (isV (varsS m)[k].fName) = 0
    ·rw [h0, decide_eq_true (hf.2 h0)]
     cases uniq (varsS m)[k].fType <;> rfl
    ·rw [if_pos (by simp; omega), decide_eq_false (fun e => h0 (hf.1 e))]; simp
   rw [if_pos (by simpa using hlt), idx_lt hlt, obs, hm1, obs, hw, hm2, obs, hm3, obs, hcond, obs]
   cases hu : isU (varsS m) k with
   | false =>
    rw [if_pos (by simp), obs]
    simp only [w64_succ hlt (show (varsS m).length ≤ 9223372036854775807 by omega)]
    rw [hu, if_neg (by simp), uqk_succ, hu, if_neg (by simp)] at ih
    have hfk : firstK (varsS m) m.fParams.length (k + 1) = firstK (varsS m) m.fParams.length k := by unfold firstK; rw [uqk_succ, hu, if_neg (by simp)]
    rw [hfk] at ih
    exact ih
   | true =>
    have hm4 : mput (uqk (varsS m) k).length (atK (varsS m) k) (varsS m)[k].fName ((((uqk (varsS m) k).map (nameV (varsS m))).length : Nat) : Int) = some (fun x => if x = (varsS m)[k].fName then some (((uqk (varsS m) k).length : Nat) : Int) else atK (varsS m) k x) := by
     unfold mput; rw [List.length_map, if_pos ⟨hnl, by simp only [maxLen]; omega, by simp only [IntKind.min, IntKind.signed, IntKind.bits]; simp, by simp only [IntKind.max, IntKind.signed, IntKind.bits]; simp; omega⟩]
    rw [if_neg (by simp), hm4, obs]
    rw [hu, if_pos rfl, uqk_succ, hu, if_pos rfl] at ih
    have hfk : (if (decide ((k : Int) < (m.fParams.length : Int))) = true then Option.bind (shlI .u64 1 ((((uqk (varsS m) k).map (nameV (varsS m))).length : Nat) : Int)) fun (y137 : Int) => some (orI .u64 (bI (firstK (varsS m) m.fParams.length k)) y137) else some (bI (firstK (varsS m) m.fParams.length k)) : Option Int) = some (bI (firstK (varsS m) m.fParams.length (k + 1))) := by
     unfold firstK
     rw [uqk_succ, hu, if_pos rfl, List.filter_append, List.foldl_append, List.length_map]
     by_cases hp : k < m.fParams.length
     ·rw [if_pos (by simpa using hp), shlB _ (by omega), obs, orB]
      simp [hp, rkU_at hu, oneB]
     ·rw [if_neg (by simpa using hp)]
      simp [hp]
    rw [hfk, obs, room_ok (by simp; omega), obs, obs]
    simp only [w64_succ hlt (show (varsS m).length ≤ 9223372036854775807 by omega)]
    rw [List.map_append, List.length_append] at ih
    simp only [List.map_cons, List.map_nil, nameV_at hlt, List.length_singleton] at ih
    exact ih
  ·have : k = (varsS m).length := by omega
   rw [if_neg (by simpa using hlt)]; subst this; rfl
def mkW (p : List GClass) (c : GClass) (m : GMethod) : Gwalker_flow := { fp := p, fc := c, fm := m, fvars := (uqs (varsS m)).map (nameV (varsS m)), fat := atK (varsS m) (varsS m).length, fbad := zGwalker_flow.fbad, fn := zGwalker_flow.fn }
theorem flow_made_eq (p : List GClass) (c : GClass) {m : GMethod} (h1 : m.fParams.length ≤ 30) (h2 : m.fLocals.length ≤ 30) (hn : ∀ v ∈ varsS m, v.fName.length ≤ maxLen) : flow_made_w p c m = some (mkW p c m, bI (firstK (varsS m) m.fParams.length (varsS m).length)) := by
 unfold flow_made_w
 have hV : (varsS m).length ≤ 60 := by unfold varsS; simp; omega
 have := made_L hV hn ((varsS m).length + 1) 0 (by omega) (by omega)
 have ha : atK (varsS m) 0 = fun _ => none := by funext x; unfold atK; cases placeU (varsS m) x <;> simp
 have hb : metK (varsS m) 0 = fun _ => none := by funext x; unfold metK; simp
 rw [ha, hb] at this
 rw [arena_Vars_eq (by omega) (by omega), obs, fuel_len]
 show Option.bind (flow_made_w_L1 m (varsS m) ((varsS m).length + 1) [] 0 (fun _ => none) (bI (firstK (varsS m) m.fParams.length 0)) 0 (fun _ => none) ((0 : Nat) : Int)) _ = _
 rw [show ([] : List (List UInt8)) = (uqk (varsS m) 0).map (nameV (varsS m)) from rfl, show (0 : Nat) = (uqk (varsS m) 0).length from rfl]
 exact (congrArg (fun z => Option.bind z _) this).trans rfl
def bitO (V : List GVar) (o : Option Nat) : BitVec 64 := match o with | some i => oneB (rkU V i) | none => 0#64
theorem bit_eq {m : GMethod} (hV : (varsS m).length ≤ 60) {w : Gwalker_flow} (hw : w.fat = atK (varsS m) (varsS m).length) {name : List UInt8} (hn : name.length ≤ maxLen) : __flow_walker__bit w name = some (bI (bitO (varsS m) (placeU (varsS m) name))) := by
 unfold __flow_walker__bit mgetO
 rw [hw, if_pos hn, obs]
 unfold atK
 cases hp : placeU (varsS m) name with
 | none => rfl
 | some i =>
  obtain ⟨hu, hi, _⟩ := placeU_some hp
  have h1 := rkU_lt hu
  have h2 := uqs_len (varsS m)
  simp only [hi, if_true, Option.isSome_some, Option.getD_some]
  rw [shlB _ (by omega), obs]; rfl
def fiN : List GClass → Nat → List UInt8 → Option Nat
 | [], _, _ => none
 | c :: t, k, name => if c.fName == name then some k else fiN t (k + 1) name
def fi (p : List GClass) (name : List UInt8) : Option Nat := fiN p 0 name
def fnd (p : List GClass) (name : List UInt8) : Int := match fi p name with | some i => (i : Int) | none => -1
theorem fiN_spec : ∀ (l : List GClass) (k : Nat) (name : List UInt8) (i : Nat), fiN l k name = some i → k ≤ i ∧ ∃ c, l[i - k]? = some c ∧ c.fName = name
 | [], k, name, i, h => by simp [fiN] at h
 | c :: t, k, name, i, h => by
  simp only [fiN] at h
  split at h
  ·rename_i hc
   cases h
   exact ⟨Nat.le_refl _, c, by simp, by simpa using hc⟩
  ·obtain ⟨h1, c', h2, h3⟩ := fiN_spec t (k + 1) name i h
   refine ⟨by omega, c', ?_, h3⟩
   rw [show i - k = (i - (k + 1)) + 1 by omega, List.getElem?_cons_succ]
   exact h2
theorem fi_spec {p : List GClass} {name : List UInt8} {i : Nat} (h : fi p name = some i) : ∃ c, p[i]? = some c ∧ c.fName = name := by
 obtain ⟨_, c, h1, h2⟩ := fiN_spec p 0 name i h
 exact ⟨c, by simpa using h1, h2⟩
theorem fi_lt {p : List GClass} {name : List UInt8} {i : Nat} (h : fi p name = some i) : i < p.length := by
 obtain ⟨c, h1, _⟩ := fi_spec h
 exact (List.getElem?_eq_some_iff.1 h1).1
theorem fnd_some {p : List GClass} {name : List UInt8} {i : Nat} (h : fi p name = some i) : fnd p name = (i : Int) := by unfold fnd; rw [h]
theorem fnd_none {p : List GClass} {name : List UInt8} (h : fi p name = none) : fnd p name = -1 := by unfold fnd; rw [h]
def hit (o : Option Nat) : Ctl Int Unit := match o with | some i => .stop (i : Int) | none => .next ()
theorem indexFunc_L {p : List GClass} (name : List UInt8) (hp : p.length < 9223372036854775806) : ∀ (n k : Nat), n + k = p.length + 1 → k ≤ p.length →
  slices_IndexFunc_api_Class_L1 p (fun (z1 : GClass) => table_Find_1 z1 name) n (k : Int) = some (hit (fiN (p.drop k) k name))
 | 0, k, h, hk => by omega
 | n + 1, k, h, hk => by
  simp only [slices_IndexFunc_api_Class_L1]
  by_cases hlt : k < p.length
  ·rw [if_pos (by simpa using hlt), idx_lt hlt, List.drop_eq_getElem_cons hlt]
   simp only [obs, table_Find_1, fiN]
   by_cases hc : (p[k].fName == name) = true
   ·rw [if_pos hc, if_pos hc]; rfl
   ·rw [if_neg hc, if_neg hc, w64_succ hlt (by omega)]
    exact indexFunc_L name hp n (k + 1) (by omega) (by omega)
  ·rw [if_neg (by simpa using hlt), List.drop_eq_nil_of_le (by omega)]
   rfl
theorem table_Find_eq {p : List GClass} (hp : p.length < 9223372036854775806) (name : List UInt8) : table_Find p name = some (fnd p name) := by
 unfold table_Find slices_IndexFunc_api_Class
 have h := indexFunc_L name hp (p.length + 1) 0 (by omega) (by omega)
 rw [show (((p.length : Int) : Int) - (0)).toNat + 1 = p.length + 1 by omega, show (0 : Int) = ((0 : Nat) : Int) from rfl, h]
 simp only [List.drop_zero, obs]
 unfold fnd fi hit
 cases fiN p 0 name <;> rfl
theorem ref13_Find_L {p : List GClass} (name : List UInt8) (hp : p.length < 9223372036854775806) : ∀ (n k : Nat), n + k = p.length + 1 → k ≤ p.length →
  ref13_Find_L1 p name n (k : Int) = some (hit (fiN (p.drop k) k name))
 | 0, k, h, hk => by omega
 | n + 1, k, h, hk => by
  simp only [ref13_Find_L1]
  by_cases hlt : k < p.length
  ·rw [if_pos (by simpa using hlt), idx_lt hlt, List.drop_eq_getElem_cons hlt]
   simp only [obs, fiN]
   by_cases hc : (p[k].fName == name) = true
   ·rw [if_pos hc, if_pos hc]; rfl
   ·rw [if_neg hc, if_neg hc, w64_succ hlt (by omega)]
    exact ref13_Find_L name hp n (k + 1) (by omega) (by omega)
  ·rw [if_neg (by simpa using hlt), List.drop_eq_nil_of_le (by omega)]
   rfl
theorem ref13_Find_eq {p : List GClass} (hp : p.length < 9223372036854775806) (name : List UInt8) : ref13_Find p name = some (fnd p name) := by
 unfold ref13_Find
 have h := ref13_Find_L name hp (p.length + 1) 0 (by omega) (by omega)
 rw [show (((p.length : Int) : Int) - (0)).toNat + 1 = p.length + 1 by omega, show (0 : Int) = ((0 : Nat) : Int) from rfl, h]
 simp only [List.drop_zero, obs]
 unfold fnd fi hit
 cases fiN p 0 name <;> rfl
def sup (p : List GClass) (i : Nat) : List UInt8 := match p[i]? with | some c => c.fSuper | none => []
def upN (p : List GClass) : Nat → List UInt8 → List Nat
 | 0, _ => []
 | n + 1, name => match fi p name with
  | none => []
  | some i => if sup p i == [] then [i] else i :: upN p n (sup p i)
theorem itR_up_n_eq {p : List GClass} (hp : p.length < 9223372036854775806) : ∀ (n : Nat) (name : List UInt8), itR_up_n p n name = some ((upN p n name).map Int.ofNat)
 | 0, name => rfl
 | n + 1, name => by
  simp only [itR_up_n, upN, table_Find_eq hp, obs]
  cases hf : fi p name with
  | none => rw [fnd_none hf]; simp
  | some i =>
   rw [fnd_some hf, if_neg (by omega)]
   obtain ⟨c, hc, _⟩ := fi_spec hf
   have hidx : idx p (i : Int) = some c := by rw [idx_nat]; exact hc
   rw [hidx]
   have hs : sup p i = c.fSuper := by unfold sup; rw [hc]
   simp only [obs, hs]
   by_cases he : (c.fSuper == []) = true
   ·rw [if_pos he, if_pos he]; rfl
   ·rw [if_neg he, if_neg he, itR_up_n_eq hp n c.fSuper]; rfl
theorem itR_up_eq {p : List GClass} (hp : p.length < 9223372036854775806) (name : List UInt8) : itR_up p name = some ((upN p (p.length + 1) name).map Int.ofNat) := by
 unfold itR_up; rw [if_pos hp, itR_up_n_eq hp]
def chN (p : List GClass) : Nat → List Nat → List UInt8 → List Nat
 | 0, out, _ => out
 | n + 1, out, name => match fi p name with
  | none => out
  | some i => if i ∈ out then out else if sup p i == [] then out ++ [i] else chN p n (out ++ [i]) (sup p i)
def ch (p : List GClass) (name : List UInt8) : List Nat := chN p (p.length + 1) [] name
theorem nodup_len : ∀ (L : Nat) (l : List Nat), l.Nodup → (∀ x ∈ l, x < L) → l.length ≤ L
 | 0, l, _, h => by
  cases l with
  | nil => exact Nat.le_refl _
  | cons x l => have := h x (by simp); omega
 | L + 1, l, hn, h => by
  have h1 := nodup_len L (l.erase L) (hn.erase L) (fun x hx => by
   have := (hn.mem_erase_iff.1 hx)
   have := h x this.2
   omega)
  by_cases hm : L ∈ l
  ·have := List.length_erase_of_mem hm; omega
  ·rw [List.erase_of_not_mem hm] at h1; omega
structure Way (p : List GClass) (out : List Nat) (name : List UInt8) : Prop where
 nd : out.Nodup
 lt : ∀ x ∈ out, x < p.length
 nx : ∀ x ∈ out, sup p x ≠ [] ∧ (sup p x = name ∨ ∃ j, fi p (sup p x) = some j ∧ j ∈ out)
 own : ∀ x ∈ out, ∃ nm, fi p nm = some x
theorem Way.nil (p : List GClass) (name : List UInt8) : Way p [] name := ⟨List.nodup_nil, by simp, by simp, by simp⟩
theorem Way.snoc {p : List GClass} {out : List Nat} {name : List UInt8} {i : Nat} (h : Way p out name) (hf : fi p name = some i) (hi : i ∉ out) (hs : sup p i ≠ []) : Way p (out ++ [i]) (sup p i) := by
 refine ⟨?_, fun x hx => ?_, fun x hx => ?_, fun x hx => ?_⟩
 ·refine List.nodup_append.2 ⟨h.nd, by simp, fun a ha b hb => ?_⟩
  simp at hb; subst hb; rintro rfl; exact hi ha
 ·rcases List.mem_append.1 hx with hx | hx
  ·exact h.lt x hx
  ·simp at hx; subst hx; exact fi_lt hf
 ·rcases List.mem_append.1 hx with hx | hx
  ·obtain ⟨h1, h2⟩ := h.nx x hx
   refine ⟨h1, .inr ?_⟩
   rcases h2 with h2 | ⟨j, h2, h3⟩
   ·exact ⟨i, by rw [h2]; exact hf, by simp⟩
   ·exact ⟨j, h2, by simp [h3]⟩
  ·simp at hx; subst hx; exact ⟨hs, .inl rfl⟩
 ·rcases List.mem_append.1 hx with hx | hx
  ·exact h.own x hx
  ·simp at hx; subst hx; exact ⟨name, hf⟩
def Shut (p : List GClass) (S : List Nat) : Prop := ∀ x ∈ S, sup p x ≠ [] → ∀ j, fi p (sup p x) = some j → j ∈ S
theorem upN_shut {p : List GClass} {S : List Nat} (h : Shut p S) : ∀ (n : Nat) (name : List UInt8), (∀ j, fi p name = some j → j ∈ S) → ∀ x ∈ upN p n name, x ∈ S
 | 0, name, _, x, hx => by simp [upN] at hx
 | n + 1, name, hs, x, hx => by
  simp only [upN] at hx
  cases hf : fi p name with
  | none => rw [hf] at hx; simp at hx
  | some i =>
   rw [hf] at hx
   have hi := hs i hf
   simp only at hx
   split at hx
   ·simp at hx; subst hx; exact hi
   ·rename_i he
    rcases List.mem_cons.1 hx with rfl | hx
    ·exact hi
    ·exact upN_shut h n _ (fun j hj => h i hi (by simpa using he) j hj) x hx
theorem upN_round {p : List GClass} {S : List Nat} (h : ∀ x ∈ S, sup p x ≠ [] ∧ ∃ j, fi p (sup p x) = some j ∧ j ∈ S) : ∀ (n : Nat) (name : List UInt8) (i : Nat), fi p name = some i → i ∈ S → (upN p n name).length = n
 | 0, name, i, _, _ => rfl
 | n + 1, name, i, hf, hi => by
  obtain ⟨h1, j, h2, h3⟩ := h i hi
  simp only [upN, hf]
  rw [if_neg (by simpa using h1)]
  simp [upN_round h n _ j h2 h3]
def back (p : List GClass) (l : List Nat) : Bool := match l.getLast? with
 | none => false
 | some i => !(sup p i == []) && (match fi p (sup p i) with | some j => decide (j ∈ l) | none => false)
theorem upN_chN {p : List GClass} : ∀ (n : Nat) (out : List Nat) (name : List UInt8), n + out.length = p.length + 1 → Way p out name → (out = [] ∨ ∃ x, out.getLast? = some x ∧ sup p x = name) →
  ∃ R, out ++ upN p n name = chN p n out name ++ R ∧ (∀ x ∈ R, x ∈ chN p n out name) ∧ (∀ x ∈ out, x ∈ chN p n out name) ∧ (∀ j, fi p name = some j → j ∈ chN p n out name) ∧ Shut p (chN p n out name) ∧ (chN p n out name).Nodup ∧ (∀ x ∈ chN p n out name, x < p.length ∧ ∃ nm, fi p nm = some x) ∧
   (back p (chN p n out name) = decide ((upN p n name).length = n))
 | 0, out, name, hn, hw, hl => by
  exfalso
  have := nodup_len p.length out hw.nd hw.lt
  omega
 | n + 1, out, name, hn, hw, hl => by
  have hlen := nodup_len p.length out hw.nd hw.lt
  cases hf : fi p name with
  | none =>
   simp only [upN, chN, hf]
   refine ⟨[], by simp, by simp, fun x hx => hx, by simp, fun x hx hne j hj => ?_, hw.nd, fun x hx => ⟨hw.lt x hx, hw.own x hx⟩, ?_⟩
   ·rcases (hw.nx x hx).2 with h1 | ⟨j', h1, h2⟩
    ·rw [h1, hf] at hj; cases hj
    ·rw [h1] at hj; cases hj; exact h2
   ·have : back p out = false := by
     unfold back
     rcases hl with rfl | ⟨x, h1, h2⟩
     ·rfl
     ·rw [h1]; simp only [h2, hf, Bool.and_false]
    rw [this]; simp
  | some i =>
   simp only [upN, chN, hf]
   by_cases hi : i ∈ out
   ·rw [if_pos hi]
    have hround : ∀ x ∈ out, sup p x ≠ [] ∧ ∃ j, fi p (sup p x) = some j ∧ j ∈ out := by
     intro x hx
     obtain ⟨h1, h2⟩ := hw.nx x hx
     refine ⟨h1, ?_⟩
     rcases h2 with h2 | h2
     ·exact ⟨i, by rw [h2]; exact hf, hi⟩
     ·exact h2
    have hshut : Shut p out := fun x hx _ j hj => by
     obtain ⟨_, j', h1, h2⟩ := hround x hx
     rw [h1] at hj; cases hj; exact h2
    have hsub := upN_shut hshut (n + 1) name (fun j hj => by rw [hf] at hj; cases hj; exact hi)
    have hfull := upN_round hround (n + 1) name i hf hi
    simp only [upN, hf] at hsub hfull
    refine ⟨_, rfl, hsub, fun x hx => hx, fun j hj => by cases hj; exact hi, hshut, hw.nd, fun x hx => ⟨hw.lt x hx, hw.own x hx⟩, ?_⟩
    rw [hfull]
    have : back p out = true := by
     unfold back
     rcases hl with rfl | ⟨x, h1, h2⟩
     ·simp at hi
     ·have hx : x ∈ out := List.mem_of_getLast? h1
      rw [h1]
      simp only [h2, hf, hi, decide_true, Bool.and_true]
      have := (hw.nx x hx).1
      rw [h2] at this
      simpa using this
    rw [this]; simp
   ·rw [if_neg hi]
    by_cases hs : (sup p i == []) = true
    ·rw [if_pos hs, if_pos hs]
     have hs' : sup p i = [] := by simpa using hs
     have hw2 : (out ++ [i]).Nodup := List.nodup_append.2 ⟨hw.nd, by simp, fun a ha b hb => by
      simp at hb; subst hb; rintro rfl; exact hi ha⟩
     have hlt2 : ∀ x ∈ out ++ [i], x < p.length := fun x hx => by
      rcases List.mem_append.1 hx with hx | hx
      ·exact hw.lt x hx
      ·simp at hx; subst hx; exact fi_lt hf
     have hlen2 := nodup_len p.length _ hw2 hlt2
     refine ⟨[], by simp, by simp, fun x hx => by simp [hx], fun j hj => by cases hj; simp, fun x hx hne j hj => ?_, hw2, fun x hx => ⟨hlt2 x hx, ?_⟩, ?_⟩
     ·rcases List.mem_append.1 hx with hx | hx
      ·rcases (hw.nx x hx).2 with h1 | ⟨j', h1, h2⟩
       ·rw [h1, hf] at hj; cases hj; simp
       ·rw [h1] at hj; cases hj; simp [h2]
      ·simp at hx; subst hx; exact absurd hs' hne
     ·rcases List.mem_append.1 hx with hx | hx
      ·exact hw.own x hx
      ·simp at hx; subst hx; exact ⟨name, hf⟩
     ·have : back p (out ++ [i]) = false := by
       unfold back; simp [hs']
      rw [this]
      simp at hlen2
      simp; omega
    ·rw [if_neg hs, if_neg hs]
     have hs' : sup p i ≠ [] := by simpa using hs
     obtain ⟨R, k1, k2, k3, k4, k5, k6, k7, k8⟩ := upN_chN n (out ++ [i]) (sup p i) (by simp; omega) (hw.snoc hf hi hs') (.inr ⟨i, by simp, rfl⟩)
     refine ⟨R, by rw [← k1]; simp, k2, fun x hx => k3 x (by simp [hx]), fun j hj => by cases hj; exact k3 i (by simp), k5, k6, k7, ?_⟩
     rw [k8]; simp
theorem ch_facts (p : List GClass) (name : List UInt8) : ∃ R, upN p (p.length + 1) name = ch p name ++ R ∧ (∀ x ∈ R, x ∈ ch p name) ∧ (∀ j, fi p name = some j → j ∈ ch p name) ∧ Shut p (ch p name) ∧ (ch p name).Nodup ∧ (∀ x ∈ ch p name, x < p.length ∧ ∃ nm, fi p nm = some x) ∧
  (back p (ch p name) = decide ((upN p (p.length + 1) name).length = p.length + 1)) := by
 obtain ⟨R, k1, k2, k3, k4, k5, k6, k7, k8⟩ := upN_chN (p.length + 1) [] name (by simp) (Way.nil p name) (.inl rfl)
 exact ⟨R, by unfold ch; simpa using k1, k2, k4, k5, k6, k7, k8⟩
theorem idxI_L {l : List Int} (a : Int) (hp : l.length < 9223372036854775806) : ∀ (n k : Nat), n + k = l.length + 1 → k ≤ l.length →
  ∃ r, slices_Index_int_L1 l a n (k : Int) = some r ∧ ((∃ v : Int, r = .stop v ∧ 0 ≤ v ∧ a ∈ l.drop k) ∨ (r = .next () ∧ a ∉ l.drop k))
 | 0, k, h, hk => by omega
 | n + 1, k, h, hk => by
  simp only [slices_Index_int_L1]
  by_cases hlt : k < l.length
  ·rw [if_pos (by simpa using hlt), idx_lt hlt, List.drop_eq_getElem_cons hlt]
   simp only [obs]
   by_cases hc : (a == l[k]) = true
   ·rw [if_pos hc]
    have hc' : a = l[k] := by simpa using hc
    exact ⟨_, rfl, .inl ⟨_, rfl, by omega, by rw [hc']; exact List.mem_cons_self⟩⟩
   ·rw [if_neg hc, w64_succ hlt (by omega)]
    obtain ⟨r, h1, h2⟩ := idxI_L a hp n (k + 1) (by omega) (by omega)
    refine ⟨r, h1, ?_⟩
    have hne : a ≠ l[k] := by simpa using hc
    rcases h2 with ⟨v, h3, h4, h5⟩ | ⟨h3, h4⟩
    ·exact .inl ⟨v, h3, h4, List.mem_cons_of_mem _ h5⟩
    ·exact .inr ⟨h3, fun hm => (List.mem_cons.1 hm).elim hne h4⟩
  ·rw [if_neg (by simpa using hlt), List.drop_eq_nil_of_le (by omega)]
   exact ⟨_, rfl, .inr ⟨rfl, by simp⟩⟩
theorem contains_eq {l : List Int} (hp : l.length < 9223372036854775806) (a : Int) : slices_Contains_int l a = some (decide (a ∈ l)) := by
 unfold slices_Contains_int slices_Index_int
 obtain ⟨r, h1, h2⟩ := idxI_L a hp (l.length + 1) 0 (by omega) (by omega)
 rw [show (((l.length : Int) : Int) - (0)).toNat + 1 = l.length + 1 by omega, show (0 : Int) = ((0 : Nat) : Int) from rfl, h1]
 rcases h2 with ⟨v, rfl, h3, h4⟩ | ⟨rfl, h4⟩
 ·simp only [obs, Ctl.elim]
  simp only [List.drop_zero] at h4
  simp [h4, h3]
 ·simp only [obs, Ctl.elim]
  simp only [List.drop_zero] at h4
  simp [h4]
theorem mem_cast {i : Nat} {l : List Nat} : ((i : Int) ∈ l.map Int.ofNat) ↔ i ∈ l := by
 rw [List.mem_map]
 constructor
 ·rintro ⟨j, h1, h2⟩
  have : j = i := Int.ofNat.inj h2
  exact this ▸ h1
 ·intro h; exact ⟨i, h, rfl⟩
theorem chain_runs {p : List GClass} (hp : p.length ≤ 1000000) : ∀ (n : Nat) (out : List Nat) (name : List UInt8), n + out.length = p.length + 1 →
  ∃ r, runs above_Chain_B1 ((upN p n name).map Int.ofNat) (out.map Int.ofNat) = some r ∧ Ctl.elim r (fun x => x) (fun x => x) = (chN p n out name).map Int.ofNat
 | 0, out, name, _ => ⟨_, rfl, rfl⟩
 | n + 1, out, name, hn => by
  have hout : (out.map Int.ofNat).length < 9223372036854775806 := by simp; omega
  have hroom : room (((out.map Int.ofNat).length : Int) + (([(0 : Int)].length : Nat) : Int)) 8 = some () := room_ok (by simp; omega)
  simp only [upN, chN]
  cases hf : fi p name with
  | none => exact ⟨_, rfl, rfl⟩
  | some i =>
   simp only
   have hstep : ∀ rest, runs above_Chain_B1 (((i : Nat) :: rest).map Int.ofNat) (out.map Int.ofNat) = if i ∈ out then some (.stop (out.map Int.ofNat)) else runs above_Chain_B1 (rest.map Int.ofNat) ((out ++ [i]).map Int.ofNat) := by
    intro rest
    simp only [List.map_cons, runs, above_Chain_B1]
    rw [contains_eq hout]
    simp only [obs]
    by_cases hi : i ∈ out
    ·have : Int.ofNat i ∈ out.map Int.ofNat := mem_cast.2 hi
     rw [if_pos hi, if_pos (by simpa using this)]
     rfl
    ·have hni : ¬ Int.ofNat i ∈ out.map Int.ofNat := fun h => hi (mem_cast.1 h)
     rw [if_neg hi, if_neg (by simpa using hni)]
     rw [show (([Int.ofNat i].length : Nat) : Int) = (([(0 : Int)].length : Nat) : Int) from rfl, hroom]
     simp [obs, Ctl.elim]
   by_cases hi : i ∈ out
   ·rw [if_pos hi]
    split
    ·rw [hstep, if_pos hi]; exact ⟨_, rfl, rfl⟩
    ·rw [hstep, if_pos hi]; exact ⟨_, rfl, rfl⟩
   ·rw [if_neg hi]
    by_cases hs : (sup p i == []) = true
    ·rw [if_pos hs, if_pos hs, hstep, if_neg hi]
     exact ⟨_, rfl, rfl⟩
    ·rw [if_neg hs, if_neg hs, hstep, if_neg hi]
     exact chain_runs hp n (out ++ [i]) (sup p i) (by simp; omega)
theorem above_Chain_eq {p : List GClass} (hp : p.length ≤ 1000000) (name : List UInt8) : above_Chain p name = some ((ch p name).map Int.ofNat) := by
 unfold above_Chain above_up
 simp only [obs]
 rw [itR_up_eq (by omega)]
 simp only [obs]
 obtain ⟨r, h1, h2⟩ := chain_runs hp (p.length + 1) [] name (by simp)
 rw [show ([] : List Int) = ([] : List Nat).map Int.ofNat from rfl, h1]
 unfold ch
 rw [← h2]
 cases r <;> rfl
theorem ch_len (p : List GClass) (name : List UInt8) : (ch p name).length ≤ p.length := by
 obtain ⟨_, _, _, _, _, k6, k7, _⟩ := ch_facts p name
 exact nodup_len _ _ k6 (fun x hx => (k7 x hx).1)
theorem has_L {l : List Int} (a : Int) (hp : l.length < 9223372036854775806) : ∀ (n k : Nat), n + k = l.length + 1 → k ≤ l.length →
  ref14_has_L1 l a n (k : Int) = some (if a ∈ l.drop k then .stop true else .next ())
 | 0, k, h, hk => by omega
 | n + 1, k, h, hk => by
  simp only [ref14_has_L1]
  by_cases hlt : k < l.length
  ·rw [if_pos (by simpa using hlt), idx_lt hlt, List.drop_eq_getElem_cons hlt]
   simp only [obs]
   by_cases hc : (l[k] == a) = true
   ·rw [if_pos hc]
    simp at hc
    rw [if_pos (by rw [← hc]; exact List.mem_cons_self)]
   ·rw [if_neg hc, w64_succ hlt (by omega), has_L a hp n (k + 1) (by omega) (by omega)]
    have hne : a ≠ l[k] := fun e => hc (by simp [e])
    have e : (a ∈ l[k] :: l.drop (k + 1)) ↔ a ∈ l.drop (k + 1) := ⟨fun hm => (List.mem_cons.1 hm).resolve_left hne, List.mem_cons_of_mem _⟩
    simp only [e]
  ·rw [if_neg (by simpa using hlt), List.drop_eq_nil_of_le (by omega)]
   simp
theorem has_eq {l : List Int} (hp : l.length < 9223372036854775806) (a : Int) : ref14_has l a = some (decide (a ∈ l)) := by
 unfold ref14_has
 have h := has_L a hp (l.length + 1) 0 (by omega) (by omega)
 rw [show (((l.length : Int) : Int) - (0)).toNat + 1 = l.length + 1 by omega, show (0 : Int) = ((0 : Nat) : Int) from rfl, h]
 simp only [obs, List.drop_zero]
 by_cases hm : a ∈ l
 ·simp [hm, Ctl.elim]
 ·simp [hm, Ctl.elim]
theorem refChain_L {p : List GClass} (hp : p.length ≤ 1000000) : ∀ (n : Nat) (out : List Nat) (name : List UInt8), n + out.length = p.length + 1 → Way p out name →
  ∃ r, ref14_Chain_L1 p (n + 1) (out.map Int.ofNat) (fnd p name) = some r ∧ Ctl.elim r (fun x => x) (fun x => x) = (chN p n out name).map Int.ofNat
 | 0, out, name, hn, hw => by
  exfalso
  have := nodup_len p.length out hw.nd hw.lt
  omega
 | n + 1, out, name, hn, hw => by
  have hout : (out.map Int.ofNat).length < 9223372036854775806 := by simp; omega
  have hroom : ∀ z : Int, room (((out.map Int.ofNat).length : Int) + (([z].length : Nat) : Int)) 8 = some () := fun z => room_ok (by simp; omega)
  simp only [ref14_Chain_L1]
  cases hf : fi p name with
  | none =>
   rw [fnd_none hf]
   refine ⟨.next (out.map Int.ofNat), rfl, ?_⟩
   simp [chN, hf, Ctl.elim]
  | some i =>
   rw [fnd_some hf, has_eq hout]
   obtain ⟨c, hc, _⟩ := fi_spec hf
   have hidx : idx p (i : Int) = some c := by rw [idx_nat]; exact hc
   have hsup : sup p i = c.fSuper := by unfold sup; rw [hc]
   have hd : decide ((i : Int) ≥ 0) = true := by simp
   rw [if_pos hd]
   simp only [chN, hf, obs, hroom, hidx]
   by_cases hi : i ∈ out
   ·rw [if_neg (by simpa using mem_cast.2 hi), if_pos hi]
    exact ⟨_, rfl, rfl⟩
   ·have hni : ¬ (i : Int) ∈ out.map Int.ofNat := fun h => hi (mem_cast.1 h)
    rw [if_pos (by simpa using hni), if_neg hi]
    have hcat : out.map Int.ofNat ++ [(i : Int)] = (out ++ [i]).map Int.ofNat := by simp
    rw [hcat, hsup]
    by_cases hs : (c.fSuper == []) = true
    ·rw [if_pos hs, if_pos hs]
     exact ⟨_, rfl, rfl⟩
    ·rw [if_neg hs, if_neg hs, ref13_Find_eq (by omega)]
     simp only [obs]
     have hs' : sup p i ≠ [] := by rw [hsup]; simpa using hs
     have := refChain_L hp n (out ++ [i]) (sup p i) (by simp; omega) (hw.snoc hf hi hs')
     rw [hsup] at this
     exact this
theorem ref_Chain_eq {p : List GClass} (hp : p.length ≤ 1000000) (name : List UInt8) : ref14_Chain p name = some ((ch p name).map Int.ofNat) := by
 unfold ref14_Chain
 rw [ref13_Find_eq (by omega)]
 obtain ⟨r, h1, h2⟩ := refChain_L hp (p.length + 1) [] name (by simp) (Way.nil p name)
 simp only [obs]
 rw [show p.length + 2 = p.length + 1 + 1 from rfl, show ([] : List Int) = ([] : List Nat).map Int.ofNat from rfl, h1]
 unfold ch
 rw [← h2]
 cases r <;> rfl
def meth (c : GClass) (name : List UInt8) : Option GMethod := c.fMethods.find? fun m => m.fName == name
def fstM (p : List GClass) (name : List UInt8) : List Nat → Option (List UInt8 × GMethod)
 | [] => none
 | i :: r => match p[i]? with
  | some c => (match meth c name with | some m => some (c.fName, m) | none => fstM p name r)
  | none => none
def fnd1 (o : Option (List UInt8 × GMethod)) (z : GFound_method) : GFound_method × Bool := match o with | some x => ({ fClass := x.1, fMethod := x.2 }, true) | none => (z, false)
theorem walk_L2 {p : List GClass} {c : GClass} {i : Nat} (hi : p[i]? = some c) (name : List UInt8) (z : GFound_method) (hl : c.fMethods.length ≤ 9223372036854775807) : ∀ (n k : Nat), n + k = c.fMethods.length + 1 → k ≤ c.fMethods.length →
  method_walk_w_L2 name p (i : Int) c n z false (k : Int) = some (match (c.fMethods.drop k).find? (fun m => m.fName == name) with | some m => .stop (({ fClass := c.fName, fMethod := m } : GFound_method), true) | none => .next (z, false))
 | 0, k, h, hk => by omega
 | n + 1, k, h, hk => by
  rw [method_walk_w_L2]
  by_cases hlt : k < c.fMethods.length
  ·rw [if_pos (by simpa using hlt), idx_lt hlt, obs, List.drop_eq_getElem_cons hlt, List.find?_cons]
   unfold method_first_1_w
   by_cases hn : (c.fMethods[k].fName == name) = true
   ·simp only [hn, if_true, idx_nat, hi, obs]
    rfl
   ·simp only [Bool.not_eq_true] at hn
    simp only [hn]
    rw [if_neg (by simp), obs, if_neg (by simp), w64_succ hlt hl]
    exact walk_L2 hi name z hl n (k + 1) (by omega) (by omega)
  ·rw [if_neg (by simpa using hlt), List.drop_eq_nil_of_le (by omega)]; rfl
theorem walk_L1 {p : List GClass} (hm : ∀ c ∈ p, c.fMethods.length ≤ 9223372036854775807) (name : List UInt8) (z : GFound_method) (l : List Nat) (hl : ∀ x ∈ l, x < p.length) (hll : l.length ≤ 1000000) : ∀ (n k : Nat), n + k = l.length + 1 → k ≤ l.length →
  method_walk_w_L1 p (l.map Int.ofNat) name p n z false (k : Int) = some (match fstM p name (l.drop k) with | some x => .stop (({ fClass := x.1, fMethod := x.2 } : GFound_method), true) | none => .next (z, false))
 | 0, k, h, hk => by omega
 | n + 1, k, h, hk => by
  rw [method_walk_w_L1]
  by_cases hlt : k < l.length
  ·have hx := hl l[k] (List.getElem_mem hlt)
   have hc : p[l[k]]? = some p[l[k]] := List.getElem?_eq_getElem hx
   rw [if_pos (by simpa using hlt), idx_lt (by simpa using hlt), obs, List.getElem_map, show Int.ofNat l[k] = ((l[k] : Nat) : Int) from rfl, idx_nat, hc, obs, fuel_len, show (0 : Int) = ((0 : Nat) : Int) from rfl, walk_L2 hc name z (hm _ (List.getElem_mem hx)) _ 0 (by omega) (by omega), obs, List.drop_zero, List.drop_eq_getElem_cons hlt]
   simp only [fstM, hc, meth]
   cases hf : p[l[k]].fMethods.find? (fun m => m.fName == name) with
   | some m => rfl
   | none =>
    show method_walk_w_L1 p (l.map Int.ofNat) name p n z false (w_i64 ((k : Int) + 1)) = _
    rw [w64_succ hlt (by omega)]
    exact walk_L1 hm name z l hl hll n (k + 1) (by omega) (by omega)
  ·rw [if_neg (by simpa using hlt), List.drop_eq_nil_of_le (by omega)]; rfl
def zfm : GFound_method := { fClass := [], fMethod := zGMethod }
theorem method_first_eq {p : List GClass} (hm : ∀ c ∈ p, c.fMethods.length ≤ 9223372036854775807) (name : List UInt8) (l : List Nat) (hl : ∀ x ∈ l, x < p.length) (hll : l.length ≤ 1000000) : method_first p (l.map Int.ofNat) name = some (fnd1 (fstM p name l) zfm) := by
 unfold method_first method_walk_w
 rw [fuel_len, show (0 : Int) = ((0 : Nat) : Int) from rfl, walk_L1 hm name _ l hl hll _ 0 (by simp) (by omega), obs, List.drop_zero]
 cases fstM p name l <;> rfl
theorem ch_lt (p : List GClass) (name : List UInt8) : ∀ x ∈ ch p name, x < p.length := by
 obtain ⟨_, _, _, _, _, _, k7, _⟩ := ch_facts p name
 exact fun x hx => (k7 x hx).1
theorem method_Find_eq {p : List GClass} (hp : p.length ≤ 1000000) (hm : ∀ c ∈ p, c.fMethods.length ≤ 9223372036854775807) (a name : List UInt8) : method_Find p a name = some (fnd1 (fstM p name (ch p a)) zfm) := by
 unfold method_Find
 have := ch_len p a
 rw [above_Chain_eq hp, obs, method_first_eq hm name _ (ch_lt p a) (by omega), obs]
def fnd2 (o : Option (List UInt8 × GMethod)) : GFound_ref17 × Bool := match o with | some x => ({ fClass := x.1, fMethod := x.2 }, true) | none => ({ fClass := [], fMethod := zGMethod }, false)
theorem ref_own_L (c : GClass) (name : List UInt8) (hl : c.fMethods.length ≤ 9223372036854775807) : ∀ (n k : Nat), n + k = c.fMethods.length + 1 → k ≤ c.fMethods.length →
  ref17_own_L1 c name n (k : Int) = some (match (c.fMethods.drop k).find? (fun m => m.fName == name) with | some m => .stop (({ fClass := c.fName, fMethod := m } : GFound_ref17), true) | none => .next ())
 | 0, k, h, hk => by omega
 | n + 1, k, h, hk => by
  rw [ref17_own_L1]
  by_cases hlt : k < c.fMethods.length
  ·rw [if_pos (by simpa using hlt), idx_lt hlt, obs, obs, List.drop_eq_getElem_cons hlt, List.find?_cons]
   by_cases hn : (c.fMethods[k].fName == name) = true
   ·simp only [hn, if_true]
   ·simp only [Bool.not_eq_true] at hn
    simp only [hn]
    rw [if_neg (by simp), w64_succ hlt hl]
    exact ref_own_L c name hl n (k + 1) (by omega) (by omega)
  ·rw [if_neg (by simpa using hlt), List.drop_eq_nil_of_le (by omega)]; rfl
theorem ref_own_eq (c : GClass) (name : List UInt8) (hl : c.fMethods.length ≤ 9223372036854775807) : ref17_own c name = some (match meth c name with | some m => (({ fClass := c.fName, fMethod := m } : GFound_ref17), true) | none => (({ fClass := [], fMethod := zGMethod } : GFound_ref17), false)) := by
 unfold ref17_own meth
 rw [fuel_len, show (0 : Int) = ((0 : Nat) : Int) from rfl, ref_own_L c name hl _ 0 (by omega) (by omega), obs, List.drop_zero]
 cases c.fMethods.find? (fun m => m.fName == name) <;> rfl
theorem among_L {p : List GClass} (hm : ∀ c ∈ p, c.fMethods.length ≤ 9223372036854775807) (name : List UInt8) (l : List Nat) (hl : ∀ x ∈ l, x < p.length) (hll : l.length ≤ 1000000) : ∀ (n k : Nat), n + k = l.length + 1 → k ≤ l.length →
  ref17_among_L1 p (l.map Int.ofNat) name n (k : Int) = some (match fstM p name (l.drop k) with | some x => .stop (({ fClass := x.1, fMethod := x.2 } : GFound_ref17), true) | none => .next ())
 | 0, k, h, hk => by omega
 | n + 1, k, h, hk => by
  rw [ref17_among_L1]
  by_cases hlt : k < l.length
  ·have hx := hl l[k] (List.getElem_mem hlt)
   have hc : p[l[k]]? = some p[l[k]] := List.getElem?_eq_getElem hx
   rw [if_pos (by simpa using hlt), idx_lt (by simpa using hlt), obs, List.getElem_map, show Int.ofNat l[k] = ((l[k] : Nat) : Int) from rfl, idx_nat, hc, obs, ref_own_eq _ _ (hm _ (List.getElem_mem hx)), obs, List.drop_eq_getElem_cons hlt]
   simp only [fstM, hc]
   cases hf : meth p[l[k]] name with
   | some m => rfl
   | none =>
    rw [if_neg (by simp), w64_succ hlt (by omega)]
    exact among_L hm name l hl hll n (k + 1) (by omega) (by omega)
  ·rw [if_neg (by simpa using hlt), List.drop_eq_nil_of_le (by omega)]; rfl
theorem among_eq {p : List GClass} (hm : ∀ c ∈ p, c.fMethods.length ≤ 9223372036854775807) (name : List UInt8) (l : List Nat) (hl : ∀ x ∈ l, x < p.length) (hll : l.length ≤ 1000000) : ref17_among p (l.map Int.ofNat) name = some (fnd2 (fstM p name l)) := by
 unfold ref17_among
 rw [fuel_len, show (0 : Int) = ((0 : Nat) : Int) from rfl, among_L hm name l hl hll _ 0 (by simp) (by omega), obs, List.drop_zero]
 cases fstM p name l <;> rfl
theorem ref17_Find_eq {p : List GClass} (hp : p.length ≤ 1000000) (hm : ∀ c ∈ p, c.fMethods.length ≤ 9223372036854775807) (a name : List UInt8) : ref17_Find p a name = some (fnd2 (fstM p name (ch p a))) := by
 unfold ref17_Find
 have := ch_len p a
 rw [ref_Chain_eq hp, obs, among_eq hm name _ (ch_lt p a) (by omega), obs]
def Rel23 (V : List GVar) (T : BitVec 64) (L : List Bool) : Prop := L.length = V.length ∧ ∀ i, i < V.length → L[i]? = some (isU V i && T.getLsbD (rkU V i))
def namS (V : List GVar) (T : BitVec 64) : List (List UInt8) := ((uqs V).filter fun i => T.getLsbD (rkU V i)).map (nameV V)
theorem names_fold {m : GMethod} (hV : (varsS m).length ≤ 60) (hn : ∀ v ∈ varsS m, v.fName.length ≤ maxLen) {w : Gwalker_flow} (hw : w.fat = atK (varsS m) (varsS m).length) (T : BitVec 64) : ∀ (l : List Nat) (s : List (List UInt8)), (∀ i ∈ l, isU (varsS m) i = true) → s.length + l.length ≤ 1000 →
  foldO (fun (s : List (List UInt8)) (y38 : List UInt8) => Option.bind (__flow_walker__bit w y38) fun (y42 : Int) => if ((andI .u64 (bI T) y42) != 0) = true then Option.bind (room ((s.length : Int) + ([y38].length : Int)) 16) fun (_ : Unit) => some (s ++ [y38]) else some s) s (l.map (nameV (varsS m))) =
   some (s ++ (l.filter fun i => T.getLsbD (rkU (varsS m) i)).map (nameV (varsS m)))
 | [], s, _, _ => by simp [foldO]
 | i :: l, s, hl, hs => by
  have hu := hl i (by simp)
  have hlt := isU_lt hu
  have hr := rkU_lt hu
  have hr2 := uqs_len (varsS m)
  simp only [List.length_cons] at hs
  simp only [List.map_cons, foldO]
  rw [bit_eq hV hw (by rw [nameV_at hlt]; exact hn _ (List.getElem_mem hlt)), obs, nameV_at hlt, placeU_of hu hlt]
  show Option.bind (if ((andI .u64 (bI T) (bI (oneB (rkU (varsS m) i)))) != 0) = true then _ else _) _ = _
  rw [andB, nz_one T (by omega), List.filter_cons]
  cases ht : T.getLsbD (rkU (varsS m) i) with
  | true =>
   rw [if_pos rfl, room_ok (by simp; omega), obs, obs, if_pos rfl, names_fold hV hn hw T l _ (fun j hj => hl j (by simp [hj])) (by simp; omega)]
   simp [nameV_at hlt]
  | false =>
   rw [if_neg (by simp), obs, if_neg (by simp), names_fold hV hn hw T l _ (fun j hj => hl j (by simp [hj])) (by omega)]
theorem flow_names_eq {m : GMethod} (hV : (varsS m).length ≤ 60) (hn : ∀ v ∈ varsS m, v.fName.length ≤ maxLen) {w : Gwalker_flow} (hw : w.fat = atK (varsS m) (varsS m).length) (hv : w.fvars = (uqs (varsS m)).map (nameV (varsS m))) (T : BitVec 64) : __flow_walker__names w (bI T) = some (namS (varsS m) T) := by
 have hl := uqs_len (varsS m)
 unfold __flow_walker__names
 rw [foldL (__flow_walker__names_L1 w (bI T)) (l := w.fvars) (f := fun (s : List (List UInt8)) (y38 : List UInt8) => Option.bind (__flow_walker__bit w y38) fun (y42 : Int) => if ((andI .u64 (bI T) y42) != 0) = true then Option.bind (room ((s.length : Int) + ([y38].length : Int)) 16) fun (_ : Unit) => some (s ++ [y38]) else some s) (fin := some) (by rw [hv, List.length_map]; omega) (fun n s x => by
  rw [__flow_walker__names_L1]
  split
  ·cases idx w.fvars x <;> rfl
  ·rfl)]
 rw [hv, names_fold hV hn hw T _ _ (fun i hi => mem_uqs.1 hi) (by simp; omega)]
 simp [namS]
theorem rnames_L {V : List GVar} {T : BitVec 64} {L : List Bool} (hR : Rel23 V T L) (hV : V.length ≤ 60) : ∀ (n k : Nat) (s : List (List UInt8)), n + k = V.length + 1 → k ≤ V.length → s.length ≤ k →
  ref23_names_L1 L V n s (k : Int) = some (s ++ ((List.range' k (V.length - k)).filter fun i => isU V i && T.getLsbD (rkU V i)).map (nameV V))
 | 0, k, s, h, hk, hs => by omega
 | n + 1, k, s, h, hk, hs => by
  rw [ref23_names_L1]
  by_cases hlt : k < V.length
  ·rw [if_pos (by simpa using hlt), idx_nat, hR.2 k hlt, obs, idx_lt hlt]
   simp only [obs, w64_succ hlt (show V.length ≤ 9223372036854775807 by omega)]
   rw [show V.length - k = (V.length - (k + 1)) + 1 by omega, List.range'_succ, List.filter_cons]
   cases hb : (isU V k && T.getLsbD (rkU V k)) with
   | true => rw [if_pos rfl, room_ok (by simp; omega), obs, obs, rnames_L hR hV n (k + 1) _ (by omega) (by omega) (by simp; omega)]; simp [nameV_at hlt]
   | false => rw [if_neg (by simp), obs, rnames_L hR hV n (k + 1) _ (by omega) (by omega) (by omega)]; simp
  ·rw [if_neg (by simpa using hlt), show V.length - k = 0 by omega]; simp
theorem ref23_names_eq {m : GMethod} (h1 : m.fParams.length ≤ 30) (h2 : m.fLocals.length ≤ 30) {T : BitVec 64} {L : List Bool} (hR : Rel23 (varsS m) T L) : ref23_names m L = some (namS (varsS m) T) := by
 unfold ref23_names
 have hV : (varsS m).length ≤ 60 := by unfold varsS; simp; omega
 rw [ref12_Vars_eq (by omega) (by omega), obs, fuel_len, show (0 : Int) = ((0 : Nat) : Int) from rfl, rnames_L hR hV _ 0 _ (by omega) (by omega) (by simp), obs]
 unfold namS uqs uqk
 rw [List.filter_filter, List.range_eq_range']
 simp only [List.nil_append, Nat.sub_zero]
 congr 3
 funext i
 rw [Bool.and_comm]
theorem callee_both {p : List GClass} {c : GClass} {m : GMethod} (hp : p.length ≤ 1000000) (hm : ∀ c ∈ p, c.fMethods.length ≤ 9223372036854775807) (hc : c.fParams.length ≤ 60) (h1 : m.fParams.length ≤ 100) (h2 : m.fLocals.length ≤ 100) (s : GStmt) :
  ∃ o, fit_Callee p c m s = some (fnd1 o zfm) ∧ ref20_Callee ⟨p, c, m⟩ s = some (fnd2 o) ∧ (s.fKind ≠ 4 → o = none) := by
 obtain ⟨r, e1, e2⟩ := scope_Type_eq hc h1 h2 s.fY
 have hobj : ∃ y, ref20_object ⟨p, c, m⟩ s = some y ∧ y.1 = r.1 ∧ (y.2 = 0 → r.2 = true ∧ r.1.fKind = 2) ∧ (s.fKind = 4 → r.2 = true → r.1.fKind = 2 → y.2 = 0) := by
  unfold ref20_object
  rw [show (GPlace_ref20.fC ⟨p, c, m⟩) = c from rfl, show (GPlace_ref20.fM ⟨p, c, m⟩) = m from rfl, e2, obs]
  cases hr : r.2 with
  | false => exact ⟨_, rfl, rfl, fun h => by simp at h, fun _ h => by cases h⟩
  | true =>
   rw [if_neg (by simp)]
   by_cases hk : r.1.fKind = 2
   ·rw [if_neg (by simpa using hk), ref05_Unique_eq, obs]
    cases uniq r.1 with
    | false => exact ⟨_, rfl, rfl, fun _ => ⟨rfl, hk⟩, fun _ _ _ => rfl⟩
    | true =>
     rw [if_pos rfl, obs]
     by_cases h4 : s.fKind = 4
     ·rw [if_neg (by simpa using h4)]; exact ⟨_, rfl, rfl, fun _ => ⟨rfl, hk⟩, fun _ _ _ => rfl⟩
     ·rw [if_pos (by simpa using h4)]; exact ⟨_, rfl, rfl, fun h => by simp at h, fun h => absurd h h4⟩
   ·rw [if_pos (by simpa using hk)]; exact ⟨_, rfl, rfl, fun h => by simp at h, fun _ _ h => absurd h hk⟩
 obtain ⟨y, hy, hy1, hy2, hy3⟩ := hobj
 unfold fit_Callee ref20_Callee
 rw [hy, obs]
 by_cases h4 : s.fKind = 4
 ·have hn4 : (s.fKind != 4) = false := by simp [h4]
  have h44 : (s.fKind == 4) = true := by simp [h4]
  rw [hn4, if_neg (by simp)]
  unfold __fit_asker__object_w
  simp only [e1, obs]
  by_cases hr : r.2 = true
  ·by_cases hk : r.1.fKind = 2
   ·have h0 := hy3 h4 hr hk
    refine ⟨fstM p s.fName (ch p r.1.fClass), ?_, ?_, fun h => absurd h4 h⟩
    ·rw [if_neg (by simp [hr]), if_neg (by simpa using hk)]
     simp only [h44, if_true]
     rw [show fit_must true 22 = some 0 from rfl]
     simp only [obs]
     rw [if_neg (by simp), method_Find_eq hp hm, obs]
    ·rw [if_neg (by simp [h0]), obs, if_neg (by simp), hy1, ref17_Find_eq hp hm, obs]
   ·have h0 : y.2 ≠ 0 := fun h => hk (hy2 h).2
    refine ⟨none, ?_, ?_, fun _ => rfl⟩
    ·rw [if_neg (by simp [hr]), if_pos (by simpa using hk)]; rfl
    ·rw [if_pos (by simpa using h0), obs]; rfl
  ·have h0 : y.2 ≠ 0 := fun h => hr (hy2 h).1
   refine ⟨none, ?_, ?_, fun _ => rfl⟩
   ·rw [if_pos (by simpa using hr)]; rfl
   ·rw [if_pos (by simpa using h0), obs]; rfl
 ·have hn4 : (s.fKind != 4) = true := by simpa using h4
  refine ⟨none, ?_, ?_, fun _ => rfl⟩
  ·rw [hn4, if_pos rfl]; rfl
  ·rw [hn4]
   have : (if (y.2 != 0) = true then some true else some true : Option Bool) = some true := by split <;> rfl
   rw [this, obs]; rfl
def parO (o : Option (List UInt8 × GMethod)) : List GVar := match o with | some x => x.2.fParams | none => []
def tkA (V : List GVar) : List GExpr → List GVar → List (Option Nat)
 | a :: as', v :: vs => if (decide (a.fKind = 2) && uniq v.fType) = true then placeU V a.fName :: tkA V as' vs else tkA V as' vs
 | _, _ => []
def tkS (V : List GVar) (m : GMethod) (s : GStmt) (o : Option (List UInt8 × GMethod)) : List (Option Nat) :=
 if s.fKind = 7 ∨ s.fKind = 8 then [placeU V s.fY] else if s.fKind = 11 then (if (decide (s.fE.fKind = 2) && uniq m.fRet) = true then [placeU V s.fE.fName] else []) else if s.fKind = 4 then tkA V s.fArgs (parO o) else []
theorem placeU_isU {V : List GVar} {name : List UInt8} : ∀ i, placeU V name = some i → isU V i = true := fun _ h => (placeU_some h).1
theorem tkA_isU {V : List GVar} : ∀ (as' : List GExpr) (vs : List GVar), ∀ x ∈ tkA V as' vs, ∀ i, x = some i → isU V i = true
 | [], _, x, hx => by simp [tkA] at hx
 | _ :: _, [], x, hx => by simp [tkA] at hx
 | a :: as', v :: vs, x, hx => by
  simp only [tkA] at hx
  split at hx
  ·rcases List.mem_cons.1 hx with rfl | hx
   ·exact placeU_isU
   ·exact tkA_isU as' vs x hx
  ·exact tkA_isU as' vs x hx
theorem tkS_isU {V : List GVar} {m : GMethod} {s : GStmt} {o : Option (List UInt8 × GMethod)} : ∀ x ∈ tkS V m s o, ∀ i, x = some i → isU V i = true := by
 intro x hx
 unfold tkS at hx
 split at hx
 ·simp at hx; subst hx; exact placeU_isU
 ·split at hx
  ·split at hx
   ·simp at hx; subst hx; exact placeU_isU
   ·simp at hx
  ·split at hx
   ·exact tkA_isU _ _ x hx
   ·simp at hx
theorem tkA_len {V : List GVar} : ∀ (as' : List GExpr) (vs : List GVar), (tkA V as' vs).length ≤ as'.length
 | [], _ => by simp [tkA]
 | _ :: _, [] => by simp [tkA]
 | a :: as', v :: vs => by
  have := tkA_len (V := V) as' vs
  simp only [tkA]; split
  ·simp; omega
  ·simp; omega
def bB (V : List GVar) (o : Option Nat) : Int := bI (bitO V o)
theorem ftakes_L {m : GMethod} (hV : (varsS m).length ≤ 60) {w : Gwalker_flow} (hw : w.fat = atK (varsS m) (varsS m).length) {s : GStmt} (hl : s.fArgs.length ≤ 1048576) (hn : ∀ a ∈ s.fArgs, a.fName.length ≤ maxLen) (y : GFound_method × Bool) {ps : List GVar} (hps : ps = if y.2 = true then y.1.fMethod.fParams else []) : ∀ (n k : Nat) (acc : List Int), n + k = s.fArgs.length + 1 → k ≤ s.fArgs.length → acc.length ≤ k →
  __flow_walker__takes_L1 w s y n acc (k : Int) = some (acc ++ (tkA (varsS m) (s.fArgs.drop k) (ps.drop k)).map (bB (varsS m)))
 | 0, k, acc, h, hk, ha => by omega
 | n + 1, k, acc, h, hk, ha => by
  rw [__flow_walker__takes_L1]
  by_cases hlt : k < s.fArgs.length
  ·have ih := fun acc h => ftakes_L hV hw hl hn y hps n (k + 1) acc (by omega) (by omega) h
   rw [if_pos (by simpa using hlt), idx_lt hlt, obs]
   simp only [w64_succ hlt (show s.fArgs.length ≤ 9223372036854775807 by omega)]
   rw [List.drop_eq_getElem_cons hlt]
   have hc : (if y.2 = true then if (decide ((k : Int) < (y.1.fMethod.fParams.length : Int))) = true then if (s.fArgs[k].fKind == 2) = true then Option.bind (idx y.1.fMethod.fParams (k : Int)) fun (y81 : GVar) => Option.bind (kind_Unique y81.fType) fun (y83 : Bool) => some y83 else some false else some false else some false : Option Bool) = some (match ps[k]? with | some v => decide (s.fArgs[k].fKind = 2) && uniq v.fType | none => false) := by
    cases hy : y.2 with
    | false => rw [hy] at hps; simp only [Bool.false_eq_true, if_false] at hps; rw [hps]; simp
    | true =>
     rw [hy] at hps; simp only [if_true] at hps; rw [← hps, if_pos rfl, idx_nat]
     by_cases hp : k < ps.length
     ·rw [if_pos (by simpa using hp), List.getElem?_eq_getElem hp]
      simp only [obs, kind_Unique_eq]
      by_cases h2 : s.fArgs[k].fKind = 2
      ·simp [h2]
      ·simp [h2]
     ·rw [if_neg (by simpa using hp), List.getElem?_eq_none (by omega)]
   rw [hc, obs]
   by_cases hp : k < ps.length
   ·rw [List.getElem?_eq_getElem hp, List.drop_eq_getElem_cons hp]
    simp only [tkA]
    by_cases hb : (decide (s.fArgs[k].fKind = 2) && uniq ps[k].fType) = true
    ·rw [if_pos hb, if_pos hb, bit_eq hV hw (hn _ (List.getElem_mem hlt)), obs, room_ok (by simp; omega), obs, obs, ih _ (by simp; omega)]
     simp [bB]
    ·rw [if_neg hb, if_neg hb, obs, ih _ (by omega)]
   ·have e : ∀ l : List GExpr, tkA (varsS m) l [] = [] := fun l => by cases l <;> rfl
    rw [List.getElem?_eq_none (by omega), if_neg (by simp), obs, ih _ (by omega), List.drop_eq_nil_of_le (show ps.length ≤ k by omega), List.drop_eq_nil_of_le (show ps.length ≤ k + 1 by omega), e, e]
  ·rw [if_neg (by simpa using hlt), List.drop_eq_nil_of_le (show s.fArgs.length ≤ k by omega)]; simp [tkA]
theorem flow_takes_eq {p : List GClass} {c : GClass} {m : GMethod} (hV : (varsS m).length ≤ 60) {w : Gwalker_flow} (hw : w.fat = atK (varsS m) (varsS m).length) (hwp : w.fp = p) (hwc : w.fc = c) (hwm : w.fm = m) {s : GStmt} (hl : s.fArgs.length ≤ 1048576) (hn : ∀ a ∈ s.fArgs, a.fName.length ≤ maxLen) (hy : s.fY.length ≤ maxLen) (he : s.fE.fName.length ≤ maxLen)
  {o : Option (List UInt8 × GMethod)} (ho : fit_Callee p c m s = some (fnd1 o zfm)) : __flow_walker__takes w s = some ((tkS (varsS m) m s o).map (bB (varsS m))) := by
 unfold __flow_walker__takes tkS
 have hx : (if (s.fKind == 7) = true then some (s.fKind == 7) else some (s.fKind == 8) : Option Bool) = some (decide (s.fKind = 7 ∨ s.fKind = 8)) := by
  by_cases h7 : s.fKind = 7
  ·simp [h7]
  ·simp [h7]; rw [Bool.eq_iff_iff]; simp
 rw [hx, obs]
 by_cases h78 : s.fKind = 7 ∨ s.fKind = 8
 ·rw [if_pos (by simpa using h78), if_pos h78, bit_eq hV hw hy, obs]; rfl
 ·rw [if_neg (by simpa using h78), if_neg h78]
  by_cases h11 : s.fKind = 11
  ·rw [if_pos (by simpa using h11), if_pos h11, hwm, kind_Unique_eq]
   simp only [obs]
   by_cases h2 : s.fE.fKind = 2
   ·rw [if_pos (by simpa using h2), obs]
    cases uniq m.fRet with
    | true => rw [if_pos rfl, bit_eq hV hw he, obs, if_pos (by simp [h2])]; rfl
    | false => rw [if_neg (by simp), if_neg (by simp)]; rfl
   ·rw [if_neg (by simpa using h2), obs, if_neg (by simp), if_neg (by simp [h2])]; rfl
  ·rw [if_neg (by simpa using h11), if_neg h11]
   by_cases h4 : s.fKind = 4
   ·rw [if_pos (by simpa using h4), if_pos h4, hwp, hwc, hwm, ho, obs, fuel_len, show (0 : Int) = ((0 : Nat) : Int) from rfl, ftakes_L hV hw hl hn (fnd1 o zfm) (ps := parO o) (by cases o <;> rfl) _ 0 _ (by omega) (by omega) (by simp), obs, List.drop_zero, List.drop_zero, List.nil_append]
   ·rw [if_neg (by simpa using h4), if_neg h4]; rfl
theorem rtakes_L {p : List GClass} {c : GClass} {m : GMethod} (h1 : m.fParams.length ≤ 100) (h2 : m.fLocals.length ≤ 100) {s : GStmt} (hl : s.fArgs.length ≤ 1048576) (y : GFound_ref17 × Bool) {ps : List GVar} (hps : ps = if y.2 = true then y.1.fMethod.fParams else []) : ∀ (n k : Nat) (acc : List Int), n + k = s.fArgs.length + 1 → k ≤ s.fArgs.length → acc.length ≤ k →
  ref23_takes_L1 ⟨p, c, m⟩ s y n acc (k : Int) = some (acc ++ (tkA (varsS m) (s.fArgs.drop k) (ps.drop k)).map pI)
 | 0, k, acc, h, hk, ha => by omega
 | n + 1, k, acc, h, hk, ha => by
  rw [ref23_takes_L1]
  have hc : (if (decide ((k : Int) < (s.fArgs.length : Int))) = true then if y.2 = true then some (decide ((k : Int) < (y.1.fMethod.fParams.length : Int))) else some false else some false : Option Bool) = some (decide (k < s.fArgs.length) && decide (k < ps.length)) := by
   by_cases hlt : k < s.fArgs.length
   ·rw [if_pos (by simpa using hlt)]
    cases hy : y.2 with
    | false => rw [hy] at hps; simp only [Bool.false_eq_true, if_false] at hps; rw [hps]; simp
    | true => rw [hy] at hps; simp only [if_true] at hps; rw [← hps, if_pos rfl]; simp [hlt]
   ·rw [if_neg (by simpa using hlt)]; simp [hlt]
  rw [hc, obs]
  by_cases hlt : k < s.fArgs.length
  ·have ih := fun acc h => rtakes_L (p := p) (c := c) h1 h2 hl y hps n (k + 1) acc (by omega) (by omega) h
   by_cases hp : k < ps.length
   ·have hps2 : y.1.fMethod.fParams = ps := by
     cases hy : y.2 with
     | false => rw [hy] at hps; simp at hps; rw [hps] at hp; simp at hp
     | true => rw [hy] at hps; simpa using hps.symm
    rw [if_pos (by simp [hlt, hp]), idx_lt hlt, hps2, idx_lt hp]
    simp only [obs, ref05_Unique_eq, w64_succ hlt (show s.fArgs.length ≤ 9223372036854775807 by omega)]
    rw [List.drop_eq_getElem_cons hlt, List.drop_eq_getElem_cons hp]
    simp only [tkA]
    have hq : (if (s.fArgs[k].fKind == 2) = true then some (uniq ps[k].fType) else some false : Option Bool) = some (decide (s.fArgs[k].fKind = 2) && uniq ps[k].fType) := by
     by_cases h2 : s.fArgs[k].fKind = 2 <;> simp [h2]
    rw [hq, obs]
    by_cases hb : (decide (s.fArgs[k].fKind = 2) && uniq ps[k].fType) = true
    ·rw [if_pos hb, if_pos hb, ref23_place_eq h1 h2, obs, room_ok (by simp; omega), obs, obs, ih _ (by simp; omega)]
     simp
    ·rw [if_neg hb, if_neg hb, obs, ih _ (by omega)]
   ·have e : ∀ l : List GExpr, tkA (varsS m) l [] = [] := fun l => by cases l <;> rfl
    rw [if_neg (by simp [hp]), List.drop_eq_nil_of_le (show ps.length ≤ k by omega), e]; simp
  ·rw [if_neg (by simp [hlt]), List.drop_eq_nil_of_le (show s.fArgs.length ≤ k by omega)]; simp [tkA]
theorem rtakes_L2 (l : List (Option Nat)) (hl : l.length ≤ 2000000) : ∀ (n k : Nat) (acc : List Int), n + k = l.length + 1 → k ≤ l.length → acc.length ≤ k →
  ref23_takes_L2 (l.map pI) n acc (k : Int) = some (acc ++ ((l.drop k).filterMap id).map Int.ofNat)
 | 0, k, acc, h, hk, ha => by omega
 | n + 1, k, acc, h, hk, ha => by
  rw [ref23_takes_L2]
  by_cases hlt : k < l.length
  ·have hlt' : k < (l.map pI).length := by simpa using hlt
   have ih := fun acc h => rtakes_L2 l hl n (k + 1) acc (by omega) (by omega) h
   rw [if_pos (by simpa using hlt), idx_lt hlt', List.getElem_map, List.drop_eq_getElem_cons hlt, List.filterMap_cons]
   simp only [obs, w64_succ hlt' (show (l.map pI).length ≤ 9223372036854775807 by simp; omega), id]
   cases l[k] with
   | none =>
    rw [if_neg (by simp [pI]), obs]
    exact ih acc (by omega)
   | some i =>
    rw [if_pos (by simp [pI]), room_ok (by simp; omega), obs, obs]
    have := ih (acc ++ [pI (some i)]) (by simp; omega)
    rw [this]; simp [pI]
  ·rw [if_neg (by simpa using hlt), List.drop_eq_nil_of_le (show l.length ≤ k by omega)]; simp
theorem ref23_takes_eq {p : List GClass} {c : GClass} {m : GMethod} (h1 : m.fParams.length ≤ 100) (h2 : m.fLocals.length ≤ 100) {s : GStmt} (hl : s.fArgs.length ≤ 1048576) {o : Option (List UInt8 × GMethod)} (ho : ref20_Callee ⟨p, c, m⟩ s = some (fnd2 o)) (h4 : s.fKind ≠ 4 → o = none) :
  ref23_takes ⟨p, c, m⟩ s = some (((tkS (varsS m) m s o).filterMap id).map Int.ofNat) := by
 have hlen : (tkS (varsS m) m s o).length ≤ 1048576 := by
  unfold tkS
  split
  ·simp
  ·split
   ·split <;> simp
   ·split
    ·have := tkA_len (V := varsS m) s.fArgs (parO o); omega
    ·simp
 unfold ref23_takes
 have e1 : (Option.bind (if (s.fKind == 7) = true then some true else some (s.fKind == 8) : Option Bool) fun x2 => if x2 = true then Option.bind (ref23_place (GPlace_ref20.fM ⟨p, c, m⟩) s.fY) fun (y6 : Int) => Option.bind (room ((([] : List Int).length : Int) + ([y6].length : Int)) 8) fun (_ : Unit) => some ([] ++ [y6]) else some [] : Option (List Int)) = some (if s.fKind = 7 ∨ s.fKind = 8 then [pI (placeU (varsS m) s.fY)] else []) := by
  have : (if (s.fKind == 7) = true then some true else some (s.fKind == 8) : Option Bool) = some (decide (s.fKind = 7 ∨ s.fKind = 8)) := by
   by_cases h7 : s.fKind = 7
   ·simp [h7]
   ·simp [h7]; rw [Bool.eq_iff_iff]; simp
  rw [this, obs]
  by_cases h : s.fKind = 7 ∨ s.fKind = 8
  ·rw [if_pos (by simpa using h), if_pos h, ref23_place_eq h1 h2, obs, room_ok (by simp), obs]; rfl
  ·rw [if_neg (by simpa using h), if_neg h]
 rw [e1, obs, ho, obs]
 have e3 : (Option.bind (if (s.fKind == 11) = true then Option.bind (ref05_Unique (GPlace_ref20.fM ⟨p, c, m⟩).fRet) fun (y110 : Bool) => if y110 = true then some (s.fE.fKind == 2) else some false else some false : Option Bool)) = Option.bind (some (decide (s.fKind = 11) && (decide (s.fE.fKind = 2) && uniq m.fRet)) : Option Bool) (β := List Int) := by
  congr 1
  by_cases h11 : s.fKind = 11
  ·rw [if_pos (by simpa using h11), ref05_Unique_eq, obs]
   by_cases hu : uniq m.fRet = true
   ·rw [if_pos hu]; simp [h11, hu]; rw [Bool.eq_iff_iff]; simp
   ·rw [if_neg hu]; simp [h11, hu]
  ·rw [if_neg (by simpa using h11)]; simp [h11]
 rw [e3]
 have key : ∀ x10 : List Int, x10 = (if s.fKind = 7 ∨ s.fKind = 8 then [pI (placeU (varsS m) s.fY)] else []) → ref23_takes_L1 ⟨p, c, m⟩ s (fnd2 o) (s.fArgs.length + 1) x10 0 = some (if s.fKind = 4 then (tkA (varsS m) s.fArgs (parO o)).map pI else x10) := by
  intro x10 hx
  by_cases h : s.fKind = 4
  ·have : x10 = [] := by rw [hx, if_neg (by omega)]
   rw [this, show (0 : Int) = ((0 : Nat) : Int) from rfl, rtakes_L h1 h2 hl (fnd2 o) (ps := parO o) (by cases o <;> rfl) _ 0 _ (by omega) (by omega) (by simp), if_pos h]; simp
  ·rw [h4 h, if_neg h, ref23_takes_L1]
   have : (if (decide ((0 : Int) < (s.fArgs.length : Int))) = true then if (fnd2 none).2 = true then some (decide ((0 : Int) < ((fnd2 none).1.fMethod.fParams.length : Int))) else some false else some false : Option Bool) = some false := by
    split <;> rfl
   rw [this, obs, if_neg (by simp)]
 rw [key _ rfl, obs, obs]
 have fin : ∀ l : List (Option Nat), l.length ≤ 1048576 → Option.bind (ref23_takes_L2 (l.map pI) ((((l.map pI).length : Int) - 0).toNat + 1) [] 0) (fun x169 => some x169) = some ((l.filterMap id).map Int.ofNat) := by
  intro l hl
  rw [fuel_len, show (0 : Int) = ((0 : Nat) : Int) from rfl, rtakes_L2 l (by omega) _ 0 _ (by simp) (by omega) (by simp), obs]
  simp
 have hx : (if (decide (s.fKind = 11) && (decide (s.fE.fKind = 2) && uniq m.fRet)) = true then Option.bind (ref23_place (GPlace_ref20.fM ⟨p, c, m⟩) s.fE.fName) fun (y117 : Int) => Option.bind (room (((if s.fKind = 4 then (tkA (varsS m) s.fArgs (parO o)).map pI else (if s.fKind = 7 ∨ s.fKind = 8 then [pI (placeU (varsS m) s.fY)] else [])).length : Int) + ([y117].length : Int)) 8) fun (_ : Unit) => some ((if s.fKind = 4 then (tkA (varsS m) s.fArgs (parO o)).map pI else (if s.fKind = 7 ∨ s.fKind = 8 then [pI (placeU (varsS m) s.fY)] else [])) ++ [y117]) else some (if s.fKind = 4 then (tkA (varsS m) s.fArgs (parO o)).map pI else (if s.fKind = 7 ∨ s.fKind = 8 then [pI (placeU (varsS m) s.fY)] else [])) : Option (List Int)) = some ((tkS (varsS m) m s o).map pI) := by
  unfold tkS
  by_cases h78 : s.fKind = 7 ∨ s.fKind = 8
  ·have h4' : s.fKind ≠ 4 := by omega
   have h11 : s.fKind ≠ 11 := by omega
   simp [h78, h4', h11]
  ·by_cases h11 : s.fKind = 11
   ·have h4' : s.fKind ≠ 4 := by omega
    by_cases hb : (decide (s.fE.fKind = 2) && uniq m.fRet) = true
    ·rw [if_pos (by simpa [h11] using hb), ref23_place_eq h1 h2, obs, if_neg h4', if_neg h78, room_ok (by simp), obs, if_neg h78, if_pos h11, if_pos hb]; rfl
    ·rw [if_neg (by simpa [h11] using hb), if_neg h4', if_neg h78, if_neg h78, if_pos h11, if_neg hb]; rfl
   ·rw [if_neg (by simp [h11]), if_neg h78, if_neg h78, if_neg h11]
    by_cases h4' : s.fKind = 4
    ·rw [if_pos h4', if_pos h4']
    ·rw [if_neg h4', if_neg h4']; rfl
 rw [hx, obs]
 exact fin _ hlen
theorem and_nz (T : BitVec 64) : T &&& ~~~0#64 = T := by
 apply BitVec.eq_of_getLsbD_eq
 intro i hi
 rw [BitVec.getLsbD_and, BitVec.getLsbD_not]; simp only [hi, decide_true, BitVec.getLsbD_zero, Bool.not_false, Bool.and_true]
def okI (b : Bool) : Int := if b = true then 0 else 1
def stT (V : List GVar) (q : BitVec 64 × Bool) (o : Option Nat) : BitVec 64 × Bool := match o with | some i => (q.1 &&& ~~~oneB (rkU V i), q.2 && q.1.getLsbD (rkU V i)) | none => q
theorem fstep_L {V : List GVar} (hV : V.length ≤ 60) {l : List (Option Nat)} (hl : l.length ≤ 2000000) (hu : ∀ x ∈ l, ∀ i, x = some i → isU V i = true) : ∀ (n k : Nat) (q : BitVec 64 × Bool), n + k = l.length + 1 → k ≤ l.length →
  __flow_walker__step_L1 (l.map (bB V)) n (bI q.1) (okI q.2) (k : Int) = some (bI ((l.drop k).foldl (stT V) q).1, okI ((l.drop k).foldl (stT V) q).2)
 | 0, k, q, h, hk => by omega
 | n + 1, k, q, h, hk => by
  rw [__flow_walker__step_L1]
  by_cases hlt : k < l.length
  ·have hlt' : k < (l.map (bB V)).length := by simpa using hlt
   have ih := fun q => fstep_L hV hl hu n (k + 1) q (by omega) (by omega)
   rw [if_pos (by simpa using hlt), idx_lt hlt', List.getElem_map, List.drop_eq_getElem_cons hlt, List.foldl_cons]
   simp only [obs, w64_succ hlt' (show (l.map (bB V)).length ≤ 9223372036854775807 by simp; omega)]
   have hm := hu l[k] (List.getElem_mem hlt)
   cases ho : l[k] with
   | none =>
    have e : bB V none = bI 0#64 := rfl
    rw [e, andB, notB]
    have e1 : (bI (q.1 &&& 0#64) != bI 0#64) = false := by simp
    have e2 : q.1 &&& ~~~0#64 = q.1 := and_nz _
    rw [e1, if_neg (by simp), obs, e2]
    exact ih q
   | some i =>
    have hui := hm i ho
    have h1 := rkU_lt hui
    have h2 := uqs_len V
    have e : bB V (some i) = bI (oneB (rkU V i)) := rfl
    rw [e, andB, notB, has_one q.1 (by omega)]
    have e3 : (if (!q.1.getLsbD (rkU V i)) = true then some 1 else some (okI q.2) : Option Int) = some (okI (q.2 && q.1.getLsbD (rkU V i))) := by
     cases q.1.getLsbD (rkU V i) <;> simp [okI]
    rw [e3, obs]
    exact ih (stT V q (some i))
  ·rw [if_neg (by simpa using hlt), List.drop_eq_nil_of_le (show l.length ≤ k by omega)]; rfl
theorem rel_get {V : List GVar} {T : BitVec 64} {L : List Bool} (hR : Rel23 V T L) {i : Nat} (hu : isU V i = true) : idx L (i : Int) = some (T.getLsbD (rkU V i)) := by
 rw [idx_nat, hR.2 i (isU_lt hu), hu, Bool.true_and]
theorem rel_set {V : List GVar} (hV : V.length ≤ 60) {T : BitVec 64} {L : List Bool} (hR : Rel23 V T L) {i : Nat} (hu : isU V i = true) (b : Bool) : Rel23 V (if b = true then T ||| oneB (rkU V i) else T &&& ~~~oneB (rkU V i)) (L.set i b) := by
 have h2 := uqs_len V
 have hr := rkU_lt hu
 refine ⟨by simpa using hR.1, fun j hj => ?_⟩
 have hL := hR.1
 rw [List.getElem?_set]
 by_cases hij : i = j
 ·subst hij
  rw [if_pos rfl, if_pos (by omega), hu, Bool.true_and]
  cases b with
  | true => rw [if_pos rfl, get_or T (by omega)]; simp
  | false => rw [if_neg (by simp), get_not T (by omega) (by omega)]; simp
 ·rw [if_neg hij, hR.2 j hj]
  by_cases huj : isU V j = true
  ·have hrj := rkU_lt huj
   have hne : rkU V i ≠ rkU V j := fun e => hij (rkU_inj hu huj e)
   cases b with
   | true => rw [if_pos rfl, get_or T (by omega)]; simp [hne]
   | false => rw [if_neg (by simp), get_not T (by omega) (by omega)]; simp [hne]
  ·simp only [Bool.not_eq_true] at huj
   rw [huj]; simp
theorem rstep_fold {V : List GVar} (hV : V.length ≤ 60) : ∀ (l : List (Option Nat)) (q : BitVec 64 × Bool) (L : List Bool), (∀ x ∈ l, ∀ i, x = some i → isU V i = true) → Rel23 V q.1 L →
  ∃ L', foldO (fun (s : List Bool × Bool) (y : Int) => Option.bind (if s.2 = true then idx s.1 y else some false) fun x55 => Option.bind (idx s.1 y) fun (_ : Bool) => some (s.1.set y.toNat false, x55)) (L, q.2) ((l.filterMap id).map Int.ofNat) = some (L', (l.foldl (stT V) q).2) ∧ Rel23 V (l.foldl (stT V) q).1 L'
 | [], q, L, _, hR => ⟨L, rfl, hR⟩
 | none :: l, q, L, hu, hR => rstep_fold hV l q L (fun x hx => hu x (by simp [hx])) hR
 | some i :: l, q, L, hu, hR => by
  have hui := hu (some i) (by simp) i rfl
  obtain ⟨L', e1, e2⟩ := rstep_fold hV l (stT V q (some i)) (L.set i false) (fun x hx => hu x (by simp [hx])) (by
   have := rel_set hV hR hui false
   simpa [stT] using this)
  refine ⟨L', ?_, e2⟩
  simp only [List.filterMap_cons, id, List.map_cons, foldO]
  have hg : idx L (Int.ofNat i) = some (q.1.getLsbD (rkU V i)) := rel_get hR hui
  have hc : (if q.2 = true then idx L (Int.ofNat i) else some false) = some (q.2 && q.1.getLsbD (rkU V i)) := by
   rw [hg]; cases q.2 <;> rfl
  rw [hc, obs, hg, obs, obs]
  exact e1
theorem rstep_L {l : List Int} (hl : l.length ≤ 2000000) : ∀ (n k : Nat) (L : List Bool) (ok : Bool), n + k = l.length + 1 → k ≤ l.length →
  ref23_step_L1 l n L ok (k : Int) = foldO (fun (s : List Bool × Bool) (y : Int) => Option.bind (if s.2 = true then idx s.1 y else some false) fun x55 => Option.bind (idx s.1 y) fun (_ : Bool) => some (s.1.set y.toNat false, x55)) (L, ok) (l.drop k)
 | 0, k, L, ok, h, hk => by omega
 | n + 1, k, L, ok, h, hk => by
  rw [ref23_step_L1]
  by_cases hlt : k < l.length
  ·rw [if_pos (by simpa using hlt), idx_lt hlt, List.drop_eq_getElem_cons hlt]
   simp only [obs, foldO, w64_succ hlt (show l.length ≤ 9223372036854775807 by omega)]
   have hsome : ∀ z : Option Bool, Option.bind z (fun y53 => some y53) = z := fun z => by cases z <;> rfl
   rw [hsome]
   cases ha : (if ok = true then idx L l[k] else some false) with
   | none => rfl
   | some b =>
    simp only [obs]
    cases hb : idx L l[k] with
    | none => rfl
    | some b2 =>
     simp only [obs]
     exact rstep_L hl n (k + 1) _ _ (by omega) (by omega)
  ·rw [if_neg (by simpa using hlt), List.drop_eq_nil_of_le (by omega)]; rfl
theorem rstep_0 {l : List Int} (hl : l.length ≤ 2000000) (L : List Bool) (ok : Bool) :
  ref23_step_L1 l (l.length + 1) L ok 0 = foldO (fun (s : List Bool × Bool) (y : Int) => Option.bind (if s.2 = true then idx s.1 y else some false) fun x55 => Option.bind (idx s.1 y) fun (_ : Bool) => some (s.1.set y.toNat false, x55)) (L, ok) l := by
 have := rstep_L hl (l.length + 1) 0 L ok (by omega) (by omega)
 rwa [List.drop_zero] at this
theorem or_zero (T : BitVec 64) : T ||| 0#64 = T := by simp
theorem step_both {p : List GClass} {c : GClass} {m : GMethod} (hp : p.length ≤ 1000000) (hm : ∀ c ∈ p, c.fMethods.length ≤ 9223372036854775807) (hc : c.fParams.length ≤ 60) (h1 : m.fParams.length ≤ 30) (h2 : m.fLocals.length ≤ 30) (hnn : ∀ v ∈ varsS m, v.fName ≠ [])
  {w : Gwalker_flow} (hw : w.fat = atK (varsS m) (varsS m).length) (hwp : w.fp = p) (hwc : w.fc = c) (hwm : w.fm = m) {s : GStmt} (hl : s.fArgs.length ≤ 1048576) (hna : ∀ a ∈ s.fArgs, a.fName.length ≤ maxLen) (hy : s.fY.length ≤ maxLen) (hx : s.fX.length ≤ maxLen) (he : s.fE.fName.length ≤ maxLen)
  (T : BitVec 64) : ∃ T' ok, __flow_walker__step w s (bI T) = some (bI T', okI ok) ∧ ∀ L, Rel23 (varsS m) T L → ∃ L', ref23_step ⟨p, c, m⟩ s L = some (L', ok) ∧ Rel23 (varsS m) T' L' := by
 have hV : (varsS m).length ≤ 60 := by unfold varsS; simp; omega
 obtain ⟨o, ho1, ho2, ho3⟩ := callee_both (c := c) hp hm hc (show m.fParams.length ≤ 100 by omega) (show m.fLocals.length ≤ 100 by omega) s
 have ht1 := flow_takes_eq (c := c) hV hw hwp hwc hwm hl hna hy he ho1
 have ht2 := ref23_takes_eq (c := c) (show m.fParams.length ≤ 100 by omega) (show m.fLocals.length ≤ 100 by omega) hl ho2 ho3
 have hu : ∀ x ∈ tkS (varsS m) m s o, ∀ i, x = some i → isU (varsS m) i = true := tkS_isU
 have hlen : (tkS (varsS m) m s o).length ≤ 1048576 := by
  unfold tkS
  split
  ·simp
  ·split
   ·split <;> simp
   ·split
    ·have := tkA_len (V := varsS m) s.fArgs (parO o); omega
    ·simp
 generalize tkS (varsS m) m s o = tk at *
 have hq : ∃ q, q = tk.foldl (stT (varsS m)) (T, true) := ⟨_, rfl⟩
 obtain ⟨q, hq⟩ := hq
 have hf := fstep_L hV (show tk.length ≤ 2000000 by omega) hu (tk.length + 1) 0 (T, true) (by omega) (by omega)
 rw [List.drop_zero, ← hq] at hf
 have hpy : ∀ i, placeU (varsS m) s.fY = some i → isU (varsS m) i = true := placeU_isU
 have hpx : ∀ i, placeU (varsS m) s.fX = some i → isU (varsS m) i = true := placeU_isU
 have hu2 := uqs_len (varsS m)
 refine ⟨(if s.fKind = 1 then q.1 &&& ~~~(bitO (varsS m) (placeU (varsS m) s.fX)) else q.1 ||| bitO (varsS m) (placeU (varsS m) s.fX)), (q.2 && (!decide (s.fKind = 4) || match placeU (varsS m) s.fY with | some i => q.1.getLsbD (rkU (varsS m) i) | none => true)), ?_, fun L hR => ?_⟩
 ·unfold __flow_walker__step
  rw [ht1, obs, fuel_len, show (0 : Int) = ((0 : Nat) : Int) from rfl, List.length_map]
  have : __flow_walker__step_L1 (tk.map (bB (varsS m))) (tk.length + 1) (bI T) ((0 : Nat) : Int) ((0 : Nat) : Int) = some (bI q.1, okI q.2) := hf
  rw [this, obs]
  simp only []
  rw [bit_eq hV hw hy, obs, bit_eq hV hw hx]
  have hc4 : (if (s.fKind == 4) = true then some ((andI .u64 (bI q.1) (bI (bitO (varsS m) (placeU (varsS m) s.fY)))) != bI (bitO (varsS m) (placeU (varsS m) s.fY))) else some false : Option Bool) = some (decide (s.fKind = 4) && !(match placeU (varsS m) s.fY with | some i => q.1.getLsbD (rkU (varsS m) i) | none => true)) := by
   by_cases h4 : s.fKind = 4
   ·rw [if_pos (by simpa using h4), andB]
    cases hpl : placeU (varsS m) s.fY with
    | none => simp [bitO]
    | some i =>
     have := rkU_lt (hpy i hpl)
     rw [show bitO (varsS m) (some i) = oneB (rkU (varsS m) i) from rfl, has_one q.1 (by omega)]; simp [h4]
   ·rw [if_neg (by simpa using h4)]; simp [h4]
  rw [hc4, obs]
  have hfin : (if (decide (s.fKind = 4) && !(match placeU (varsS m) s.fY with | some i => q.1.getLsbD (rkU (varsS m) i) | none => true)) = true then some 1 else some (okI q.2) : Option Int) = some (okI (q.2 && (!decide (s.fKind = 4) || match placeU (varsS m) s.fY with | some i => q.1.getLsbD (rkU (varsS m) i) | none => true))) := by
   cases decide (s.fKind = 4) <;> cases q.2 <;> cases (match placeU (varsS m) s.fY with | some i => q.1.getLsbD (rkU (varsS m) i) | none => true) <;> rfl
  rw [hfin, obs, obs]
  by_cases h1' : s.fKind = 1
  ·rw [if_pos (by simpa using h1'), if_pos h1', notB]
  ·rw [if_neg (by simpa using h1'), if_neg h1', orB]
 ·obtain ⟨L1, hr1, hr2⟩ := rstep_fold hV tk (T, true) L hu hR
  rw [← hq] at hr1 hr2
  have hLl := hR.1
  have hbx : ∀ i, placeU (varsS m) s.fX = some i → s.fX ≠ [] := by
   intro i hi e
   obtain ⟨_, hlt, hname⟩ := placeU_some hi
   exact hnn _ (List.getElem_mem hlt) (by rw [hname, e])
  refine ⟨match placeU (varsS m) s.fX with | some i => L1.set i (s.fKind != 1) | none => L1, ?_, ?_⟩
  ·unfold ref23_step
   rw [room_ok (by simp; omega), obs, ht2, obs, fuel_len, List.nil_append, rstep_0 (by simp; have := List.length_filterMap_le id tk; omega), hr1, obs]
   simp only []
   rw [ref23_place_eq (by omega) (by omega), ref23_place_eq (by omega) (by omega), obs]
   have hc4 : (Option.bind (if (s.fKind == 4) = true then some (decide (pI (placeU (varsS m) s.fY) ≥ 0)) else some false : Option Bool) fun x78 => if x78 = true then if q.2 = true then Option.bind (idx L1 (pI (placeU (varsS m) s.fY))) fun (y83 : Bool) => some y83 else some false else some q.2 : Option Bool) = some (q.2 && (!decide (s.fKind = 4) || match placeU (varsS m) s.fY with | some i => q.1.getLsbD (rkU (varsS m) i) | none => true)) := by
    by_cases h4 : s.fKind = 4
    ·rw [if_pos (by simpa using h4), obs]
     cases hpl : placeU (varsS m) s.fY with
     | none => rw [if_neg (by simp [pI])]; simp
     | some i =>
      rw [if_pos (by simp [pI]), show pI (some i) = (i : Int) from rfl, rel_get hr2 (hpy i hpl), obs]
      cases q.2 <;> simp [h4]
    ·rw [if_neg (by simpa using h4), obs, if_neg (by simp)]; simp [h4]
   rw [hc4, obs, obs]
   have hcx : (Option.bind (if (!(s.fX == [])) = true then some (decide (pI (placeU (varsS m) s.fX) ≥ 0)) else some false : Option Bool) fun x93 => if x93 = true then Option.bind (idx L1 (pI (placeU (varsS m) s.fX))) fun (_ : Bool) => some (L1.set (pI (placeU (varsS m) s.fX)).toNat (s.fKind != 1)) else some L1 : Option (List Bool)) = some (match placeU (varsS m) s.fX with | some i => L1.set i (s.fKind != 1) | none => L1) := by
    cases hpl : placeU (varsS m) s.fX with
    | none =>
     have : (if (!(s.fX == [])) = true then some (decide (pI none ≥ 0)) else some false : Option Bool) = some false := by split <;> simp [pI]
     rw [this, obs, if_neg (by simp)]
    | some i =>
     have := hbx i hpl
     rw [if_pos (by simpa using this), obs, if_pos (by simp [pI]), show pI (some i) = (i : Int) from rfl, rel_get hr2 (hpx i hpl), obs]; simp
   rw [hcx, obs]
  ·cases hpl : placeU (varsS m) s.fX with
   | none =>
    have : (if s.fKind = 1 then q.1 &&& ~~~(bitO (varsS m) none) else q.1 ||| bitO (varsS m) none) = q.1 := by
     simp only [bitO, and_nz, or_zero, ite_self]
    rw [this]; exact hr2
   | some i =>
    have := rel_set hV hr2 (hpx i hpl) (s.fKind != 1)
    by_cases h1' : s.fKind = 1
    ·simpa [h1', bitO] using this
    ·have hb : (s.fKind != 1) = true := by simpa using h1'
     rw [hb] at this ⊢
     simpa [h1', bitO] using this
theorem in_flow {m : GMethod} (hV : (varsS m).length ≤ 60) {w : Gwalker_flow} (hw : w.fat = atK (varsS m) (varsS m).length) (r : Int) (names : List (List UInt8)) (hn : ∀ y ∈ names, y.length ≤ maxLen) (hl : names.length ≤ 1000) : ∀ (n k : Nat) (T : BitVec 64), n + k = names.length + 1 → k ≤ names.length →
  flow_Stmt_L1 names (w, r) n (bI T) (k : Int) = some (bI ((names.drop k).foldl (fun T y => T ||| bitO (varsS m) (placeU (varsS m) y)) T))
 | 0, k, T, h, hk => by omega
 | n + 1, k, T, h, hk => by
  rw [flow_Stmt_L1]
  by_cases hlt : k < names.length
  ·rw [if_pos (by simpa using hlt), idx_lt hlt, obs, bit_eq hV hw (hn _ (List.getElem_mem hlt)), obs, orB, w64_succ hlt (by omega), in_flow hV hw r names hn hl n (k + 1) _ (by omega) (by omega), List.drop_eq_getElem_cons hlt, List.foldl_cons]
  ·rw [if_neg (by simpa using hlt), List.drop_eq_nil_of_le (by omega)]; rfl
theorem in_ref {p : List GClass} {c : GClass} {m : GMethod} (hV : (varsS m).length ≤ 60) (h1 : m.fParams.length ≤ 100) (h2 : m.fLocals.length ≤ 100) (names : List (List UInt8)) (hl : names.length ≤ 1000) : ∀ (n k : Nat) (T : BitVec 64) (L : List Bool), n + k = names.length + 1 → k ≤ names.length → Rel23 (varsS m) T L →
  ∃ L', ref23_Stmt_L1 ⟨p, c, m⟩ names n L (k : Int) = some L' ∧ Rel23 (varsS m) ((names.drop k).foldl (fun T y => T ||| bitO (varsS m) (placeU (varsS m) y)) T) L'
 | 0, k, T, L, h, hk, hR => by omega
 | n + 1, k, T, L, h, hk, hR => by
  rw [ref23_Stmt_L1]
  by_cases hlt : k < names.length
  ·rw [if_pos (by simpa using hlt), idx_lt hlt, obs, show (GPlace_ref20.fM ⟨p, c, m⟩) = m from rfl, ref23_place_eq h1 h2, obs, List.drop_eq_getElem_cons hlt, List.foldl_cons]
   cases hpl : placeU (varsS m) names[k] with
   | none =>
    rw [if_neg (by simp [pI]), obs, w64_succ hlt (by omega)]
    refine in_ref hV h1 h2 names hl n (k + 1) _ L (by omega) (by omega) ?_
    simpa [bitO] using hR
   | some i =>
    have hu := placeU_isU i hpl
    rw [if_pos (by simp [pI]), show pI (some i) = (i : Int) from rfl, rel_get hR hu, obs, obs, w64_succ hlt (by omega)]
    refine in_ref hV h1 h2 names hl n (k + 1) _ _ (by omega) (by omega) ?_
    have := rel_set hV hR hu true
    simpa [bitO] using this
  ·rw [if_neg (by simpa using hlt), List.drop_eq_nil_of_le (by omega)]
   exact ⟨L, rfl, hR⟩
theorem same23_refl (l : List (List UInt8)) (hl : l.length ≤ 1000) : law23_same l l = some true := by
 have h : ∀ (n k : Nat), n + k = l.length + 1 → k ≤ l.length → law23_same_L1 l l n (k : Int) = some (.next ()) := by
  intro n
  induction n with
  | zero => intro k h hk; omega
  | succ n ih =>
   intro k h hk
   rw [law23_same_L1]
   by_cases hlt : k < l.length
   ·rw [if_pos (by simpa using hlt), idx_lt hlt, obs, obs, if_neg (by simp), w64_succ hlt (by omega)]
    exact ih (k + 1) (by omega) (by omega)
   ·rw [if_neg (by simpa using hlt)]
 unfold law23_same
 rw [if_neg (by simp), fuel_len, show (0 : Int) = ((0 : Nat) : Int) from rfl, h _ 0 (by omega) (by omega), obs]; rfl
theorem stmt_both {p : List GClass} {c : GClass} {m : GMethod} (hp : p.length ≤ 1000000) (hm : ∀ c ∈ p, c.fMethods.length ≤ 9223372036854775807) (hc : c.fParams.length ≤ 60) (h1 : m.fParams.length ≤ 30) (h2 : m.fLocals.length ≤ 30) (hnn : ∀ v ∈ varsS m, v.fName ≠ []) (hnl : ∀ v ∈ varsS m, v.fName.length ≤ maxLen)
  {s : GStmt} (hl : s.fArgs.length ≤ 1048576) (hna : ∀ a ∈ s.fArgs, a.fName.length ≤ maxLen) (hy : s.fY.length ≤ maxLen) (hx : s.fX.length ≤ maxLen) (he : s.fE.fName.length ≤ maxLen)
  {names : List (List UInt8)} (hn : ∀ y ∈ names, y.length ≤ maxLen) (hnl2 : names.length ≤ 1000) : ∃ r, r.1.length ≤ 1000 ∧ flow_Stmt p c m s names = some r ∧ ref23_Stmt ⟨p, c, m⟩ s names = some r := by
 have hV : (varsS m).length ≤ 60 := by unfold varsS; simp; omega
 have hVl : (varsS m).length = m.fParams.length + m.fLocals.length := by unfold varsS; simp
 have hR0 : Rel23 (varsS m) 0#64 (List.replicate (w_i64 ((m.fParams.length : Int) + (m.fLocals.length : Int)) : Int).toNat false) := by
  rw [w64 (by omega) (by omega)]
  refine ⟨by simp; omega, fun i hi => ?_⟩
  rw [List.getElem?_replicate, if_pos (by omega)]; simp
 obtain ⟨L, hL, hR⟩ := in_ref (p := p) (c := c) hV (show m.fParams.length ≤ 100 by omega) (show m.fLocals.length ≤ 100 by omega) names hnl2 (names.length + 1) 0 0#64 _ (by omega) (by omega) hR0
 have hF := in_flow hV (w := mkW p c m) rfl (bI (firstK (varsS m) m.fParams.length (varsS m).length)) names hn hnl2 (names.length + 1) 0 0#64 (by omega) (by omega)
 rw [List.drop_zero] at hR hF
 obtain ⟨T', ok, hs1, hs2⟩ := step_both (p := p) (c := c) hp hm hc h1 h2 hnn (w := mkW p c m) rfl rfl rfl rfl hl hna hy hx he (names.foldl (fun T y => T ||| bitO (varsS m) (placeU (varsS m) y)) 0#64)
 obtain ⟨L', hs3, hR'⟩ := hs2 L hR
 have hns : (namS (varsS m) T').length ≤ 1000 := by
  unfold namS
  have h5 := List.length_filter_le (fun i => T'.getLsbD (rkU (varsS m) i)) (uqs (varsS m))
  have h6 := uqs_len (varsS m)
  simp; omega
 refine ⟨if ok = true then (namS (varsS m) T', true) else ([], false), ?_, ?_, ?_⟩
 ·split
  ·exact hns
  ·simp
 ·unfold flow_Stmt
  rw [flow_made_eq p c h1 h2 hnl, obs, fuel_len]
  have : flow_Stmt_L1 names (mkW p c m, bI (firstK (varsS m) m.fParams.length (varsS m).length)) (names.length + 1) 0 0 = _ := hF
  rw [this, obs, hs1, obs]
  cases ok with
  | false => rfl
  | true => rw [if_neg (by simp [okI]), flow_names_eq hV hnl (w := mkW p c m) rfl rfl, obs]; rfl
 ·unfold ref23_Stmt
  simp only [show (GPlace_ref20.fM ⟨p, c, m⟩) = m from rfl]
  rw [mkOk_ok (by rw [w64 (by omega) (by omega)]; omega) (by omega) (by rw [w64 (by omega) (by omega)]; omega), obs, fuel_len, show (0 : Int) = ((0 : Nat) : Int) from rfl, hL, obs, hs3, obs]
  cases ok with
  | false => rfl
  | true => rw [if_neg (by simp), ref23_names_eq h1 h2 hR', obs]; rfl
theorem preSL_u : ∀ (n : Nat) (l : List GStmt) (d : Int), mLGStmt l ≤ n → ∀ y ∈ preSL d l, uGStmt y.2 ≤ lsum uGStmt l
 | _, [], d, _, y, hy => by simp [preSL] at hy
 | 0, x :: l, d, h, y, hy => by
  have := itmS x
  simp only [mLGStmt] at h; omega
 | n + 1, x :: l, d, h, y, hy => by
  simp only [preSL, preS_eq d x, List.cons_append, List.mem_cons, List.mem_append] at hy
  simp only [mLGStmt] at h
  have h1 := itmS x
  have h2 := uS_p x
  simp only [lsum]
  rcases hy with rfl | (hy | hy) | hy
  ·simp only; omega
  ·have := preSL_u n x.fBody (d + 1) (by omega) y hy; omega
  ·have := preSL_u n x.fElse (d + 1) (by omega) y hy; omega
  ·have := preSL_u n l d (by omega) y hy; omega
theorem preSL_len : ∀ (n : Nat) (l : List GStmt) (d : Int), mLGStmt l ≤ n → (preSL d l).length ≤ mLGStmt l
 | _, [], d, _ => by simp [preSL]
 | 0, x :: l, d, h => by
  have := itmS x
  simp only [mLGStmt] at h; omega
 | n + 1, x :: l, d, h => by
  simp only [mLGStmt] at h ⊢
  have h1 := itmS x
  have a1 := preSL_len n x.fBody (d + 1) (by omega)
  have a2 := preSL_len n x.fElse (d + 1) (by omega)
  have a3 := preSL_len n l d (by omega)
  simp only [preSL, preS_eq d x, List.cons_append, List.length_cons, List.length_append]; omega
def lnR (a : GLine_ref12) (y : Int × GStmt) : GLine_ref12 := { a with fDeep := y.1, fS := y.2 }
theorem lines12_eq : ∀ (n : Nat) (l : List GStmt) (a : GLine_ref12), mLGStmt l < n → mLGStmt l ≤ 1048576 → 0 ≤ a.fDeep → a.fDeep + mLGStmt l ≤ 4000000 → ref12_lines n l a = some ((preSL a.fDeep l).map (lnR a))
 | 0, l, a, h, _, _, _ => by omega
 | n + 1, l, a, h, hM, h0, hd => by
  have hlm := itlen l
  have loop : ∀ (t : List GStmt) (pre : List GStmt) (acc : List GLine_ref12) (f : Nat), l = pre ++ t → t.length < f → acc.length + mLGStmt t ≤ 2000000 →
    ref12_lines_L1 l a (ref12_lines n) f acc (pre.length : Int) = some (acc ++ (preSL a.fDeep t).map (lnR a)) := by
   intro t
   induction t with
   | nil =>
    intro pre acc f hl hf _
    cases f with
    | zero => simp at hf
    | succ f =>
     simp only [List.append_nil] at hl
     subst hl
     simp [ref12_lines_L1, preSL]
   | cons x t ih =>
    intro pre acc f hl hf hr
    cases f with
    | zero => simp at hf
    | succ f =>
     have hx : idx l (pre.length : Int) = some x := by rw [hl, idx_lt (by simp)]; simp
     have hlt : (pre.length : Int) < (l.length : Int) := by rw [hl, List.length_append, List.length_cons]; omega
     have hmx := itmS x
     simp only [mSL_cons] at hr
     have hml : mGStmt x ≤ mLGStmt l := by
      rw [hl]
      clear ih hx hlt hf hr hlm hM hd h hl
      induction pre with
      | nil => simp only [List.nil_append, mSL_cons]; omega
      | cons y pre ihp => simp only [List.cons_append, mSL_cons]; omega
     have hw : w_i64 (a.fDeep + 1) = a.fDeep + 1 := w64 (by omega) (by omega)
     have hw2 : w_i64 ((pre.length : Int) + 1) = ((pre ++ [x]).length : Int) := by
      have : pre.length < l.length := by rw [hl]; simp
      rw [w64 (by omega) (by omega)]; simp
     have e1 := lines12_eq n x.fBody ({ ({ a with fS := x } : GLine_ref12) with fDeep := a.fDeep + 1 }) (by omega) (by omega) (by simp only; omega) (by simp only; omega)
     have e2 := lines12_eq n x.fElse ({ ({ a with fS := x } : GLine_ref12) with fDeep := a.fDeep + 1 }) (by omega) (by omega) (by simp only; omega) (by simp only; omega)
     have l1 := preSL_len _ x.fBody (a.fDeep + 1) (Nat.le_refl _)
     have l2 := preSL_len _ x.fElse (a.fDeep + 1) (Nat.le_refl _)
     rw [ref12_lines_L1, if_pos (by simpa using hlt), hx]
     simp only [obs, hw, hw2]
     rw [room_ok (by simp; omega), obs, e1, obs, room_ok (by simp; omega), obs, e2, obs, room_ok (by simp; omega), obs]
     rw [ih (pre ++ [x]) _ f (by simp [hl]) (by simp at hf; omega) (by simp; omega)]
     simp only [preSL, preS_eq a.fDeep x, List.cons_append, List.map_cons, List.map_append, List.append_assoc, List.nil_append]
     rfl
  have := loop l [] [] ((((l.length : Int) : Int) - (0)).toNat + 1) (by simp) (by omega) (by simp; omega)
  rw [ref12_lines, show (0 : Int) = (([] : List GStmt).length : Int) from rfl, show ((((l.length : Int) : Int) - ((([] : List GStmt).length : Nat) : Int)).toNat + 1) = ((((l.length : Int) : Int) - (0)).toNat + 1) from rfl, this, obs]
  simp
def lnM (i k : Int) (m : GMethod) : List GLine_ref12 := (preSL 0 m.fBody).map fun y => { fClass := i, fMethod := k, fDeep := y.1, fS := y.2 }
def lnF (i : Int) : Nat → List GMethod → List GLine_ref12
 | _, [] => []
 | k, m :: ms => lnM i (k : Int) m ++ lnF i (k + 1) ms
def lnG : Nat → List GClass → List GLine_ref12
 | _, [] => []
 | i, c :: cs => lnF (i : Int) 0 c.fMethods ++ lnG (i + 1) cs
theorem lnM_len (i k : Int) (m : GMethod) : (lnM i k m).length ≤ lsum uGStmt m.fBody := by
 unfold lnM
 rw [List.length_map]
 have := preSL_len _ m.fBody 0 (Nat.le_refl _)
 have h2 := mLS_sum m.fBody
 have h3 := lsum_le (l := m.fBody) (u := mGStmt) (v := uGStmt) (fun y _ => mS_le y)
 omega
theorem stmts_L2 {p : List GClass} {i : Nat} {c : GClass} (hc : p[i]? = some c) (hu : lsum uGMethod c.fMethods ≤ 1048576) : ∀ (n k : Nat) (acc : List GLine_ref12), n + k = c.fMethods.length + 1 → k ≤ c.fMethods.length → acc.length + lsum uGMethod (c.fMethods.drop k) ≤ 4000000 →
  ref12_Stmts_L2 p (i : Int) n acc (k : Int) = some (acc ++ lnF (i : Int) k (c.fMethods.drop k))
 | 0, k, acc, h, hk, _ => by omega
 | n + 1, k, acc, h, hk, hr => by
  have hcl := len_lsum (u := uGMethod) (fun y => by have := uM_p y; omega) c.fMethods
  rw [ref12_Stmts_L2, idx_nat, hc, obs]
  by_cases hlt : k < c.fMethods.length
  ·have hm := lsum_mem (u := uGMethod) (List.getElem_mem hlt)
   rw [lsum_drop uGMethod hlt] at hr
   have hup := uM_p c.fMethods[k]
   have h2 := mLS_sum c.fMethods[k].fBody
   have h3 := lsum_le (l := c.fMethods[k].fBody) (u := mGStmt) (v := uGStmt) (fun y _ => mS_le y)
   have hl := lnM_len (i : Int) (k : Int) c.fMethods[k]
   rw [if_pos (by simpa using hlt), obs, idx_lt hlt]
   simp only [obs]
   rw [lines12_eq _ _ _ (by omega) (by omega) (by simp) (by simp only; omega), obs]
   rw [show (preSL (GLine_ref12.fDeep { fClass := (i : Int), fMethod := (k : Int), fDeep := 0, fS := zGStmt }) c.fMethods[k].fBody).map (lnR { fClass := (i : Int), fMethod := (k : Int), fDeep := 0, fS := zGStmt }) = lnM (i : Int) (k : Int) c.fMethods[k] from rfl]
   rw [room_ok (by omega), obs, w64_succ hlt (by omega), stmts_L2 hc hu n (k + 1) _ (by omega) (by omega) (by simp; omega), List.drop_eq_getElem_cons hlt]
   simp only [lnF, List.append_assoc]
  ·rw [if_neg (by simpa using hlt), List.drop_eq_nil_of_le (by omega)]; simp [lnF]
theorem lnF_len (i : Int) : ∀ (l : List GMethod) (k : Nat), (lnF i k l).length ≤ lsum uGMethod l
 | [], _ => by simp [lnF]
 | m :: l, k => by
  have h1 := lnM_len i (k : Int) m
  have h2 := lnF_len i l (k + 1)
  have h3 := uM_p m
  simp only [lnF, lsum, List.length_append]; omega
theorem stmts_L1 {p : List GClass} (hu : lsum uGClass p ≤ 1048576) : ∀ (n k : Nat) (acc : List GLine_ref12), n + k = p.length + 1 → k ≤ p.length → acc.length + lsum uGClass (p.drop k) ≤ 2000000 →
  ref12_Stmts_L1 p n acc (k : Int) = some (acc ++ lnG k (p.drop k))
 | 0, k, acc, h, hk, _ => by omega
 | n + 1, k, acc, h, hk, hr => by
  have hcl := len_lsum (u := uGClass) (fun y => by have := uC_p y; omega) p
  rw [ref12_Stmts_L1]
  by_cases hlt : k < p.length
  ·have hm := lsum_mem (u := uGClass) (List.getElem_mem hlt)
   rw [lsum_drop uGClass hlt] at hr
   have hup := uC_p p[k]
   have hl := lnF_len (k : Int) p[k].fMethods 0
   have hc : p[k]? = some p[k] := List.getElem?_eq_getElem hlt
   rw [if_pos (by simpa using hlt), idx_lt hlt]
   simp only [obs, Option.getD_some]
   rw [fuel_len, show (0 : Int) = ((0 : Nat) : Int) from rfl, stmts_L2 hc (by omega) _ 0 acc (by omega) (by omega) (by rw [List.drop_zero]; omega), obs, w64_succ hlt (by omega), List.drop_zero, stmts_L1 hu n (k + 1) _ (by omega) (by omega) (by simp; omega), List.drop_eq_getElem_cons hlt]
   simp only [lnG, List.append_assoc]
  ·rw [if_neg (by simpa using hlt), List.drop_eq_nil_of_le (by omega)]; simp [lnG]
theorem ref12_Stmts_eq {p : List GClass} (hu : lsum uGClass p ≤ 1048576) : ref12_Stmts p = some (lnG 0 p) := by
 unfold ref12_Stmts
 rw [fuel_len, show (0 : Int) = ((0 : Nat) : Int) from rfl, stmts_L1 hu _ 0 [] (by omega) (by omega) (by simp; omega), obs, List.drop_zero]; rfl
theorem lnF_mem {i : Int} : ∀ {l : List GMethod} {k : Nat} {x : GLine_ref12}, x ∈ lnF i k l → x.fClass = i ∧ ∃ (j : Nat) (m : GMethod), l[j]? = some m ∧ x.fMethod = ((k + j : Nat) : Int) ∧ uGStmt x.fS ≤ lsum uGStmt m.fBody
 | [], k, x, h => by simp [lnF] at h
 | m :: l, k, x, h => by
  simp only [lnF, List.mem_append] at h
  rcases h with h | h
  ·unfold lnM at h
   rw [List.mem_map] at h
   obtain ⟨y, hy, rfl⟩ := h
   exact ⟨rfl, 0, m, rfl, by simp, preSL_u _ _ _ (Nat.le_refl _) y hy⟩
  ·obtain ⟨h1, j, m', h2, h3, h4⟩ := lnF_mem h
   exact ⟨h1, j + 1, m', by simpa using h2, by rw [h3]; omega, h4⟩
theorem lnG_mem : ∀ {l : List GClass} {k : Nat} {x : GLine_ref12}, x ∈ lnG k l → ∃ (j : Nat) (c : GClass), l[j]? = some c ∧ x.fClass = ((k + j : Nat) : Int) ∧ ∃ (i : Nat) (m : GMethod), c.fMethods[i]? = some m ∧ x.fMethod = (i : Int) ∧ uGStmt x.fS ≤ lsum uGStmt m.fBody
 | [], k, x, h => by simp [lnG] at h
 | c :: l, k, x, h => by
  simp only [lnG, List.mem_append] at h
  rcases h with h | h
  ·obtain ⟨h1, j, m, h2, h3, h4⟩ := lnF_mem h
   exact ⟨0, c, rfl, by simpa using h1, j, m, h2, by rw [h3]; omega, h4⟩
  ·obtain ⟨j, c', h1, h2, r⟩ := lnG_mem h
   exact ⟨j + 1, c', by simpa using h1, by rw [h2]; omega, r⟩
theorem elim_true {S : Type} {o : Option (Ctl Bool S)} {g : S → Option Bool} (h : Option.bind o (fun lr => Ctl.elim lr (fun v => some v) g) = some true) : o = some (.stop true) ∨ ∃ s, o = some (.next s) ∧ g s = some true := by
 cases o with
 | none => cases h
 | some r =>
  rw [obs] at h
  cases r with
  | stop v => left; have : some v = some true := h; rw [Option.some.inj this]
  | next s => exact .inr ⟨s, rfl, h⟩
theorem bind_tru {α : Type} {o : Option α} {f : α → Option Bool} (h : Option.bind o f = some true) : ∃ x, o = some x ∧ f x = some true := by
 cases o with
 | none => cases h
 | some x => exact ⟨x, rfl, h⟩
theorem ite_tru {b : Bool} {x : Option Bool} (h : (if b = true then x else some false) = some true) : b = true ∧ x = some true := by
 cases b with
 | true => exact ⟨rfl, h⟩
 | false => cases h
theorem vars10_L {l : List GVar} {a : Int} : ∀ (n k : Nat) (r : Ctl Bool Unit), l.length ≤ 9223372036854775807 → n + k = l.length + 1 → k ≤ l.length → ref10_vars_L1 l a n (k : Int) = some r → r = .stop false ∨ ∀ v ∈ l.drop k, v.fName ≠ []
 | 0, k, r, hl, h, hk, e => by omega
 | n + 1, k, r, hl, h, hk, e => by
  rw [ref10_vars_L1] at e
  by_cases hlt : k < l.length
  ·rw [if_pos (by simpa using hlt), idx_lt hlt, w64_succ hlt hl] at e
   obtain ⟨b, hb, e⟩ : ∃ b, _ = some b ∧ _ := by
    cases hx : (Option.bind (some l[k]) fun (y50 : GVar) => Option.bind (ref02_Name y50.fName) fun (y52 : Bool) => if (!y52) = true then some true else Option.bind (some l[k]) fun (y55 : GVar) => if (y55.fType.fKind == 0) = true then some true else Option.bind (some l[k]) fun (y58 : GVar) => Option.bind (ref10_written y58.fType a) fun (y60 : Bool) => some (!y60) : Option Bool) with
    | none => rw [hx] at e; cases e
    | some b => rw [hx, obs] at e; exact ⟨b, hx, e⟩
   cases b with
   | true => rw [if_pos rfl] at e; left; exact (Option.some.inj e).symm
   | false =>
    rw [if_neg (by simp)] at e
    rw [obs] at hb
    rcases vars10_L n (k + 1) r hl (by omega) (by omega) e with h1 | h1
    ·exact .inl h1
    ·right
     intro v hv
     rw [List.drop_eq_getElem_cons hlt] at hv
     rcases List.mem_cons.1 hv with rfl | hv
     ·intro e0
      rw [e0, show ref02_Name [] = some false from rfl, obs] at hb
      simp at hb
     ·exact h1 v hv
  ·right
   rw [List.drop_eq_nil_of_le (by omega)]; simp
theorem vars10 {l : List GVar} {a b : Int} (hl : l.length ≤ 9223372036854775807) (h : ref10_vars l a b = some true) : (l.length : Int) ≤ a ∧ ∀ v ∈ l, v.fName ≠ [] := by
 unfold ref10_vars at h
 rw [fuel_len, show (0 : Int) = ((0 : Nat) : Int) from rfl] at h
 rcases elim_true h with h1 | ⟨s, h1, h2⟩
 ·rcases vars10_L _ 0 _ hl (by omega) (by omega) h1 with h3 | h3 <;> first | (cases h3; done) | skip
  exfalso
  have : ∀ (n k : Nat), n + k = l.length + 1 → k ≤ l.length → ref10_vars_L1 l b n (k : Int) ≠ some (.stop true) := by
   intro n
   induction n with
   | zero => intro k h hk; omega
   | succ n ih =>
    intro k hnk hk e
    rw [ref10_vars_L1] at e
    by_cases hlt : k < l.length
    ·rw [if_pos (by simpa using hlt), w64_succ hlt hl] at e
     generalize (Option.bind (idx l (k : Int)) _ : Option Bool) = z at e
     cases z with
     | none => cases e
     | some z =>
      rw [obs] at e
      cases z with
      | true => cases e
      | false => rw [if_neg (by simp)] at e; exact ih (k + 1) (by omega) (by omega) e
    ·rw [if_neg (by simpa using hlt)] at e; cases e
  exact this _ 0 (by omega) (by omega) h1
 ·rcases vars10_L _ 0 _ hl (by omega) (by omega) h1 with h3 | h3
  ·cases h3
  ·rw [List.drop_zero] at h3
   exact ⟨by simpa using h2, h3⟩
theorem all_L {S : Type} {L : Nat → S → Int → Option (Ctl Bool S)} {α : Type} {l : List α} {f : α → Option Bool} (hl : l.length ≤ 9223372036854775807)
  (hL : ∀ (n : Nat) (s : S) (k : Nat) (r : Ctl Bool S) (hk : k < l.length), L (n + 1) s (k : Int) = some r → r = .stop false ∨ (f (l[k]'hk) = some true ∧ ∃ s', L n s' ((k + 1 : Nat) : Int) = some r)) (hend : ∀ (n : Nat) (s : S) (k : Nat) (r : Ctl Bool S), ¬ k < l.length → L (n + 1) s (k : Int) = some r → ∃ s', r = .next s') : ∀ (n k : Nat) (s : S) (r : Ctl Bool S), n + k = l.length + 1 → k ≤ l.length → L n s (k : Int) = some r → r = .stop false ∨ ((∃ s', r = .next s') ∧ ∀ c ∈ l.drop k, f c = some true)
 | 0, k, s, r, h, hk, e => by omega
 | n + 1, k, s, r, h, hk, e => by
  by_cases hlt : k < l.length
  ·rcases hL n s k r hlt e with h1 | ⟨h1, s', h2⟩
   ·exact .inl h1
   ·rcases all_L hl hL hend n (k + 1) s' r (by omega) (by omega) h2 with h3 | ⟨h3, h4⟩
    ·exact .inl h3
    ·refine .inr ⟨h3, fun c hc => ?_⟩
     rw [List.drop_eq_getElem_cons hlt] at hc
     rcases List.mem_cons.1 hc with rfl | hc
     ·exact h1
     ·exact h4 c hc
  ·right
   refine ⟨hend n s k r hlt e, ?_⟩
   rw [List.drop_eq_nil_of_le (by omega)]; simp
theorem method10 {m : GMethod} {a : Int} (h1 : m.fParams.length ≤ 9223372036854775807) (h2 : m.fLocals.length ≤ 9223372036854775807) (h3 : m.fBody.length ≤ 9223372036854775807) (h : ref10_method m a = some true) : m.fParams.length ≤ 5 ∧ m.fLocals.length ≤ 12 ∧ ∀ v ∈ m.fParams ++ m.fLocals, v.fName ≠ [] := by
 unfold ref10_method at h
 rw [fuel_len, show (0 : Int) = ((0 : Nat) : Int) from rfl] at h
 have hs : ∀ (n k : Nat), n + k = m.fBody.length + 1 → k ≤ m.fBody.length → ref10_method_L1 m a n (k : Int) ≠ some (.stop true) := by
  intro n
  induction n with
  | zero => intro k h hk; omega
  | succ n ih =>
   intro k hnk hk e
   rw [ref10_method_L1] at e
   by_cases hlt : k < m.fBody.length
   ·rw [if_pos (by simpa using hlt), w64_succ hlt h3, idx_lt hlt, obs] at e
    cases hz : ref08_Right m.fBody[k] a with
    | none => rw [hz] at e; cases e
    | some z =>
     rw [hz, obs] at e
     cases z with
     | false => cases e
     | true => rw [if_neg (by simp)] at e; exact ih (k + 1) (by omega) (by omega) e
   ·rw [if_neg (by simpa using hlt)] at e; cases e
 rcases elim_true h with h4 | ⟨s, _, h5⟩
 ·exact absurd h4 (hs _ 0 (by omega) (by omega))
 ·obtain ⟨b1, _, h5⟩ := bind_tru h5
  obtain ⟨_, h5⟩ := ite_tru h5
  obtain ⟨b2, _, h5⟩ := bind_tru h5
  obtain ⟨_, h5⟩ := ite_tru h5
  obtain ⟨b3, hb3, h5⟩ := bind_tru h5
  obtain ⟨e3, h5⟩ := ite_tru h5
  obtain ⟨b4, hb4, h5⟩ := bind_tru h5
  obtain ⟨e4, h5⟩ := ite_tru h5
  subst e3; subst e4
  obtain ⟨q1, q2⟩ := vars10 h1 hb3
  obtain ⟨q3, q4⟩ := vars10 h2 hb4
  refine ⟨by omega, by omega, fun v hv => ?_⟩
  rcases List.mem_append.1 hv with hv | hv
  ·exact q2 v hv
  ·exact q4 v hv
theorem class10 {c : GClass} (h1 : c.fParams.length ≤ 9223372036854775807) (h2 : c.fAbove.length ≤ 9223372036854775807) (h3 : c.fMethods.length ≤ 9223372036854775807) (h : ref10_class c = some true) : c.fParams.length ≤ 3 ∧ ∀ m ∈ c.fMethods, ref10_method m (c.fParams.length : Int) = some true := by
 unfold ref10_class at h
 rw [fuel_len, fuel_len, fuel_len, show (0 : Int) = ((0 : Nat) : Int) from rfl] at h
 have a1 := all_L (S := Unit) (L := fun n _ k => ref10_class_L1 c n k) (l := c.fParams) (f := ref02_Name) h1 (fun n _ k r hlt e => by
  simp only [ref10_class_L1] at e
  rw [if_pos (by simpa using hlt), idx_lt hlt, obs, w64_succ hlt h1] at e
  cases hz : ref02_Name c.fParams[k] with
  | none => rw [hz] at e; cases e
  | some z =>
   rw [hz, obs] at e
   cases z with
   | false => left; exact (Option.some.inj e).symm
   | true => rw [if_neg (by simp)] at e; exact .inr ⟨rfl, (), e⟩) (fun n _ k r hlt e => by
  simp only [ref10_class_L1] at e
  rw [if_neg (by simpa using hlt)] at e
  exact ⟨(), (Option.some.inj e).symm⟩)
 have a2 := all_L (S := Unit) (L := fun n _ k => ref10_class_L2 c n k) (l := c.fAbove) (f := fun _ => some true) h2 (fun n _ k r hlt e => by
  simp only [ref10_class_L2] at e
  rw [if_pos (by simpa using hlt), idx_lt hlt, obs, w64_succ hlt h2] at e
  generalize (Option.bind (some c.fAbove[k]) _ : Option Bool) = z at e
  cases z with
  | none => cases e
  | some z =>
   rw [obs] at e
   cases z with
   | true => left; exact (Option.some.inj e).symm
   | false => rw [if_neg (by simp)] at e; exact .inr ⟨rfl, (), e⟩) (fun n _ k r hlt e => by
  simp only [ref10_class_L2] at e
  rw [if_neg (by simpa using hlt)] at e
  exact ⟨(), (Option.some.inj e).symm⟩)
 have a3 := all_L (S := Unit) (L := fun n _ k => ref10_class_L3 c n k) (l := c.fMethods) (f := fun m => ref10_method m (c.fParams.length : Int)) h3 (fun n _ k r hlt e => by
  simp only [ref10_class_L3] at e
  rw [if_pos (by simpa using hlt), idx_lt hlt, obs, w64_succ hlt h3] at e
  cases hz : ref10_method c.fMethods[k] (c.fParams.length : Int) with
  | none => rw [hz] at e; cases e
  | some z =>
   rw [hz, obs] at e
   cases z with
   | false => left; exact (Option.some.inj e).symm
   | true => rw [if_neg (by simp)] at e; exact .inr ⟨rfl, (), e⟩) (fun n _ k r hlt e => by
  simp only [ref10_class_L3] at e
  rw [if_neg (by simpa using hlt)] at e
  exact ⟨(), (Option.some.inj e).symm⟩)
 rcases elim_true h with h4 | ⟨s, h4, h⟩
 ·rcases a1 _ 0 () _ (by omega) (by omega) h4 with h5 | ⟨⟨_, h5⟩, _⟩ <;> cases h5
 rcases elim_true h with h4 | ⟨s, h4, h⟩
 ·rcases a2 _ 0 () _ (by omega) (by omega) h4 with h5 | ⟨⟨_, h5⟩, _⟩ <;> cases h5
 rcases elim_true h with h4 | ⟨s, h4, h⟩
 ·rcases a3 _ 0 () _ (by omega) (by omega) h4 with h5 | ⟨⟨_, h5⟩, _⟩ <;> cases h5
 rcases a3 _ 0 () _ (by omega) (by omega) h4 with h5 | ⟨_, h5⟩
 ·cases h5
 rw [List.drop_zero] at h5
 obtain ⟨b1, _, h⟩ := bind_tru h
 obtain ⟨_, h⟩ := ite_tru h
 obtain ⟨h6, h⟩ := ite_tru h
 have h6 := of_decide_eq_true h6
 exact ⟨by omega, h5⟩
theorem right10 {p : List GClass} (hl : p.length ≤ 9223372036854775807) (h : ref10_Right p = some true) : p.length ≤ 20 ∧ ∀ c ∈ p, ref10_class c = some true := by
 unfold ref10_Right at h
 rw [fuel_len, show (0 : Int) = ((0 : Nat) : Int) from rfl] at h
 have a1 := all_L (L := fun n (x : Int) k => ref10_Right_L1 p n x k) (l := p) (f := fun c => if p.length > 20 then some false else ref10_class c) hl (fun n x k r hlt e => by
  simp only [ref10_Right_L1] at e
  rw [if_pos (by simpa using hlt), idx_lt hlt, w64_succ hlt hl] at e
  simp only [obs] at e
  by_cases h20 : p.length > 20
  ·rw [if_pos (by simp; omega), obs, if_pos rfl] at e
   left; exact (Option.some.inj e).symm
  ·rw [if_neg (by simp; omega)] at e
   rw [if_neg h20]
   cases hz : ref10_class p[k] with
   | none => rw [hz] at e; cases e
   | some z =>
    rw [hz, obs, obs] at e
    cases z with
    | false => left; exact (Option.some.inj e).symm
    | true =>
     rw [if_neg (by simp)] at e
     cases hy : ref09_Stmts p[k] with
     | none => rw [hy] at e; cases e
     | some y => rw [hy, obs] at e; exact .inr ⟨rfl, _, e⟩) (fun n x k r hlt e => by
  simp only [ref10_Right_L1] at e
  rw [if_neg (by simpa using hlt)] at e
  exact ⟨_, (Option.some.inj e).symm⟩)
 rcases elim_true h with h4 | ⟨s, h4, h⟩
 ·rcases a1 _ 0 _ _ (by omega) (by omega) h4 with h5 | ⟨⟨_, h5⟩, _⟩ <;> cases h5
 ·rcases a1 _ 0 _ _ (by omega) (by omega) h4 with h5 | ⟨_, h5⟩
  ·cases h5
  ·rw [List.drop_zero] at h5
   by_cases h20 : p.length > 20
   ·cases p with
    | nil => simp at h20
    | cons c p => have := h5 c (by simp); rw [if_pos h20] at this; cases this
   ·refine ⟨by omega, fun c hc => ?_⟩
    have := h5 c hc
    rwa [if_neg h20] at this
theorem law23_awake_eq : law23_awake = some true := by decide +kernel
theorem law23_FlowStmt_true {a0 : List GClass} {a1 : List (List UInt8)} (h0 : listok (fun y => goodGClass y) a0) (_h1 : listok (fun y => strok y) a1) (hu : lsum uGClass a0 + lsum (fun s => List.length s + 1) a1 ≤ 1048576) : law23_FlowStmt a0 a1 = some true := by
 have haw := law23_awake_eq
 have hcl := len_lsum (u := uGClass) u1_C a0
 unfold law23_FlowStmt
 obtain ⟨b1, hb1, _⟩ := heavy_eq h0
 obtain ⟨b2, hb2⟩ := tot_Right10 (p := a0) (by omega)
 rw [hb1, obs, hb2]
 cases b1 with
 | true => rw [if_pos rfl, obs, if_pos rfl, haw]; rfl
 | false =>
  rw [if_neg (by simp), obs]
  cases b2 with
  | false => rw [if_pos (by simp), obs, if_pos rfl, haw]; rfl
  | true =>
   rw [if_neg (by simp), obs]
   by_cases h20 : (a1.length : Int) > 20
   ·rw [if_pos (by simpa using h20), haw]; rfl
   ·rw [if_neg (by simpa using h20), ref12_Stmts_eq (by omega), obs, fuel_len]
    obtain ⟨r1, r2⟩ := right10 (by omega) hb2
    have hlen : (lnG 0 a0).length ≤ 4000000 := by
     have : ∀ (l : List GClass) (k : Nat), (lnG k l).length ≤ lsum uGClass l := by
      intro l
      induction l with
      | nil => intro k; simp [lnG]
      | cons c l ih =>
       intro k
       have h1 := lnF_len (k : Int) c.fMethods 0
       have h2 := ih (k + 1)
       have h3 := uC_p c
       simp only [lnG, lsum, List.length_append]; omega
     have := this a0 0
     omega
    have hms : ∀ c ∈ a0, c.fMethods.length ≤ 9223372036854775807 := fun c hc => by
     have h1 := lsum_mem (u := uGClass) hc
     have h2 := uC_p c
     have h3 := len_lsum (u := uGMethod) u1_M c.fMethods
     omega
    have hLp : ∀ (n k : Nat), n + k = (lnG 0 a0).length + 1 → k ≤ (lnG 0 a0).length → law23_FlowStmt_L1 a0 a1 (lnG 0 a0) n (k : Int) = some (.next ()) := by
     intro n
     induction n with
     | zero => intro k h hk; omega
     | succ n ih =>
      intro k h hk
      rw [law23_FlowStmt_L1]
      by_cases hlt : k < (lnG 0 a0).length
      ·obtain ⟨j, c, hj, e1, i, m, hi, e2, hs⟩ := lnG_mem (List.getElem_mem hlt)
       rw [Nat.zero_add] at e1
       have hc := List.mem_of_getElem? hj
       have hmm := List.mem_of_getElem? hi
       have uc := lsum_mem (u := uGClass) hc
       have ucp := uC_p c
       have um := lsum_mem (u := uGMethod) hmm
       have ump := uM_p m
       have us := uS_p (lnG 0 a0)[k].fS
       have ue := uE_p (lnG 0 a0)[k].fS.fE
       have l1 := len_lsum (u := uGOwner) u1_O c.fAbove
       have l2 := len_lsum (u := fun s => List.length s + 1) u1_str c.fParams
       have l3 := len_lsum (u := uGVar) u1_V m.fParams
       have l4 := len_lsum (u := uGVar) u1_V m.fLocals
       have l5 := len_lsum (u := uGStmt) u1_S m.fBody
       have l6 := len_lsum (u := uGExpr) u1_E (lnG 0 a0)[k].fS.fArgs
       obtain ⟨c1, c2⟩ := class10 (by omega) (by omega) (hms c hc) (r2 c hc)
       obtain ⟨m1, m2, m3⟩ := method10 (by omega) (by omega) (by omega) (c2 m hmm)
       obtain ⟨r, hr, s1, s2⟩ := stmt_both (p := a0) (c := c) (m := m) (s := (lnG 0 a0)[k].fS) (names := a1) (by omega) hms (by omega) (by omega) (by omega) m3 (fun v hv => by
        simp only [maxLen]
        rcases List.mem_append.1 hv with hv | hv
        ·have := lsum_mem (u := uGVar) hv; have := uV_p v; omega
        ·have := lsum_mem (u := uGVar) hv; have := uV_p v; omega) (by omega) (fun a ha => by
        simp only [maxLen]
        have := lsum_mem (u := uGExpr) ha; have := uE_p a; omega) (by simp only [maxLen]; omega) (by simp only [maxLen]; omega) (by simp only [maxLen]; omega) (fun y hy => by
        simp only [maxLen]
        have := lsum_mem (u := fun s => List.length s + 1) hy
        omega) (by omega)
       have hplace : ref21_Place a0 (lnG 0 a0)[k] = some ⟨a0, c, m⟩ := by
        unfold ref21_Place
        rw [e1, e2, idx_nat, hj, obs, obs, idx_nat, hi, obs]
       rw [if_pos (by simpa using hlt), idx_lt hlt, obs, hplace]
       simp only [obs]
       rw [s1, s2]
       simp only [obs]
       rw [if_neg (by simp), same23_refl _ hr, obs, obs, if_neg (by simp), w64_succ hlt (by omega)]
       exact ih (k + 1) (by omega) (by omega)
      ·rw [if_neg (by simpa using hlt)]
    rw [show (0 : Int) = ((0 : Nat) : Int) from rfl, hLp _ 0 (by omega) (by omega), obs]
    simp only [Ctl.elim, haw, obs]
end Go.Proofs.YthhdlpggmmfaiaaGreat
