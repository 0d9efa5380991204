/- A part of the proof that the law FlowWays gives true for every input. -/
import Derived.Test.YthhdlpggmmfaiaaGreatFlowWaysA2
import Derived.Test.YthhdlpggmmfaiaaGreatFlowWaysA4
import Derived.Test.YthhdlpggmmfaiaaGreatFlowWaysT
import Derived.Test.YthhdlpggmmfaiaaGreatFlowWaysI
import Derived.Test.YthhdlpggmmfaiaaGreatFlowWaysD
/- The plain law. -/
namespace Go.Proofs.YthhdlpggmmfaiaaGreat
open Go.RowKit Go.Abs
def bI (b : BitVec 64) : Int := (b.toNat : Int)
theorem bI_inj {a b : BitVec 64} : bI a = bI b ↔ a = b := by
 unfold bI
 constructor
 ·intro h; exact BitVec.eq_of_toNat_eq (by exact_mod_cast h)
 ·rintro rfl; rfl
theorem ofI_bI (a : BitVec 64) : BitVec.ofInt 64 (bI a) = a := by
 unfold bI; rw [BitVec.ofInt_natCast, BitVec.ofNat_toNat]; simp
theorem wrapU (n : Nat) (h : n < 18446744073709551616) : IntKind.u64.wrap (n : Int) = (n : Int) := by
 have e : IntKind.u64.wrap (n : Int) = (n : Int) % 18446744073709551616 := rfl
 rw [e]; omega
theorem bitsB (f : BitVec 64 → BitVec 64 → BitVec 64) (a b : BitVec 64) : bitsI .u64 f (bI a) (bI b) = bI (f a b) := by
 show IntKind.u64.wrap ((f (BitVec.ofInt 64 (bI a)) (BitVec.ofInt 64 (bI b))).toNat : Int) = _
 rw [ofI_bI, ofI_bI, wrapU _ (f a b).isLt]; rfl
theorem andB (a b : BitVec 64) : andI .u64 (bI a) (bI b) = bI (a &&& b) := bitsB _ a b
theorem orB (a b : BitVec 64) : orI .u64 (bI a) (bI b) = bI (a ||| b) := bitsB _ a b
theorem notB (a b : BitVec 64) : notI .u64 (bI a) (bI b) = bI (a &&& ~~~b) := bitsB _ a b
theorem shlB (j : Nat) (h : j < 64) : shlI .u64 1 (j : Int) = some (bI (BitVec.twoPow 64 j)) := by
 unfold shlI
 rw [if_pos (by omega)]
 have h2 : (2 : Nat) ^ j < 18446744073709551616 := by
  have : (2 : Nat) ^ j < 2 ^ 64 := Nat.pow_lt_pow_right (by omega) h
  simpa using this
 have e : min ((j : Nat) : Int).toNat IntKind.u64.bits = j := by show min _ 64 = _; omega
 rw [e]
 have e2 : (1 : Int) * 2 ^ j = ((2 ^ j : Nat) : Int) := by simp
 rw [e2, wrapU _ h2]
 unfold bI
 rw [BitVec.toNat_twoPow, Nat.mod_eq_of_lt (by simpa using h2)]
def oneB (j : Nat) : BitVec 64 := BitVec.twoPow 64 j
theorem has_one (a : BitVec 64) {j : Nat} (h : j < 64) : (bI (a &&& oneB j) != bI (oneB j)) = !a.getLsbD j := by
 unfold oneB
 rw [BitVec.and_twoPow]
 have hne : bI (0#64) ≠ bI (BitVec.twoPow 64 j) := by
  rw [Ne, bI_inj]
  intro e
  have := congrArg (fun x => BitVec.getLsbD x j) e
  simp [BitVec.getLsbD_twoPow, h] at this
 cases a.getLsbD j with
 | true => simp
 | false => simpa using hne
theorem nz_one (a : BitVec 64) {j : Nat} (h : j < 64) : (bI (a &&& oneB j) != 0) = a.getLsbD j := by
 unfold oneB
 rw [BitVec.and_twoPow]
 cases hj : a.getLsbD j with
 | true =>
  have : bI (BitVec.twoPow 64 j) ≠ bI 0#64 := by
   rw [Ne, bI_inj]
   intro e
   have := congrArg (fun x => BitVec.getLsbD x j) e
   simp [BitVec.getLsbD_twoPow, h] at this
  simpa [bI] using this
 | false => simp [bI]
theorem get_or (a : BitVec 64) {i j : Nat} (h : j < 64) : (a ||| oneB j).getLsbD i = (a.getLsbD i || decide (j = i)) := by
 unfold oneB; rw [BitVec.getLsbD_or, BitVec.getLsbD_twoPow]; simp [h]
theorem get_not (a : BitVec 64) {i j : Nat} (h : j < 64) (hi : i < 64) : (a &&& ~~~oneB j).getLsbD i = (a.getLsbD i && !decide (j = i)) := by
 unfold oneB; rw [BitVec.getLsbD_and, BitVec.getLsbD_not, BitVec.getLsbD_twoPow]; simp [h, hi]
def Tot {α : Type} (o : Option α) : Prop := ∃ r, o = some r
theorem tot_some {α : Type} (x : α) : Tot (some x) := ⟨x, rfl⟩
theorem tot_bind {α β : Type} {a : Option α} {f : α → Option β} (h : Tot a) (h2 : ∀ x, a = some x → Tot (f x)) : Tot (Option.bind a f) := by
 obtain ⟨x, rfl⟩ := h
 exact h2 x rfl
theorem tot_ite {α : Type} {b : Bool} {x y : Option α} (h1 : b = true → Tot x) (h2 : b = false → Tot y) : Tot (if b = true then x else y) := by
 cases b with
 | true => exact h1 rfl
 | false => exact h2 rfl
theorem tot_elim {R S α : Type} {r : Ctl R S} {f : R → Option α} {g : S → Option α} (h1 : ∀ v, Tot (f v)) (h2 : ∀ s, Tot (g s)) : Tot (Ctl.elim r f g) := by
 cases r with
 | stop v => exact h1 v
 | next s => exact h2 s
theorem tot_loop1 {ρ : Type} (F : Nat → Int → Option ρ) (len : Nat) (h1 : ∀ (n k : Nat), k < len → Tot (F n ((k + 1 : Nat) : Int)) → Tot (F (n + 1) (k : Int))) (h2 : ∀ (n k : Nat), ¬ k < len → Tot (F (n + 1) (k : Int))) :
  ∀ (n k : Nat), n + k = len + 1 → k ≤ len → Tot (F n (k : Int))
 | 0, k, h, hk => by omega
 | n + 1, k, h, hk => by
  by_cases hlt : k < len
  ·exact h1 n k hlt (tot_loop1 F len h1 h2 n (k + 1) (by omega) (by omega))
  ·exact h2 n k hlt
theorem tot_loop2 {σ ρ : Type} (F : Nat → σ → Int → Option ρ) (len : Nat) (h1 : ∀ (n k : Nat) (s : σ), k < len → (∀ s', Tot (F n s' ((k + 1 : Nat) : Int))) → Tot (F (n + 1) s (k : Int))) (h2 : ∀ (n k : Nat) (s : σ), ¬ k < len → Tot (F (n + 1) s (k : Int))) :
  ∀ (n k : Nat) (s : σ), n + k = len + 1 → k ≤ len → Tot (F n s (k : Int))
 | 0, k, s, h, hk => by omega
 | n + 1, k, s, h, hk => by
  by_cases hlt : k < len
  ·exact h1 n k s hlt (fun s' => tot_loop2 F len h1 h2 n (k + 1) s' (by omega) (by omega))
  ·exact h2 n k s hlt
theorem fuel_len (m : Nat) : (((m : Int) : Int) - (0)).toNat + 1 = m + 1 := by omega
def TP {α : Type} (Q : α → Prop) (o : Option α) : Prop := ∃ r, o = some r ∧ Q r
theorem tp_some {α : Type} {Q : α → Prop} {x : α} (h : Q x) : TP Q (some x) := ⟨x, rfl, h⟩
theorem tp_bind {α β : Type} {R : α → Prop} {Q : β → Prop} {a : Option α} {f : α → Option β} (h : TP R a) (h2 : ∀ x, R x → TP Q (f x)) : TP Q (Option.bind a f) := by
 obtain ⟨x, rfl, hx⟩ := h
 exact h2 x hx
theorem tp_ite {α : Type} {Q : α → Prop} {b : Bool} {x y : Option α} (h1 : b = true → TP Q x) (h2 : b = false → TP Q y) : TP Q (if b = true then x else y) := by
 cases b with
 | true => exact h1 rfl
 | false => exact h2 rfl
theorem tp_of {α : Type} {o : Option α} (h : Tot o) : TP (fun _ => True) o := by obtain ⟨r, h⟩ := h; exact ⟨r, h, trivial⟩
theorem tot_of {α : Type} {Q : α → Prop} {o : Option α} (h : TP Q o) : Tot o := by obtain ⟨r, h, _⟩ := h; exact ⟨r, h⟩
theorem lsum_mem {α : Type} {u : α → Nat} {l : List α} {y : α} : y ∈ l → u y ≤ lsum u l := by
 induction l with
 | nil => intro h; simp at h
 | cons x l ih =>
  intro h
  simp only [lsum]
  rcases List.mem_cons.1 h with rfl | h
  ·omega
  ·have := ih h; omega
theorem len_lsum {α : Type} {u : α → Nat} (h : ∀ y, 1 ≤ u y) : ∀ l : List α, l.length ≤ lsum u l
 | [] => Nat.le_refl _
 | x :: l => by simp only [lsum, List.length_cons]; have := h x; have := len_lsum h l; omega
theorem lsum_le {α : Type} {u v : α → Nat} : ∀ {l : List α}, (∀ y ∈ l, u y ≤ v y) → lsum u l ≤ lsum v l
 | [], _ => Nat.le_refl _
 | x :: l, h => by simp only [lsum]; have := h x (by simp); have := lsum_le (l := l) (fun y hy => h y (by simp [hy])); omega
theorem u1_str (s : List UInt8) : 1 ≤ List.length s + 1 := by omega
theorem u1_O (x : GOwner) : 1 ≤ uGOwner x := by unfold uGOwner; omega
theorem u1_V (x : GVar) : 1 ≤ uGVar x := by unfold uGVar; omega
theorem u1_E (x : GExpr) : 1 ≤ uGExpr x := by rw [uGExpr_eq]; omega
theorem u1_S (x : GStmt) : 1 ≤ uGStmt x := by rw [uGStmt_eq]; omega
theorem u1_M (x : GMethod) : 1 ≤ uGMethod x := by unfold uGMethod; omega
theorem u1_C (x : GClass) : 1 ≤ uGClass x := by unfold uGClass; omega
theorem uT_p (x : GType) : x.fClass.length < uGType x := by unfold uGType; omega
theorem uV_p (x : GVar) : x.fName.length < uGVar x ∧ uGType x.fType < uGVar x := by unfold uGVar; omega
theorem uE_p (x : GExpr) : x.fName.length < uGExpr x ∧ lsum uGExpr x.fKids < uGExpr x := by rw [uGExpr_eq]; omega
theorem uS_p (x : GStmt) : x.fX.length < uGStmt x ∧ x.fY.length < uGStmt x ∧ x.fName.length < uGStmt x ∧ uGType x.fType < uGStmt x ∧ uGExpr x.fE < uGStmt x ∧ lsum uGExpr x.fArgs < uGStmt x ∧ 1 + lsum uGStmt x.fBody + lsum uGStmt x.fElse < uGStmt x := by rw [uGStmt_eq]; omega
theorem uM_p (x : GMethod) : x.fName.length < uGMethod x ∧ uGType x.fRet < uGMethod x ∧ 1 + lsum uGVar x.fParams + lsum uGVar x.fLocals + lsum uGStmt x.fBody < uGMethod x := by unfold uGMethod; omega
theorem uC_p (x : GClass) : x.fName.length < uGClass x ∧ lsum (fun s => List.length s + 1) x.fParams < uGClass x ∧ x.fSuper.length < uGClass x ∧ lsum uGOwner x.fAbove < uGClass x ∧ lsum uGVar x.fFields + lsum uGMethod x.fMethods < uGClass x := by unfold uGClass; omega
theorem mLE_sum : ∀ l : List GExpr, mLGExpr l = lsum mGExpr l
 | [] => by simp only [mLGExpr, lsum]
 | x :: l => by simp only [mLGExpr, lsum, mLE_sum l]
theorem mLS_sum : ∀ l : List GStmt, mLGStmt l = lsum mGStmt l
 | [] => by simp only [mLGStmt, lsum]
 | x :: l => by simp only [mLGStmt, lsum, mLS_sum l]
theorem mE_eq (e : GExpr) : mGExpr e = 1 + lsum mGExpr e.fKids := by rw [← mLE_sum]; cases e; simp only [mGExpr]
theorem mS_eq (e : GStmt) : mGStmt e = 1 + mGExpr e.fE + lsum mGExpr e.fArgs + lsum mGStmt e.fBody + lsum mGStmt e.fElse := by rw [← mLS_sum, ← mLS_sum, ← mLE_sum]; cases e; simp only [mGStmt]
theorem mE_u : ∀ (n : Nat) (e : GExpr), mGExpr e ≤ n → mGExpr e ≤ uGExpr e
 | 0, e, h => by rw [mE_eq] at h; omega
 | n + 1, e, h => by
  rw [mE_eq] at h
  rw [mE_eq]
  have := (uE_p e).2
  have := lsum_le (u := mGExpr) (v := uGExpr) (l := e.fKids) (fun y hy => mE_u n y (by have := lsum_mem (u := mGExpr) hy; omega))
  omega
theorem mE_le (e : GExpr) : mGExpr e ≤ uGExpr e := mE_u _ e (Nat.le_refl _)
theorem tot_Letter (b : Int) : Tot (ref02_Letter b) := by
 unfold ref02_Letter
 repeat (first | exact tot_some _ | refine tot_ite (fun _ => ?_) fun _ => ?_)
theorem tot_Digit (b : Int) : Tot (ref02_Digit b) := by
 unfold ref02_Digit
 repeat (first | exact tot_some _ | refine tot_ite (fun _ => ?_) fun _ => ?_)
theorem tot_Find (s : List UInt8) : Tot (ref02_Find s) := by
 unfold ref02_Find
 refine tot_bind (show Tot ref02_Words from tot_some _) fun W hW => ?_
 have hl : W.length ≤ 9223372036854775807 := by unfold ref02_Words at hW; cases hW; simp
 rw [fuel_len]
 refine tot_bind ?_ fun _ _ => tot_elim (fun _ => tot_some _) fun _ => tot_some _
 refine tot_loop1 (ref02_Find_L1 s W) W.length (fun m k hlt ih => ?_) (fun m k hlt => ?_) _ 0 (by omega) (by omega)
 ·rw [ref02_Find_L1, if_pos (by simpa using hlt), idx_lt hlt, w64_succ hlt hl, obs]
  exact tot_ite (fun _ => tot_some _) fun _ => ih
 ·rw [ref02_Find_L1, if_neg (by simpa using hlt)]; exact tot_some _
theorem tot_Name {s : List UInt8} (h : s.length ≤ 9223372036854775807) : Tot (ref02_Name s) := by
 unfold ref02_Name
 rw [fuel_len]
 refine tot_bind (tot_ite (fun _ => tot_some _) fun h1 => tot_ite (fun _ => tot_some _) fun _ => ?_) fun _ _ => tot_ite (fun _ => tot_some _) fun _ => tot_bind ?_ fun _ _ => tot_elim (fun _ => tot_some _) fun _ => tot_some _
 ·have h0 : 0 < s.length := by simp at h1; omega
  rw [show (0 : Int) = ((0 : Nat) : Int) from rfl, idx_lt h0, obs]
  exact tot_bind (tot_Letter _) fun _ _ => tot_ite (fun _ => tot_some _) fun _ => tot_bind (tot_Find _) fun _ _ => tot_some _
 ·refine tot_loop1 (ref02_Name_L1 s) s.length (fun m k hlt ih => ?_) (fun m k hlt => ?_) _ 0 (by omega) (by omega)
  ·rw [ref02_Name_L1, if_pos (by simpa using hlt), idx_lt hlt, w64_succ hlt h]
   simp only [obs]
   exact tot_bind (tot_bind (tot_Letter _) fun _ _ => tot_ite (fun _ => tot_bind (tot_Digit _) fun _ _ => tot_some _) fun _ => tot_some _) fun _ _ => tot_ite (fun _ => tot_some _) fun _ => ih
  ·rw [ref02_Name_L1, if_neg (by simpa using hlt)]; exact tot_some _
theorem tot_ORight (o : GOwner) (n : Int) : Tot (ref04_Right o n) := by
 unfold ref04_Right
 repeat (first | exact tot_some _ | refine tot_ite (fun _ => ?_) fun _ => ?_)
theorem tot_TRight {t : GType} (n : Int) (h : t.fClass.length ≤ 9223372036854775807) : Tot (ref05_Right t n) := by
 unfold ref05_Right
 rw [show (((4 : Int) : Int) - (0)).toNat + 1 = t.fOwn.l.length + 1 from rfl]
 refine tot_bind (tot_ite (fun _ => tot_some _) fun _ => tot_some _) fun _ _ => tot_ite (fun _ => tot_some _) fun _ => tot_bind ?_ fun _ _ => tot_ite (fun _ => tot_some _) fun _ => tot_bind ?_ fun _ _ => tot_elim (fun _ => tot_some _) fun _ => tot_some _
 ·exact tot_ite (fun _ => tot_some _) fun _ => tot_bind (tot_Name h) fun _ _ => tot_ite (fun _ => tot_some _) fun _ => tot_ite (fun _ => tot_some _) fun _ => tot_some _
 ·refine tot_loop1 (ref05_Right_L1 t n) t.fOwn.l.length (fun m k hlt ih => ?_) (fun m k hlt => ?_) _ 0 (by omega) (by omega)
  ·have h4 : t.fOwn.l.length = 4 := rfl
   rw [ref05_Right_L1, if_pos (by simp; omega), idx_lt hlt, w64_succ hlt (by omega), obs]
   refine tot_bind ?_ fun _ _ => tot_ite (fun _ => tot_some _) fun _ => ih
   repeat (first | exact tot_some _ | exact tot_ORight _ _ | refine tot_ite (fun _ => ?_) fun _ => ?_ | refine tot_bind ?_ fun _ _ => ?_)
  ·have h4 : t.fOwn.l.length = 4 := rfl
   rw [ref05_Right_L1, if_neg (by simp; omega)]; exact tot_some _
theorem tot_ESame : ∀ (n : Nat) (a b : GExpr), mGExpr a < n → n ≤ 9223372036854775807 → Tot (ref06_Same n a b)
 | 0, a, b, h, _ => by omega
 | n + 1, a, b, h, hn => by
  rw [mE_eq] at h
  have hl := len_lsum (u := mGExpr) (fun y => by rw [mE_eq]; omega) a.fKids
  simp only [ref06_Same, fuel_len]
  by_cases hk : ((a.fKids.length : Int) != (b.fKids.length : Int)) = true
  ·refine tot_bind (a := _) (f := _) ?_ fun x hx => tot_ite (fun _ => tot_some _) fun hf => ?_
   ·exact tot_ite (fun _ => tot_some _) fun _ => tot_ite (fun _ => tot_some _) fun _ => tot_ite (fun _ => tot_some _) fun _ => tot_some _
   ·exfalso
    subst hf
    rw [hk] at hx
    revert hx
    split
    ·intro h; cases h
    ·split
     ·intro h; cases h
     ·split
      ·intro h; cases h
      ·intro h; cases h
  ·have hlen : a.fKids.length = b.fKids.length := by simp at hk; omega
   refine tot_bind (tot_ite (fun _ => tot_some _) fun _ => tot_ite (fun _ => tot_some _) fun _ => tot_ite (fun _ => tot_some _) fun _ => tot_some _) fun _ _ => tot_ite (fun _ => tot_some _) fun _ => tot_bind ?_ fun _ _ => tot_elim (fun _ => tot_some _) fun _ => tot_some _
   refine tot_loop1 (ref06_Same_L1 a b (ref06_Same n)) a.fKids.length (fun m k hlt ih => ?_) (fun m k hlt => ?_) _ 0 (by omega) (by omega)
   ·rw [ref06_Same_L1, if_pos (by simpa using hlt), idx_lt hlt, idx_lt (show k < b.fKids.length by omega), w64_succ hlt (by omega), obs, obs]
    have := lsum_mem (u := mGExpr) (List.getElem_mem hlt)
    exact tot_bind (tot_ESame n _ _ (by omega) (by omega)) fun _ _ => tot_ite (fun _ => tot_some _) fun _ => ih
   ·rw [ref06_Same_L1, if_neg (by simpa using hlt)]; exact tot_some _
theorem tot_kids6 (k : Int) : Tot (ref06_kids k) := by
 unfold ref06_kids
 repeat (first | exact tot_some _ | refine tot_ite (fun _ => ?_) fun _ => ?_ | refine tot_bind ?_ fun _ _ => ?_)
theorem tot_Eform : ∀ (n : Nat) (e : GExpr), mGExpr e < n → uGExpr e ≤ 1048576 → Tot (ref06_form n e)
 | 0, e, h, _ => by omega
 | n + 1, e, h, hu => by
  rw [mE_eq] at h
  have hp := uE_p e
  have hl := len_lsum u1_E e.fKids
  have hN : Tot (ref02_Name e.fName) := tot_Name (by omega)
  simp only [ref06_form, fuel_len]
  refine tot_bind ?_ fun _ _ => tot_ite (fun _ => tot_some _) fun _ => tot_bind ?_ fun _ _ => tot_elim (fun _ => tot_some _) fun _ => tot_some _
  ·repeat (first | exact tot_some _ | exact hN | exact tot_kids6 _ | refine tot_ite (fun _ => ?_) fun _ => ?_ | refine tot_bind ?_ fun _ _ => ?_)
  ·refine tot_loop1 (ref06_form_L1 e (ref06_form n)) e.fKids.length (fun m k hlt ih => ?_) (fun m k hlt => ?_) _ 0 (by omega) (by omega)
   ·rw [ref06_form_L1, if_pos (by simpa using hlt), idx_lt hlt, w64_succ hlt (by omega), obs, obs]
    have h1 := lsum_mem (u := mGExpr) (List.getElem_mem hlt)
    have h2 := lsum_mem (u := uGExpr) (List.getElem_mem hlt)
    refine tot_bind (tot_bind (tot_Eform n _ (by omega) (by omega)) fun _ _ => ?_) fun _ _ => tot_ite (fun _ => tot_some _) fun _ => ih
    repeat (first | exact tot_some _ | refine tot_ite (fun _ => ?_) fun _ => ?_)
   ·rw [ref06_form_L1, if_neg (by simpa using hlt)]; exact tot_some _
theorem tot_EDeep : ∀ (n : Nat) (e : GExpr), mGExpr e < n → uGExpr e ≤ 1048576 → Tot (ref06_Deep n e)
 | 0, e, h, _ => by omega
 | n + 1, e, h, hu => by
  rw [mE_eq] at h
  have hp := uE_p e
  have hl := len_lsum u1_E e.fKids
  simp only [ref06_Deep, fuel_len]
  refine tot_bind ?_ fun _ _ => tot_some _
  refine tot_loop2 (ref06_Deep_L1 e (ref06_Deep n)) e.fKids.length (fun m k s hlt ih => ?_) (fun m k s hlt => ?_) _ 0 _ (by omega) (by omega)
  ·rw [ref06_Deep_L1, if_pos (by simpa using hlt), idx_lt hlt, w64_succ hlt (by omega), obs]
   have h1 := lsum_mem (u := mGExpr) (List.getElem_mem hlt)
   have h2 := lsum_mem (u := uGExpr) (List.getElem_mem hlt)
   exact tot_bind (tot_EDeep n _ (by omega) (by omega)) fun _ _ => ih _
  ·rw [ref06_Deep_L1, if_neg (by simpa using hlt)]; exact tot_some _
theorem tot_ERight {e : GExpr} (hu : uGExpr e ≤ 1048576) : Tot (ref06_Right e) := by
 unfold ref06_Right
 exact tot_bind (tot_Eform _ _ (by omega) hu) fun _ _ => tot_ite (fun _ => tot_bind (tot_EDeep _ _ (by omega) hu) fun _ _ => tot_some _) fun _ => tot_some _
theorem tp_Blank (s : GStmt) : TP (fun y => mGExpr y.fE ≤ mGExpr s.fE + 1) (ref08_Blank s) := by
 unfold ref08_Blank
 have b : ∀ {b : Option Bool} (_ : Tot b), TP (fun _ => True) b := fun h => tp_of h
 have e1 : mGExpr ({ fKind := 0, fNum := 0, fName := [], fKids := [] } : GExpr) = 1 := by rw [mE_eq]; rfl
 refine tp_bind (R := fun y : GStmt => mGExpr y.fE ≤ mGExpr s.fE + 1) (tp_bind (b ?_) fun x _ => tp_ite (fun _ => tp_some (by simp)) fun _ => tp_some (by simp)) fun y1 h1 => ?_
 ·repeat (first | exact tot_some _ | refine tot_ite (fun _ => ?_) fun _ => ?_)
 refine tp_bind (R := fun y : GStmt => mGExpr y.fE ≤ mGExpr s.fE + 1) (tp_bind (b ?_) fun x _ => tp_ite (fun _ => tp_some h1) fun _ => tp_some h1) fun y2 h2 => ?_
 ·repeat (first | exact tot_some _ | refine tot_ite (fun _ => ?_) fun _ => ?_)
 refine tp_bind (R := fun y : GStmt => mGExpr y.fE ≤ mGExpr s.fE + 1) (tp_bind (b ?_) fun x _ => tp_ite (fun _ => tp_some h2) fun _ => tp_some h2) fun y3 h3 => ?_
 ·repeat (first | exact tot_some _ | refine tot_ite (fun _ => ?_) fun _ => ?_)
 refine tp_bind (R := fun y : GStmt => mGExpr y.fE ≤ mGExpr s.fE + 1) (tp_bind (b ?_) fun x _ => tp_ite (fun _ => tp_some h3) fun _ => tp_some h3) fun y4 h4 => ?_
 ·repeat (first | exact tot_some _ | refine tot_ite (fun _ => ?_) fun _ => ?_)
 refine tp_bind (R := fun y : GStmt => mGExpr y.fE ≤ mGExpr s.fE + 1) (tp_bind (b ?_) fun x _ => tp_ite (fun _ => tp_some (by show mGExpr ({ fKind := 0, fNum := 0, fName := [], fKids := [] } : GExpr) ≤ _; omega)) fun _ => tp_some h4) fun y5 h5 => ?_
 ·repeat (first | exact tot_some _ | refine tot_ite (fun _ => ?_) fun _ => ?_)
 refine tp_bind (R := fun y : GStmt => mGExpr y.fE ≤ mGExpr s.fE + 1) (tp_ite (fun _ => tp_some h5) fun _ => tp_some h5) fun y6 h6 => ?_
 refine tp_bind (R := fun y : GStmt => mGExpr y.fE ≤ mGExpr s.fE + 1) (tp_bind (b ?_) fun x _ => tp_ite (fun _ => tp_some h6) fun _ => tp_some h6) fun y7 h7 => ?_
 ·repeat (first | exact tot_some _ | refine tot_ite (fun _ => ?_) fun _ => ?_)
 exact tp_ite (fun _ => tp_some h7) fun _ => tp_some h7
theorem tot_only {s : GStmt} (hu : uGStmt s ≤ 1048576) : Tot (ref08_only s) := by
 unfold ref08_only
 have hp := uS_p s
 have hm := mE_le s.fE
 have e1 : mGExpr ({ fKind := 0, fNum := 0, fName := [], fKids := [] } : GExpr) = 1 := by rw [mE_eq]; rfl
 refine tot_of (tp_bind (tp_Blank s) fun y hy => tp_of ?_)
 have hS : Tot (ref06_Same (mGExpr y.fE + mGExpr ({ fKind := 0, fNum := 0, fName := [], fKids := [] } : GExpr) + 1) y.fE ({ fKind := 0, fNum := 0, fName := [], fKids := [] } : GExpr)) := tot_ESame _ _ _ (by omega) (by omega)
 repeat (first | exact tot_some _ | exact hS | refine tot_ite (fun _ => ?_) fun _ => ?_ | refine tot_bind ?_ fun _ _ => ?_)
theorem tot_Snames {s : GStmt} (n : Int) (hu : uGStmt s ≤ 1048576) : Tot (ref08_names s n) := by
 unfold ref08_names
 have hp := uS_p s
 have ht := uT_p s.fType
 have h1 : Tot (ref02_Name s.fX) := tot_Name (by omega)
 have h2 : Tot (ref02_Name s.fY) := tot_Name (by omega)
 have h3 : Tot (ref02_Name s.fName) := tot_Name (by omega)
 have h4 : Tot (ref05_Right s.fType n) := tot_TRight _ (by omega)
 repeat (first | exact tot_some _ | exact h1 | exact h2 | exact h3 | exact h4 | refine tot_ite (fun _ => ?_) fun _ => ?_ | refine tot_bind ?_ fun _ _ => ?_)
theorem tot_tells {s : GStmt} (hu : uGStmt s ≤ 1048576) : Tot (ref08_tells s) := by
 unfold ref08_tells
 rw [fuel_len]
 have hp := uS_p s
 have hm := mE_le s.fE
 have hl := len_lsum u1_E s.fArgs
 have e1 : mGExpr ({ fKind := 0, fNum := 0, fName := [], fKids := [] } : GExpr) = 1 := by rw [mE_eq]; rfl
 have hS : Tot (ref06_Same (mGExpr s.fE + mGExpr ({ fKind := 0, fNum := 0, fName := [], fKids := [] } : GExpr) + 1) s.fE ({ fKind := 0, fNum := 0, fName := [], fKids := [] } : GExpr)) := tot_ESame _ _ _ (by omega) (by omega)
 have hR : Tot (ref06_Right s.fE) := tot_ERight (by omega)
 have hL : Tot (ref08_tells_L1 s (s.fArgs.length + 1) 0) := by
  refine tot_loop1 (ref08_tells_L1 s) s.fArgs.length (fun m k hlt ih => ?_) (fun m k hlt => ?_) _ 0 (by omega) (by omega)
  ·rw [ref08_tells_L1, if_pos (by simpa using hlt), idx_lt hlt, w64_succ hlt (by omega), obs]
   have h2 := lsum_mem (u := uGExpr) (List.getElem_mem hlt)
   exact tot_bind (tot_ERight (by omega)) fun _ _ => tot_ite (fun _ => tot_some _) fun _ => ih
  ·rw [ref08_tells_L1, if_neg (by simpa using hlt)]; exact tot_some _
 repeat (first | exact tot_some _ | exact hS | exact hR | exact hL | refine tot_ite (fun _ => ?_) fun _ => ?_ | refine tot_elim (fun _ => ?_) fun _ => ?_ | refine tot_bind ?_ fun _ _ => ?_)
theorem tot_Sform : ∀ (n : Nat) (s : GStmt) (p : Int), mGStmt s < n → uGStmt s ≤ 1048576 → Tot (ref08_form n s p)
 | 0, s, p, h, _ => by omega
 | n + 1, s, p, h, hu => by
  rw [mS_eq] at h
  have hp := uS_p s
  have hl1 := len_lsum u1_S s.fBody
  have hl2 := len_lsum u1_S s.fElse
  simp only [ref08_form, fuel_len]
  have hL1 : Tot (ref08_form_L1 s p (ref08_form n) (s.fBody.length + 1) 0) := by
   refine tot_loop1 (ref08_form_L1 s p (ref08_form n)) s.fBody.length (fun m k hlt ih => ?_) (fun m k hlt => ?_) _ 0 (by omega) (by omega)
   ·rw [ref08_form_L1, if_pos (by simpa using hlt), idx_lt hlt, w64_succ hlt (by omega), obs]
    have h1 := lsum_mem (u := mGStmt) (List.getElem_mem hlt)
    have h2 := lsum_mem (u := uGStmt) (List.getElem_mem hlt)
    exact tot_bind (tot_Sform n _ _ (by omega) (by omega)) fun _ _ => tot_ite (fun _ => tot_some _) fun _ => ih
   ·rw [ref08_form_L1, if_neg (by simpa using hlt)]; exact tot_some _
  have hL2 : Tot (ref08_form_L2 s p (ref08_form n) (s.fElse.length + 1) 0) := by
   refine tot_loop1 (ref08_form_L2 s p (ref08_form n)) s.fElse.length (fun m k hlt ih => ?_) (fun m k hlt => ?_) _ 0 (by omega) (by omega)
   ·rw [ref08_form_L2, if_pos (by simpa using hlt), idx_lt hlt, w64_succ hlt (by omega), obs]
    have h1 := lsum_mem (u := mGStmt) (List.getElem_mem hlt)
    have h2 := lsum_mem (u := uGStmt) (List.getElem_mem hlt)
    exact tot_bind (tot_Sform n _ _ (by omega) (by omega)) fun _ _ => tot_ite (fun _ => tot_some _) fun _ => ih
   ·rw [ref08_form_L2, if_neg (by simpa using hlt)]; exact tot_some _
  have h1 := tot_only hu
  have h2 := tot_Snames p hu
  have h3 := tot_tells hu
  repeat (first | exact tot_some _ | exact hL1 | exact hL2 | exact h1 | exact h2 | exact h3 | refine tot_ite (fun _ => ?_) fun _ => ?_ | refine tot_elim (fun _ => ?_) fun _ => ?_ | refine tot_bind ?_ fun _ _ => ?_)
theorem tot_SDeep : ∀ (n : Nat) (s : GStmt), mGStmt s < n → uGStmt s ≤ 1048576 → Tot (ref08_Deep n s)
 | 0, s, h, _ => by omega
 | n + 1, s, h, hu => by
  rw [mS_eq] at h
  have hp := uS_p s
  have hl1 := len_lsum u1_S s.fBody
  have hl2 := len_lsum u1_S s.fElse
  simp only [ref08_Deep, fuel_len]
  refine tot_bind ?_ fun _ _ => tot_bind ?_ fun _ _ => tot_some _
  ·refine tot_loop2 (ref08_Deep_L1 s (ref08_Deep n)) s.fBody.length (fun m k x hlt ih => ?_) (fun m k x hlt => ?_) _ 0 _ (by omega) (by omega)
   ·rw [ref08_Deep_L1, if_pos (by simpa using hlt), idx_lt hlt, w64_succ hlt (by omega), obs]
    have h1 := lsum_mem (u := mGStmt) (List.getElem_mem hlt)
    have h2 := lsum_mem (u := uGStmt) (List.getElem_mem hlt)
    exact tot_bind (tot_SDeep n _ (by omega) (by omega)) fun _ _ => ih _
   ·rw [ref08_Deep_L1, if_neg (by simpa using hlt)]; exact tot_some _
  ·refine tot_loop2 (ref08_Deep_L2 s (ref08_Deep n)) s.fElse.length (fun m k x hlt ih => ?_) (fun m k x hlt => ?_) _ 0 _ (by omega) (by omega)
   ·rw [ref08_Deep_L2, if_pos (by simpa using hlt), idx_lt hlt, w64_succ hlt (by omega), obs]
    have h1 := lsum_mem (u := mGStmt) (List.getElem_mem hlt)
    have h2 := lsum_mem (u := uGStmt) (List.getElem_mem hlt)
    exact tot_bind (tot_SDeep n _ (by omega) (by omega)) fun _ _ => ih _
   ·rw [ref08_Deep_L2, if_neg (by simpa using hlt)]; exact tot_some _
theorem tot_SRight {s : GStmt} (p : Int) (hu : uGStmt s ≤ 1048576) : Tot (ref08_Right s p) := by
 unfold ref08_Right
 exact tot_bind (tot_Sform _ _ _ (by omega) hu) fun _ _ => tot_ite (fun _ => tot_bind (tot_SDeep _ _ (by omega) hu) fun _ _ => tot_some _) fun _ => tot_some _
theorem tot_written {t : GType} (p : Int) (hu : uGType t ≤ 1048576) : Tot (ref10_written t p) := by
 unfold ref10_written
 have := uT_p t
 have h1 : Tot (ref05_Right t p) := tot_TRight _ (by omega)
 repeat (first | exact tot_some _ | exact h1 | refine tot_ite (fun _ => ?_) fun _ => ?_ | refine tot_bind ?_ fun _ _ => ?_)
theorem tot_vars {l : List GVar} (m p : Int) (hu : lsum uGVar l ≤ 1048576) : Tot (ref10_vars l m p) := by
 unfold ref10_vars
 rw [fuel_len]
 have hl := len_lsum u1_V l
 refine tot_bind ?_ fun _ _ => tot_elim (fun _ => tot_some _) fun _ => tot_some _
 refine tot_loop1 (ref10_vars_L1 l p) l.length (fun m k hlt ih => ?_) (fun m k hlt => ?_) _ 0 (by omega) (by omega)
 ·rw [ref10_vars_L1, if_pos (by simpa using hlt), idx_lt hlt, w64_succ hlt (by omega), obs, obs, obs]
  have h2 := lsum_mem (u := uGVar) (List.getElem_mem hlt)
  have h3 := uV_p l[k]
  exact tot_bind (tot_bind (tot_Name (by omega)) fun _ _ => tot_ite (fun _ => tot_some _) fun _ => tot_ite (fun _ => tot_some _) fun _ => tot_bind (tot_written _ (by omega)) fun _ _ => tot_some _) fun _ _ => tot_ite (fun _ => tot_some _) fun _ => ih
 ·rw [ref10_vars_L1, if_neg (by simpa using hlt)]; exact tot_some _
theorem tot_open : ∀ (n : Nat) (l : List GStmt) (p : Int), mLGStmt l < n → lsum uGStmt l ≤ 1048576 → Tot (ref10_open n l p)
 | 0, l, p, h, _ => by omega
 | n + 1, l, p, h, hu => by
  have hl := len_lsum u1_S l
  rw [mLS_sum] at h
  simp only [ref10_open, fuel_len]
  refine tot_bind ?_ fun _ _ => tot_elim (fun _ => tot_some _) fun _ => tot_some _
  refine tot_loop1 (ref10_open_L1 l p (ref10_open n)) l.length (fun m k hlt ih => ?_) (fun m k hlt => ?_) _ 0 (by omega) (by omega)
  ·rw [ref10_open_L1, if_pos (by simpa using hlt), idx_lt hlt, w64_succ hlt (by omega)]
   simp only [obs]
   have h1 := lsum_mem (u := mGStmt) (List.getElem_mem hlt)
   have h2 := lsum_mem (u := uGStmt) (List.getElem_mem hlt)
   have h3 := uS_p l[k]
   rw [mS_eq] at h1
   have o1 : Tot (ref10_open n l[k].fBody p) := tot_open n _ _ (by rw [mLS_sum]; omega) (by omega)
   have o2 : Tot (ref10_open n l[k].fElse p) := tot_open n _ _ (by rw [mLS_sum]; omega) (by omega)
   have o3 : Tot (ref10_written l[k].fType p) := tot_written _ (by omega)
   refine tot_bind ?_ fun _ _ => tot_ite (fun _ => tot_some _) fun _ => ih
   repeat (first | exact tot_some _ | exact o1 | exact o2 | exact o3 | refine tot_ite (fun _ => ?_) fun _ => ?_ | refine tot_bind ?_ fun _ _ => ?_)
  ·rw [ref10_open_L1, if_neg (by simpa using hlt)]; exact tot_some _
theorem tot_method10 {m : GMethod} (p : Int) (hu : uGMethod m ≤ 1048576) : Tot (ref10_method m p) := by
 unfold ref10_method
 rw [fuel_len]
 have hp := uM_p m
 have hl := len_lsum u1_S m.fBody
 have hL : Tot (ref10_method_L1 m p (m.fBody.length + 1) 0) := by
  refine tot_loop1 (ref10_method_L1 m p) m.fBody.length (fun n k hlt ih => ?_) (fun n k hlt => ?_) _ 0 (by omega) (by omega)
  ·rw [ref10_method_L1, if_pos (by simpa using hlt), idx_lt hlt, w64_succ hlt (by omega), obs]
   have h2 := lsum_mem (u := uGStmt) (List.getElem_mem hlt)
   exact tot_bind (tot_SRight _ (by omega)) fun _ _ => tot_ite (fun _ => tot_some _) fun _ => ih
  ·rw [ref10_method_L1, if_neg (by simpa using hlt)]; exact tot_some _
 have h1 : Tot (ref02_Name m.fName) := tot_Name (by omega)
 have h2 : Tot (ref10_written m.fRet p) := tot_written _ (by omega)
 have h3 : Tot (ref10_vars m.fParams 5 p) := tot_vars _ _ (by omega)
 have h4 : Tot (ref10_vars m.fLocals 12 p) := tot_vars _ _ (by omega)
 have h5 : Tot (ref10_open (mLGStmt m.fBody + 1) m.fBody p) := tot_open _ _ _ (by omega) (by omega)
 repeat (first | exact tot_some _ | exact hL | exact h1 | exact h2 | exact h3 | exact h4 | exact h5 | refine tot_ite (fun _ => ?_) fun _ => ?_ | refine tot_elim (fun _ => ?_) fun _ => ?_ | refine tot_bind ?_ fun _ _ => ?_)
theorem tot_class10 {c : GClass} (hu : uGClass c ≤ 1048576) : Tot (ref10_class c) := by
 unfold ref10_class
 rw [fuel_len, fuel_len, fuel_len]
 have hp := uC_p c
 have hl1 := len_lsum u1_str c.fParams
 have hl2 := len_lsum u1_O c.fAbove
 have hl3 := len_lsum u1_M c.fMethods
 have hL1 : Tot (ref10_class_L1 c (c.fParams.length + 1) 0) := by
  refine tot_loop1 (ref10_class_L1 c) c.fParams.length (fun n k hlt ih => ?_) (fun n k hlt => ?_) _ 0 (by omega) (by omega)
  ·rw [ref10_class_L1, if_pos (by simpa using hlt), idx_lt hlt, w64_succ hlt (by omega), obs]
   have h2 := lsum_mem (u := fun s => List.length s + 1) (List.getElem_mem hlt)
   exact tot_bind (tot_Name (by omega)) fun _ _ => tot_ite (fun _ => tot_some _) fun _ => ih
  ·rw [ref10_class_L1, if_neg (by simpa using hlt)]; exact tot_some _
 have hL2 : Tot (ref10_class_L2 c (c.fAbove.length + 1) 0) := by
  refine tot_loop1 (ref10_class_L2 c) c.fAbove.length (fun n k hlt ih => ?_) (fun n k hlt => ?_) _ 0 (by omega) (by omega)
  ·rw [ref10_class_L2, if_pos (by simpa using hlt), idx_lt hlt, w64_succ hlt (by omega), obs, obs]
   refine tot_bind (tot_bind (tot_ORight _ _) fun _ _ => ?_) fun _ _ => tot_ite (fun _ => tot_some _) fun _ => ih
   repeat (first | exact tot_some _ | refine tot_ite (fun _ => ?_) fun _ => ?_)
  ·rw [ref10_class_L2, if_neg (by simpa using hlt)]; exact tot_some _
 have hL3 : Tot (ref10_class_L3 c (c.fMethods.length + 1) 0) := by
  refine tot_loop1 (ref10_class_L3 c) c.fMethods.length (fun n k hlt ih => ?_) (fun n k hlt => ?_) _ 0 (by omega) (by omega)
  ·rw [ref10_class_L3, if_pos (by simpa using hlt), idx_lt hlt, w64_succ hlt (by omega), obs]
   have h2 := lsum_mem (u := uGMethod) (List.getElem_mem hlt)
   exact tot_bind (tot_method10 _ (by omega)) fun _ _ => tot_ite (fun _ => tot_some _) fun _ => ih
  ·rw [ref10_class_L3, if_neg (by simpa using hlt)]; exact tot_some _
 have h1 : Tot (ref02_Name c.fName) := tot_Name (by omega)
 have h2 : Tot (ref02_Name c.fSuper) := tot_Name (by omega)
 have h3 : Tot (ref10_vars c.fFields 12 (c.fParams.length : Int)) := tot_vars _ _ (by omega)
 repeat (first | exact tot_some _ | exact hL1 | exact hL2 | exact hL3 | exact h1 | exact h2 | exact h3 | refine tot_ite (fun _ => ?_) fun _ => ?_ | refine tot_elim (fun _ => ?_) fun _ => ?_ | refine tot_bind ?_ fun _ _ => ?_)
theorem tot_SSize : ∀ (n : Nat) (s : GStmt), mGStmt s < n → uGStmt s ≤ 1048576 → Tot (ref08_Size n s)
 | 0, s, h, _ => by omega
 | n + 1, s, h, hu => by
  rw [mS_eq] at h
  have hp := uS_p s
  have hl1 := len_lsum u1_S s.fBody
  have hl2 := len_lsum u1_S s.fElse
  simp only [ref08_Size, fuel_len]
  refine tot_bind ?_ fun _ _ => tot_bind ?_ fun _ _ => tot_some _
  ·refine tot_loop2 (ref08_Size_L1 s (ref08_Size n)) s.fBody.length (fun m k x hlt ih => ?_) (fun m k x hlt => ?_) _ 0 _ (by omega) (by omega)
   ·rw [ref08_Size_L1, if_pos (by simpa using hlt), idx_lt hlt, w64_succ hlt (by omega), obs]
    have h1 := lsum_mem (u := mGStmt) (List.getElem_mem hlt)
    have h2 := lsum_mem (u := uGStmt) (List.getElem_mem hlt)
    exact tot_bind (tot_SSize n _ (by omega) (by omega)) fun _ _ => ih _
   ·rw [ref08_Size_L1, if_neg (by simpa using hlt)]; exact tot_some _
  ·refine tot_loop2 (ref08_Size_L2 s (ref08_Size n)) s.fElse.length (fun m k x hlt ih => ?_) (fun m k x hlt => ?_) _ 0 _ (by omega) (by omega)
   ·rw [ref08_Size_L2, if_pos (by simpa using hlt), idx_lt hlt, w64_succ hlt (by omega), obs]
    have h1 := lsum_mem (u := mGStmt) (List.getElem_mem hlt)
    have h2 := lsum_mem (u := uGStmt) (List.getElem_mem hlt)
    exact tot_bind (tot_SSize n _ (by omega) (by omega)) fun _ _ => ih _
   ·rw [ref08_Size_L2, if_neg (by simpa using hlt)]; exact tot_some _
theorem tot_Stmts {c : GClass} (hu : uGClass c ≤ 1048576) : Tot (ref09_Stmts c) := by
 unfold ref09_Stmts
 rw [fuel_len]
 have hp := uC_p c
 have hl3 := len_lsum u1_M c.fMethods
 refine tot_bind ?_ fun _ _ => tot_some _
 refine tot_loop2 (ref09_Stmts_L1 c) c.fMethods.length (fun n k x hlt ih => ?_) (fun n k x hlt => ?_) _ 0 _ (by omega) (by omega)
 ·rw [ref09_Stmts_L1, if_pos (by simpa using hlt), w64_succ hlt (by omega), idx_lt hlt, obs, Option.getD_some, fuel_len]
  have h2 := lsum_mem (u := uGMethod) (List.getElem_mem hlt)
  have h3 := uM_p c.fMethods[k]
  have hl := len_lsum u1_S c.fMethods[k].fBody
  refine tot_bind ?_ fun _ _ => ih _
  refine tot_loop2 (ref09_Stmts_L2 c (k : Int)) c.fMethods[k].fBody.length (fun m j y hj ih2 => ?_) (fun m j y hj => ?_) _ 0 _ (by omega) (by omega)
  ·rw [ref09_Stmts_L2, idx_lt hlt, obs, if_pos (by simpa using hj), obs, idx_lt hj, obs, w64_succ hj (by omega)]
   have h4 := lsum_mem (u := uGStmt) (List.getElem_mem hj)
   exact tot_bind (tot_SSize _ _ (by omega) (by omega)) fun _ _ => ih2 _
  ·rw [ref09_Stmts_L2, idx_lt hlt, obs, if_neg (by simpa using hj)]; exact tot_some _
 ·rw [ref09_Stmts_L1, if_neg (by simpa using hlt)]; exact tot_some _
theorem tot_Right10 {p : List GClass} (hu : lsum uGClass p ≤ 1048576) : Tot (ref10_Right p) := by
 unfold ref10_Right
 rw [fuel_len]
 have hl := len_lsum u1_C p
 refine tot_bind ?_ fun _ _ => tot_elim (fun _ => tot_some _) fun _ => tot_some _
 refine tot_loop2 (ref10_Right_L1 p) p.length (fun n k x hlt ih => ?_) (fun n k x hlt => ?_) _ 0 _ (by omega) (by omega)
 ·rw [ref10_Right_L1, if_pos (by simpa using hlt), w64_succ hlt (by omega), idx_lt hlt]
  simp only [obs]
  have h2 := lsum_mem (u := uGClass) (List.getElem_mem hlt)
  exact tot_bind (tot_ite (fun _ => tot_some _) fun _ => tot_bind (tot_class10 (by omega)) fun _ _ => tot_some _) fun _ _ => tot_ite (fun _ => tot_some _) fun _ => tot_bind (tot_Stmts (by omega)) fun _ _ => ih _
 ·rw [ref10_Right_L1, if_neg (by simpa using hlt)]; exact tot_some _
theorem mE_mem {l : List GExpr} {e : GExpr} : e ∈ l → mGExpr e ≤ mLGExpr l := by
 induction l with
 | nil => intro h; simp at h
 | cons x l ih =>
  intro h
  simp only [mLGExpr]
  rcases List.mem_cons.1 h with rfl | h
  ·omega
  ·have := ih h; omega
theorem mS_mem {l : List GStmt} {e : GStmt} : e ∈ l → mGStmt e ≤ mLGStmt l := by
 induction l with
 | nil => intro h; simp at h
 | cons x l ih =>
  intro h
  simp only [mLGStmt]
  rcases List.mem_cons.1 h with rfl | h
  ·omega
  ·have := ih h; omega
theorem hE_eq (e : GExpr) : mGExpr e = 1 + mLGExpr e.fKids := by cases e; simp only [mGExpr]
theorem hS_eq (e : GStmt) : mGStmt e = 1 + mGExpr e.fE + mLGExpr e.fArgs + mLGStmt e.fBody + mLGStmt e.fElse := by cases e; simp only [mGStmt]
theorem goodE {e : GExpr} (h : goodGExpr e) : e.fKids.length ≤ maxLen ∧ ∀ y ∈ e.fKids, goodGExpr y := by cases h; exact ⟨by assumption, by assumption⟩
theorem goodS {e : GStmt} (h : goodGStmt e) : goodGExpr e.fE ∧ listok (fun y => goodGExpr y) e.fArgs ∧ (e.fBody.length ≤ maxLen ∧ ∀ y ∈ e.fBody, goodGStmt y) ∧ (e.fElse.length ≤ maxLen ∧ ∀ y ∈ e.fElse, goodGStmt y) := by
 cases h
 exact ⟨by assumption, by assumption, ⟨by assumption, by assumption⟩, ⟨by assumption, by assumption⟩⟩
theorem tot_kids : ∀ (n : Nat) (e : GExpr) (d : Int), goodGExpr e → mGExpr e < n → Tot (ref10_kids n e d)
 | 0, e, d, _, h => by omega
 | n + 1, e, d, hg, hm => by
  obtain ⟨hl, hk⟩ := goodE hg
  simp only [maxLen] at hl
  simp only [ref10_kids, fuel_len]
  refine tot_bind (tot_ite (fun _ => tot_some _) (fun _ => tot_some _)) fun x _ => tot_ite (fun _ => tot_some _) fun _ => ?_
  refine tot_bind ?_ fun lr _ => tot_elim (fun v => tot_some _) (fun _ => tot_some _)
  refine tot_loop1 (ref10_kids_L1 e d (ref10_kids n)) e.fKids.length (fun m k hlt ih => ?_) (fun m k hlt => ?_) _ 0 (by omega) (by omega)
  ·simp only [ref10_kids_L1]
   rw [if_pos (by simpa using hlt), idx_lt hlt, w64_succ hlt (by omega)]
   simp only [obs]
   have hmem := List.getElem_mem hlt
   have h1 := mE_mem hmem
   rw [hE_eq] at hm
   refine tot_bind (tot_kids n _ _ (hk _ hmem) (by omega)) fun y _ => tot_ite (fun _ => tot_some _) fun _ => ih
  ·simp only [ref10_kids_L1]
   rw [if_neg (by simpa using hlt)]
   exact tot_some _
theorem tot_much : ∀ (n : Nat) (e : GStmt) (d : Int), goodGStmt e → mGStmt e < n → Tot (ref10_much n e d)
 | 0, e, d, _, h => by omega
 | n + 1, e, d, hg, hm => by
  obtain ⟨hE, ⟨hal, ha⟩, ⟨hbl, hb⟩, ⟨hll, hl⟩⟩ := goodS hg
  simp only [maxLen] at hal hbl hll
  rw [hS_eq] at hm
  simp only [ref10_much, fuel_len]
  refine tot_bind ?_ fun x _ => tot_ite (fun _ => tot_some _) fun _ => ?_
  ·exact tot_ite (fun _ => tot_some _) fun _ => tot_ite (fun _ => tot_some _) fun _ => tot_ite (fun _ => tot_some _) fun _ => tot_ite (fun _ => tot_some _) fun _ => tot_bind (tot_kids _ _ _ hE (by omega)) fun _ _ => tot_some _
  refine tot_bind ?_ fun lr _ => tot_elim (fun v => tot_some _) fun _ => tot_bind ?_ fun lr _ => tot_elim (fun v => tot_some _) fun _ => tot_bind ?_ fun lr _ => tot_elim (fun v => tot_some _) fun _ => tot_some _
  ·refine tot_loop1 (ref10_much_L1 e) e.fArgs.length (fun m k hlt ih => ?_) (fun m k hlt => ?_) _ 0 (by omega) (by omega)
   ·simp only [ref10_much_L1]
    rw [if_pos (by simpa using hlt), idx_lt hlt, w64_succ hlt (by omega)]
    simp only [obs]
    exact tot_bind (tot_kids _ _ _ (ha _ (List.getElem_mem hlt)) (by omega)) fun y _ => tot_ite (fun _ => tot_some _) fun _ => ih
   ·simp only [ref10_much_L1]
    rw [if_neg (by simpa using hlt)]
    exact tot_some _
  ·refine tot_loop1 (ref10_much_L2 e d (ref10_much n)) e.fBody.length (fun m k hlt ih => ?_) (fun m k hlt => ?_) _ 0 (by omega) (by omega)
   ·simp only [ref10_much_L2]
    rw [if_pos (by simpa using hlt), idx_lt hlt, w64_succ hlt (by omega)]
    simp only [obs]
    have h1 := mS_mem (List.getElem_mem hlt)
    exact tot_bind (tot_much n _ _ (hb _ (List.getElem_mem hlt)) (by omega)) fun y _ => tot_ite (fun _ => tot_some _) fun _ => ih
   ·simp only [ref10_much_L2]
    rw [if_neg (by simpa using hlt)]
    exact tot_some _
  ·refine tot_loop1 (ref10_much_L3 e d (ref10_much n)) e.fElse.length (fun m k hlt ih => ?_) (fun m k hlt => ?_) _ 0 (by omega) (by omega)
   ·simp only [ref10_much_L3]
    rw [if_pos (by simpa using hlt), idx_lt hlt, w64_succ hlt (by omega)]
    simp only [obs]
    have h1 := mS_mem (List.getElem_mem hlt)
    exact tot_bind (tot_much n _ _ (hl _ (List.getElem_mem hlt)) (by omega)) fun y _ => tot_ite (fun _ => tot_some _) fun _ => ih
   ·simp only [ref10_much_L3]
    rw [if_neg (by simpa using hlt)]
    exact tot_some _
theorem tot_size : ∀ (n : Nat) (e : GStmt), goodGStmt e → mGStmt e < n → Tot (ref08_Size n e)
 | 0, e, _, h => by omega
 | n + 1, e, hg, hm => by
  obtain ⟨hE, ⟨hal, ha⟩, ⟨hbl, hb⟩, ⟨hll, hl⟩⟩ := goodS hg
  simp only [maxLen] at hbl hll
  rw [hS_eq] at hm
  simp only [ref08_Size, fuel_len]
  refine tot_bind ?_ fun x _ => tot_bind ?_ fun _ _ => tot_some _
  ·refine tot_loop2 (ref08_Size_L1 e (ref08_Size n)) e.fBody.length (fun m k s hlt ih => ?_) (fun m k s hlt => ?_) _ 0 _ (by omega) (by omega)
   ·simp only [ref08_Size_L1]
    rw [if_pos (by simpa using hlt), idx_lt hlt, w64_succ hlt (by omega)]
    simp only [obs]
    have h1 := mS_mem (List.getElem_mem hlt)
    exact tot_bind (tot_size n _ (hb _ (List.getElem_mem hlt)) (by omega)) fun y _ => ih _
   ·simp only [ref08_Size_L1]
    rw [if_neg (by simpa using hlt)]
    exact tot_some _
  ·refine tot_loop2 (ref08_Size_L2 e (ref08_Size n)) e.fElse.length (fun m k s hlt ih => ?_) (fun m k s hlt => ?_) _ 0 _ (by omega) (by omega)
   ·simp only [ref08_Size_L2]
    rw [if_pos (by simpa using hlt), idx_lt hlt, w64_succ hlt (by omega)]
    simp only [obs]
    have h1 := mS_mem (List.getElem_mem hlt)
    exact tot_bind (tot_size n _ (hl _ (List.getElem_mem hlt)) (by omega)) fun y _ => ih _
   ·simp only [ref08_Size_L2]
    rw [if_neg (by simpa using hlt)]
    exact tot_some _
theorem tot_uniques {m : GMethod} (h : goodGMethod m) : Tot (ref10_uniques m) := by
 have hp : m.fParams.length ≤ maxLen := h.2.2.2.1.1
 have hl : m.fLocals.length ≤ maxLen := h.2.2.2.2.1.1
 simp only [maxLen] at hp hl
 simp only [ref10_uniques, fuel_len]
 refine tot_bind ?_ fun x _ => tot_bind ?_ fun _ _ => tot_some _
 ·refine tot_loop2 (ref10_uniques_L1 m) m.fParams.length (fun n k s hlt ih => ?_) (fun n k s hlt => ?_) _ 0 _ (by omega) (by omega)
  ·simp only [ref10_uniques_L1]
   rw [if_pos (by simpa using hlt), idx_lt hlt, w64_succ hlt (by omega)]
   simp only [obs]
   exact tot_bind (tot_ite (fun _ => tot_some _) fun _ => tot_some _) fun y _ => ih _
  ·simp only [ref10_uniques_L1]
   rw [if_neg (by simpa using hlt)]
   exact tot_some _
 ·refine tot_loop2 (ref10_uniques_L2 m) m.fLocals.length (fun n k s hlt ih => ?_) (fun n k s hlt => ?_) _ 0 _ (by omega) (by omega)
  ·simp only [ref10_uniques_L2]
   rw [if_pos (by simpa using hlt), idx_lt hlt, w64_succ hlt (by omega)]
   simp only [obs]
   exact tot_bind (tot_ite (fun _ => tot_some _) fun _ => tot_some _) fun y _ => ih _
  ·simp only [ref10_uniques_L2]
   rw [if_neg (by simpa using hlt)]
   exact tot_some _
def TotT {S : Type} (o : Option (Ctl Bool S)) : Prop := o = some (.stop true) ∨ ∃ v, o = some (.next v)
theorem totT_bind {α S : Type} {a : Option α} {f : α → Option (Ctl Bool S)} (h : Tot a) (h2 : ∀ x, a = some x → TotT (f x)) : TotT (Option.bind a f) := by
 obtain ⟨x, rfl⟩ := h
 exact h2 x rfl
theorem totT_ite {S : Type} {b : Bool} {y : Option (Ctl Bool S)} (h2 : b = false → TotT y) : TotT (if b = true then some (.stop true) else y) := by
 cases b with
 | true => exact .inl rfl
 | false => exact h2 rfl
theorem tot_heavy3 {m : GMethod} (hg : listok (fun y => goodGStmt y) m.fBody) : ∀ (n k : Nat) (x : Int), n + k = m.fBody.length + 1 → k ≤ m.fBody.length → TotT (ref10_Heavy_L3 m n x (k : Int))
 | 0, k, x, h, hk => by omega
 | n + 1, k, x, h, hk => by
  obtain ⟨hl, hb⟩ := hg
  simp only [maxLen] at hl
  simp only [ref10_Heavy_L3]
  by_cases hlt : k < m.fBody.length
  ·have hmem := hb _ (List.getElem_mem hlt)
   rw [if_pos (by simpa using hlt), idx_lt hlt, w64_succ hlt (by omega)]
   refine totT_bind (tot_ite (fun _ => tot_some _) fun _ => tot_bind (tot_some _) fun y hy => ?_) fun b _ => totT_ite fun _ => ?_
   ·cases hy
    exact tot_bind (tot_much _ _ _ hmem (by omega)) fun _ _ => tot_some _
   ·refine totT_bind (tot_some _) fun y hy => ?_
    cases hy
    exact totT_bind (tot_size _ _ hmem (by omega)) fun z _ => tot_heavy3 ⟨by simp only [maxLen]; omega, hb⟩ n (k + 1) _ (by omega) (by omega)
  ·rw [if_neg (by simpa using hlt)]
   exact .inr ⟨_, rfl⟩
theorem tot_heavy2 {c : GClass} (hg : listok (fun y => goodGMethod y) c.fMethods) : ∀ (n k : Nat) (x : Int), n + k = c.fMethods.length + 1 → k ≤ c.fMethods.length → TotT (ref10_Heavy_L2 c n x (k : Int))
 | 0, k, x, h, hk => by omega
 | n + 1, k, x, h, hk => by
  obtain ⟨hl, hb⟩ := hg
  simp only [maxLen] at hl
  simp only [ref10_Heavy_L2, fuel_len]
  by_cases hlt : k < c.fMethods.length
  ·have hmem := hb _ (List.getElem_mem hlt)
   rw [if_pos (by simpa using hlt), idx_lt hlt, w64_succ hlt (by omega)]
   refine totT_bind (tot_some _) fun m hm => ?_
   cases hm
   refine totT_bind (tot_ite (fun _ => tot_some _) fun _ => tot_ite (fun _ => tot_some _) fun _ => tot_ite (fun _ => tot_some _) fun _ => tot_bind (tot_uniques hmem) fun _ _ => tot_some _) fun b _ => totT_ite fun _ => ?_
   rcases tot_heavy3 (m := c.fMethods[k]) hmem.2.2.2.2.2.1 (c.fMethods[k].fBody.length + 1) 0 x (by omega) (by omega) with h3 | ⟨v, h3⟩
   ·rw [show (0 : Int) = ((0 : Nat) : Int) from rfl, h3]; exact .inl rfl
   ·rw [show (0 : Int) = ((0 : Nat) : Int) from rfl, h3]
    exact tot_heavy2 ⟨by simp only [maxLen]; omega, hb⟩ n (k + 1) v (by omega) (by omega)
  ·rw [if_neg (by simpa using hlt)]
   exact .inr ⟨_, rfl⟩
theorem tot_heavy1 {p : List GClass} (hg : listok (fun y => goodGClass y) p) : ∀ (n k : Nat) (x : Int), n + k = p.length + 1 → k ≤ p.length →
  ref10_Heavy_L1 p n x (k : Int) = some (.stop true) ∨ ((∃ v, ref10_Heavy_L1 p n x (k : Int) = some (.next v)) ∧ ∀ c ∈ p.drop k, p.length ≤ 30 ∧ c.fFields.length ≤ 40)
 | 0, k, x, h, hk => by omega
 | n + 1, k, x, h, hk => by
  obtain ⟨hl, hb⟩ := hg
  simp only [maxLen] at hl
  simp only [ref10_Heavy_L1, fuel_len]
  by_cases hlt : k < p.length
  ·have hmem := hb _ (List.getElem_mem hlt)
   rw [if_pos (by simpa using hlt), idx_lt hlt, w64_succ hlt (by omega)]
   simp only [obs]
   by_cases h1 : (decide ((p.length : Int) > 30)) = true
   ·rw [if_pos h1]; exact .inl rfl
   rw [if_neg h1]
   by_cases h2 : (decide ((p[k].fParams.length : Int) > 20)) = true
   ·rw [if_pos h2]; exact .inl rfl
   rw [if_neg h2]
   by_cases h3 : (decide ((p[k].fAbove.length : Int) > 20)) = true
   ·rw [if_pos h3]; exact .inl rfl
   rw [if_neg h3]
   by_cases h4 : (decide ((p[k].fFields.length : Int) > 40)) = true
   ·rw [if_pos h4]; exact .inl rfl
   rw [if_neg h4]
   simp only [obs]
   by_cases h5 : (decide ((p[k].fMethods.length : Int) > 40)) = true
   ·rw [if_pos h5]; exact .inl rfl
   rw [if_neg h5]
   rcases tot_heavy2 (c := p[k]) hmem.2.2.2.2.2.1 (p[k].fMethods.length + 1) 0 x (by omega) (by omega) with h6 | ⟨v, h6⟩
   ·rw [show (0 : Int) = ((0 : Nat) : Int) from rfl, h6]; exact .inl rfl
   ·rw [show (0 : Int) = ((0 : Nat) : Int) from rfl, h6]
    simp only [obs, Ctl.elim]
    rcases tot_heavy1 (p := p) ⟨by simp only [maxLen]; omega, hb⟩ n (k + 1) v (by omega) (by omega) with h7 | ⟨h7, h8⟩
    ·exact .inl h7
    ·refine .inr ⟨h7, fun c hc => ?_⟩
     rw [List.drop_eq_getElem_cons hlt] at hc
     rcases List.mem_cons.1 hc with rfl | hc
     ·simp at h1 h4; omega
     ·exact h8 c hc
  ·rw [if_neg (by simpa using hlt), List.drop_eq_nil_of_le (by omega)]
   exact .inr ⟨⟨_, rfl⟩, fun c hc => by simp at hc⟩
theorem heavy_eq {p : List GClass} (hg : listok (fun y => goodGClass y) p) : ∃ b, ref10_Heavy p = some b ∧ (b = false → p.length ≤ 30 ∧ ∀ c ∈ p, c.fFields.length ≤ 40) := by
 simp only [ref10_Heavy, fuel_len]
 rcases tot_heavy1 hg (p.length + 1) 0 0 (by omega) (by omega) with h | ⟨⟨v, h⟩, h2⟩
 ·rw [show (0 : Int) = ((0 : Nat) : Int) from rfl] at h ⊢
  rw [h]; exact ⟨true, rfl, fun hb => by cases hb⟩
 ·rw [show (0 : Int) = ((0 : Nat) : Int) from rfl] at h ⊢
  rw [h]
  refine ⟨_, rfl, fun _ => ?_⟩
  simp only [List.drop_zero] at h2
  refine ⟨?_, fun c hc => (h2 c hc).2⟩
  cases p with
  | nil => simp
  | cons c p => exact (h2 c (by simp)).1
def thisL (m : Nat) : List GOwner := ⟨2, 0⟩ :: (List.range m).map fun (k : Nat) => ⟨3, (k : Int) + 1⟩
def uniq (t : GType) : Bool := decide (t.fKind = 2) && decide (t.fOwn.a0.fKind = 6)
theorem kind_Unique_eq (t : GType) : kind_Unique t = some (uniq t) := by
 unfold kind_Unique uniq
 by_cases h : t.fKind = 2
 ·rw [if_pos (by simpa using h)]; simp [h]; rfl
 ·rw [if_neg (by simpa using h)]; simp [h]
theorem ref05_Unique_eq (t : GType) : ref05_Unique t = some (uniq t) := by
 unfold ref05_Unique uniq
 by_cases h : t.fKind = 2
 ·rw [if_pos (by simpa using h)]; simp [h]; rfl
 ·rw [if_neg (by simpa using h)]; simp [h]
def mkC (m : Nat) : GClass := { zGClass with fParams := List.replicate m [] }
theorem rT_len {a b : GClass} (h : a.fParams.length = b.fParams.length) : ∀ (n : Nat) (x : List GOwner) (y : Int), raise_This_L1 a n x y = raise_This_L1 b n x y
 | 0, _, _ => rfl
 | n + 1, x, y => by simp only [raise_This_L1, h, rT_len h n]
def varsS (m : GMethod) : List GVar := m.fParams ++ m.fLocals
theorem ref12_Vars_eq {m : GMethod} (h1 : m.fParams.length ≤ 100) (h2 : m.fLocals.length ≤ 100) : ref12_Vars m = some (varsS m) := by
 unfold ref12_Vars varsS
 rw [room_ok (by simp; omega), obs, room_ok (by simp; omega), obs]
 rfl
theorem arena_Vars_eq {m : GMethod} (h1 : m.fParams.length ≤ 100) (h2 : m.fLocals.length ≤ 100) : arena_Vars m = some (varsS m) := by
 unfold arena_Vars varsS slices_Concat_api_Var
 generalize m.fParams = p at *
 generalize m.fLocals = l at *
 have hL2 : ([p, l] : List (List GVar)).length = 2 := rfl
 have e1 : slices_Concat_api_Var_L1 [p, l] (((([p, l] : List (List GVar)).length : Int) - (0)).toNat + 1) 0 0 = some ((p.length : Int) + (l.length : Int)) := by
  have w1 : w_i64 (0 + (p.length : Int)) = (p.length : Int) := by rw [w64 (by omega) (by omega)]; omega
  have w2 : w_i64 ((p.length : Int) + (l.length : Int)) = (p.length : Int) + (l.length : Int) := w64 (by omega) (by omega)
  have i0 : idx [p, l] 0 = some p := rfl
  have i1 : idx [p, l] (w_i64 (0 + 1)) = some l := rfl
  have k2 : w_i64 (w_i64 (0 + 1) + 1) = 2 := rfl
  have k1 : w_i64 (0 + 1) = 1 := rfl
  have n0 : ¬ ((p.length : Int) < 0) := by omega
  have n1 : ¬ ((p.length : Int) + (l.length : Int) < 0) := by omega
  show slices_Concat_api_Var_L1 [p, l] (2 + 1) 0 0 = _
  simp only [slices_Concat_api_Var_L1, hL2]
  rw [if_pos (by decide), i0, obs, w1, if_neg (by simp), if_pos (by decide), i1, obs, w2, if_neg (by simpa using n1), if_neg (by decide)]
 have e2 : slices_Grow_api_Var ((p.length : Int) + (l.length : Int)) = some [] := by
  unfold slices_Grow_api_Var
  rw [if_neg (by simp; omega), show w_i64 (0 - 0) = 0 from rfl, Int.sub_zero, w64 (by omega) (by omega)]
  by_cases h0 : (p.length : Int) + (l.length : Int) > 0
  ·have hz : zerOk ((p.length : Int) + (l.length : Int)) 120 = some () := by unfold zerOk; rw [if_pos ⟨by omega, by omega⟩]
   have hc : cutL (List.replicate ((p.length : Int) + (l.length : Int)).toNat zGVar) 0 0 = some [] := by
    unfold cutL
    rw [if_pos ⟨by omega, by omega, by simp; omega⟩]; simp
   rw [if_pos (by simpa using h0), hz, obs, hc, obs]
  ·rw [if_neg (by simpa using h0)]
 have e3 : slices_Concat_api_Var_L2 [p, l] (((([p, l] : List (List GVar)).length : Int) - (0)).toNat + 1) [] 0 = some (p ++ l) := by
  have i0 : idx [p, l] 0 = some p := rfl
  have i1 : idx [p, l] (w_i64 (0 + 1)) = some l := rfl
  show slices_Concat_api_Var_L2 [p, l] (2 + 1) [] 0 = _
  simp only [slices_Concat_api_Var_L2, hL2]
  rw [if_pos (by decide), i0, obs, room_ok (by simp; omega), obs, if_pos (by decide), i1, obs, room_ok (by simp; omega), obs, if_neg (by decide)]
  simp
 rw [e1, obs, e2, obs, e3, obs, obs]
def isV (name : List UInt8) (v : GVar) : Bool := v.fName == name
def placeS (m : GMethod) (name : List UInt8) : Int := match (varsS m).findIdx? (isV name) with | some i => (i : Int) | none => -1
theorem idxV {l : List GVar} (hl : l.length ≤ 1000) (name : List UInt8) : slices_IndexFunc_api_Var l (fun (z4 : GVar) => scope_Place_1 z4 name) = some (match l.findIdx? (isV name) with | some i => (i : Int) | none => -1) := by
 unfold slices_IndexFunc_api_Var
 rw [findL (slices_IndexFunc_api_Var_L1 l (fun (z4 : GVar) => scope_Place_1 z4 name)) (b := isV name) (by omega) (fun n x => by rw [slices_IndexFunc_api_Var_L1]; rfl), obs]
 cases l.findIdx? (isV name) <;> rfl
theorem scope_Place_eq {m : GMethod} (h1 : m.fParams.length ≤ 100) (h2 : m.fLocals.length ≤ 100) (name : List UInt8) : scope_Place m name = some (placeS m name) := by
 unfold scope_Place placeS varsS
 rw [idxV (by omega), obs, idxV (by omega), List.findIdx?_append]
 cases hp : m.fParams.findIdx? (isV name) with
 | some i => simp
 | none =>
  cases hl : m.fLocals.findIdx? (isV name) with
  | none => simp
  | some j =>
   have := (List.findIdx?_eq_some_iff_getElem.1 hl).1
   have e1 : ¬ ((-1 : Int) ≥ 0) := by omega
   have e2 : ¬ ((j : Int) < 0) := by omega
   simp only [decide_eq_false e1, decide_eq_false e2, Bool.false_eq_true, if_false, obs]
   rw [w64 (by omega) (by omega)]
   simp; omega
theorem ref18_Place_eq {m : GMethod} (h1 : m.fParams.length ≤ 100) (h2 : m.fLocals.length ≤ 100) (name : List UInt8) : ref18_Place m name = some (placeS m name) := by
 unfold ref18_Place placeS
 have hl : (varsS m).length ≤ 1000 := by unfold varsS; simp; omega
 rw [ref12_Vars_eq h1 h2, obs, findL (ref18_Place_L1 name (varsS m)) (b := isV name) (by omega) (fun n x => by rw [ref18_Place_L1]; rfl), obs]
 cases (varsS m).findIdx? (isV name) <;> rfl
theorem placeS_lt {m : GMethod} {name : List UInt8} (h : ¬ placeS m name < 0) : ∃ v, idx (varsS m) (placeS m name) = some v := by
 unfold placeS at *
 cases hf : (varsS m).findIdx? (isV name) with
 | none => rw [hf] at h; simp at h
 | some i =>
  have hlt := (List.findIdx?_eq_some_iff_getElem.1 hf).1
  exact ⟨_, idx_lt hlt⟩
def isU (V : List GVar) (i : Nat) : Bool := match V[i]? with | some v => uniq v.fType && decide (V.findIdx? (isV v.fName) = some i) | none => false
def uqk (V : List GVar) (k : Nat) : List Nat := (List.range k).filter (isU V)
def uqs (V : List GVar) : List Nat := uqk V V.length
def placeU (V : List GVar) (name : List UInt8) : Option Nat := match V.findIdx? (isV name) with | some i => if isU V i = true then some i else none | none => none
theorem isU_lt {V : List GVar} {i : Nat} (h : isU V i = true) : i < V.length := by
 unfold isU at h
 split at h
 ·rename_i hv; exact (List.getElem?_eq_some_iff.1 hv).1
 ·cases h
theorem isU_at {V : List GVar} {k : Nat} (h : k < V.length) : isU V k = (uniq V[k].fType && decide (V.findIdx? (isV V[k].fName) = some k)) := by
 unfold isU; rw [List.getElem?_eq_getElem h]
theorem placeU_some {V : List GVar} {name : List UInt8} {i : Nat} (h : placeU V name = some i) : isU V i = true ∧ ∃ hi : i < V.length, V[i].fName = name := by
 unfold placeU at h
 split at h
 ·rename_i j hj
  split at h
  ·rename_i hu
   cases h
   obtain ⟨hi, h2, _⟩ := List.findIdx?_eq_some_iff_getElem.1 hj
   exact ⟨hu, hi, by simpa [isV] using h2⟩
  ·cases h
 ·cases h
theorem placeU_of {V : List GVar} {k : Nat} (hu : isU V k = true) (h : k < V.length) : placeU V V[k].fName = some k := by
 have h2 := hu
 rw [isU_at h] at h2
 simp only [Bool.and_eq_true, decide_eq_true_eq] at h2
 unfold placeU
 rw [h2.2]
 simp [hu]
theorem mem_uqk {V : List GVar} {k i : Nat} : i ∈ uqk V k ↔ i < k ∧ isU V i = true := by unfold uqk; simp
theorem mem_uqs {V : List GVar} {i : Nat} : i ∈ uqs V ↔ isU V i = true := by
 unfold uqs; rw [mem_uqk]
 exact ⟨fun h => h.2, fun h => ⟨isU_lt h, h⟩⟩
theorem uqk_succ (V : List GVar) (k : Nat) : uqk V (k + 1) = if isU V k = true then uqk V k ++ [k] else uqk V k := by
 unfold uqk
 rw [List.range_succ, List.filter_append]
 cases h : isU V k <;> simp [h]
theorem uqk_len (V : List GVar) (k : Nat) : (uqk V k).length ≤ k := by
 unfold uqk; have := List.length_filter_le (isU V) (List.range k); simpa using this
theorem uqk_app (V : List GVar) (k : Nat) : ∀ d : Nat, ∃ r, uqk V (k + d) = uqk V k ++ r
 | 0 => ⟨[], by simp⟩
 | d + 1 => by
  obtain ⟨r, hr⟩ := uqk_app V k d
  rw [show k + (d + 1) = (k + d) + 1 by omega, uqk_succ]
  split
  ·exact ⟨r ++ [k + d], by rw [hr, List.append_assoc]⟩
  ·exact ⟨r, hr⟩
def rkU (V : List GVar) (i : Nat) : Nat := (uqs V).idxOf i
theorem rkU_at {V : List GVar} {k : Nat} (hu : isU V k = true) : rkU V k = (uqk V k).length := by
 have hlt := isU_lt hu
 obtain ⟨r, hr⟩ := uqk_app V (k + 1) (V.length - (k + 1))
 have hu2 : uqs V = uqk V k ++ k :: r := by
  unfold uqs
  rw [show V.length = (k + 1) + (V.length - (k + 1)) by omega, hr, uqk_succ, if_pos hu, List.append_assoc]; rfl
 unfold rkU
 rw [hu2, List.idxOf_append]
 have : k ∉ uqk V k := fun h => by have := (mem_uqk.1 h).1; omega
 rw [if_neg this]; simp
theorem rkU_lt {V : List GVar} {i : Nat} (hu : isU V i = true) : rkU V i < (uqs V).length := List.idxOf_lt_length_iff.2 (mem_uqs.2 hu)
theorem rkU_get {V : List GVar} {i : Nat} (hu : isU V i = true) : (uqs V)[rkU V i]? = some i := by
 have h := rkU_lt hu
 rw [List.getElem?_eq_getElem h]
 unfold rkU at h ⊢
 rw [List.getElem_idxOf]
theorem rkU_inj {V : List GVar} {i j : Nat} (hi : isU V i = true) (hj : isU V j = true) (h : rkU V i = rkU V j) : i = j := by
 have h1 := rkU_get hi
 rw [h, rkU_get hj] at h1
 exact (Option.some.inj h1).symm
theorem uqs_len (V : List GVar) : (uqs V).length ≤ V.length := uqk_len V _
def nameV (V : List GVar) (i : Nat) : List UInt8 := match V[i]? with | some v => v.fName | none => []
theorem nameV_at {V : List GVar} {k : Nat} (h : k < V.length) : nameV V k = V[k].fName := by unfold nameV; rw [List.getElem?_eq_getElem h]
theorem uq_L {m : GMethod} (h1 : m.fParams.length ≤ 100) (h2 : m.fLocals.length ≤ 100) : ∀ (n k : Nat), n + k = (varsS m).length + 1 → k ≤ (varsS m).length →
  ref23_Uniques_L1 m (varsS m) n ((uqk (varsS m) k).map Int.ofNat) (k : Int) = some ((uqs (varsS m)).map Int.ofNat)
 | 0, k, h, hk => by omega
 | n + 1, k, h, hk => by
  have hV : (varsS m).length ≤ 200 := by unfold varsS; simp; omega
  rw [ref23_Uniques_L1]
  by_cases hlt : k < (varsS m).length
  ·have hU := isU_at hlt
   have hP : (placeS m (varsS m)[k].fName == (k : Int)) = decide ((varsS m).findIdx? (isV (varsS m)[k].fName) = some k) := by
    unfold placeS
    cases (varsS m).findIdx? (isV (varsS m)[k].fName) with
    | none => simp
    | some j => rw [Bool.eq_iff_iff]; simp; omega
   have ih := uq_L h1 h2 n (k + 1) (by omega) (by omega)
   rw [uqk_succ] at ih
   have hl := uqk_len (varsS m) k
   rw [if_pos (by simpa using hlt), idx_lt hlt, obs, ref05_Unique_eq, obs, w64_succ hlt (by omega)]
   simp only [obs, ref18_Place_eq h1 h2, hP]
   cases hq : uniq (varsS m)[k].fType with
   | false =>
    rw [hq] at hU
    simp only [Bool.false_and] at hU
    rw [hU, if_neg (by simp)] at ih
    rw [if_neg (by simp)]; simp only [obs]
    rw [if_neg (by simp), obs]
    exact ih
   | true =>
    rw [hq] at hU
    simp only [Bool.true_and] at hU
    rw [if_pos rfl]; simp only [obs]
    rw [← hU]
    cases hu : isU (varsS m) k with
    | false =>
     rw [hu, if_neg (by simp)] at ih
     rw [if_neg (by simp), obs]; exact ih
    | true =>
     rw [hu, if_pos rfl, List.map_append] at ih
     rw [if_pos rfl, room_ok (by simp; omega), obs, obs]; exact ih
  ·have : k = (varsS m).length := by omega
   rw [if_neg (by simpa using hlt)]; subst this; rfl
theorem ref23_Uniques_eq {m : GMethod} (h1 : m.fParams.length ≤ 100) (h2 : m.fLocals.length ≤ 100) : ref23_Uniques m = some ((uqs (varsS m)).map Int.ofNat) := by
 unfold ref23_Uniques
 rw [ref12_Vars_eq h1 h2, obs, fuel_len, show (0 : Int) = ((0 : Nat) : Int) from rfl]
 have := uq_L h1 h2 ((varsS m).length + 1) 0 (by omega) (by omega)
 rw [show ((uqk (varsS m) 0).map Int.ofNat) = [] from rfl] at this
 rw [this, obs]
def atK (V : List GVar) (k : Nat) : List UInt8 → Option Int := fun name => match placeU V name with | some i => if i < k then some ((rkU V i : Nat) : Int) else none | none => none
def metK (V : List GVar) (k : Nat) : List UInt8 → Option Int := fun x => if (V.take k).countP (isV x) = 0 then none else some (((V.take k).countP (isV x) : Nat) : Int)
def firstK (V : List GVar) (p k : Nat) : BitVec 64 := ((uqk V k).filter fun i => decide (i < p)).foldl (fun b i => b ||| oneB (rkU V i)) 0#64
theorem atK_succ {V : List GVar} {k : Nat} (hlt : k < V.length) : atK V (k + 1) = if isU V k = true then (fun x => if x = V[k].fName then some (((uqk V k).length : Nat) : Int) else atK V k x) else atK V k := by
 by_cases hu : isU V k = true
 ·rw [if_pos hu]
  funext x
  unfold atK
  by_cases hx : x = V[k].fName
  ·rw [if_pos hx, hx, placeU_of hu hlt]
   simp [rkU_at hu]
  ·rw [if_neg hx]
   cases hp : placeU V x with
   | none => rfl
   | some i =>
    obtain ⟨_, hi, h2⟩ := placeU_some hp
    have : i ≠ k := fun e => by subst e; exact hx h2.symm
    by_cases h3 : i < k
    ·simp [h3]; omega
    ·simp [h3]; omega
 ·rw [if_neg hu]
  funext x
  unfold atK
  cases hp : placeU V x with
  | none => rfl
  | some i =>
   obtain ⟨h1, _, _⟩ := placeU_some hp
   have : i ≠ k := fun e => by subst e; exact hu h1
   by_cases h3 : i < k
   ·simp [h3]; omega
   ·simp [h3]; omega
theorem take_count {V : List GVar} {k : Nat} (hlt : k < V.length) (x : List UInt8) : (V.take (k + 1)).countP (isV x) = (V.take k).countP (isV x) + if V[k].fName = x then 1 else 0 := by
 rw [List.take_add_one, List.getElem?_eq_getElem hlt, List.countP_append]
 simp [isV, List.countP_cons]
theorem metK_succ {V : List GVar} {k : Nat} (hlt : k < V.length) : metK V (k + 1) = fun x => if x = V[k].fName then some (((V.take k).countP (isV V[k].fName) : Nat) + 1 : Int) else metK V k x := by
 funext x
 unfold metK
 rw [take_count hlt]
 by_cases hx : x = V[k].fName
 ·subst hx; simp
 ·have : ¬ V[k].fName = x := fun e => hx e.symm
  simp [this, hx]
theorem first_iff {V : List GVar} {k : Nat} (hlt : k < V.length) : V.findIdx? (isV V[k].fName) = some k ↔ (V.take k).countP (isV V[k].fName) = 0 := by
 rw [List.findIdx?_eq_some_iff_getElem, List.countP_eq_zero]
 constructor
 ·rintro ⟨_, _, h⟩ v hv
  obtain ⟨j, hj, rfl⟩ := List.getElem_of_mem hv
  rw [List.getElem_take]
  simp only [List.length_take] at hj
  exact h j (by omega)
 ·intro h
  refine ⟨hlt, by simp [isV], fun j hj => ?_⟩
  refine h _ ?_
  have : (V.take k)[j]? = some V[j] := by rw [List.getElem?_take]; simp [hj]
  exact List.mem_of_getElem? this
theorem count_le {V : List GVar} (k : Nat) (x : List UInt8) : (V.take k).countP (isV x) ≤ V.length := by
 have := List.countP_le_length (p := isV x) (l := V.take k); simp at this; omega
theorem made_L {m : GMethod} (hV : (varsS m).length ≤ 60) (hn : ∀ v ∈ varsS m, v.fName.length ≤ maxLen) : ∀ (n k : Nat), n + k = (varsS m).length + 1 → k ≤ (varsS m).length →
  flow_made_w_L1 m (varsS m) n ((uqk (varsS m) k).map (nameV (varsS m))) (uqk (varsS m) k).length (atK (varsS m) k) (bI (firstK (varsS m) m.fParams.length k)) k (metK (varsS m) k) (k : Int) =
   some ((uqs (varsS m)).map (nameV (varsS m)), (uqs (varsS m)).length, atK (varsS m) (varsS m).length, bI (firstK (varsS m) m.fParams.length (varsS m).length))
 | 0, k, h, hk => by omega
 | n + 1, k, h, hk => by
  rw [flow_made_w_L1]
  by_cases hlt : k < (varsS m).length
  ·have ih := made_L hV hn n (k + 1) (by omega) (by omega)
   rw [metK_succ hlt, atK_succ hlt] at ih
   have hul := uqk_len (varsS m) k
   have hnl := hn _ (List.getElem_mem hlt)
   have hc := count_le (V := varsS m) k (varsS m)[k].fName
   have hm1 : mget (metK (varsS m) k) (varsS m)[k].fName = some (((varsS m).take k).countP (isV (varsS m)[k].fName) : Int) := by
    unfold mget; rw [if_pos hnl]; unfold metK; split
    ·rename_i h0; rw [h0]; rfl
    ·rfl
   have hw : w_i64 ((((varsS m).take k).countP (isV (varsS m)[k].fName) : Nat) + 1 : Int) = (((varsS m).take k).countP (isV (varsS m)[k].fName) : Nat) + 1 := w64 (by omega) (by omega)
   have hm2 : mput k (metK (varsS m) k) (varsS m)[k].fName ((((varsS m).take k).countP (isV (varsS m)[k].fName) : Nat) + 1 : Int) = some (fun x => if x = (varsS m)[k].fName then some ((((varsS m).take k).countP (isV (varsS m)[k].fName) : Nat) + 1 : Int) else metK (varsS m) k x) := by
    unfold mput; rw [if_pos ⟨hnl, by simp only [maxLen]; omega, by simp only [IntKind.min, IntKind.signed, IntKind.bits]; simp; omega, by simp only [IntKind.max, IntKind.signed, IntKind.bits]; simp; omega⟩]
   have hm3 : mget (fun x => if x = (varsS m)[k].fName then some ((((varsS m).take k).countP (isV (varsS m)[k].fName) : Nat) + 1 : Int) else metK (varsS m) k x) (varsS m)[k].fName = some ((((varsS m).take k).countP (isV (varsS m)[k].fName) : Nat) + 1 : Int) := by
    unfold mget; rw [if_pos hnl]; simp
   have h63 : (((((uqk (varsS m) k).map (nameV (varsS m))).length : Nat) : Int) == 63) = false := by simp; omega
   have hcond : (if (decide (((((varsS m).take k).countP (isV (varsS m)[k].fName) : Nat) : Int) + 1 > 1)) = true then some true else Option.bind (kind_Unique (varsS m)[k].fType) fun (y125 : Bool) => if (!y125) = true then some true else some (((((uqk (varsS m) k).map (nameV (varsS m))).length : Nat) : Int) == 63) : Option Bool) = some (!isU (varsS m) k) := by
    rw [h63, kind_Unique_eq, obs, isU_at hlt]
    have hf := first_iff hlt
    by_cases h0 : ((varsS m).take k).countP (isV (varsS m)[k].fName) = 0
    ·rw [h0, decide_eq_true (hf.2 h0)]
     cases uniq (varsS m)[k].fType <;> rfl
    ·rw [if_pos (by simp; omega), decide_eq_false (fun e => h0 (hf.1 e))]; simp
   rw [if_pos (by simpa using hlt), idx_lt hlt, obs, hm1, obs, hw, hm2, obs, hm3, obs, hcond, obs]
   cases hu : isU (varsS m) k with
   | false =>
    rw [if_pos (by simp), obs]
    simp only [w64_succ hlt (show (varsS m).length ≤ 9223372036854775807 by omega)]
    rw [hu, if_neg (by simp), uqk_succ, hu, if_neg (by simp)] at ih
    have hfk : firstK (varsS m) m.fParams.length (k + 1) = firstK (varsS m) m.fParams.length k := by unfold firstK; rw [uqk_succ, hu, if_neg (by simp)]
    rw [hfk] at ih
    exact ih
   | true =>
    have hm4 : mput (uqk (varsS m) k).length (atK (varsS m) k) (varsS m)[k].fName ((((uqk (varsS m) k).map (nameV (varsS m))).length : Nat) : Int) = some (fun x => if x = (varsS m)[k].fName then some (((uqk (varsS m) k).length : Nat) : Int) else atK (varsS m) k x) := by
     unfold mput; rw [List.length_map, if_pos ⟨hnl, by simp only [maxLen]; omega, by simp only [IntKind.min, IntKind.signed, IntKind.bits]; simp, by simp only [IntKind.max, IntKind.signed, IntKind.bits]; simp; omega⟩]
    rw [if_neg (by simp), hm4, obs]
    rw [hu, if_pos rfl, uqk_succ, hu, if_pos rfl] at ih
    have hfk : (if (decide ((k : Int) < (m.fParams.length : Int))) = true then Option.bind (shlI .u64 1 ((((uqk (varsS m) k).map (nameV (varsS m))).length : Nat) : Int)) fun (y137 : Int) => some (orI .u64 (bI (firstK (varsS m) m.fParams.length k)) y137) else some (bI (firstK (varsS m) m.fParams.length k)) : Option Int) = some (bI (firstK (varsS m) m.fParams.length (k + 1))) := by
     unfold firstK
     rw [uqk_succ, hu, if_pos rfl, List.filter_append, List.foldl_append, List.length_map]
     by_cases hp : k < m.fParams.length
     ·rw [if_pos (by simpa using hp), shlB _ (by omega), obs, orB]
      simp [hp, rkU_at hu, oneB]
     ·rw [if_neg (by simpa using hp)]
      simp [hp]
    rw [hfk, obs, room_ok (by simp; omega), obs, obs]
    simp only [w64_succ hlt (show (varsS m).length ≤ 9223372036854775807 by omega)]
    rw [List.map_append, List.length_append] at ih
    simp only [List.map_cons, List.map_nil, nameV_at hlt, List.length_singleton] at ih
    exact ih
  ·have : k = (varsS m).length := by omega
   rw [if_neg (by simpa using hlt)]; subst this; rfl
def mkW (p : List GClass) (c : GClass) (m : GMethod) : Gwalker_flow := { fp := p, fc := c, fm := m, fvars := (uqs (varsS m)).map (nameV (varsS m)), fat := atK (varsS m) (varsS m).length, fbad := zGwalker_flow.fbad, fn := zGwalker_flow.fn }
theorem flow_made_eq (p : List GClass) (c : GClass) {m : GMethod} (h1 : m.fParams.length ≤ 30) (h2 : m.fLocals.length ≤ 30) (hn : ∀ v ∈ varsS m, v.fName.length ≤ maxLen) : flow_made_w p c m = some (mkW p c m, bI (firstK (varsS m) m.fParams.length (varsS m).length)) := by
 unfold flow_made_w
 have hV : (varsS m).length ≤ 60 := by unfold varsS; simp; omega
 have := made_L hV hn ((varsS m).length + 1) 0 (by omega) (by omega)
 have ha : atK (varsS m) 0 = fun _ => none := by funext x; unfold atK; cases placeU (varsS m) x <;> simp
 have hb : metK (varsS m) 0 = fun _ => none := by funext x; unfold metK; simp
 rw [ha, hb] at this
 rw [arena_Vars_eq (by omega) (by omega), obs, fuel_len]
 show Option.bind (flow_made_w_L1 m (varsS m) ((varsS m).length + 1) [] 0 (fun _ => none) (bI (firstK (varsS m) m.fParams.length 0)) 0 (fun _ => none) ((0 : Nat) : Int)) _ = _
 rw [show ([] : List (List UInt8)) = (uqk (varsS m) 0).map (nameV (varsS m)) from rfl, show (0 : Nat) = (uqk (varsS m) 0).length from rfl]
 exact (congrArg (fun z => Option.bind z _) this).trans rfl
def bitO (V : List GVar) (o : Option Nat) : BitVec 64 := match o with | some i => oneB (rkU V i) | none => 0#64
theorem bit_eq {m : GMethod} (hV : (varsS m).length ≤ 60) {w : Gwalker_flow} (hw : w.fat = atK (varsS m) (varsS m).length) {name : List UInt8} (hn : name.length ≤ maxLen) : __flow_walker__bit w name = some (bI (bitO (varsS m) (placeU (varsS m) name))) := by
 unfold __flow_walker__bit mgetO
 rw [hw, if_pos hn, obs]
 unfold atK
 cases hp : placeU (varsS m) name with
 | none => rfl
 | some i =>
  obtain ⟨hu, hi, _⟩ := placeU_some hp
  have h1 := rkU_lt hu
  have h2 := uqs_len (varsS m)
  simp only [hi, if_true, Option.isSome_some, Option.getD_some]
  rw [shlB _ (by omega), obs]; rfl
def fiN : List GClass → Nat → List UInt8 → Option Nat
 | [], _, _ => none
 | c :: t, k, name => if c.fName == name then some k else fiN t (k + 1) name
def fi (p : List GClass) (name : List UInt8) : Option Nat := fiN p 0 name
def fnd (p : List GClass) (name : List UInt8) : Int := match fi p name with | some i => (i : Int) | none => -1
theorem fiN_spec : ∀ (l : List GClass) (k : Nat) (name : List UInt8) (i : Nat), fiN l k name = some i → k ≤ i ∧ ∃ c, l[i - k]? = some c ∧ c.fName = name
 | [], k, name, i, h => by simp [fiN] at h
 | c :: t, k, name, i, h => by
  simp only [fiN] at h
  split at h
  ·rename_i hc
   cases h
   exact ⟨Nat.le_refl _, c, by simp, by simpa using hc⟩
  ·obtain ⟨h1, c', h2, h3⟩ := fiN_spec t (k + 1) name i h
   refine ⟨by omega, c', ?_, h3⟩
   rw [show i - k = (i - (k + 1)) + 1 by omega, List.getElem?_cons_succ]
   exact h2
theorem fi_spec {p : List GClass} {name : List UInt8} {i : Nat} (h : fi p name = some i) : ∃ c, p[i]? = some c ∧ c.fName = name := by
 obtain ⟨_, c, h1, h2⟩ := fiN_spec p 0 name i h
 exact ⟨c, by simpa using h1, h2⟩
theorem fi_lt {p : List GClass} {name : List UInt8} {i : Nat} (h : fi p name = some i) : i < p.length := by
 obtain ⟨c, h1, _⟩ := fi_spec h
 exact (List.getElem?_eq_some_iff.1 h1).1
theorem fnd_some {p : List GClass} {name : List UInt8} {i : Nat} (h : fi p name = some i) : fnd p name = (i : Int) := by unfold fnd; rw [h]
theorem fnd_none {p : List GClass} {name : List UInt8} (h : fi p name = none) : fnd p name = -1 := by unfold fnd; rw [h]
def hit (o : Option Nat) : Ctl Int Unit := match o with | some i => .stop (i : Int) | none => .next ()
theorem indexFunc_L {p : List GClass} (name : List UInt8) (hp : p.length < 9223372036854775806) : ∀ (n k : Nat), n + k = p.length + 1 → k ≤ p.length →
  slices_IndexFunc_api_Class_L1 p (fun (z1 : GClass) => table_Find_1 z1 name) n (k : Int) = some (hit (fiN (p.drop k) k name))
 | 0, k, h, hk => by omega
 | n + 1, k, h, hk => by
  simp only [slices_IndexFunc_api_Class_L1]
  by_cases hlt : k < p.length
  ·rw [if_pos (by simpa using hlt), idx_lt hlt, List.drop_eq_getElem_cons hlt]
   simp only [obs, table_Find_1, fiN]
   by_cases hc : (p[k].fName == name) = true
   ·rw [if_pos hc, if_pos hc]; rfl
   ·rw [if_neg hc, if_neg hc, w64_succ hlt (by omega)]
    exact indexFunc_L name hp n (k + 1) (by omega) (by omega)
  ·rw [if_neg (by simpa using hlt), List.drop_eq_nil_of_le (by omega)]
   rfl
theorem table_Find_eq {p : List GClass} (hp : p.length < 9223372036854775806) (name : List UInt8) : table_Find p name = some (fnd p name) := by
 unfold table_Find slices_IndexFunc_api_Class
 have h := indexFunc_L name hp (p.length + 1) 0 (by omega) (by omega)
 rw [show (((p.length : Int) : Int) - (0)).toNat + 1 = p.length + 1 by omega, show (0 : Int) = ((0 : Nat) : Int) from rfl, h]
 simp only [List.drop_zero, obs]
 unfold fnd fi hit
 cases fiN p 0 name <;> rfl
def sup (p : List GClass) (i : Nat) : List UInt8 := match p[i]? with | some c => c.fSuper | none => []
def upN (p : List GClass) : Nat → List UInt8 → List Nat
 | 0, _ => []
 | n + 1, name => match fi p name with
  | none => []
  | some i => if sup p i == [] then [i] else i :: upN p n (sup p i)
theorem itR_up_n_eq {p : List GClass} (hp : p.length < 9223372036854775806) : ∀ (n : Nat) (name : List UInt8), itR_up_n p n name = some ((upN p n name).map Int.ofNat)
 | 0, name => rfl
 | n + 1, name => by
  simp only [itR_up_n, upN, table_Find_eq hp, obs]
  cases hf : fi p name with
  | none => rw [fnd_none hf]; simp
  | some i =>
   rw [fnd_some hf, if_neg (by omega)]
   obtain ⟨c, hc, _⟩ := fi_spec hf
   have hidx : idx p (i : Int) = some c := by rw [idx_nat]; exact hc
   rw [hidx]
   have hs : sup p i = c.fSuper := by unfold sup; rw [hc]
   simp only [obs, hs]
   by_cases he : (c.fSuper == []) = true
   ·rw [if_pos he, if_pos he]; rfl
   ·rw [if_neg he, if_neg he, itR_up_n_eq hp n c.fSuper]; rfl
theorem itR_up_eq {p : List GClass} (hp : p.length < 9223372036854775806) (name : List UInt8) : itR_up p name = some ((upN p (p.length + 1) name).map Int.ofNat) := by
 unfold itR_up; rw [if_pos hp, itR_up_n_eq hp]
def chN (p : List GClass) : Nat → List Nat → List UInt8 → List Nat
 | 0, out, _ => out
 | n + 1, out, name => match fi p name with
  | none => out
  | some i => if i ∈ out then out else if sup p i == [] then out ++ [i] else chN p n (out ++ [i]) (sup p i)
def ch (p : List GClass) (name : List UInt8) : List Nat := chN p (p.length + 1) [] name
theorem nodup_len : ∀ (L : Nat) (l : List Nat), l.Nodup → (∀ x ∈ l, x < L) → l.length ≤ L
 | 0, l, _, h => by
  cases l with
  | nil => exact Nat.le_refl _
  | cons x l => have := h x (by simp); omega
 | L + 1, l, hn, h => by
  have h1 := nodup_len L (l.erase L) (hn.erase L) (fun x hx => by
   have := (hn.mem_erase_iff.1 hx)
   have := h x this.2
   omega)
  by_cases hm : L ∈ l
  ·have := List.length_erase_of_mem hm; omega
  ·rw [List.erase_of_not_mem hm] at h1; omega
structure Way (p : List GClass) (out : List Nat) (name : List UInt8) : Prop where
 nd : out.Nodup
 lt : ∀ x ∈ out, x < p.length
 nx : ∀ x ∈ out, sup p x ≠ [] ∧ (sup p x = name ∨ ∃ j, fi p (sup p x) = some j ∧ j ∈ out)
 own : ∀ x ∈ out, ∃ nm, fi p nm = some x
theorem Way.nil (p : List GClass) (name : List UInt8) : Way p [] name := ⟨List.nodup_nil, by simp, by simp, by simp⟩
theorem Way.snoc {p : List GClass} {out : List Nat} {name : List UInt8} {i : Nat} (h : Way p out name) (hf : fi p name = some i) (hi : i ∉ out) (hs : sup p i ≠ []) : Way p (out ++ [i]) (sup p i) := by
 refine ⟨?_, fun x hx => ?_, fun x hx => ?_, fun x hx => ?_⟩
 ·refine List.nodup_append.2 ⟨h.nd, by simp, fun a ha b hb => ?_⟩
  simp at hb; subst hb; rintro rfl; exact hi ha
 ·rcases List.mem_append.1 hx with hx | hx
  ·exact h.lt x hx
  ·simp at hx; subst hx; exact fi_lt hf
 ·rcases List.mem_append.1 hx with hx | hx
  ·obtain ⟨h1, h2⟩ := h.nx x hx
   refine ⟨h1, .inr ?_⟩
   rcases h2 with h2 | ⟨j, h2, h3⟩
   ·exact ⟨i, by rw [h2]; exact hf, by simp⟩
   ·exact ⟨j, h2, by simp [h3]⟩
  ·simp at hx; subst hx; exact ⟨hs, .inl rfl⟩
 ·rcases List.mem_append.1 hx with hx | hx
  ·exact h.own x hx
  ·simp at hx; subst hx; exact ⟨name, hf⟩
def Shut (p : List GClass) (S : List Nat) : Prop := ∀ x ∈ S, sup p x ≠ [] → ∀ j, fi p (sup p x) = some j → j ∈ S
theorem upN_shut {p : List GClass} {S : List Nat} (h : Shut p S) : ∀ (n : Nat) (name : List UInt8), (∀ j, fi p name = some j → j ∈ S) → ∀ x ∈ upN p n name, x ∈ S
 | 0, name, _, x, hx => by simp [upN] at hx
 | n + 1, name, hs, x, hx => by
  simp only [upN] at hx
  cases hf : fi p name with
  | none => rw [hf] at hx; simp at hx
  | some i =>
   rw [hf] at hx
   have hi := hs i hf
   simp only at hx
   split at hx
   ·simp at hx; subst hx; exact hi
   ·rename_i he
    rcases List.mem_cons.1 hx with rfl | hx
    ·exact hi
    ·exact upN_shut h n _ (fun j hj => h i hi (by simpa using he) j hj) x hx
theorem upN_round {p : List GClass} {S : List Nat} (h : ∀ x ∈ S, sup p x ≠ [] ∧ ∃ j, fi p (sup p x) = some j ∧ j ∈ S) : ∀ (n : Nat) (name : List UInt8) (i : Nat), fi p name = some i → i ∈ S → (upN p n name).length = n
 | 0, name, i, _, _ => rfl
 | n + 1, name, i, hf, hi => by
  obtain ⟨h1, j, h2, h3⟩ := h i hi
  simp only [upN, hf]
  rw [if_neg (by simpa using h1)]
  simp [upN_round h n _ j h2 h3]
def back (p : List GClass) (l : List Nat) : Bool := match l.getLast? with
 | none => false
 | some i => !(sup p i == []) && (match fi p (sup p i) with | some j => decide (j ∈ l) | none => false)
theorem upN_chN {p : List GClass} : ∀ (n : Nat) (out : List Nat) (name : List UInt8), n + out.length = p.length + 1 → Way p out name → (out = [] ∨ ∃ x, out.getLast? = some x ∧ sup p x = name) →
  ∃ R, out ++ upN p n name = chN p n out name ++ R ∧ (∀ x ∈ R, x ∈ chN p n out name) ∧ (∀ x ∈ out, x ∈ chN p n out name) ∧ (∀ j, fi p name = some j → j ∈ chN p n out name) ∧ Shut p (chN p n out name) ∧ (chN p n out name).Nodup ∧ (∀ x ∈ chN p n out name, x < p.length ∧ ∃ nm, fi p nm = some x) ∧
   (back p (chN p n out name) = decide ((upN p n name).length = n))
 | 0, out, name, hn, hw, hl => by
  exfalso
  have := nodup_len p.length out hw.nd hw.lt
  omega
 | n + 1, out, name, hn, hw, hl => by
  have hlen := nodup_len p.length out hw.nd hw.lt
  cases hf : fi p name with
  | none =>
   simp only [upN, chN, hf]
   refine ⟨[], by simp, by simp, fun x hx => hx, by simp, fun x hx hne j hj => ?_, hw.nd, fun x hx => ⟨hw.lt x hx, hw.own x hx⟩, ?_⟩
   ·rcases (hw.nx x hx).2 with h1 | ⟨j', h1, h2⟩
    ·rw [h1, hf] at hj; cases hj
    ·rw [h1] at hj; cases hj; exact h2
   ·have : back p out = false := by
     unfold back
     rcases hl with rfl | ⟨x, h1, h2⟩
     ·rfl
     ·rw [h1]; simp only [h2, hf, Bool.and_false]
    rw [this]; simp
  | some i =>
   simp only [upN, chN, hf]
   by_cases hi : i ∈ out
   ·rw [if_pos hi]
    have hround : ∀ x ∈ out, sup p x ≠ [] ∧ ∃ j, fi p (sup p x) = some j ∧ j ∈ out := by
     intro x hx
     obtain ⟨h1, h2⟩ := hw.nx x hx
     refine ⟨h1, ?_⟩
     rcases h2 with h2 | h2
     ·exact ⟨i, by rw [h2]; exact hf, hi⟩
     ·exact h2
    have hshut : Shut p out := fun x hx _ j hj => by
     obtain ⟨_, j', h1, h2⟩ := hround x hx
     rw [h1] at hj; cases hj; exact h2
    have hsub := upN_shut hshut (n + 1) name (fun j hj => by rw [hf] at hj; cases hj; exact hi)
    have hfull := upN_round hround (n + 1) name i hf hi
    simp only [upN, hf] at hsub hfull
    refine ⟨_, rfl, hsub, fun x hx => hx, fun j hj => by cases hj; exact hi, hshut, hw.nd, fun x hx => ⟨hw.lt x hx, hw.own x hx⟩, ?_⟩
    rw [hfull]
    have : back p out = true := by
     unfold back
     rcases hl with rfl | ⟨x, h1, h2⟩
     ·simp at hi
     ·have hx : x ∈ out := List.mem_of_getLast? h1
      rw [h1]
      simp only [h2, hf, hi, decide_true, Bool.and_true]
      have := (hw.nx x hx).1
      rw [h2] at this
      simpa using this
    rw [this]; simp
   ·rw [if_neg hi]
    by_cases hs : (sup p i == []) = true
    ·rw [if_pos hs, if_pos hs]
     have hs' : sup p i = [] := by simpa using hs
     have hw2 : (out ++ [i]).Nodup := List.nodup_append.2 ⟨hw.nd, by simp, fun a ha b hb => by
      simp at hb; subst hb; rintro rfl; exact hi ha⟩
     have hlt2 : ∀ x ∈ out ++ [i], x < p.length := fun x hx => by
      rcases List.mem_append.1 hx with hx | hx
      ·exact hw.lt x hx
      ·simp at hx; subst hx; exact fi_lt hf
     have hlen2 := nodup_len p.length _ hw2 hlt2
     refine ⟨[], by simp, by simp, fun x hx => by simp [hx], fun j hj => by cases hj; simp, fun x hx hne j hj => ?_, hw2, fun x hx => ⟨hlt2 x hx, ?_⟩, ?_⟩
     ·rcases List.mem_append.1 hx with hx | hx
      ·rcases (hw.nx x hx).2 with h1 | ⟨j', h1, h2⟩
       ·rw [h1, hf] at hj; cases hj; simp
       ·rw [h1] at hj; cases hj; simp [h2]
      ·simp at hx; subst hx; exact absurd hs' hne
     ·rcases List.mem_append.1 hx with hx | hx
      ·exact hw.own x hx
      ·simp at hx; subst hx; exact ⟨name, hf⟩
     ·have : back p (out ++ [i]) = false := by
       unfold back; simp [hs']
      rw [this]
      simp at hlen2
      simp; omega
    ·rw [if_neg hs, if_neg hs]
     have hs' : sup p i ≠ [] := by simpa using hs
     obtain ⟨R, k1, k2, k3, k4, k5, k6, k7, k8⟩ := upN_chN n (out ++ [i]) (sup p i) (by simp; omega) (hw.snoc hf hi hs') (.inr ⟨i, by simp, rfl⟩)
     refine ⟨R, by rw [← k1]; simp, k2, fun x hx => k3 x (by simp [hx]), fun j hj => by cases hj; exact k3 i (by simp), k5, k6, k7, ?_⟩
     rw [k8]; simp
theorem ch_facts (p : List GClass) (name : List UInt8) : ∃ R, upN p (p.length + 1) name = ch p name ++ R ∧ (∀ x ∈ R, x ∈ ch p name) ∧ (∀ j, fi p name = some j → j ∈ ch p name) ∧ Shut p (ch p name) ∧ (ch p name).Nodup ∧ (∀ x ∈ ch p name, x < p.length ∧ ∃ nm, fi p nm = some x) ∧
  (back p (ch p name) = decide ((upN p (p.length + 1) name).length = p.length + 1)) := by
 obtain ⟨R, k1, k2, k3, k4, k5, k6, k7, k8⟩ := upN_chN (p.length + 1) [] name (by simp) (Way.nil p name) (.inl rfl)
 exact ⟨R, by unfold ch; simpa using k1, k2, k4, k5, k6, k7, k8⟩
theorem idxI_L {l : List Int} (a : Int) (hp : l.length < 9223372036854775806) : ∀ (n k : Nat), n + k = l.length + 1 → k ≤ l.length →
  ∃ r, slices_Index_int_L1 l a n (k : Int) = some r ∧ ((∃ v : Int, r = .stop v ∧ 0 ≤ v ∧ a ∈ l.drop k) ∨ (r = .next () ∧ a ∉ l.drop k))
 | 0, k, h, hk => by omega
 | n + 1, k, h, hk => by
  simp only [slices_Index_int_L1]
  by_cases hlt : k < l.length
  ·rw [if_pos (by simpa using hlt), idx_lt hlt, List.drop_eq_getElem_cons hlt]
   simp only [obs]
   by_cases hc : (a == l[k]) = true
   ·rw [if_pos hc]
    have hc' : a = l[k] := by simpa using hc
    exact ⟨_, rfl, .inl ⟨_, rfl, by omega, by rw [hc']; exact List.mem_cons_self⟩⟩
   ·rw [if_neg hc, w64_succ hlt (by omega)]
    obtain ⟨r, h1, h2⟩ := idxI_L a hp n (k + 1) (by omega) (by omega)
    refine ⟨r, h1, ?_⟩
    have hne : a ≠ l[k] := by simpa using hc
    rcases h2 with ⟨v, h3, h4, h5⟩ | ⟨h3, h4⟩
    ·exact .inl ⟨v, h3, h4, List.mem_cons_of_mem _ h5⟩
    ·exact .inr ⟨h3, fun hm => (List.mem_cons.1 hm).elim hne h4⟩
  ·rw [if_neg (by simpa using hlt), List.drop_eq_nil_of_le (by omega)]
   exact ⟨_, rfl, .inr ⟨rfl, by simp⟩⟩
theorem contains_eq {l : List Int} (hp : l.length < 9223372036854775806) (a : Int) : slices_Contains_int l a = some (decide (a ∈ l)) := by
 unfold slices_Contains_int slices_Index_int
 obtain ⟨r, h1, h2⟩ := idxI_L a hp (l.length + 1) 0 (by omega) (by omega)
 rw [show (((l.length : Int) : Int) - (0)).toNat + 1 = l.length + 1 by omega, show (0 : Int) = ((0 : Nat) : Int) from rfl, h1]
 rcases h2 with ⟨v, rfl, h3, h4⟩ | ⟨rfl, h4⟩
 ·simp only [obs, Ctl.elim]
  simp only [List.drop_zero] at h4
  simp [h4, h3]
 ·simp only [obs, Ctl.elim]
  simp only [List.drop_zero] at h4
  simp [h4]
theorem mem_cast {i : Nat} {l : List Nat} : ((i : Int) ∈ l.map Int.ofNat) ↔ i ∈ l := by
 rw [List.mem_map]
 constructor
 ·rintro ⟨j, h1, h2⟩
  have : j = i := Int.ofNat.inj h2
  exact this ▸ h1
 ·intro h; exact ⟨i, h, rfl⟩
theorem chain_runs {p : List GClass} (hp : p.length ≤ 1000000) : ∀ (n : Nat) (out : List Nat) (name : List UInt8), n + out.length = p.length + 1 →
  ∃ r, runs above_Chain_B1 ((upN p n name).map Int.ofNat) (out.map Int.ofNat) = some r ∧ Ctl.elim r (fun x => x) (fun x => x) = (chN p n out name).map Int.ofNat
 | 0, out, name, _ => ⟨_, rfl, rfl⟩
 | n + 1, out, name, hn => by
  have hout : (out.map Int.ofNat).length < 9223372036854775806 := by simp; omega
  have hroom : room (((out.map Int.ofNat).length : Int) + (([(0 : Int)].length : Nat) : Int)) 8 = some () := room_ok (by simp; omega)
  simp only [upN, chN]
  cases hf : fi p name with
  | none => exact ⟨_, rfl, rfl⟩
  | some i =>
   simp only
   have hstep : ∀ rest, runs above_Chain_B1 (((i : Nat) :: rest).map Int.ofNat) (out.map Int.ofNat) = if i ∈ out then some (.stop (out.map Int.ofNat)) else runs above_Chain_B1 (rest.map Int.ofNat) ((out ++ [i]).map Int.ofNat) := by
    intro rest
    simp only [List.map_cons, runs, above_Chain_B1]
    rw [contains_eq hout]
    simp only [obs]
    by_cases hi : i ∈ out
    ·have : Int.ofNat i ∈ out.map Int.ofNat := mem_cast.2 hi
     rw [if_pos hi, if_pos (by simpa using this)]
     rfl
    ·have hni : ¬ Int.ofNat i ∈ out.map Int.ofNat := fun h => hi (mem_cast.1 h)
     rw [if_neg hi, if_neg (by simpa using hni)]
     rw [show (([Int.ofNat i].length : Nat) : Int) = (([(0 : Int)].length : Nat) : Int) from rfl, hroom]
     simp [obs, Ctl.elim]
   by_cases hi : i ∈ out
   ·rw [if_pos hi]
    split
    ·rw [hstep, if_pos hi]; exact ⟨_, rfl, rfl⟩
    ·rw [hstep, if_pos hi]; exact ⟨_, rfl, rfl⟩
   ·rw [if_neg hi]
    by_cases hs : (sup p i == []) = true
    ·rw [if_pos hs, if_pos hs, hstep, if_neg hi]
     exact ⟨_, rfl, rfl⟩
    ·rw [if_neg hs, if_neg hs, hstep, if_neg hi]
     exact chain_runs hp n (out ++ [i]) (sup p i) (by simp; omega)
theorem above_Chain_eq {p : List GClass} (hp : p.length ≤ 1000000) (name : List UInt8) : above_Chain p name = some ((ch p name).map Int.ofNat) := by
 unfold above_Chain above_up
 simp only [obs]
 rw [itR_up_eq (by omega)]
 simp only [obs]
 obtain ⟨r, h1, h2⟩ := chain_runs hp (p.length + 1) [] name (by simp)
 rw [show ([] : List Int) = ([] : List Nat).map Int.ofNat from rfl, h1]
 unfold ch
 rw [← h2]
 cases r <;> rfl
theorem ch_len (p : List GClass) (name : List UInt8) : (ch p name).length ≤ p.length := by
 obtain ⟨_, _, _, _, _, k6, k7, _⟩ := ch_facts p name
 exact nodup_len _ _ k6 (fun x hx => (k7 x hx).1)
def meth (c : GClass) (name : List UInt8) : Option GMethod := c.fMethods.find? fun m => m.fName == name
def fstM (p : List GClass) (name : List UInt8) : List Nat → Option (List UInt8 × GMethod)
 | [] => none
 | i :: r => match p[i]? with
  | some c => (match meth c name with | some m => some (c.fName, m) | none => fstM p name r)
  | none => none
def fnd1 (o : Option (List UInt8 × GMethod)) (z : GFound_method) : GFound_method × Bool := match o with | some x => ({ fClass := x.1, fMethod := x.2 }, true) | none => (z, false)
theorem walk_L2 {p : List GClass} {c : GClass} {i : Nat} (hi : p[i]? = some c) (name : List UInt8) (z : GFound_method) (hl : c.fMethods.length ≤ 9223372036854775807) : ∀ (n k : Nat), n + k = c.fMethods.length + 1 → k ≤ c.fMethods.length →
  method_walk_w_L2 name p (i : Int) c n z false (k : Int) = some (match (c.fMethods.drop k).find? (fun m => m.fName == name) with | some m => .stop (({ fClass := c.fName, fMethod := m } : GFound_method), true) | none => .next (z, false))
 | 0, k, h, hk => by omega
 | n + 1, k, h, hk => by
  rw [method_walk_w_L2]
  by_cases hlt : k < c.fMethods.length
  ·rw [if_pos (by simpa using hlt), idx_lt hlt, obs, List.drop_eq_getElem_cons hlt, List.find?_cons]
   unfold method_first_1_w
   by_cases hn : (c.fMethods[k].fName == name) = true
   ·simp only [hn, if_true, idx_nat, hi, obs]
    rfl
   ·simp only [Bool.not_eq_true] at hn
    simp only [hn]
    rw [if_neg (by simp), obs, if_neg (by simp), w64_succ hlt hl]
    exact walk_L2 hi name z hl n (k + 1) (by omega) (by omega)
  ·rw [if_neg (by simpa using hlt), List.drop_eq_nil_of_le (by omega)]; rfl
theorem walk_L1 {p : List GClass} (hm : ∀ c ∈ p, c.fMethods.length ≤ 9223372036854775807) (name : List UInt8) (z : GFound_method) (l : List Nat) (hl : ∀ x ∈ l, x < p.length) (hll : l.length ≤ 1000000) : ∀ (n k : Nat), n + k = l.length + 1 → k ≤ l.length →
  method_walk_w_L1 p (l.map Int.ofNat) name p n z false (k : Int) = some (match fstM p name (l.drop k) with | some x => .stop (({ fClass := x.1, fMethod := x.2 } : GFound_method), true) | none => .next (z, false))
 | 0, k, h, hk => by omega
 | n + 1, k, h, hk => by
  rw [method_walk_w_L1]
  by_cases hlt : k < l.length
  ·have hx := hl l[k] (List.getElem_mem hlt)
   have hc : p[l[k]]? = some p[l[k]] := List.getElem?_eq_getElem hx
   rw [if_pos (by simpa using hlt), idx_lt (by simpa using hlt), obs, List.getElem_map, show Int.ofNat l[k] = ((l[k] : Nat) : Int) from rfl, idx_nat, hc, obs, fuel_len, show (0 : Int) = ((0 : Nat) : Int) from rfl, walk_L2 hc name z (hm _ (List.getElem_mem hx)) _ 0 (by omega) (by omega), obs, List.drop_zero, List.drop_eq_getElem_cons hlt]
   simp only [fstM, hc, meth]
   cases hf : p[l[k]].fMethods.find? (fun m => m.fName == name) with
   | some m => rfl
   | none =>
    show method_walk_w_L1 p (l.map Int.ofNat) name p n z false (w_i64 ((k : Int) + 1)) = _
    rw [w64_succ hlt (by omega)]
    exact walk_L1 hm name z l hl hll n (k + 1) (by omega) (by omega)
  ·rw [if_neg (by simpa using hlt), List.drop_eq_nil_of_le (by omega)]; rfl
def zfm : GFound_method := { fClass := [], fMethod := zGMethod }
theorem method_first_eq {p : List GClass} (hm : ∀ c ∈ p, c.fMethods.length ≤ 9223372036854775807) (name : List UInt8) (l : List Nat) (hl : ∀ x ∈ l, x < p.length) (hll : l.length ≤ 1000000) : method_first p (l.map Int.ofNat) name = some (fnd1 (fstM p name l) zfm) := by
 unfold method_first method_walk_w
 rw [fuel_len, show (0 : Int) = ((0 : Nat) : Int) from rfl, walk_L1 hm name _ l hl hll _ 0 (by simp) (by omega), obs, List.drop_zero]
 cases fstM p name l <;> rfl
theorem ch_lt (p : List GClass) (name : List UInt8) : ∀ x ∈ ch p name, x < p.length := by
 obtain ⟨_, _, _, _, _, _, k7, _⟩ := ch_facts p name
 exact fun x hx => (k7 x hx).1
theorem method_Find_eq {p : List GClass} (hp : p.length ≤ 1000000) (hm : ∀ c ∈ p, c.fMethods.length ≤ 9223372036854775807) (a name : List UInt8) : method_Find p a name = some (fnd1 (fstM p name (ch p a)) zfm) := by
 unfold method_Find
 have := ch_len p a
 rw [above_Chain_eq hp, obs, method_first_eq hm name _ (ch_lt p a) (by omega), obs]
theorem rT_all1 : ∀ m : Nat, m ≤ 60 → raise_This (mkC m) = some (thisL m) := by
 have h : ∀ m : Fin 61, raise_This (mkC m.val) = some (thisL m.val) := by decide +kernel
 exact fun m hm => h ⟨m, by omega⟩
theorem raise_This_eq1 {c : GClass} (h : c.fParams.length ≤ 60) : raise_This c = some (thisL c.fParams.length) := by
 have hl : c.fParams.length = (mkC c.fParams.length).fParams.length := by simp [mkC]
 have h1 := rT_all1 _ h
 unfold raise_This at h1 ⊢
 rw [← h1, ← hl]
 simp only [rT_len hl]
theorem scope_This_eq1 {c : GClass} (h : c.fParams.length ≤ 60) : ∃ t, scope_This c = some t := by
 unfold scope_This
 rw [raise_This_eq1 h, obs]
 exact ⟨_, rfl⟩
theorem scope_Type_tot {c : GClass} {m : GMethod} (hc : c.fParams.length ≤ 60) (h1 : m.fParams.length ≤ 100) (h2 : m.fLocals.length ≤ 100) (name : List UInt8) : ∃ r, scope_Type c m name = some r := by
 unfold scope_Type
 obtain ⟨t, ht⟩ := scope_This_eq1 hc
 rw [ht, scope_Place_eq h1 h2, arena_Vars_eq h1 h2]
 by_cases hn : (name == [116, 104, 105, 115]) = true
 ·rw [if_pos hn]; exact ⟨_, rfl⟩
 ·rw [if_neg hn]; simp only [obs]
  by_cases hp : placeS m name < 0
  ·rw [if_pos (by simpa using hp)]; exact ⟨_, rfl⟩
  ·obtain ⟨v, hv⟩ := placeS_lt hp
   rw [if_neg (by simpa using hp), hv]; exact ⟨_, rfl⟩
theorem fit_ex {p : List GClass} {c : GClass} {m : GMethod} (hp : p.length ≤ 1000000) (hm : ∀ c ∈ p, c.fMethods.length ≤ 9223372036854775807) (hc : c.fParams.length ≤ 60) (h1 : m.fParams.length ≤ 100) (h2 : m.fLocals.length ≤ 100) (s : GStmt) :
  ∃ o, fit_Callee p c m s = some (fnd1 o zfm) := by
 obtain ⟨r, e1⟩ := scope_Type_tot hc h1 h2 s.fY
 unfold fit_Callee
 by_cases h4 : s.fKind = 4
 ·have hn4 : (s.fKind != 4) = false := by simp [h4]
  have h44 : (s.fKind == 4) = true := by simp [h4]
  rw [hn4, if_neg (by simp)]
  unfold __fit_asker__object_w
  simp only [e1, obs]
  by_cases hr : r.2 = true
  ·by_cases hk : r.1.fKind = 2
   ·refine ⟨fstM p s.fName (ch p r.1.fClass), ?_⟩
    rw [if_neg (by simp [hr]), if_neg (by simpa using hk)]
    simp only [h44, if_true]
    rw [show fit_must true 22 = some 0 from rfl]
    simp only [obs]
    rw [if_neg (by simp), method_Find_eq hp hm, obs]
   ·exact ⟨none, by rw [if_neg (by simp [hr]), if_pos (by simpa using hk)]; rfl⟩
  ·exact ⟨none, by rw [if_pos (by simpa using hr)]; rfl⟩
 ·have hn4 : (s.fKind != 4) = true := by simpa using h4
  exact ⟨none, by rw [hn4, if_pos rfl]; rfl⟩
def oS (p : List GClass) (c : GClass) (m : GMethod) (s : GStmt) : Option (List UInt8 × GMethod) := match fit_Callee p c m s with
 | some (f, true) => some (f.fClass, f.fMethod)
 | _ => none
theorem fit_eq {p : List GClass} {c : GClass} {m : GMethod} (hp : p.length ≤ 1000000) (hm : ∀ c ∈ p, c.fMethods.length ≤ 9223372036854775807) (hc : c.fParams.length ≤ 60) (h1 : m.fParams.length ≤ 100) (h2 : m.fLocals.length ≤ 100) (s : GStmt) : fit_Callee p c m s = some (fnd1 (oS p c m s) zfm) := by
 obtain ⟨o, ho⟩ := fit_ex (c := c) hp hm hc h1 h2 s
 have : oS p c m s = o := by
  unfold oS; rw [ho]
  cases o <;> rfl
 rw [this, ho]
def namS (V : List GVar) (T : BitVec 64) : List (List UInt8) := ((uqs V).filter fun i => T.getLsbD (rkU V i)).map (nameV V)
theorem names_fold {m : GMethod} (hV : (varsS m).length ≤ 60) (hn : ∀ v ∈ varsS m, v.fName.length ≤ maxLen) {w : Gwalker_flow} (hw : w.fat = atK (varsS m) (varsS m).length) (T : BitVec 64) : ∀ (l : List Nat) (s : List (List UInt8)), (∀ i ∈ l, isU (varsS m) i = true) → s.length + l.length ≤ 1000 →
  foldO (fun (s : List (List UInt8)) (y38 : List UInt8) => Option.bind (__flow_walker__bit w y38) fun (y42 : Int) => if ((andI .u64 (bI T) y42) != 0) = true then Option.bind (room ((s.length : Int) + ([y38].length : Int)) 16) fun (_ : Unit) => some (s ++ [y38]) else some s) s (l.map (nameV (varsS m))) =
   some (s ++ (l.filter fun i => T.getLsbD (rkU (varsS m) i)).map (nameV (varsS m)))
 | [], s, _, _ => by simp [foldO]
 | i :: l, s, hl, hs => by
  have hu := hl i (by simp)
  have hlt := isU_lt hu
  have hr := rkU_lt hu
  have hr2 := uqs_len (varsS m)
  simp only [List.length_cons] at hs
  simp only [List.map_cons, foldO]
  rw [bit_eq hV hw (by rw [nameV_at hlt]; exact hn _ (List.getElem_mem hlt)), obs, nameV_at hlt, placeU_of hu hlt]
  show Option.bind (if ((andI .u64 (bI T) (bI (oneB (rkU (varsS m) i)))) != 0) = true then _ else _) _ = _
  rw [andB, nz_one T (by omega), List.filter_cons]
  cases ht : T.getLsbD (rkU (varsS m) i) with
  | true =>
   rw [if_pos rfl, room_ok (by simp; omega), obs, obs, if_pos rfl, names_fold hV hn hw T l _ (fun j hj => hl j (by simp [hj])) (by simp; omega)]
   simp [nameV_at hlt]
  | false =>
   rw [if_neg (by simp), obs, if_neg (by simp), names_fold hV hn hw T l _ (fun j hj => hl j (by simp [hj])) (by omega)]
theorem flow_names_eq {m : GMethod} (hV : (varsS m).length ≤ 60) (hn : ∀ v ∈ varsS m, v.fName.length ≤ maxLen) {w : Gwalker_flow} (hw : w.fat = atK (varsS m) (varsS m).length) (hv : w.fvars = (uqs (varsS m)).map (nameV (varsS m))) (T : BitVec 64) : __flow_walker__names w (bI T) = some (namS (varsS m) T) := by
 have hl := uqs_len (varsS m)
 unfold __flow_walker__names
 rw [foldL (__flow_walker__names_L1 w (bI T)) (l := w.fvars) (f := fun (s : List (List UInt8)) (y38 : List UInt8) => Option.bind (__flow_walker__bit w y38) fun (y42 : Int) => if ((andI .u64 (bI T) y42) != 0) = true then Option.bind (room ((s.length : Int) + ([y38].length : Int)) 16) fun (_ : Unit) => some (s ++ [y38]) else some s) (fin := some) (by rw [hv, List.length_map]; omega) (fun n s x => by
  rw [__flow_walker__names_L1]
  split
  ·cases idx w.fvars x <;> rfl
  ·rfl)]
 rw [hv, names_fold hV hn hw T _ _ (fun i hi => mem_uqs.1 hi) (by simp; omega)]
 simp [namS]
def parO (o : Option (List UInt8 × GMethod)) : List GVar := match o with | some x => x.2.fParams | none => []
def tkA (V : List GVar) : List GExpr → List GVar → List (Option Nat)
 | a :: as', v :: vs => if (decide (a.fKind = 2) && uniq v.fType) = true then placeU V a.fName :: tkA V as' vs else tkA V as' vs
 | _, _ => []
def tkS (V : List GVar) (m : GMethod) (s : GStmt) (o : Option (List UInt8 × GMethod)) : List (Option Nat) :=
 if s.fKind = 7 ∨ s.fKind = 8 then [placeU V s.fY] else if s.fKind = 11 then (if (decide (s.fE.fKind = 2) && uniq m.fRet) = true then [placeU V s.fE.fName] else []) else if s.fKind = 4 then tkA V s.fArgs (parO o) else []
theorem placeU_isU {V : List GVar} {name : List UInt8} : ∀ i, placeU V name = some i → isU V i = true := fun _ h => (placeU_some h).1
theorem tkA_isU {V : List GVar} : ∀ (as' : List GExpr) (vs : List GVar), ∀ x ∈ tkA V as' vs, ∀ i, x = some i → isU V i = true
 | [], _, x, hx => by simp [tkA] at hx
 | _ :: _, [], x, hx => by simp [tkA] at hx
 | a :: as', v :: vs, x, hx => by
  simp only [tkA] at hx
  split at hx
  ·rcases List.mem_cons.1 hx with rfl | hx
   ·exact placeU_isU
   ·exact tkA_isU as' vs x hx
  ·exact tkA_isU as' vs x hx
theorem tkS_isU {V : List GVar} {m : GMethod} {s : GStmt} {o : Option (List UInt8 × GMethod)} : ∀ x ∈ tkS V m s o, ∀ i, x = some i → isU V i = true := by
 intro x hx
 unfold tkS at hx
 split at hx
 ·simp at hx; subst hx; exact placeU_isU
 ·split at hx
  ·split at hx
   ·simp at hx; subst hx; exact placeU_isU
   ·simp at hx
  ·split at hx
   ·exact tkA_isU _ _ x hx
   ·simp at hx
theorem tkA_len {V : List GVar} : ∀ (as' : List GExpr) (vs : List GVar), (tkA V as' vs).length ≤ as'.length
 | [], _ => by simp [tkA]
 | _ :: _, [] => by simp [tkA]
 | a :: as', v :: vs => by
  have := tkA_len (V := V) as' vs
  simp only [tkA]; split
  ·simp; omega
  ·simp; omega
def bB (V : List GVar) (o : Option Nat) : Int := bI (bitO V o)
theorem ftakes_L {m : GMethod} (hV : (varsS m).length ≤ 60) {w : Gwalker_flow} (hw : w.fat = atK (varsS m) (varsS m).length) {s : GStmt} (hl : s.fArgs.length ≤ 1048576) (hn : ∀ a ∈ s.fArgs, a.fName.length ≤ maxLen) (y : GFound_method × Bool) {ps : List GVar} (hps : ps = if y.2 = true then y.1.fMethod.fParams else []) : ∀ (n k : Nat) (acc : List Int), n + k = s.fArgs.length + 1 → k ≤ s.fArgs.length → acc.length ≤ k →
  __flow_walker__takes_L1 w s y n acc (k : Int) = some (acc ++ (tkA (varsS m) (s.fArgs.drop k) (ps.drop k)).map (bB (varsS m)))
 | 0, k, acc, h, hk, ha => by omega
 | n + 1, k, acc, h, hk, ha => by
  rw [__flow_walker__takes_L1]
  by_cases hlt : k < s.fArgs.length
  ·have ih := fun acc h => ftakes_L hV hw hl hn y hps n (k + 1) acc (by omega) (by omega) h
   rw [if_pos (by simpa using hlt), idx_lt hlt, obs]
   simp only [w64_succ hlt (show s.fArgs.length ≤ 9223372036854775807 by omega)]
   rw [List.drop_eq_getElem_cons hlt]
   have hc : (if y.2 = true then if (decide ((k : Int) < (y.1.fMethod.fParams.length : Int))) = true then if (s.fArgs[k].fKind == 2) = true then Option.bind (idx y.1.fMethod.fParams (k : Int)) fun (y81 : GVar) => Option.bind (kind_Unique y81.fType) fun (y83 : Bool) => some y83 else some false else some false else some false : Option Bool) = some (match ps[k]? with | some v => decide (s.fArgs[k].fKind = 2) && uniq v.fType | none => false) := by
    cases hy : y.2 with
    | false => rw [hy] at hps; simp only [Bool.false_eq_true, if_false] at hps; rw [hps]; simp
    | true =>
     rw [hy] at hps; simp only [if_true] at hps; rw [← hps, if_pos rfl, idx_nat]
     by_cases hp : k < ps.length
     ·rw [if_pos (by simpa using hp), List.getElem?_eq_getElem hp]
      simp only [obs, kind_Unique_eq]
      by_cases h2 : s.fArgs[k].fKind = 2
      ·simp [h2]
      ·simp [h2]
     ·rw [if_neg (by simpa using hp), List.getElem?_eq_none (by omega)]
   rw [hc, obs]
   by_cases hp : k < ps.length
   ·rw [List.getElem?_eq_getElem hp, List.drop_eq_getElem_cons hp]
    simp only [tkA]
    by_cases hb : (decide (s.fArgs[k].fKind = 2) && uniq ps[k].fType) = true
    ·rw [if_pos hb, if_pos hb, bit_eq hV hw (hn _ (List.getElem_mem hlt)), obs, room_ok (by simp; omega), obs, obs, ih _ (by simp; omega)]
     simp [bB]
    ·rw [if_neg hb, if_neg hb, obs, ih _ (by omega)]
   ·have e : ∀ l : List GExpr, tkA (varsS m) l [] = [] := fun l => by cases l <;> rfl
    rw [List.getElem?_eq_none (by omega), if_neg (by simp), obs, ih _ (by omega), List.drop_eq_nil_of_le (show ps.length ≤ k by omega), List.drop_eq_nil_of_le (show ps.length ≤ k + 1 by omega), e, e]
  ·rw [if_neg (by simpa using hlt), List.drop_eq_nil_of_le (show s.fArgs.length ≤ k by omega)]; simp [tkA]
theorem flow_takes_eq {p : List GClass} {c : GClass} {m : GMethod} (hV : (varsS m).length ≤ 60) {w : Gwalker_flow} (hw : w.fat = atK (varsS m) (varsS m).length) (hwp : w.fp = p) (hwc : w.fc = c) (hwm : w.fm = m) {s : GStmt} (hl : s.fArgs.length ≤ 1048576) (hn : ∀ a ∈ s.fArgs, a.fName.length ≤ maxLen) (hy : s.fY.length ≤ maxLen) (he : s.fE.fName.length ≤ maxLen)
  {o : Option (List UInt8 × GMethod)} (ho : fit_Callee p c m s = some (fnd1 o zfm)) : __flow_walker__takes w s = some ((tkS (varsS m) m s o).map (bB (varsS m))) := by
 unfold __flow_walker__takes tkS
 have hx : (if (s.fKind == 7) = true then some (s.fKind == 7) else some (s.fKind == 8) : Option Bool) = some (decide (s.fKind = 7 ∨ s.fKind = 8)) := by
  by_cases h7 : s.fKind = 7
  ·simp [h7]
  ·simp [h7]; rw [Bool.eq_iff_iff]; simp
 rw [hx, obs]
 by_cases h78 : s.fKind = 7 ∨ s.fKind = 8
 ·rw [if_pos (by simpa using h78), if_pos h78, bit_eq hV hw hy, obs]; rfl
 ·rw [if_neg (by simpa using h78), if_neg h78]
  by_cases h11 : s.fKind = 11
  ·rw [if_pos (by simpa using h11), if_pos h11, hwm, kind_Unique_eq]
   simp only [obs]
   by_cases h2 : s.fE.fKind = 2
   ·rw [if_pos (by simpa using h2), obs]
    cases uniq m.fRet with
    | true => rw [if_pos rfl, bit_eq hV hw he, obs, if_pos (by simp [h2])]; rfl
    | false => rw [if_neg (by simp), if_neg (by simp)]; rfl
   ·rw [if_neg (by simpa using h2), obs, if_neg (by simp), if_neg (by simp [h2])]; rfl
  ·rw [if_neg (by simpa using h11), if_neg h11]
   by_cases h4 : s.fKind = 4
   ·rw [if_pos (by simpa using h4), if_pos h4, hwp, hwc, hwm, ho, obs, fuel_len, show (0 : Int) = ((0 : Nat) : Int) from rfl, ftakes_L hV hw hl hn (fnd1 o zfm) (ps := parO o) (by cases o <;> rfl) _ 0 _ (by omega) (by omega) (by simp), obs, List.drop_zero, List.drop_zero, List.nil_append]
   ·rw [if_neg (by simpa using h4), if_neg h4]; rfl
theorem and_nz (T : BitVec 64) : T &&& ~~~0#64 = T := by
 apply BitVec.eq_of_getLsbD_eq
 intro i hi
 rw [BitVec.getLsbD_and, BitVec.getLsbD_not]; simp only [hi, decide_true, BitVec.getLsbD_zero, Bool.not_false, Bool.and_true]
def okI (b : Bool) : Int := if b = true then 0 else 1
def stT (V : List GVar) (q : BitVec 64 × Bool) (o : Option Nat) : BitVec 64 × Bool := match o with | some i => (q.1 &&& ~~~oneB (rkU V i), q.2 && q.1.getLsbD (rkU V i)) | none => q
theorem fstep_L {V : List GVar} (hV : V.length ≤ 60) {l : List (Option Nat)} (hl : l.length ≤ 2000000) (hu : ∀ x ∈ l, ∀ i, x = some i → isU V i = true) : ∀ (n k : Nat) (q : BitVec 64 × Bool), n + k = l.length + 1 → k ≤ l.length →
  __flow_walker__step_L1 (l.map (bB V)) n (bI q.1) (okI q.2) (k : Int) = some (bI ((l.drop k).foldl (stT V) q).1, okI ((l.drop k).foldl (stT V) q).2)
 | 0, k, q, h, hk => by omega
 | n + 1, k, q, h, hk => by
  rw [__flow_walker__step_L1]
  by_cases hlt : k < l.length
  ·have hlt' : k < (l.map (bB V)).length := by simpa using hlt
   have ih := fun q => fstep_L hV hl hu n (k + 1) q (by omega) (by omega)
   rw [if_pos (by simpa using hlt), idx_lt hlt', List.getElem_map, List.drop_eq_getElem_cons hlt, List.foldl_cons]
   simp only [obs, w64_succ hlt' (show (l.map (bB V)).length ≤ 9223372036854775807 by simp; omega)]
   have hm := hu l[k] (List.getElem_mem hlt)
   cases ho : l[k] with
   | none =>
    have e : bB V none = bI 0#64 := rfl
    rw [e, andB, notB]
    have e1 : (bI (q.1 &&& 0#64) != bI 0#64) = false := by simp
    have e2 : q.1 &&& ~~~0#64 = q.1 := and_nz _
    rw [e1, if_neg (by simp), obs, e2]
    exact ih q
   | some i =>
    have hui := hm i ho
    have h1 := rkU_lt hui
    have h2 := uqs_len V
    have e : bB V (some i) = bI (oneB (rkU V i)) := rfl
    rw [e, andB, notB, has_one q.1 (by omega)]
    have e3 : (if (!q.1.getLsbD (rkU V i)) = true then some 1 else some (okI q.2) : Option Int) = some (okI (q.2 && q.1.getLsbD (rkU V i))) := by
     cases q.1.getLsbD (rkU V i) <;> simp [okI]
    rw [e3, obs]
    exact ih (stT V q (some i))
  ·rw [if_neg (by simpa using hlt), List.drop_eq_nil_of_le (show l.length ≤ k by omega)]; rfl
theorem or_zero (T : BitVec 64) : T ||| 0#64 = T := by simp
theorem in_flow {m : GMethod} (hV : (varsS m).length ≤ 60) {w : Gwalker_flow} (hw : w.fat = atK (varsS m) (varsS m).length) (r : Int) (names : List (List UInt8)) (hn : ∀ y ∈ names, y.length ≤ maxLen) (hl : names.length ≤ 1000) : ∀ (n k : Nat) (T : BitVec 64), n + k = names.length + 1 → k ≤ names.length →
  flow_Stmt_L1 names (w, r) n (bI T) (k : Int) = some (bI ((names.drop k).foldl (fun T y => T ||| bitO (varsS m) (placeU (varsS m) y)) T))
 | 0, k, T, h, hk => by omega
 | n + 1, k, T, h, hk => by
  rw [flow_Stmt_L1]
  by_cases hlt : k < names.length
  ·rw [if_pos (by simpa using hlt), idx_lt hlt, obs, bit_eq hV hw (hn _ (List.getElem_mem hlt)), obs, orB, w64_succ hlt (by omega), in_flow hV hw r names hn hl n (k + 1) _ (by omega) (by omega), List.drop_eq_getElem_cons hlt, List.foldl_cons]
  ·rw [if_neg (by simpa using hlt), List.drop_eq_nil_of_le (by omega)]; rfl
theorem preSL_len : ∀ (n : Nat) (l : List GStmt) (d : Int), mLGStmt l ≤ n → (preSL d l).length ≤ mLGStmt l
 | _, [], d, _ => by simp [preSL]
 | 0, x :: l, d, h => by
  have := itmS x
  simp only [mLGStmt] at h; omega
 | n + 1, x :: l, d, h => by
  simp only [mLGStmt] at h ⊢
  have h1 := itmS x
  have a1 := preSL_len n x.fBody (d + 1) (by omega)
  have a2 := preSL_len n x.fElse (d + 1) (by omega)
  have a3 := preSL_len n l d (by omega)
  simp only [preSL, preS_eq d x, List.cons_append, List.length_cons, List.length_append]; omega
def fS (V : List GVar) (s : GStmt) (tk : List (Option Nat)) (T : BitVec 64) : BitVec 64 × Bool :=
 ((if s.fKind = 1 then (tk.foldl (stT V) (T, true)).1 &&& ~~~(bitO V (placeU V s.fX)) else (tk.foldl (stT V) (T, true)).1 ||| bitO V (placeU V s.fX)),
  ((tk.foldl (stT V) (T, true)).2 && (!decide (s.fKind = 4) || match placeU V s.fY with | some i => (tk.foldl (stT V) (T, true)).1.getLsbD (rkU V i) | none => true)))
structure Env (p : List GClass) (c : GClass) (m : GMethod) : Prop where
 hp : p.length ≤ 1000000
 hm : ∀ c ∈ p, c.fMethods.length ≤ 9223372036854775807
 hc : c.fParams.length ≤ 60
 h1 : m.fParams.length ≤ 30
 h2 : m.fLocals.length ≤ 30
 hnl : ∀ v ∈ varsS m, v.fName.length ≤ maxLen
theorem Env.hV {p : List GClass} {c : GClass} {m : GMethod} (E : Env p c m) : (varsS m).length ≤ 60 := by have := E.h1; have := E.h2; unfold varsS; simp; omega
structure WOk (p : List GClass) (c : GClass) (m : GMethod) (w : Gwalker_flow) : Prop where
 fat : w.fat = atK (varsS m) (varsS m).length
 fp : w.fp = p
 fc : w.fc = c
 fm : w.fm = m
 fvars : w.fvars = (uqs (varsS m)).map (nameV (varsS m))
def tkP (p : List GClass) (c : GClass) (m : GMethod) (s : GStmt) : List (Option Nat) := tkS (varsS m) m s (oS p c m s)
def stp (p : List GClass) (c : GClass) (m : GMethod) (s : GStmt) (T : BitVec 64) : BitVec 64 × Bool := fS (varsS m) s (tkP p c m s) T
theorem tk_len {V : List GVar} {m : GMethod} {s : GStmt} {o : Option (List UInt8 × GMethod)} (hl : s.fArgs.length ≤ 1048576) : (tkS V m s o).length ≤ 1048576 := by
 unfold tkS
 split
 ·simp
 ·split
  ·split <;> simp
  ·split
   ·have := tkA_len (V := V) s.fArgs (parO o); omega
   ·simp
theorem flow_step_eq {p : List GClass} {c : GClass} {m : GMethod} (E : Env p c m) {w : Gwalker_flow} (hw : WOk p c m w) {s : GStmt} (hs : uGStmt s ≤ 1048576) (T : BitVec 64) : __flow_walker__step w s (bI T) = some (bI (stp p c m s T).1, okI (stp p c m s T).2) := by
 have hV := E.hV
 have us := uS_p s
 have ue := uE_p s.fE
 have l6 := len_lsum (u := uGExpr) u1_E s.fArgs
 have h1 := E.h1; have h2 := E.h2
 have hy : s.fY.length ≤ maxLen := by simp only [maxLen]; omega
 have hx : s.fX.length ≤ maxLen := by simp only [maxLen]; omega
 have ht1 := flow_takes_eq (p := p) (c := c) hV hw.fat hw.fp hw.fc hw.fm (s := s) (by omega) (fun a ha => by
  simp only [maxLen]
  have := lsum_mem (u := uGExpr) ha; have := uE_p a; omega) hy (by simp only [maxLen]; omega) (fit_eq (c := c) E.hp E.hm E.hc (show m.fParams.length ≤ 100 by omega) (show m.fLocals.length ≤ 100 by omega) s)
 have hu : ∀ x ∈ tkP p c m s, ∀ i, x = some i → isU (varsS m) i = true := tkS_isU
 have hlen : (tkP p c m s).length ≤ 1048576 := tk_len (by omega)
 unfold stp
 change __flow_walker__takes w s = some ((tkP p c m s).map (bB (varsS m))) at ht1
 generalize tkP p c m s = tk at *
 unfold fS
 have hf := fstep_L hV (show tk.length ≤ 2000000 by omega) hu (tk.length + 1) 0 (T, true) (by omega) (by omega)
 rw [List.drop_zero] at hf
 generalize tk.foldl (stT (varsS m)) (T, true) = q at *
 have hpy : ∀ i, placeU (varsS m) s.fY = some i → isU (varsS m) i = true := placeU_isU
 have hu2 := uqs_len (varsS m)
 unfold __flow_walker__step
 rw [ht1, obs, fuel_len, List.length_map]
 have : __flow_walker__step_L1 (tk.map (bB (varsS m))) (tk.length + 1) (bI T) 0 0 = some (bI q.1, okI q.2) := hf
 rw [this, obs]
 simp only []
 rw [bit_eq hV hw.fat hy, obs, bit_eq hV hw.fat hx]
 have hc4 : (if (s.fKind == 4) = true then some ((andI .u64 (bI q.1) (bI (bitO (varsS m) (placeU (varsS m) s.fY)))) != bI (bitO (varsS m) (placeU (varsS m) s.fY))) else some false : Option Bool) = some (decide (s.fKind = 4) && !(match placeU (varsS m) s.fY with | some i => q.1.getLsbD (rkU (varsS m) i) | none => true)) := by
  by_cases h4 : s.fKind = 4
  ·rw [if_pos (by simpa using h4), andB]
   cases hpl : placeU (varsS m) s.fY with
   | none => simp [bitO]
   | some i =>
    have := rkU_lt (hpy i hpl)
    rw [show bitO (varsS m) (some i) = oneB (rkU (varsS m) i) from rfl, has_one q.1 (by omega)]; simp [h4]
  ·rw [if_neg (by simpa using h4)]; simp [h4]
 rw [hc4, obs]
 have hfin : (if (decide (s.fKind = 4) && !(match placeU (varsS m) s.fY with | some i => q.1.getLsbD (rkU (varsS m) i) | none => true)) = true then some 1 else some (okI q.2) : Option Int) = some (okI (q.2 && (!decide (s.fKind = 4) || match placeU (varsS m) s.fY with | some i => q.1.getLsbD (rkU (varsS m) i) | none => true))) := by
  cases decide (s.fKind = 4) <;> cases q.2 <;> cases (match placeU (varsS m) s.fY with | some i => q.1.getLsbD (rkU (varsS m) i) | none => true) <;> rfl
 rw [hfin, obs, obs]
 by_cases h1' : s.fKind = 1
 ·rw [if_pos (by simpa using h1'), if_pos h1', notB]
 ·rw [if_neg (by simpa using h1'), if_neg h1', orB]
def LeU (V : List GVar) (A T : BitVec 64) : Prop := ∀ i, isU V i = true → A.getLsbD (rkU V i) = true → T.getLsbD (rkU V i) = true
theorem LeU.trans {V : List GVar} {A B C : BitVec 64} (h : LeU V A B) (h' : LeU V B C) : LeU V A C := fun i hi ha => h' i hi (h i hi ha)
theorem LeU.and_l {V : List GVar} {A B : BitVec 64} : LeU V (A &&& B) A := fun i _ h => by rw [BitVec.getLsbD_and] at h; simp at h; exact h.1
theorem LeU.and_r {V : List GVar} {A B : BitVec 64} : LeU V (A &&& B) B := fun i _ h => by rw [BitVec.getLsbD_and] at h; simp at h; exact h.2
theorem bit_iff {V : List GVar} (hV : V.length ≤ 60) {i j : Nat} (hi : isU V i = true) (hj : isU V j = true) : decide (rkU V j = rkU V i) = decide (j = i) := by
 rw [Bool.eq_iff_iff]; simp
 exact ⟨fun h => rkU_inj hj hi h, fun h => by rw [h]⟩
theorem fold_mono {V : List GVar} (hV : V.length ≤ 60) : ∀ (tk : List (Option Nat)) (q r : BitVec 64 × Bool), (∀ x ∈ tk, ∀ i, x = some i → isU V i = true) → LeU V q.1 r.1 → (q.2 = true → r.2 = true) →
  LeU V (tk.foldl (stT V) q).1 (tk.foldl (stT V) r).1 ∧ ((tk.foldl (stT V) q).2 = true → (tk.foldl (stT V) r).2 = true)
 | [], q, r, _, h1, h2 => ⟨h1, h2⟩
 | none :: tk, q, r, hu, h1, h2 => fold_mono hV tk q r (fun x hx => hu x (by simp [hx])) h1 h2
 | some j :: tk, q, r, hu, h1, h2 => by
  have hj := hu (some j) (by simp) j rfl
  have h3 := rkU_lt hj
  have h4 := uqs_len V
  refine fold_mono hV tk (stT V q (some j)) (stT V r (some j)) (fun x hx => hu x (by simp [hx])) (fun i hi h => ?_) (fun h => ?_)
  ·have h5 := rkU_lt hi
   simp only [stT] at h ⊢
   rw [get_not _ (by omega) (by omega)] at h ⊢
   simp only [Bool.and_eq_true] at h ⊢
   exact ⟨h1 i hi h.1, h.2⟩
  ·simp only [stT, Bool.and_eq_true] at h ⊢
   exact ⟨h2 h.1, h1 j hj h.2⟩
theorem stp_mono {p : List GClass} {c : GClass} {m : GMethod} (hV : (varsS m).length ≤ 60) {s : GStmt} {A T : BitVec 64} (h : LeU (varsS m) A T) (ok : (stp p c m s A).2 = true) : (stp p c m s T).2 = true ∧ LeU (varsS m) (stp p c m s A).1 (stp p c m s T).1 := by
 unfold stp at *
 have hu : ∀ x ∈ tkP p c m s, ∀ i, x = some i → isU (varsS m) i = true := tkS_isU
 generalize tkP p c m s = tk at *
 obtain ⟨f1, f2⟩ := fold_mono hV tk (A, true) (T, true) hu h (fun h => h)
 unfold fS at *
 generalize tk.foldl (stT (varsS m)) (A, true) = q at *
 generalize tk.foldl (stT (varsS m)) (T, true) = r at *
 have hu2 := uqs_len (varsS m)
 simp only [Bool.and_eq_true] at ok ⊢
 refine ⟨⟨f2 ok.1, ?_⟩, fun i hi hb => ?_⟩
 ·have := ok.2
  cases hp : placeU (varsS m) s.fY with
  | none => simp
  | some j =>
   rw [hp] at this
   simp only [Bool.or_eq_true] at this ⊢
   rcases this with h4 | h4
   ·exact .inl h4
   ·exact .inr (f1 j (placeU_isU j hp) h4)
 ·have hri := rkU_lt hi
  cases hp : placeU (varsS m) s.fX with
  | none =>
   rw [hp] at hb
   have e : ∀ z : BitVec 64, (if s.fKind = 1 then z &&& ~~~(bitO (varsS m) none) else z ||| bitO (varsS m) none) = z := fun z => by simp only [bitO, and_nz, or_zero, ite_self]
   rw [e] at hb ⊢
   exact f1 i hi hb
  | some j =>
   rw [hp] at hb
   have hj := placeU_isU j hp
   have hrj := rkU_lt hj
   simp only [bitO] at hb ⊢
   by_cases h1 : s.fKind = 1
   ·rw [if_pos h1, get_not _ (by omega) (by omega)] at hb ⊢
    simp only [Bool.and_eq_true] at hb ⊢
    exact ⟨f1 i hi hb.1, hb.2⟩
   ·rw [if_neg h1, get_or _ (by omega)] at hb ⊢
    simp only [Bool.or_eq_true] at hb ⊢
    exact hb.elim (fun h => .inl (f1 i hi h)) .inr
def Low (A : BitVec 64) : Prop := A.getLsbD 63 = false
theorem fold_low {V : List GVar} : ∀ (tk : List (Option Nat)) (q : BitVec 64 × Bool), Low q.1 → Low (tk.foldl (stT V) q).1
 | [], q, h => h
 | none :: tk, q, h => fold_low tk q h
 | some j :: tk, q, h => by
  refine fold_low tk (stT V q (some j)) ?_
  unfold Low at *
  simp only [stT]
  rw [BitVec.getLsbD_and, h]; rfl
theorem stp_low {p : List GClass} {c : GClass} {m : GMethod} (hV : (varsS m).length ≤ 60) {s : GStmt} {A : BitVec 64} (h : Low A) : Low (stp p c m s A).1 := by
 unfold stp fS
 have h2 := fold_low (V := varsS m) (tkP p c m s) (A, true) h
 generalize (tkP p c m s).foldl (stT (varsS m)) (A, true) = q at *
 have hu2 := uqs_len (varsS m)
 cases hp : placeU (varsS m) s.fX with
 | none =>
  have e : (if s.fKind = 1 then q.1 &&& ~~~(bitO (varsS m) none) else q.1 ||| bitO (varsS m) none) = q.1 := by simp only [bitO, and_nz, or_zero, ite_self]
  simp only [e]; exact h2
 | some j =>
  have hrj := rkU_lt (placeU_isU j hp)
  simp only [bitO]
  unfold Low at *
  split
  ·rw [BitVec.getLsbD_and, h2]; rfl
  ·rw [get_or _ (by omega), h2]; simp; omega
def top64 : BitVec 64 := BitVec.allOnes 64
theorem low_ne {A : BitVec 64} (h : Low A) : A ≠ top64 := by rintro rfl; simp [Low, top64] at h
theorem bI_top : bI top64 = 18446744073709551615 := by decide
theorem top_iff (A : BitVec 64) : (bI A == 18446744073709551615) = decide (A = top64) := by
 rw [← bI_top, Bool.eq_iff_iff]; simp [bI_inj]
def fixS (f : BitVec 64 → BitVec 64) : Nat → BitVec 64 → BitVec 64
 | 0, T => T
 | n + 1, T => if T &&& f T = T then T else fixS f n (T &&& f T)
def preT (g : GStmt → BitVec 64 → BitVec 64 × Bool) (s : GStmt) (T : BitVec 64) : BitVec 64 := if T = top64 then top64 else (g s T).1
mutual
def stS (g : GStmt → BitVec 64 → BitVec 64 × Bool) : GStmt → BitVec 64 → BitVec 64
 | ⟨z0, z1, z2, z3, z4, z5, z6, z7, z8, z9⟩ => fun T =>
  let T1 := preT g ⟨z0, z1, z2, z3, z4, z5, z6, z7, z8, z9⟩ T
  if z0 = 11 then top64 else if z0 = 9 then bdS g z7 T1 &&& bdS g z8 T1 else if z0 = 10 then fixS (bdS g z7) 66 T1 else T1
def bdS (g : GStmt → BitVec 64 → BitVec 64 × Bool) : List GStmt → BitVec 64 → BitVec 64
 | [] => fun T => T
 | s :: l => fun T => bdS g l (stS g s T)
end
mutual
def okS (g : GStmt → BitVec 64 → BitVec 64 × Bool) : GStmt → BitVec 64 → Bool
 | ⟨z0, z1, z2, z3, z4, z5, z6, z7, z8, z9⟩ => fun T =>
  let T1 := preT g ⟨z0, z1, z2, z3, z4, z5, z6, z7, z8, z9⟩ T
  (decide (T = top64) || (g ⟨z0, z1, z2, z3, z4, z5, z6, z7, z8, z9⟩ T).2) && (if z0 = 9 then okL g z7 T1 && okL g z8 T1 else if z0 = 10 then okL g z7 (fixS (bdS g z7) 66 T1) else true)
def okL (g : GStmt → BitVec 64 → BitVec 64 × Bool) : List GStmt → BitVec 64 → Bool
 | [] => fun _ => true
 | s :: l => fun T => okS g s T && okL g l (stS g s T)
end
theorem stS_eq (g : GStmt → BitVec 64 → BitVec 64 × Bool) (s : GStmt) (T : BitVec 64) : stS g s T = if s.fKind = 11 then top64 else if s.fKind = 9 then bdS g s.fBody (preT g s T) &&& bdS g s.fElse (preT g s T) else if s.fKind = 10 then fixS (bdS g s.fBody) 66 (preT g s T) else preT g s T := by
 cases s; simp only [stS]
theorem okS_eq (g : GStmt → BitVec 64 → BitVec 64 × Bool) (s : GStmt) (T : BitVec 64) : okS g s T = ((decide (T = top64) || (g s T).2) && (if s.fKind = 9 then okL g s.fBody (preT g s T) && okL g s.fElse (preT g s T) else if s.fKind = 10 then okL g s.fBody (fixS (bdS g s.fBody) 66 (preT g s T)) else true)) := by
 cases s; simp only [okS]
mutual
def cS : GStmt → Nat
 | ⟨_, _, _, _, _, _, _, z7, z8, _⟩ => 1 + cL z7 + cL z8
def cL : List GStmt → Nat
 | [] => 0
 | s :: l => cS s + cL l
end
theorem cS_eq (s : GStmt) : cS s = 1 + cL s.fBody + cL s.fElse := by cases s; simp only [cS]
theorem cL_pre : ∀ (n : Nat) (l : List GStmt) (d : Int), mLGStmt l ≤ n → (preSL d l).length = cL l
 | _, [], d, _ => by simp [preSL, cL]
 | 0, x :: l, d, h => by
  have := itmS x
  simp only [mLGStmt] at h; omega
 | n + 1, x :: l, d, h => by
  simp only [mLGStmt] at h
  have h1 := itmS x
  have a1 := cL_pre n x.fBody (d + 1) (by omega)
  have a2 := cL_pre n x.fElse (d + 1) (by omega)
  have a3 := cL_pre n l d (by omega)
  simp only [preSL, preS_eq d x, List.cons_append, List.length_cons, List.length_append, cL, cS_eq]; omega
theorem cL_le : ∀ (n : Nat) (l : List GStmt), mLGStmt l ≤ n → cL l ≤ mLGStmt l := fun n l h => by rw [← cL_pre n l 0 h]; exact preSL_len n l 0 h
structure BadOk (note ok : Bool) (n0 : Int) (k : Nat) (b b' : Int) : Prop where
 a1 : note = false → b' = b
 a2 : 0 ≤ b → b' = b
 a3 : b < 0 → ok = true → b' = b
 a4 : b < 0 → note = true → ok = false → n0 ≤ b' ∧ b' < n0 + k
theorem BadOk.seq {note ok1 ok2 : Bool} {n0 n1 : Int} {k1 k2 k : Nat} {b b1 b2 : Int} (h1 : BadOk note ok1 n0 k1 b b1) (h2 : BadOk note ok2 n1 k2 b1 b2) (e0 : 0 ≤ n0) (e1 : n0 ≤ n1) (e2 : n1 + k2 ≤ n0 + k) (e3 : k1 ≤ k) : BadOk note (ok1 && ok2) n0 k b b2 := by
 obtain ⟨a1, a2, a3, a4⟩ := h1
 obtain ⟨c1, c2, c3, c4⟩ := h2
 refine ⟨fun hn => by rw [c1 hn, a1 hn], fun hb => ?_, fun hb ho => ?_, fun hb hn ho => ?_⟩
 ·have := a2 hb; rw [c2 (by omega), this]
 ·simp only [Bool.and_eq_true] at ho
  have := a3 hb ho.1
  rw [c3 (by omega) ho.2, this]
 ·cases hok : ok1 with
  | false =>
   obtain ⟨d1, d2⟩ := a4 hb hn hok
   rw [c2 (by omega)]
   exact ⟨d1, by omega⟩
  | true =>
   rw [hok] at ho
   have := a3 hb hok
   obtain ⟨d1, d2⟩ := c4 (by omega) hn (by simpa using ho)
   exact ⟨by omega, by omega⟩
theorem BadOk.refl {note : Bool} {n0 : Int} {k : Nat} {b : Int} : BadOk note true n0 k b b := ⟨fun _ => rfl, fun _ => rfl, fun _ _ => rfl, fun _ _ h => by cases h⟩
def mu (T : BitVec 64) : Nat := (List.range 64).countP fun i => T.getLsbD i
theorem mu_le (T : BitVec 64) : mu T ≤ 64 := by
 have := List.countP_le_length (p := fun i => T.getLsbD i) (l := List.range 64)
 simpa [mu] using this
theorem countP_lt {α : Type} {p q : α → Bool} : ∀ {l : List α}, (∀ x ∈ l, p x = true → q x = true) → (∃ x ∈ l, q x = true ∧ p x = false) → l.countP p < l.countP q
 | [], _, ⟨x, hx, _⟩ => by simp at hx
 | y :: l, h, ⟨x, hx, hq, hp⟩ => by
  rw [List.countP_cons, List.countP_cons]
  have hle : l.countP p ≤ l.countP q := List.countP_mono_left (fun z hz => h z (by simp [hz]))
  rcases List.mem_cons.1 hx with rfl | hx
  ·rw [hq, hp]; simp; omega
  ·have := countP_lt (l := l) (fun z hz => h z (by simp [hz])) ⟨x, hx, hq, hp⟩
   have hy := h y (by simp)
   cases hpy : p y with
   | true => rw [hy hpy]; simp; omega
   | false => cases q y <;> simp <;> omega
theorem mu_lt {T A : BitVec 64} (h : T &&& A ≠ T) : mu (T &&& A) < mu T := by
 refine countP_lt (fun i _ hi => ?_) ?_
 ·rw [BitVec.getLsbD_and] at hi; simp at hi; exact hi.1
 ·refine Classical.byContradiction fun hn => h ?_
  apply BitVec.eq_of_getLsbD_eq
  intro i hi
  cases hT : T.getLsbD i with
  | false => rw [BitVec.getLsbD_and, hT]; rfl
  | true =>
   cases hTA : (T &&& A).getLsbD i with
   | true => rfl
   | false => exact absurd ⟨i, by simpa using hi, hT, hTA⟩ hn
theorem fixS_fix (f : BitVec 64 → BitVec 64) : ∀ (n : Nat) (T : BitVec 64), mu T < n → fixS f n T &&& f (fixS f n T) = fixS f n T
 | 0, T, h => by omega
 | n + 1, T, h => by
  simp only [fixS]
  split
  ·rename_i he; exact he
  ·rename_i he
   exact fixS_fix f n _ (by have := mu_lt he; omega)
theorem fixS_le {V : List GVar} (f : BitVec 64 → BitVec 64) : ∀ (n : Nat) (T : BitVec 64), LeU V (fixS f n T) T
 | 0, T => fun _ _ h => h
 | n + 1, T => by
  simp only [fixS]
  split
  ·exact fun _ _ h => h
  ·exact (fixS_le f n _).trans LeU.and_l
theorem and_low {A B : BitVec 64} (h : Low A) : Low (A &&& B) := by unfold Low at *; rw [BitVec.getLsbD_and, h]; rfl
theorem fixS_low (f : BitVec 64 → BitVec 64) : ∀ (n : Nat) (T : BitVec 64), Low T → Low (fixS f n T)
 | 0, T, h => h
 | n + 1, T, h => by
  simp only [fixS]
  split
  ·exact h
  ·exact fixS_low f n _ (and_low h)
theorem WOk.fn {p : List GClass} {c : GClass} {m : GMethod} {w : Gwalker_flow} (h : WOk p c m w) (n : Int) : WOk p c m ({ w with fn := n } : Gwalker_flow) := ⟨h.fat, h.fp, h.fc, h.fm, h.fvars⟩
theorem WOk.bad {p : List GClass} {c : GClass} {m : GMethod} {w : Gwalker_flow} (h : WOk p c m w) (n : Int) : WOk p c m ({ w with fbad := n } : Gwalker_flow) := ⟨h.fat, h.fp, h.fc, h.fm, h.fvars⟩
def BodyOk (p : List GClass) (c : GClass) (m : GMethod) (rec : List GStmt → Int → Bool → Gwalker_flow → Option (Int × Gwalker_flow)) (l : List GStmt) : Prop :=
 ∀ (T : BitVec 64) (note : Bool) (w : Gwalker_flow), WOk p c m w → 0 ≤ w.fn → w.fn + cL l ≤ 4000000 →
  ∃ w', rec l (bI T) note w = some (bI (bdS (stp p c m) l T), w') ∧ WOk p c m w' ∧ w.fn ≤ w'.fn ∧ w'.fn ≤ w.fn + cL l ∧ BadOk note (okL (stp p c m) l T) w.fn (cL l) w.fbad w'.fbad
theorem loop_L {p : List GClass} {c : GClass} {m : GMethod} {rec : List GStmt → Int → Bool → Gwalker_flow → Option (Int × Gwalker_flow)} {s : GStmt} (hr : BodyOk p c m rec s.fBody) {b0 : Gwalker_flow} (h0 : 0 ≤ b0.fn) (h1 : b0.fn + cL s.fBody ≤ 4000000) : ∀ (f : Nat) (T : BitVec 64) (w : Gwalker_flow), mu T < f → WOk p c m w →
  ∃ w', __flow_walker__loop_w_L1 s b0 rec f w (bI T) = some (w', bI (fixS (bdS (stp p c m) s.fBody) f T)) ∧ WOk p c m w' ∧ w'.fbad = w.fbad
 | 0, T, w, h, _ => by omega
 | f + 1, T, w, h, hw => by
  obtain ⟨w1, e1, e2, _, _, e3⟩ := hr T false ({ w with fn := b0.fn } : Gwalker_flow) (hw.fn _) h0 h1
  have hb : w1.fbad = w.fbad := e3.a1 rfl
  rw [__flow_walker__loop_w_L1, e1, obs]
  simp only [andB]
  simp only [fixS]
  by_cases he : T &&& bdS (stp p c m) s.fBody T = T
  ·rw [if_pos (by rw [he]; simp), if_pos he]
   exact ⟨w1, rfl, e2, hb⟩
  ·have hne : (bI (T &&& bdS (stp p c m) s.fBody T) == bI T) = false := by simpa [bI_inj] using he
   rw [if_neg (by simp [hne]), if_neg he]
   obtain ⟨w2, q1, q2, q3⟩ := loop_L hr h0 h1 f (T &&& bdS (stp p c m) s.fBody T) w1 (by have := mu_lt he; omega) e2
   exact ⟨w2, q1, q2, by rw [q3, hb]⟩
theorem loop_eq {p : List GClass} {c : GClass} {m : GMethod} {rec : List GStmt → Int → Bool → Gwalker_flow → Option (Int × Gwalker_flow)} {s : GStmt} (hr : BodyOk p c m rec s.fBody) (T : BitVec 64) (note : Bool) (w : Gwalker_flow) (hw : WOk p c m w) (h0 : 0 ≤ w.fn) (h1 : w.fn + cL s.fBody ≤ 4000000) :
  ∃ w', __flow_walker__loop_w rec s (bI T) note w = some (bI (fixS (bdS (stp p c m) s.fBody) 66 T), w') ∧ WOk p c m w' ∧ w.fn ≤ w'.fn ∧ w'.fn ≤ w.fn + cL s.fBody ∧ BadOk note (okL (stp p c m) s.fBody (fixS (bdS (stp p c m) s.fBody) 66 T)) w.fn (cL s.fBody) w.fbad w'.fbad := by
 have hm := mu_le T
 obtain ⟨w1, e1, e2, e3⟩ := loop_L hr h0 h1 66 T w (by omega) hw
 obtain ⟨w2, q1, q2, q3, q4, q5⟩ := hr (fixS (bdS (stp p c m) s.fBody) 66 T) note ({ w1 with fn := w.fn } : Gwalker_flow) (e2.fn _) h0 h1
 refine ⟨w2, ?_, q2, q3, q4, ?_⟩
 ·unfold __flow_walker__loop_w
  rw [e1, obs]
  simp only []
  rw [q1, obs]
 ·have : ({ w1 with fn := w.fn } : Gwalker_flow).fbad = w.fbad := e3
  rw [this] at q5; exact q5
theorem body_eq {p : List GClass} {c : GClass} {m : GMethod} (E : Env p c m) : ∀ (n : Nat) (l : List GStmt), mLGStmt l < n → lsum uGStmt l ≤ 1048576 → BodyOk p c m (__flow_walker__body_w n) l
 | 0, l, h, _ => by omega
 | n + 1, l, h, hu => by
  intro T note w hw h0 h1
  have hlm := itlen l
  have loop : ∀ (t pre : List GStmt) (T : BitVec 64) (w : Gwalker_flow) (f : Nat), l = pre ++ t → t.length < f → WOk p c m w → 0 ≤ w.fn → w.fn + cL t ≤ 4000000 →
    ∃ w', __flow_walker__body_w_L1 l note (__flow_walker__body_w n) f w (bI T) (pre.length : Int) = some (w', bI (bdS (stp p c m) t T)) ∧ WOk p c m w' ∧ w.fn ≤ w'.fn ∧ w'.fn ≤ w.fn + cL t ∧ BadOk note (okL (stp p c m) t T) w.fn (cL t) w.fbad w'.fbad := by
   intro t
   induction t with
   | nil =>
    intro pre T w f hl hf hw h0 h1
    cases f with
    | zero => simp at hf
    | succ f =>
     simp only [List.append_nil] at hl
     subst hl
     refine ⟨w, by simp [__flow_walker__body_w_L1, bdS], hw, by omega, by omega, ?_⟩
     simp only [okL]; exact BadOk.refl
   | cons s t ih =>
    intro pre T w f hl hf hw h0 h1
    cases f with
    | zero => simp at hf
    | succ f =>
     have hx : idx l (pre.length : Int) = some s := by rw [hl, idx_lt (by simp)]; simp
     have hlt : (pre.length : Int) < (l.length : Int) := by rw [hl, List.length_append, List.length_cons]; omega
     have hms := itmS s
     have hmem : s ∈ l := by rw [hl]; simp
     have hsu := lsum_mem (u := uGStmt) hmem
     have hsp := uS_p s
     have hml := mS_mem hmem
     have hlu := len_lsum (u := uGStmt) u1_S l
     simp only [cL, cS_eq] at h1
     have hw1 : w_i64 (w.fn + 1) = w.fn + 1 := w64 (by omega) (by omega)
     have hw2 : w_i64 ((pre.length : Int) + 1) = ((pre ++ [s]).length : Int) := by
      have : pre.length < l.length := by rw [hl]; simp
      rw [w64 (by omega) (by omega)]; simp
     rw [__flow_walker__body_w_L1, if_pos (by simpa using hlt), hx, obs]
     simp only [hw1, hw2]
     rw [flow_step_eq E (hw.fn (w.fn + 1)) (by omega), obs]
     -- what is noted of the statement itself
     have hn : ∃ w2, (Option.bind (if (okI (stp p c m s T).2 == 1) = true then if (bI T != 18446744073709551615) = true then if note = true then some (decide ((({ w with fn := w.fn + 1 } : Gwalker_flow).fbad) < 0)) else some false else some false else some false : Option Bool) fun x99 => if x99 = true then some ({ ({ w with fn := w.fn + 1 } : Gwalker_flow) with fbad := w.fn } : Gwalker_flow) else some ({ w with fn := w.fn + 1 } : Gwalker_flow) : Option Gwalker_flow) = some w2 ∧ WOk p c m w2 ∧ w2.fn = w.fn + 1 ∧ BadOk note (decide (T = top64) || (stp p c m s T).2) w.fn 1 w.fbad w2.fbad := by
      have ht : (bI T != 18446744073709551615) = !decide (T = top64) := by rw [bne, top_iff]
      rw [ht]
      cases hk : (stp p c m s T).2 with
      | true => exact ⟨_, rfl, hw.fn _, rfl, by simp; exact BadOk.refl⟩
      | false =>
       cases htt : decide (T = top64) with
       | true => exact ⟨_, rfl, hw.fn _, rfl, BadOk.refl⟩
       | false =>
        cases hno : note with
        | false => exact ⟨_, rfl, hw.fn _, rfl, ⟨fun _ => rfl, fun _ => rfl, fun _ h => (by cases h), fun _ h => by cases h⟩⟩
        | true =>
         by_cases hb : w.fbad < 0
         ·refine ⟨{ ({ w with fn := w.fn + 1 } : Gwalker_flow) with fbad := w.fn }, by simp [okI, hb], (hw.fn _).bad _, rfl, ⟨fun h => (by cases h), fun h => (by omega), fun _ h => (by cases h), fun _ _ _ => ⟨by simp, by simp; omega⟩⟩⟩
         ·exact ⟨{ w with fn := w.fn + 1 }, by simp [okI, hb], hw.fn _, rfl, ⟨fun h => (by cases h), fun _ => rfl, fun h => (by omega), fun h => (by omega)⟩⟩
     obtain ⟨w2, hw2e, hw2k, hw2n, hw2b⟩ := hn
     have hpre : (if (bI T == 18446744073709551615) = true then some 18446744073709551615 else some (bI (stp p c m s T).1) : Option Int) = some (bI (preT (stp p c m) s T)) := by
      rw [top_iff]
      unfold preT
      by_cases htt : T = top64
      ·rw [if_pos (by simpa using htt), if_pos htt, bI_top]
      ·rw [if_neg (by simpa using htt), if_neg htt]
     have hbody : BodyOk p c m (__flow_walker__body_w n) s.fBody := body_eq E n s.fBody (by omega) (by omega)
     have helse : BodyOk p c m (__flow_walker__body_w n) s.fElse := body_eq E n s.fElse (by omega) (by omega)
     -- what comes behind it
     have hmid : ∃ w3, (if (s.fKind == 11) = true then some (w2, 18446744073709551615) else if (s.fKind == 9) = true then Option.bind (__flow_walker__body_w n s.fBody (bI (preT (stp p c m) s T)) note w2) fun y114 => Option.bind (__flow_walker__body_w n s.fElse (bI (preT (stp p c m) s T)) note y114.2) fun y118 => some (y118.2, andI .u64 y114.1 y118.1) else if (s.fKind == 10) = true then Option.bind (__flow_walker__loop_w (__flow_walker__body_w n) s (bI (preT (stp p c m) s T)) note w2) fun y121 => some (y121.2, y121.1) else some (w2, bI (preT (stp p c m) s T)) : Option (Gwalker_flow × Int)) = some (w3, bI (stS (stp p c m) s T)) ∧ WOk p c m w3 ∧ w.fn ≤ w3.fn ∧ w3.fn ≤ w.fn + cS s ∧ BadOk note (okS (stp p c m) s T) w.fn (cS s) w.fbad w3.fbad := by
      rw [stS_eq, okS_eq, cS_eq]
      by_cases h11 : s.fKind = 11
      ·rw [if_pos (by simpa using h11), if_pos h11, if_neg (by omega), if_neg (by omega)]
       exact ⟨w2, by rw [bI_top], hw2k, by omega, by omega, hw2b.seq (BadOk.refl (n0 := w.fn) (k := 0)) h0 (by omega) (by omega) (by omega)⟩
      ·rw [if_neg (by simpa using h11), if_neg h11]
       by_cases h9 : s.fKind = 9
       ·rw [if_pos (by simpa using h9), if_pos h9, if_pos h9]
        obtain ⟨w3, e1, e2, e3, e4, e5⟩ := hbody (preT (stp p c m) s T) note w2 hw2k (by omega) (by omega)
        obtain ⟨w4, f1, f2, f3, f4, f5⟩ := helse (preT (stp p c m) s T) note w3 e2 (by omega) (by omega)
        rw [e1, obs]
        simp only []
        rw [f1, obs, andB]
        exact ⟨w4, rfl, f2, by omega, by omega, hw2b.seq (e5.seq f5 (by omega) (by omega) (k := cL s.fBody + cL s.fElse) (by omega) (by omega)) h0 (by omega) (by omega) (by omega)⟩
       ·rw [if_neg (by simpa using h9), if_neg h9, if_neg h9]
        by_cases h10 : s.fKind = 10
        ·rw [if_pos (by simpa using h10), if_pos h10, if_pos h10]
         obtain ⟨w3, e1, e2, e3, e4, e5⟩ := loop_eq hbody (preT (stp p c m) s T) note w2 hw2k (by omega) (by omega)
         rw [e1, obs]
         exact ⟨w3, rfl, e2, by omega, by omega, hw2b.seq e5 h0 (by omega) (by omega) (by omega)⟩
        ·rw [if_neg (by simpa using h10), if_neg h10, if_neg h10]
         exact ⟨w2, rfl, hw2k, by omega, by omega, hw2b.seq (BadOk.refl (n0 := w.fn) (k := 0)) h0 (by omega) (by omega) (by omega)⟩
     obtain ⟨w3, m1, m2, m3, m4, m5⟩ := hmid
     rw [cS_eq] at m4
     obtain ⟨w4, i1, i2, i3, i4, i5⟩ := ih (pre ++ [s]) (stS (stp p c m) s T) w3 f (by simp [hl]) (by simp at hf; omega) m2 (by omega) (by omega)
     refine ⟨w4, ?_, i2, by omega, by simp only [cL, cS_eq]; omega, ?_⟩
     ·simp only [bdS]
      rw [← i1]
      have key := congrArg (fun z => Option.bind z fun x => __flow_walker__body_w_L1 l note (__flow_walker__body_w n) f x.1 x.2 ((pre ++ [s]).length : Int)) m1
      rw [hw2e, obs, hpre, obs]
      exact key
     ·simp only [okL, cL]
      exact m5.seq i5 h0 (by omega) (by rw [cS_eq]; omega) (by omega)
  obtain ⟨w', r1, r2, r3, r4, r5⟩ := loop l [] T w ((l.length - 0 : Int).toNat + 1) (by simp) (by omega) hw h0 h1
  refine ⟨w', ?_, r2, r3, r4, r5⟩
  rw [__flow_walker__body_w, show (0 : Int) = (([] : List GStmt).length : Int) from rfl, show (l.length - ((([] : List GStmt).length : Nat) : Int) : Int).toNat + 1 = (l.length - 0 : Int).toNat + 1 from rfl, r1, obs]
theorem bits_fold {V : List GVar} (hV : V.length ≤ 60) (hnd : ∀ i, isU V i = true → placeU V (nameV V i) = some i) : ∀ (l : List Nat) (T : BitVec 64), (∀ i ∈ l, isU V i = true) → ∀ i, isU V i = true →
  ((l.map (nameV V)).foldl (fun T y => T ||| bitO V (placeU V y)) T).getLsbD (rkU V i) = (T.getLsbD (rkU V i) || l.contains i)
 | [], T, _, i, _ => by simp
 | j :: l, T, h, i, hi => by
  have hj := h j (by simp)
  have h1 := rkU_lt hj
  have h2 := uqs_len V
  simp only [List.map_cons, List.foldl_cons]
  rw [bits_fold hV hnd l _ (fun k hk => h k (by simp [hk])) i hi, hnd j hj]
  simp only [bitO]
  rw [get_or _ (by omega), bit_iff hV hi hj, List.contains_cons, Bool.or_assoc]
  congr 2
  rw [Bool.eq_iff_iff]; simp
  exact ⟨fun h => h.symm, fun h => h.symm⟩
theorem name_place {V : List GVar} {i : Nat} (hi : isU V i = true) : placeU V (nameV V i) = some i := by
 rw [nameV_at (isU_lt hi)]; exact placeU_of hi (isU_lt hi)
theorem stmt_names {p : List GClass} {c : GClass} {m : GMethod} (E : Env p c m) {s : GStmt} (hs : uGStmt s ≤ 1048576) (T : BitVec 64) : ∃ T0, (∀ i, isU (varsS m) i = true → T0.getLsbD (rkU (varsS m) i) = T.getLsbD (rkU (varsS m) i)) ∧
  flow_Stmt p c m s (namS (varsS m) T) = some (if (stp p c m s T0).2 = true then (namS (varsS m) (stp p c m s T0).1, true) else ([], false)) := by
 have hV := E.hV
 have h1 := E.h1; have h2 := E.h2
 have hu2 := uqs_len (varsS m)
 have hmem : ∀ i ∈ (uqs (varsS m)).filter (fun i => T.getLsbD (rkU (varsS m) i)), isU (varsS m) i = true := fun i hi => mem_uqs.1 (List.mem_filter.1 hi).1
 have hlen : (namS (varsS m) T).length ≤ 1000 := by
  unfold namS
  have h5 := List.length_filter_le (fun i => T.getLsbD (rkU (varsS m) i)) (uqs (varsS m))
  simp; omega
 have hnl : ∀ y ∈ namS (varsS m) T, y.length ≤ maxLen := by
  intro y hy
  unfold namS at hy
  rw [List.mem_map] at hy
  obtain ⟨i, hi, rfl⟩ := hy
  rw [nameV_at (isU_lt (hmem i hi))]
  exact E.hnl _ (List.getElem_mem _)
 refine ⟨(namS (varsS m) T).foldl (fun T y => T ||| bitO (varsS m) (placeU (varsS m) y)) 0#64, fun i hi => ?_, ?_⟩
 ·unfold namS
  rw [bits_fold hV (fun i hi => name_place hi) _ _ hmem i hi]
  rw [Bool.eq_iff_iff]
  simp [mem_uqs.2 hi, List.mem_filter]
 ·have hF := in_flow hV (w := mkW p c m) rfl (bI (firstK (varsS m) m.fParams.length (varsS m).length)) (namS (varsS m) T) hnl hlen ((namS (varsS m) T).length + 1) 0 0#64 (by omega) (by omega)
  rw [List.drop_zero] at hF
  unfold flow_Stmt
  rw [flow_made_eq p c h1 h2 E.hnl, obs, fuel_len]
  have : flow_Stmt_L1 (namS (varsS m) T) (mkW p c m, bI (firstK (varsS m) m.fParams.length (varsS m).length)) ((namS (varsS m) T).length + 1) 0 0 = _ := hF
  rw [this, obs, flow_step_eq E (w := mkW p c m) ⟨rfl, rfl, rfl, rfl, rfl⟩ hs, obs]
  generalize stp p c m s _ = r
  cases hr : r.2 with
  | false => rfl
  | true => rw [if_neg (by simp [okI]), flow_names_eq hV E.hnl (w := mkW p c m) rfl rfl, obs]; rfl
def Behind (V : List GVar) (n0 : Nat) (A : BitVec 64) (w : GWay_law23) : Prop :=
 w.fFine = true ∧ w.fTurns.length ≤ n0 ∧ (w.fBack = false → Low A ∧ ∃ T, w.fThere = namS V T ∧ LeU V A T)
theorem turn_eq (w : GWay_law23) (hl : w.fTurns.length ≤ 1000000) : ∃ t w', law23_turn w = some (t, w') ∧ w'.fThere = w.fThere ∧ w'.fBack = w.fBack ∧ w'.fFine = w.fFine ∧ w'.fTurns.length ≤ w.fTurns.length ∧ (t = true → w'.fTurns.length < w.fTurns.length) := by
 unfold law23_turn
 cases ht : w.fTurns with
 | nil => exact ⟨false, w, by simp, rfl, rfl, rfl, by simp [ht], fun h => by cases h⟩
 | cons x l =>
  have hc : cutL (x :: l) 1 ((x :: l).length : Int) = some l := by
   unfold cutL
   rw [if_pos ⟨by omega, by simp; omega, by omega⟩]
   simp
  rw [if_neg (by simp; omega), show idx (x :: l) 0 = some x from rfl, obs, hc, obs]
  exact ⟨x, { w with fTurns := l }, rfl, rfl, rfl, rfl, by simp, fun _ => by simp⟩
def WalkOk (p : List GClass) (c : GClass) (m : GMethod) (rec : GPlace_ref20 → List GStmt → GWay_law23 → Option GWay_law23) (l : List GStmt) : Prop :=
 ∀ (w : GWay_law23) (A T : BitVec 64), w.fThere = namS (varsS m) T → w.fBack = false → w.fFine = true → LeU (varsS m) A T → Low A → okL (stp p c m) l A = true → w.fTurns.length ≤ 1000 →
  ∃ w', rec ⟨p, c, m⟩ l w = some w' ∧ Behind (varsS m) w.fTurns.length (bdS (stp p c m) l A) w'
theorem while_L {p : List GClass} {c : GClass} {m : GMethod} {rec : GPlace_ref20 → List GStmt → GWay_law23 → Option GWay_law23} {s : GStmt} (h10 : s.fKind = 10) (hr : WalkOk p c m rec s.fBody) {A : BitVec 64} (hA : Low A) (hfix : A &&& bdS (stp p c m) s.fBody A = A) (hok : okL (stp p c m) s.fBody A = true) : ∀ (f : Nat) (w : GWay_law23), w.fTurns.length + 1 < f → w.fTurns.length ≤ 1000 → Behind (varsS m) w.fTurns.length A w →
  ∃ w', law23_walk_L2 ⟨p, c, m⟩ s rec f w = some w' ∧ Behind (varsS m) w.fTurns.length A w'
 | 0, w, h, _, _ => by omega
 | f + 1, w, h, hl, hB => by
  obtain ⟨b1, b2, b3⟩ := hB
  rw [law23_walk_L2]
  cases hbk : w.fBack with
  | true =>
   rw [if_pos (by simpa using h10), if_neg (by simp), obs, if_neg (by simp)]
   exact ⟨w, rfl, b1, by omega, fun h => by rw [hbk] at h; cases h⟩
  | false =>
   rw [if_pos (by simpa using h10), if_pos (by simp), obs, if_pos b1]
   obtain ⟨t, w1, t1, t2, t3, t4, t5, t6⟩ := turn_eq w (by omega)
   obtain ⟨_, T, hT1, hT2⟩ := b3 hbk
   rw [t1, obs]
   cases ht : t with
   | false =>
    rw [if_pos (by simp)]
    exact ⟨w1, rfl, by rw [t4, b1], t5, fun _ => ⟨hA, T, by rw [t2, hT1], hT2⟩⟩
   | true =>
    rw [if_neg (by simp)]
    obtain ⟨w2, r1, r2, r3, r4⟩ := hr w1 A T (by rw [t2, hT1]) (by rw [t3, hbk]) (by rw [t4, b1]) hT2 hA hok (by omega)
    simp only []
    rw [r1, obs]
    have h6 := t6 ht
    obtain ⟨w3, q1, q2, q3, q4⟩ := while_L h10 hr hA hfix hok f w2 (by omega) (by omega) ⟨r2, Nat.le_refl _, fun hb => by
     obtain ⟨_, T', hT1', hT2'⟩ := r4 hb
     refine ⟨hA, T', hT1', fun i hi ha => hT2' i hi ?_⟩
     rw [← hfix] at ha
     exact LeU.and_r i hi ha⟩
    exact ⟨w3, q1, q2, by omega, q4⟩
theorem walk_eq {p : List GClass} {c : GClass} {m : GMethod} (E : Env p c m) : ∀ (n : Nat) (l : List GStmt), mLGStmt l < n → lsum uGStmt l ≤ 1048576 → WalkOk p c m (law23_walk n) l
 | 0, l, h, _ => by omega
 | n + 1, l, h, hu => by
  intro w A T hth hbk hfi hle hlow hok htl
  have hV := E.hV
  have hlm := itlen l
  have hlu := len_lsum (u := uGStmt) u1_S l
  have loop : ∀ (t pre : List GStmt) (A : BitVec 64) (v : GWay_law23) (f : Nat), l = pre ++ t → t.length < f → v.fTurns.length ≤ w.fTurns.length → (v.fBack = false → okL (stp p c m) t A = true) → Behind (varsS m) v.fTurns.length A v →
    ∃ r, law23_walk_L1 ⟨p, c, m⟩ l w (law23_walk n) f v (pre.length : Int) = some (.next r) ∧ Behind (varsS m) v.fTurns.length (bdS (stp p c m) t A) r := by
   intro t
   induction t with
   | nil =>
    intro pre A v f hl hf hv hok hB
    cases f with
    | zero => simp at hf
    | succ f =>
     simp only [List.append_nil] at hl
     subst hl
     exact ⟨v, by simp [law23_walk_L1], by simpa only [bdS] using hB⟩
   | cons s t ih =>
    intro pre A v f hl hf hv hok hB
    cases f with
    | zero => simp at hf
    | succ f =>
     obtain ⟨b1, b2, b3⟩ := hB
     have hx : idx l (pre.length : Int) = some s := by rw [hl, idx_lt (by simp)]; simp
     have hlt : (pre.length : Int) < (l.length : Int) := by rw [hl, List.length_append, List.length_cons]; omega
     have hmem : s ∈ l := by rw [hl]; simp
     have hms := itmS s
     have hml := mS_mem hmem
     have hsu := lsum_mem (u := uGStmt) hmem
     have hsp := uS_p s
     have hw2 : w_i64 ((pre.length : Int) + 1) = ((pre ++ [s]).length : Int) := by
      have : pre.length < l.length := by rw [hl]; simp
      rw [w64 (by omega) (by omega)]; simp
     rw [law23_walk_L1]
     cases hvb : v.fBack with
     | true =>
      rw [if_pos (by simpa using hlt), if_neg (by simp), obs, if_neg (by simp)]
      exact ⟨v, rfl, b1, b2, fun h => by rw [hvb] at h; cases h⟩
     | false =>
      obtain ⟨hAl, T, hT1, hT2⟩ := b3 hvb
      have hok2 := hok hvb
      simp only [okL, Bool.and_eq_true] at hok2
      obtain ⟨ho1, ho2⟩ := hok2
      rw [okS_eq] at ho1
      simp only [Bool.and_eq_true, Bool.or_eq_true, decide_eq_true_eq] at ho1
      obtain ⟨ho3, ho4⟩ := ho1
      have ho3 : (stp p c m s A).2 = true := ho3.resolve_left (low_ne hAl)
      obtain ⟨T0, hT0, hst⟩ := stmt_names E (s := s) (by omega) T
      have hle0 : LeU (varsS m) A T0 := fun i hi ha => by rw [hT0 i hi]; exact hT2 i hi ha
      obtain ⟨hk1, hk2⟩ := stp_mono hV hle0 ho3
      have hlow1 := stp_low (p := p) (c := c) hV (s := s) hAl
      have hpre : preT (stp p c m) s A = (stp p c m s A).1 := by unfold preT; rw [if_neg (low_ne hAl)]
      rw [hpre] at ho4
      rw [if_pos (by simpa using hlt), if_pos (by simp), obs, if_pos b1, hx, obs]
      simp only [show (GPlace_ref20.fP ⟨p, c, m⟩) = p from rfl, show (GPlace_ref20.fC ⟨p, c, m⟩) = c from rfl, show (GPlace_ref20.fM ⟨p, c, m⟩) = m from rfl, hT1, hst, hk1, if_true, obs, Bool.not_true, Bool.false_eq_true, if_false, hw2]
      -- the way behind the statement itself, and behind a branch
      have hmid : ∃ x, (if (s.fKind == 9) = true then Option.bind (law23_turn ({ ({ v with fThere := namS (varsS m) (stp p c m s T0).1 } : GWay_law23) with fBack := (s.fKind == 11) } : GWay_law23)) fun y167 => if y167.1 = true then Option.bind (law23_walk n ⟨p, c, m⟩ s.fBody y167.2) fun y170 => some y170 else Option.bind (law23_walk n ⟨p, c, m⟩ s.fElse y167.2) fun y172 => some y172 else some ({ ({ v with fThere := namS (varsS m) (stp p c m s T0).1 } : GWay_law23) with fBack := (s.fKind == 11) } : GWay_law23) : Option GWay_law23) = some x ∧ Behind (varsS m) v.fTurns.length (if s.fKind = 10 then (stp p c m s A).1 else stS (stp p c m) s A) x := by
       rw [stS_eq, hpre]
       by_cases h9 : s.fKind = 9
       ·rw [if_pos (by simpa using h9), if_neg (show ¬ s.fKind = 10 by omega), if_neg (show ¬ s.fKind = 11 by omega), if_pos h9]
        rw [if_pos h9] at ho4
        simp only [Bool.and_eq_true] at ho4
        obtain ⟨tt, w1, t1, t2, t3, t4, t5, _⟩ := turn_eq ({ ({ v with fThere := namS (varsS m) (stp p c m s T0).1 } : GWay_law23) with fBack := (s.fKind == 11) } : GWay_law23) (by simp only; omega)
        rw [t1, obs]
        simp only at t2 t3 t4 t5
        have hb11 : (s.fKind == 11) = false := by simp [h9]
        cases tt with
        | true =>
         rw [if_pos rfl]
         obtain ⟨w2, r1, r2, r3, r4⟩ := walk_eq E n s.fBody (by omega) (by omega) w1 (stp p c m s A).1 (stp p c m s T0).1 t2 (by rw [t3, hb11]) (by rw [t4, b1]) hk2 hlow1 ho4.1 (by omega)
         simp only []
         rw [r1, obs]
         exact ⟨w2, rfl, r2, by omega, fun hb => by
          obtain ⟨q1, T', q2, q3⟩ := r4 hb
          exact ⟨and_low q1, T', q2, LeU.trans LeU.and_l q3⟩⟩
        | false =>
         rw [if_neg (by simp)]
         obtain ⟨w2, r1, r2, r3, r4⟩ := walk_eq E n s.fElse (by omega) (by omega) w1 (stp p c m s A).1 (stp p c m s T0).1 t2 (by rw [t3, hb11]) (by rw [t4, b1]) hk2 hlow1 ho4.2 (by omega)
         simp only []
         rw [r1, obs]
         exact ⟨w2, rfl, r2, by omega, fun hb => by
          obtain ⟨q1, T', q2, q3⟩ := r4 hb
          refine ⟨?_, T', q2, LeU.trans LeU.and_r q3⟩
          rw [BitVec.and_comm]; exact and_low q1⟩
       ·rw [if_neg (by simpa using h9)]
        refine ⟨_, rfl, b1, Nat.le_refl _, fun hb => ?_⟩
        have h11 : ¬ s.fKind = 11 := by simpa using hb
        by_cases h10 : s.fKind = 10
        ·rw [if_pos h10]; exact ⟨hlow1, _, rfl, hk2⟩
        ·rw [if_neg h10, if_neg h11, if_neg h9, if_neg h10]; exact ⟨hlow1, _, rfl, hk2⟩
      obtain ⟨x, x1, x2⟩ := hmid
      have x1' := congrArg (fun z => Option.bind z fun x174 => Option.bind (law23_walk_L2 ⟨p, c, m⟩ s (law23_walk n) (w.fTurns.length + 2) x174) fun x219 => law23_walk_L1 ⟨p, c, m⟩ l w (law23_walk n) f x219 ((pre ++ [s]).length : Int)) x1
      simp only [] at x1'
      -- behind a loop
      have hwh : ∃ y, law23_walk_L2 ⟨p, c, m⟩ s (law23_walk n) (w.fTurns.length + 2) x = some y ∧ Behind (varsS m) v.fTurns.length (stS (stp p c m) s A) y := by
       obtain ⟨c1, c2, c3⟩ := x2
       by_cases h10 : s.fKind = 10
       ·rw [if_pos h10] at c3
        rw [if_neg (show ¬ s.fKind = 9 by omega), if_pos h10] at ho4
        have hmu := mu_le (stp p c m s A).1
        have hfx := fixS_fix (bdS (stp p c m) s.fBody) 66 (stp p c m s A).1 (by omega)
        have hfl := fixS_low (bdS (stp p c m) s.fBody) 66 _ hlow1
        obtain ⟨y, y1, y2, y3, y4⟩ := while_L h10 (walk_eq E n s.fBody (by omega) (by omega)) hfl hfx ho4 (w.fTurns.length + 2) x (by omega) (by omega) ⟨c1, Nat.le_refl _, fun hb => by
         obtain ⟨_, T', q2, q3⟩ := c3 hb
         exact ⟨hfl, T', q2, LeU.trans (fixS_le _ _ _) q3⟩⟩
        refine ⟨y, y1, y2, by omega, fun hb => ?_⟩
        rw [stS_eq, hpre, if_neg (by omega), if_neg (by omega), if_pos h10]
        exact y4 hb
       ·rw [if_neg h10] at c3
        rw [law23_walk_L2, if_neg (by simpa using h10), obs, if_neg (by simp)]
        exact ⟨x, rfl, c1, c2, c3⟩
      obtain ⟨y, y1, y2, y3, y4⟩ := hwh
      obtain ⟨r, r1, r2, r3, r4⟩ := ih (pre ++ [s]) (stS (stp p c m) s A) y f (by simp [hl]) (by simp at hf; omega) (by omega) (fun _ => ho2) ⟨y2, Nat.le_refl _, y4⟩
      refine ⟨r, ?_, r2, by omega, by simpa only [bdS] using r4⟩
      rw [obs, y1, obs] at x1'
      exact x1'.trans r1
  obtain ⟨r, r1, r2⟩ := loop l [] A w (l.length + 1) (by simp) (by omega) (Nat.le_refl _) (fun _ => hok) ⟨hfi, Nat.le_refl _, fun _ => ⟨hlow, T, hth, hle⟩⟩
  refine ⟨r, ?_, r2⟩
  rw [law23_walk, show (0 : Int) = (([] : List GStmt).length : Int) from rfl, r1, obs]; rfl
theorem elim_true {S : Type} {o : Option (Ctl Bool S)} {g : S → Option Bool} (h : Option.bind o (fun lr => Ctl.elim lr (fun v => some v) g) = some true) : o = some (.stop true) ∨ ∃ s, o = some (.next s) ∧ g s = some true := by
 cases o with
 | none => cases h
 | some r =>
  rw [obs] at h
  cases r with
  | stop v => left; have : some v = some true := h; rw [Option.some.inj this]
  | next s => exact .inr ⟨s, rfl, h⟩
theorem bind_tru {α : Type} {o : Option α} {f : α → Option Bool} (h : Option.bind o f = some true) : ∃ x, o = some x ∧ f x = some true := by
 cases o with
 | none => cases h
 | some x => exact ⟨x, rfl, h⟩
theorem ite_tru {b : Bool} {x : Option Bool} (h : (if b = true then x else some false) = some true) : b = true ∧ x = some true := by
 cases b with
 | true => exact ⟨rfl, h⟩
 | false => cases h
theorem vars10_L {l : List GVar} {a : Int} : ∀ (n k : Nat) (r : Ctl Bool Unit), l.length ≤ 9223372036854775807 → n + k = l.length + 1 → k ≤ l.length → ref10_vars_L1 l a n (k : Int) = some r → r = .stop false ∨ ∀ v ∈ l.drop k, v.fName ≠ []
 | 0, k, r, hl, h, hk, e => by omega
 | n + 1, k, r, hl, h, hk, e => by
  rw [ref10_vars_L1] at e
  by_cases hlt : k < l.length
  ·rw [if_pos (by simpa using hlt), idx_lt hlt, w64_succ hlt hl] at e
   obtain ⟨b, hb, e⟩ : ∃ b, _ = some b ∧ _ := by
    cases hx : (Option.bind (some l[k]) fun (y50 : GVar) => Option.bind (ref02_Name y50.fName) fun (y52 : Bool) => if (!y52) = true then some true else Option.bind (some l[k]) fun (y55 : GVar) => if (y55.fType.fKind == 0) = true then some true else Option.bind (some l[k]) fun (y58 : GVar) => Option.bind (ref10_written y58.fType a) fun (y60 : Bool) => some (!y60) : Option Bool) with
    | none => rw [hx] at e; cases e
    | some b => rw [hx, obs] at e; exact ⟨b, hx, e⟩
   cases b with
   | true => rw [if_pos rfl] at e; left; exact (Option.some.inj e).symm
   | false =>
    rw [if_neg (by simp)] at e
    rw [obs] at hb
    rcases vars10_L n (k + 1) r hl (by omega) (by omega) e with h1 | h1
    ·exact .inl h1
    ·right
     intro v hv
     rw [List.drop_eq_getElem_cons hlt] at hv
     rcases List.mem_cons.1 hv with rfl | hv
     ·intro e0
      rw [e0, show ref02_Name [] = some false from rfl, obs] at hb
      simp at hb
     ·exact h1 v hv
  ·right
   rw [List.drop_eq_nil_of_le (by omega)]; simp
theorem vars10 {l : List GVar} {a b : Int} (hl : l.length ≤ 9223372036854775807) (h : ref10_vars l a b = some true) : (l.length : Int) ≤ a ∧ ∀ v ∈ l, v.fName ≠ [] := by
 unfold ref10_vars at h
 rw [fuel_len, show (0 : Int) = ((0 : Nat) : Int) from rfl] at h
 rcases elim_true h with h1 | ⟨s, h1, h2⟩
 ·rcases vars10_L _ 0 _ hl (by omega) (by omega) h1 with h3 | h3 <;> first | (cases h3; done) | skip
  exfalso
  have : ∀ (n k : Nat), n + k = l.length + 1 → k ≤ l.length → ref10_vars_L1 l b n (k : Int) ≠ some (.stop true) := by
   intro n
   induction n with
   | zero => intro k h hk; omega
   | succ n ih =>
    intro k hnk hk e
    rw [ref10_vars_L1] at e
    by_cases hlt : k < l.length
    ·rw [if_pos (by simpa using hlt), w64_succ hlt hl] at e
     generalize (Option.bind (idx l (k : Int)) _ : Option Bool) = z at e
     cases z with
     | none => cases e
     | some z =>
      rw [obs] at e
      cases z with
      | true => cases e
      | false => rw [if_neg (by simp)] at e; exact ih (k + 1) (by omega) (by omega) e
    ·rw [if_neg (by simpa using hlt)] at e; cases e
  exact this _ 0 (by omega) (by omega) h1
 ·rcases vars10_L _ 0 _ hl (by omega) (by omega) h1 with h3 | h3
  ·cases h3
  ·rw [List.drop_zero] at h3
   exact ⟨by simpa using h2, h3⟩
theorem all_L {S : Type} {L : Nat → S → Int → Option (Ctl Bool S)} {α : Type} {l : List α} {f : α → Option Bool} (hl : l.length ≤ 9223372036854775807)
  (hL : ∀ (n : Nat) (s : S) (k : Nat) (r : Ctl Bool S) (hk : k < l.length), L (n + 1) s (k : Int) = some r → r = .stop false ∨ (f (l[k]'hk) = some true ∧ ∃ s', L n s' ((k + 1 : Nat) : Int) = some r)) (hend : ∀ (n : Nat) (s : S) (k : Nat) (r : Ctl Bool S), ¬ k < l.length → L (n + 1) s (k : Int) = some r → ∃ s', r = .next s') : ∀ (n k : Nat) (s : S) (r : Ctl Bool S), n + k = l.length + 1 → k ≤ l.length → L n s (k : Int) = some r → r = .stop false ∨ ((∃ s', r = .next s') ∧ ∀ c ∈ l.drop k, f c = some true)
 | 0, k, s, r, h, hk, e => by omega
 | n + 1, k, s, r, h, hk, e => by
  by_cases hlt : k < l.length
  ·rcases hL n s k r hlt e with h1 | ⟨h1, s', h2⟩
   ·exact .inl h1
   ·rcases all_L hl hL hend n (k + 1) s' r (by omega) (by omega) h2 with h3 | ⟨h3, h4⟩
    ·exact .inl h3
    ·refine .inr ⟨h3, fun c hc => ?_⟩
     rw [List.drop_eq_getElem_cons hlt] at hc
     rcases List.mem_cons.1 hc with rfl | hc
     ·exact h1
     ·exact h4 c hc
  ·right
   refine ⟨hend n s k r hlt e, ?_⟩
   rw [List.drop_eq_nil_of_le (by omega)]; simp
theorem method10 {m : GMethod} {a : Int} (h1 : m.fParams.length ≤ 9223372036854775807) (h2 : m.fLocals.length ≤ 9223372036854775807) (h3 : m.fBody.length ≤ 9223372036854775807) (h : ref10_method m a = some true) : m.fParams.length ≤ 5 ∧ m.fLocals.length ≤ 12 ∧ ∀ v ∈ m.fParams ++ m.fLocals, v.fName ≠ [] := by
 unfold ref10_method at h
 rw [fuel_len, show (0 : Int) = ((0 : Nat) : Int) from rfl] at h
 have hs : ∀ (n k : Nat), n + k = m.fBody.length + 1 → k ≤ m.fBody.length → ref10_method_L1 m a n (k : Int) ≠ some (.stop true) := by
  intro n
  induction n with
  | zero => intro k h hk; omega
  | succ n ih =>
   intro k hnk hk e
   rw [ref10_method_L1] at e
   by_cases hlt : k < m.fBody.length
   ·rw [if_pos (by simpa using hlt), w64_succ hlt h3, idx_lt hlt, obs] at e
    cases hz : ref08_Right m.fBody[k] a with
    | none => rw [hz] at e; cases e
    | some z =>
     rw [hz, obs] at e
     cases z with
     | false => cases e
     | true => rw [if_neg (by simp)] at e; exact ih (k + 1) (by omega) (by omega) e
   ·rw [if_neg (by simpa using hlt)] at e; cases e
 rcases elim_true h with h4 | ⟨s, _, h5⟩
 ·exact absurd h4 (hs _ 0 (by omega) (by omega))
 ·obtain ⟨b1, _, h5⟩ := bind_tru h5
  obtain ⟨_, h5⟩ := ite_tru h5
  obtain ⟨b2, _, h5⟩ := bind_tru h5
  obtain ⟨_, h5⟩ := ite_tru h5
  obtain ⟨b3, hb3, h5⟩ := bind_tru h5
  obtain ⟨e3, h5⟩ := ite_tru h5
  obtain ⟨b4, hb4, h5⟩ := bind_tru h5
  obtain ⟨e4, h5⟩ := ite_tru h5
  subst e3; subst e4
  obtain ⟨q1, q2⟩ := vars10 h1 hb3
  obtain ⟨q3, q4⟩ := vars10 h2 hb4
  refine ⟨by omega, by omega, fun v hv => ?_⟩
  rcases List.mem_append.1 hv with hv | hv
  ·exact q2 v hv
  ·exact q4 v hv
theorem class10 {c : GClass} (h1 : c.fParams.length ≤ 9223372036854775807) (h2 : c.fAbove.length ≤ 9223372036854775807) (h3 : c.fMethods.length ≤ 9223372036854775807) (h : ref10_class c = some true) : c.fParams.length ≤ 3 ∧ ∀ m ∈ c.fMethods, ref10_method m (c.fParams.length : Int) = some true := by
 unfold ref10_class at h
 rw [fuel_len, fuel_len, fuel_len, show (0 : Int) = ((0 : Nat) : Int) from rfl] at h
 have a1 := all_L (S := Unit) (L := fun n _ k => ref10_class_L1 c n k) (l := c.fParams) (f := ref02_Name) h1 (fun n _ k r hlt e => by
  simp only [ref10_class_L1] at e
  rw [if_pos (by simpa using hlt), idx_lt hlt, obs, w64_succ hlt h1] at e
  cases hz : ref02_Name c.fParams[k] with
  | none => rw [hz] at e; cases e
  | some z =>
   rw [hz, obs] at e
   cases z with
   | false => left; exact (Option.some.inj e).symm
   | true => rw [if_neg (by simp)] at e; exact .inr ⟨rfl, (), e⟩) (fun n _ k r hlt e => by
  simp only [ref10_class_L1] at e
  rw [if_neg (by simpa using hlt)] at e
  exact ⟨(), (Option.some.inj e).symm⟩)
 have a2 := all_L (S := Unit) (L := fun n _ k => ref10_class_L2 c n k) (l := c.fAbove) (f := fun _ => some true) h2 (fun n _ k r hlt e => by
  simp only [ref10_class_L2] at e
  rw [if_pos (by simpa using hlt), idx_lt hlt, obs, w64_succ hlt h2] at e
  generalize (Option.bind (some c.fAbove[k]) _ : Option Bool) = z at e
  cases z with
  | none => cases e
  | some z =>
   rw [obs] at e
   cases z with
   | true => left; exact (Option.some.inj e).symm
   | false => rw [if_neg (by simp)] at e; exact .inr ⟨rfl, (), e⟩) (fun n _ k r hlt e => by
  simp only [ref10_class_L2] at e
  rw [if_neg (by simpa using hlt)] at e
  exact ⟨(), (Option.some.inj e).symm⟩)
 have a3 := all_L (S := Unit) (L := fun n _ k => ref10_class_L3 c n k) (l := c.fMethods) (f := fun m => ref10_method m (c.fParams.length : Int)) h3 (fun n _ k r hlt e => by
  simp only [ref10_class_L3] at e
  rw [if_pos (by simpa using hlt), idx_lt hlt, obs, w64_succ hlt h3] at e
  cases hz : ref10_method c.fMethods[k] (c.fParams.length : Int) with
  | none => rw [hz] at e; cases e
  | some z =>
   rw [hz, obs] at e
   cases z with
   | false => left; exact (Option.some.inj e).symm
   | true => rw [if_neg (by simp)] at e; exact .inr ⟨rfl, (), e⟩) (fun n _ k r hlt e => by
  simp only [ref10_class_L3] at e
  rw [if_neg (by simpa using hlt)] at e
  exact ⟨(), (Option.some.inj e).symm⟩)
 rcases elim_true h with h4 | ⟨s, h4, h⟩
 ·rcases a1 _ 0 () _ (by omega) (by omega) h4 with h5 | ⟨⟨_, h5⟩, _⟩ <;> cases h5
 rcases elim_true h with h4 | ⟨s, h4, h⟩
 ·rcases a2 _ 0 () _ (by omega) (by omega) h4 with h5 | ⟨⟨_, h5⟩, _⟩ <;> cases h5
 rcases elim_true h with h4 | ⟨s, h4, h⟩
 ·rcases a3 _ 0 () _ (by omega) (by omega) h4 with h5 | ⟨⟨_, h5⟩, _⟩ <;> cases h5
 rcases a3 _ 0 () _ (by omega) (by omega) h4 with h5 | ⟨_, h5⟩
 ·cases h5
 rw [List.drop_zero] at h5
 obtain ⟨b1, _, h⟩ := bind_tru h
 obtain ⟨_, h⟩ := ite_tru h
 obtain ⟨h6, h⟩ := ite_tru h
 have h6 := of_decide_eq_true h6
 exact ⟨by omega, h5⟩
theorem right10 {p : List GClass} (hl : p.length ≤ 9223372036854775807) (h : ref10_Right p = some true) : p.length ≤ 20 ∧ ∀ c ∈ p, ref10_class c = some true := by
 unfold ref10_Right at h
 rw [fuel_len, show (0 : Int) = ((0 : Nat) : Int) from rfl] at h
 have a1 := all_L (L := fun n (x : Int) k => ref10_Right_L1 p n x k) (l := p) (f := fun c => if p.length > 20 then some false else ref10_class c) hl (fun n x k r hlt e => by
  simp only [ref10_Right_L1] at e
  rw [if_pos (by simpa using hlt), idx_lt hlt, w64_succ hlt hl] at e
  simp only [obs] at e
  by_cases h20 : p.length > 20
  ·rw [if_pos (by simp; omega), obs, if_pos rfl] at e
   left; exact (Option.some.inj e).symm
  ·rw [if_neg (by simp; omega)] at e
   rw [if_neg h20]
   cases hz : ref10_class p[k] with
   | none => rw [hz] at e; cases e
   | some z =>
    rw [hz, obs, obs] at e
    cases z with
    | false => left; exact (Option.some.inj e).symm
    | true =>
     rw [if_neg (by simp)] at e
     cases hy : ref09_Stmts p[k] with
     | none => rw [hy] at e; cases e
     | some y => rw [hy, obs] at e; exact .inr ⟨rfl, _, e⟩) (fun n x k r hlt e => by
  simp only [ref10_Right_L1] at e
  rw [if_neg (by simpa using hlt)] at e
  exact ⟨_, (Option.some.inj e).symm⟩)
 rcases elim_true h with h4 | ⟨s, h4, h⟩
 ·rcases a1 _ 0 _ _ (by omega) (by omega) h4 with h5 | ⟨⟨_, h5⟩, _⟩ <;> cases h5
 ·rcases a1 _ 0 _ _ (by omega) (by omega) h4 with h5 | ⟨_, h5⟩
  ·cases h5
  ·rw [List.drop_zero] at h5
   by_cases h20 : p.length > 20
   ·cases p with
    | nil => simp at h20
    | cons c p => have := h5 c (by simp); rw [if_pos h20] at this; cases this
   ·refine ⟨by omega, fun c hc => ?_⟩
    have := h5 c hc
    rwa [if_neg h20] at this
theorem runs_lines (i k : Int) : ∀ (rows : List (Int × GStmt)) (acc : List GLine_arena), acc.length + rows.length ≤ 2000000 → ∃ l, runs (arena_Stmts_B3 i k) rows acc = some (.next l) ∧ l.length = acc.length + rows.length
 | [], acc, _ => ⟨acc, rfl, by simp⟩
 | (d, x) :: rows, acc, h => by
  simp only [List.length_cons] at h
  obtain ⟨l, h1, h2⟩ := runs_lines i k rows (acc ++ [({ fClass := i, fMethod := k, fDeep := d, fS := x } : GLine_arena)]) (by simp; omega)
  refine ⟨l, ?_, by rw [h2]; simp; omega⟩
  simp only [runs, arena_Stmts_B3]
  rw [room_ok (by simp; omega), obs, obs]
  exact h1
theorem mS5 : ∀ (n : Nat) (e : GStmt), mGStmt e ≤ n → 2 * mGStmt e ≤ uGStmt e
 | 0, e, h => by have := mS_eq e; omega
 | n + 1, e, h => by
  have h1 : ∀ l : List GStmt, lsum mGStmt l ≤ n → 2 * lsum mGStmt l ≤ lsum uGStmt l := by
   intro l
   induction l with
   | nil => intro _; simp [lsum]
   | cons x l ih =>
    intro h
    simp only [lsum] at h ⊢
    have := mS5 n x (by omega)
    have := ih (by omega)
    omega
  have hE : ∀ (k : Nat) (e : GExpr), mGExpr e ≤ k → 2 * mGExpr e ≤ uGExpr e := by
   intro k
   induction k with
   | zero => intro e h; have := mE_eq e; omega
   | succ k ihk =>
    intro e h
    have hL : ∀ l : List GExpr, lsum mGExpr l ≤ k → 2 * lsum mGExpr l ≤ lsum uGExpr l := by
     intro l
     induction l with
     | nil => intro _; simp [lsum]
     | cons x l ih =>
      intro h
      simp only [lsum] at h ⊢
      have := ihk x (by omega)
      have := ih (by omega)
      omega
    have h2 := mE_eq e
    have h3 := hL e.fKids (by omega)
    rw [uGExpr_eq, h2]; omega
  have hLE : ∀ l : List GExpr, 2 * lsum mGExpr l ≤ lsum uGExpr l := by
   intro l
   induction l with
   | nil => simp [lsum]
   | cons x l ih => simp only [lsum]; have := hE _ x (Nat.le_refl _); omega
  have h2 := mS_eq e
  have h3 := h1 e.fBody (by omega)
  have h4 := h1 e.fElse (by omega)
  have h5 := hE _ e.fE (Nat.le_refl _)
  have h6 := hLE e.fArgs
  rw [uGStmt_eq, h2]; omega
theorem mL5 (l : List GStmt) : 2 * mLGStmt l ≤ lsum uGStmt l := by
 rw [mLS_sum]
 induction l with
 | nil => simp [lsum]
 | cons x l ih => simp only [lsum]; have := mS5 _ x (Nat.le_refl _); omega
theorem arena_one {m : GMethod} (hu : lsum uGStmt m.fBody ≤ 1048576) : ∃ l, arena_Stmts [({ fName := [], fParams := [], fSuper := [], fAbove := [], fFields := [], fMethods := [m], fAt := 0 } : GClass)] = some l ∧ l.length = cL m.fBody := by
 have h5 := mL5 m.fBody
 have hc := cL_pre _ m.fBody 0 (Nat.le_refl _)
 have hle := cL_le _ m.fBody (Nat.le_refl _)
 obtain ⟨l, h1, h2⟩ := runs_lines 0 0 (preSL 0 m.fBody) [] (by simp; omega)
 refine ⟨l, ?_, by rw [h2, ← hc]; simp⟩
 unfold arena_Stmts
 have e : (([({ fName := [], fParams := [], fSuper := [], fAbove := [], fFields := [], fMethods := [m], fAt := 0 } : GClass)].length - 0 : Int).toNat + 1) = 2 := rfl
 have e2 : (([m].length - 0 : Int).toNat + 1) = 2 := rfl
 rw [e, arena_Stmts_L1, if_pos (show decide _ = true from rfl), show idx [({ fName := [], fParams := [], fSuper := [], fAbove := [], fFields := [], fMethods := [m], fAt := 0 } : GClass)] 0 = some ({ fName := [], fParams := [], fSuper := [], fAbove := [], fFields := [], fMethods := [m], fAt := 0 } : GClass) from rfl, obs]
 simp only [e2]
 rw [arena_Stmts_L2, if_pos (show decide _ = true from rfl), show idx [m] 0 = some m from rfl, obs, show arena_body m = some m from rfl, obs, show itR_stmts m = some (preSL 0 m.fBody) by unfold itR_stmts; rw [if_pos (by omega)], obs, h1, obs]
 simp only [Ctl.elim]
 rw [arena_Stmts_L2, if_neg (by rw [show w_i64 (0 + 1) = 1 from rfl]; simp), obs, arena_Stmts_L1, if_neg (by rw [show w_i64 (0 + 1) = 1 from rfl]; simp), obs]
theorem first_fold {V : List GVar} (hV : V.length ≤ 60) : ∀ (l : List Nat) (b : BitVec 64), (∀ i ∈ l, isU V i = true) → Low b → Low (l.foldl (fun b i => b ||| oneB (rkU V i)) b) ∧ ∀ j, isU V j = true → (l.foldl (fun b i => b ||| oneB (rkU V i)) b).getLsbD (rkU V j) = (b.getLsbD (rkU V j) || l.contains j)
 | [], b, _, hb => ⟨hb, fun j _ => by simp⟩
 | i :: l, b, h, hb => by
  have hi := h i (by simp)
  have h1 := rkU_lt hi
  have h2 := uqs_len V
  obtain ⟨a1, a2⟩ := first_fold hV l (b ||| oneB (rkU V i)) (fun k hk => h k (by simp [hk])) (by
   unfold Low at *; rw [get_or _ (by omega), hb]; simp; omega)
  refine ⟨a1, fun j hj => ?_⟩
  rw [List.foldl_cons, a2 j hj, get_or _ (by omega), bit_iff hV hj hi, List.contains_cons, Bool.or_assoc]
  congr 2
  rw [Bool.eq_iff_iff]; simp
  exact ⟨fun h => h.symm, fun h => h.symm⟩
theorem first_facts {V : List GVar} (hV : V.length ≤ 60) (q : Nat) : Low (firstK V q V.length) ∧ ∀ j, isU V j = true → (firstK V q V.length).getLsbD (rkU V j) = decide (j < q) := by
 obtain ⟨a1, a2⟩ := first_fold hV ((uqk V V.length).filter fun i => decide (i < q)) 0#64 (fun i hi => (mem_uqk.1 (List.mem_filter.1 hi).1).2) (by unfold Low; simp)
 refine ⟨a1, fun j hj => ?_⟩
 have := a2 j hj
 unfold firstK
 rw [this, Bool.eq_iff_iff]
 simp only [BitVec.getLsbD_zero, Bool.false_or, List.contains_iff_mem, List.mem_filter, decide_eq_true_eq]
 exact ⟨fun h => h.2, fun h => ⟨mem_uqk.2 ⟨isU_lt hj, hj⟩, h⟩⟩
theorem first_L {p : List GClass} {c : GClass} {m : GMethod} (h1 : m.fParams.length ≤ 30) (h2 : m.fLocals.length ≤ 30) : ∀ (n k : Nat) (acc : List (List UInt8)), n + k = (uqs (varsS m)).length + 1 → k ≤ (uqs (varsS m)).length → acc.length ≤ k →
  law23_FlowWays_L3 p c m ((uqs (varsS m)).map Int.ofNat) (varsS m) n acc (k : Int) = some (acc ++ (((uqs (varsS m)).drop k).filter fun i => decide (i < m.fParams.length)).map (nameV (varsS m)))
 | 0, k, acc, h, hk, ha => by omega
 | n + 1, k, acc, h, hk, ha => by
  have hu := uqs_len (varsS m)
  have hVl : (varsS m).length = m.fParams.length + m.fLocals.length := by unfold varsS; simp
  rw [law23_FlowWays_L3]
  by_cases hlt : k < (uqs (varsS m)).length
  ·have hlt' : k < ((uqs (varsS m)).map Int.ofNat).length := by simpa using hlt
   have hui := mem_uqs.1 (List.getElem_mem hlt)
   have hil := isU_lt hui
   have ih := fun acc h => first_L (p := p) (c := c) h1 h2 n (k + 1) acc (by omega) (by omega) h
   rw [if_pos (by simpa using hlt), idx_lt hlt', List.getElem_map, List.drop_eq_getElem_cons hlt, List.filter_cons]
   simp only [obs, show ∀ z : Nat, Int.ofNat z = (z : Int) from fun _ => rfl, idx_lt hil, w64_succ hlt' (show ((uqs (varsS m)).map Int.ofNat).length ≤ 9223372036854775807 by simp; omega)]
   by_cases hp : (uqs (varsS m))[k] < m.fParams.length
   ·rw [if_pos (by simpa using hp), if_pos (by simpa using hp), room_ok (by simp; omega), obs, obs, ih _ (by simp; omega)]
    simp [nameV_at hil]
   ·rw [if_neg (by simpa using hp), if_neg (by simpa using hp), obs, ih _ (by omega)]
  ·rw [if_neg (by simpa using hlt), List.drop_eq_nil_of_le (by omega)]; simp
theorem walk_w_eq {p : List GClass} {c : GClass} {m : GMethod} (E : Env p c m) (hu : lsum uGStmt m.fBody ≤ 1048576) : ∃ w', flow_walk_w p c m = some (w', bI (bdS (stp p c m) m.fBody (firstK (varsS m) m.fParams.length (varsS m).length))) ∧ WOk p c m w' ∧ BadOk true (okL (stp p c m) m.fBody (firstK (varsS m) m.fParams.length (varsS m).length)) 0 (cL m.fBody) (-1) w'.fbad := by
 have h5 := mL5 m.fBody
 have hle := cL_le _ m.fBody (Nat.le_refl _)
 obtain ⟨w', e1, e2, _, _, e3⟩ := body_eq E (mLGStmt m.fBody + 1) m.fBody (by omega) hu (firstK (varsS m) m.fParams.length (varsS m).length) true ({ mkW p c m with fbad := (-1) } : Gwalker_flow) ⟨rfl, rfl, rfl, rfl, rfl⟩ (by show (0 : Int) ≤ 0; omega) (by show (0 : Int) + cL m.fBody ≤ 4000000; omega)
 refine ⟨w', ?_, e2, e3⟩
 unfold flow_walk_w
 rw [flow_made_eq p c E.h1 E.h2 E.hnl, obs, e1, obs]
theorem in_L {w : GWay_law23} {e : List (List UInt8) × Bool} {x : Int} {y : List UInt8} (hx : idx e.1 x = some y) (hl : w.fThere.length ≤ 1000000) : ∀ (n k : Nat) (b : Bool), n + k = w.fThere.length + 1 → k ≤ w.fThere.length → law23_FlowWays_L5 x w e n b (k : Int) = some (b || (w.fThere.drop k).contains y)
 | 0, k, b, h, hk => by omega
 | n + 1, k, b, h, hk => by
  rw [law23_FlowWays_L5]
  by_cases hlt : k < w.fThere.length
  ·rw [if_pos (by simpa using hlt), idx_lt hlt, hx, w64_succ hlt (by omega), List.drop_eq_getElem_cons hlt, List.contains_cons]
   simp only [obs]
   have e2 : (if b = true then some true else some (w.fThere[k] == y) : Option Bool) = some (b || (w.fThere[k] == y)) := by cases b <;> rfl
   rw [e2, obs, in_L hx hl n (k + 1) _ (by omega) (by omega), Bool.or_assoc]
   congr 3
   rw [Bool.eq_iff_iff]; simp
   exact ⟨fun h => h.symm, fun h => h.symm⟩
  ·rw [if_neg (by simpa using hlt), List.drop_eq_nil_of_le (by omega)]; simp
theorem all_L4 {w : GWay_law23} {e : List (List UInt8) × Bool} (hl : w.fThere.length ≤ 1000000) (he : e.1.length ≤ 1000000) (hs : ∀ y ∈ e.1, y ∈ w.fThere) : ∀ (n k : Nat), n + k = e.1.length + 1 → k ≤ e.1.length → law23_FlowWays_L4 w e n (k : Int) = some (.next ())
 | 0, k, h, hk => by omega
 | n + 1, k, h, hk => by
  rw [law23_FlowWays_L4]
  by_cases hlt : k < e.1.length
  ·have hi := in_L (w := w) (idx_lt hlt) hl (w.fThere.length + 1) 0 false (by omega) (by omega)
   rw [List.drop_zero, Bool.false_or, List.contains_iff_mem.2 (hs _ (List.getElem_mem hlt))] at hi
   rw [if_pos (by simpa using hlt), fuel_len]
   have hi' : law23_FlowWays_L5 (k : Int) w e (w.fThere.length + 1) false 0 = some true := hi
   rw [hi', obs, if_neg (by simp), w64_succ hlt (by omega)]
   exact all_L4 hl he hs n (k + 1) (by omega) (by omega)
  ·rw [if_neg (by simpa using hlt)]
theorem law23_awake_eqW : law23_awake = some true := by decide +kernel
theorem law23_FlowWays_true {a0 : List GClass} {a1 : List Bool} (h0 : listok (fun y => goodGClass y) a0) (_h1 : listok (fun _ => True) a1) (hu : lsum uGClass a0 + lsum (fun _ => 1) a1 ≤ 1048576) : law23_FlowWays a0 a1 = some true := by
 have haw := law23_awake_eqW
 have hcl := len_lsum (u := uGClass) u1_C a0
 unfold law23_FlowWays
 obtain ⟨b1, hb1, _⟩ := heavy_eq h0
 obtain ⟨b2, hb2⟩ := tot_Right10 (p := a0) (by omega)
 rw [hb1, obs, hb2]
 cases b1 with
 | true => rw [if_pos rfl, obs, if_pos rfl, haw]; rfl
 | false =>
  rw [if_neg (by simp), obs]
  cases b2 with
  | false => rw [if_pos (by simp), obs, if_pos rfl, haw]; rfl
  | true =>
   rw [if_neg (by simp), obs]
   by_cases h100 : (a1.length : Int) > 100
   ·rw [if_pos (by simpa using h100), haw]; rfl
   ·rw [if_neg (by simpa using h100), fuel_len]
    obtain ⟨r1, r2⟩ := right10 (by omega) hb2
    have hms : ∀ c ∈ a0, c.fMethods.length ≤ 9223372036854775807 := fun c hc => by
     have h1 := lsum_mem (u := uGClass) hc
     have h2 := uC_p c
     have h3 := len_lsum (u := uGMethod) u1_M c.fMethods
     omega
    have hL2 : ∀ (i : Nat) (c : GClass), a0[i]? = some c → ∀ (n k : Nat), n + k = c.fMethods.length + 1 → k ≤ c.fMethods.length → law23_FlowWays_L2 a0 a1 (i : Int) n (k : Int) = some (.next ()) := by
     intro i c hi n
     have hc := List.mem_of_getElem? hi
     have uc := lsum_mem (u := uGClass) hc
     have ucp := uC_p c
     induction n with
     | zero => intro k h hk; omega
     | succ n ih =>
      intro k h hk
      rw [law23_FlowWays_L2, idx_nat, hi, obs]
      by_cases hlt : k < c.fMethods.length
      ·have hmm := List.getElem_mem hlt
       have um := lsum_mem (u := uGMethod) hmm
       have ump := uM_p c.fMethods[k]
       have l1 := len_lsum (u := uGOwner) u1_O c.fAbove
       have l2 := len_lsum (u := fun s => List.length s + 1) u1_str c.fParams
       have l3 := len_lsum (u := uGVar) u1_V c.fMethods[k].fParams
       have l4 := len_lsum (u := uGVar) u1_V c.fMethods[k].fLocals
       have l5 := len_lsum (u := uGStmt) u1_S c.fMethods[k].fBody
       obtain ⟨c1, c2⟩ := class10 (by omega) (by omega) (hms c hc) (r2 c hc)
       obtain ⟨m1, m2, _⟩ := method10 (by omega) (by omega) (by omega) (c2 _ hmm)
       have E : Env a0 c c.fMethods[k] := ⟨by omega, hms, by omega, by omega, by omega, fun v hv => by
        simp only [maxLen]
        rcases List.mem_append.1 hv with hv | hv
        ·have := lsum_mem (u := uGVar) hv; have := uV_p v; omega
        ·have := lsum_mem (u := uGVar) hv; have := uV_p v; omega⟩
       have hV := E.hV
       obtain ⟨w', hw1, hw2, hw3⟩ := walk_w_eq E (by omega)
       obtain ⟨fl, fb⟩ := first_facts hV c.fMethods[k].fParams.length
       have hih := ih (k + 1) (by omega) (by omega)
       rw [if_pos (by simpa using hlt), w64_succ hlt (hms c hc)]
       simp only [obind, idx_lt hlt]
       cases hok : okL (stp a0 c c.fMethods[k]) c.fMethods[k].fBody (firstK (varsS c.fMethods[k]) c.fMethods[k].fParams.length (varsS c.fMethods[k]).length) with
       | false =>
        have hM : ∃ f, flow_Method a0 c c.fMethods[k] = some f ∧ f.fErr = 21 := by
         obtain ⟨d1, d2⟩ := hw3.a4 (by omega) rfl hok
         obtain ⟨l, q1, q2⟩ := arena_one (m := c.fMethods[k]) (by omega)
         unfold flow_Method
         rw [hw1, obs, if_neg (by simp; omega), q1, obs, idx_in d1 (by omega), obs]
         exact ⟨_, rfl, rfl⟩
        obtain ⟨f, f1, f2⟩ := hM
        rw [f1]
        simp only [f2]
        exact hih
       | true =>
        have hbad : w'.fbad = -1 := hw3.a3 (by omega) hok
        have hM : flow_Method a0 c c.fMethods[k] = some { fErr := 0, fAt := 0 } := by
         unfold flow_Method
         rw [hw1, obs, if_pos (by simp [hbad])]
        have hF : namS (varsS c.fMethods[k]) (firstK (varsS c.fMethods[k]) c.fMethods[k].fParams.length (varsS c.fMethods[k]).length) = ((uqs (varsS c.fMethods[k])).filter fun i => decide (i < c.fMethods[k].fParams.length)).map (nameV (varsS c.fMethods[k])) := by
         unfold namS
         exact congrArg (List.map (nameV (varsS c.fMethods[k]))) (List.filter_congr fun i hi => fb i (mem_uqs.1 hi))
        have hL3 := first_L (p := a0) (c := c) (m := c.fMethods[k]) (by omega) (by omega) ((uqs (varsS c.fMethods[k])).length + 1) 0 [] (by omega) (by omega) (by simp)
        rw [List.drop_zero, List.nil_append, ← hF] at hL3
        have hL3' : law23_FlowWays_L3 a0 c c.fMethods[k] ((uqs (varsS c.fMethods[k])).map Int.ofNat) (varsS c.fMethods[k]) ((((uqs (varsS c.fMethods[k])).map Int.ofNat).length - 0 : Int).toNat + 1) [] 0 = some (namS (varsS c.fMethods[k]) (firstK (varsS c.fMethods[k]) c.fMethods[k].fParams.length (varsS c.fMethods[k]).length)) := by
         rw [show (((((uqs (varsS c.fMethods[k])).map Int.ofNat).length - 0 : Int).toNat + 1) = (uqs (varsS c.fMethods[k])).length + 1) by simp]
         exact hL3
        have hu2 := uqs_len (varsS c.fMethods[k])
        have hnl : ∀ T, (namS (varsS c.fMethods[k]) T).length ≤ 1000 := fun T => by
         unfold namS
         have h5 := List.length_filter_le (fun i => T.getLsbD (rkU (varsS c.fMethods[k]) i)) (uqs (varsS c.fMethods[k]))
         simp; omega
        obtain ⟨wy, v1, v2, v3, v4⟩ := walk_eq E (mGPlace_ref20 ({ fP := a0, fC := c, fM := c.fMethods[k] } : GPlace_ref20) + mLGStmt c.fMethods[k].fBody + 1) c.fMethods[k].fBody (by omega) (by omega) ({ fThere := namS (varsS c.fMethods[k]) (firstK (varsS c.fMethods[k]) c.fMethods[k].fParams.length (varsS c.fMethods[k]).length), fTurns := a1, fBack := false, fFine := true } : GWay_law23) _ _ rfl rfl rfl (fun _ _ h => h) fl hok (by simp only; omega)
        have hE : flow_End a0 c c.fMethods[k] = some (if bdS (stp a0 c c.fMethods[k]) c.fMethods[k].fBody (firstK (varsS c.fMethods[k]) c.fMethods[k].fParams.length (varsS c.fMethods[k]).length) = top64 then ([], false) else (namS (varsS c.fMethods[k]) (bdS (stp a0 c c.fMethods[k]) c.fMethods[k].fBody (firstK (varsS c.fMethods[k]) c.fMethods[k].fParams.length (varsS c.fMethods[k]).length)), true)) := by
         unfold flow_End
         rw [hw1, obs]
         simp only []
         rw [if_neg (by simp [hbad]), obs, top_iff]
         by_cases ht : bdS (stp a0 c c.fMethods[k]) c.fMethods[k].fBody (firstK (varsS c.fMethods[k]) c.fMethods[k].fParams.length (varsS c.fMethods[k]).length) = top64
         ·rw [if_pos (by simpa using ht), if_pos ht]
         ·rw [if_neg (by simpa using ht), if_neg ht, flow_names_eq hV E.hnl hw2.fat hw2.fvars, obs]
        rw [hM]
        simp only [ref23_Uniques_eq (show c.fMethods[k].fParams.length ≤ 100 by omega) (show c.fMethods[k].fLocals.length ≤ 100 by omega), ref12_Vars_eq (show c.fMethods[k].fParams.length ≤ 100 by omega) (show c.fMethods[k].fLocals.length ≤ 100 by omega)]
        rw [hL3']
        simp only [v1, hE, v2]
        cases hbk : wy.fBack with
        | true => exact hih
        | false =>
         obtain ⟨q1, T', q2, q3⟩ := v4 hbk
         have hne := low_ne q1
         have h4 := all_L4 (w := wy) (e := (namS (varsS c.fMethods[k]) (bdS (stp a0 c c.fMethods[k]) c.fMethods[k].fBody (firstK (varsS c.fMethods[k]) c.fMethods[k].fParams.length (varsS c.fMethods[k]).length)), true)) (by rw [q2]; have := hnl T'; omega) (by have := hnl (bdS (stp a0 c c.fMethods[k]) c.fMethods[k].fBody (firstK (varsS c.fMethods[k]) c.fMethods[k].fParams.length (varsS c.fMethods[k]).length)); simp only; omega) (fun y hy => by
          rw [q2]
          unfold namS at hy ⊢
          rw [List.mem_map] at hy ⊢
          obtain ⟨j, hj, rfl⟩ := hy
          rw [List.mem_filter] at hj
          exact ⟨j, List.mem_filter.2 ⟨hj.1, q3 j (mem_uqs.1 hj.1) hj.2⟩, rfl⟩) _ 0 (by rw [Nat.add_zero]) (by omega)
         simp only [if_neg hne]
         have h4' : law23_FlowWays_L4 wy (namS (varsS c.fMethods[k]) (bdS (stp a0 c c.fMethods[k]) c.fMethods[k].fBody (firstK (varsS c.fMethods[k]) c.fMethods[k].fParams.length (varsS c.fMethods[k]).length)), true) (((namS (varsS c.fMethods[k]) (bdS (stp a0 c c.fMethods[k]) c.fMethods[k].fBody (firstK (varsS c.fMethods[k]) c.fMethods[k].fParams.length (varsS c.fMethods[k]).length))).length - 0 : Int).toNat + 1) 0 = some (.next ()) := by
          rw [fuel_len]; exact h4
         rw [h4']
         exact hih
      ·rw [if_neg (by simpa using hlt)]
    have hL1 : ∀ (n k : Nat), n + k = a0.length + 1 → k ≤ a0.length → law23_FlowWays_L1 a0 a1 n (k : Int) = some (.next ()) := by
     intro n
     induction n with
     | zero => intro k h hk; omega
     | succ n ih =>
      intro k h hk
      rw [law23_FlowWays_L1]
      by_cases hlt : k < a0.length
      ·rw [if_pos (by simpa using hlt), idx_lt hlt]
       simp only [obs, Option.getD_some]
       rw [fuel_len, show (0 : Int) = ((0 : Nat) : Int) from rfl, hL2 k a0[k] (List.getElem?_eq_getElem hlt) _ 0 (by omega) (by omega), obs]
       simp only [Ctl.elim]
       rw [w64_succ hlt (by omega)]
       exact ih (k + 1) (by omega) (by omega)
      ·rw [if_neg (by simpa using hlt)]
    rw [show (0 : Int) = ((0 : Nat) : Int) from rfl, hL1 _ 0 (by omega) (by omega), obs]
    simp only [Ctl.elim, haw, obs]
end Go.Proofs.YthhdlpggmmfaiaaGreat
