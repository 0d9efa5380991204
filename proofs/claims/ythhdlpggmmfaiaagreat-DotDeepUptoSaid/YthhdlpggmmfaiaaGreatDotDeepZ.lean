/- The law DotDeep returns true for every input, and leaves its arguments as they were; no condition beyond those of the statement itself. -/
import Derived.Test.YthhdlpggmmfaiaaGreatDotDeepL1
import Derived.Test.YthhdlpggmmfaiaaGreatDotDeepW
import Derived.Test.YthhdlpggmmfaiaaGreatDotDeepD
import Derived.Test.YthhdlpggmmfaiaaGreatChecked
import Derived.Test.YthhdlpggmmfaiaaGreatRows
namespace Go.Proofs.YthhdlpggmmfaiaaGreat
open Go.ChangeShapes Go.WideShapes Go.ChangeAt Go.RowKit Go.Abs
def bulk_Tryz (H : Type) : Bk H := { bk := Rows.uptoBulk, al := Rows.uptoBulkAll, str := fun s => by simp [Rows.uptoBulk], one := fun d => by (cases d <;> first | (simp [Rows.uptoBulk]; done) | (rename_i l; cases l <;> simp [Rows.uptoBulk])), sl := fun e s => by (simp only [Rows.uptoBulk]; omega), ag := fun l => by simp [Rows.uptoBulk], nil := by simp [Rows.uptoBulkAll], cons := fun _ _ => by simp [Rows.uptoBulkAll] }
set_option maxRecDepth 100000 in
theorem dotDeep_lifted (os : Os) (started : os.Started) (H : Type) (enc : TypeId × Value → H) (F : Stop.Interp) :
    ReturnsInHanded {} Tryz.checked os 5 .any ((Rows.OpenSpec.upto Rows.dotDeepSpec).pre6 enc Tryz.prog Tryz.f5 Rows.dotDeepUptoRow.domain false) (((Rows.OpenSpec.upto Rows.dotDeepSpec).at F).post enc Tryz.prog Tryz.f5 false true false false) := by
  refine law_upto (s := Rows.dotDeepSpec) (s2 := Rows.OpenSpec.upto Rows.dotDeepSpec) (k := Rows.uptoSmall) rfl (B := 4) own_Tryz started (by kernel_rfl) Tryz.func5 (OpenSpec.witness (enc := enc) (C := Tryz.checked) (s := Rows.OpenSpec.upto Rows.dotDeepSpec) (k := Rows.uptoSmall) rfl false ⟨#[], #[.slice none 0 0, .slice none 0 0, .int .i64 0], []⟩ 8 (by kernel_rfl) (by kernel_rfl) (by kernel_rfl) (x := ([.nil, .nil, .lit (.int .i64 0)], [], [])) (by kernel_rfl) rfl (by kernel_rfl)) laidOut_Tryz (by kernel_rfl) rfl rfl (by kernel_rfl) (by kernel_rfl) (fun ds h => ?_) (fun _ _ _ _ h => h) ?_
  · match ds, h with
    | [_, _, _], _ => rfl
  · intro W base args ds ps hval hA0 hkk
    have hA : DataW.TrodAll enc Tryz.prog W 0 (fun _ => true) true [22, 56, 3] args.toList ds ps := hA0
    have hval : ∀ (j : Nat) t v, (#[22, 56, 3] : Array TypeId)[j]? = some t → args[j]? = some v → Value.okWide Tryz.prog W .any base t v := hval
    obtain ⟨v0, l0, d0, e0, p0, q0, ea0, rfl, rfl, h0, hA⟩ := trodAll_cons hA
    obtain ⟨v1, l1, d1, e1, p1, q1, ea1, rfl, rfl, h1, hA⟩ := trodAll_cons hA
    obtain ⟨v2, l2, d2, e2, p2, q2, ea2, rfl, rfl, h2, hA⟩ := trodAll_cons hA
    obtain ⟨rfl, _, _⟩ := trodAll_nil hA
    subst_vars
    obtain ⟨a0, g0, b0, r0⟩ := decU_arg (K := bulk_Tryz H) (dec_t22) h0
    have k0 := hval 0 22 v0 rfl (by rw [← Array.getElem?_toList, ea0]; rfl)
    obtain ⟨a1, g1, b1, r1⟩ := decU_arg (K := bulk_Tryz H) (dec_t56) h1
    have k1 := hval 1 56 v1 rfl (by rw [← Array.getElem?_toList, ea0]; rfl)
    obtain ⟨a2, g2, b2, r2⟩ := decU_arg (K := bulk_Tryz H) (dec_t3) h2
    have k2 := hval 2 3 v2 rfl (by rw [← Array.getElem?_toList, ea0]; rfl)
    have hb : Rows.uptoBulkAll [d0, d1, d2] ≤ 1048576 := of_decide_eq_true hkk
    simp only [Rows.uptoBulkAll] at hb
    have b0 : (lsum uGClass a0 + 1) ≤ Rows.uptoBulk d0 := b0
    have b1 : (lsum uGCell a1 + 1) ≤ Rows.uptoBulk d1 := b1
    have b2 : 1 ≤ Rows.uptoBulk d2 := b2
    exact ⟨_, argsRd_all (xs := [.vs 7 (List.map eGClass a0), .vs 7 (List.map eGCell a1), .int .i64 a2]) (by rw [ea0]; exact ⟨arg_one r0 k0 (by kernel_rfl), arg_one r1 k1 (by kernel_rfl), arg_one r2 k2 (by kernel_rfl), trivial⟩), law48_DotDeep_ok (law48_DotDeep_true g0 g1 g2 (by omega))⟩
theorem dotDeep_holds : Rows.DotDeepUptoSaid :=
  OpenClaim.holds_of_cond 5 Tryz.f5 rfl rfl rfl rfl rfl rfl rfl ⟨rfl, rfl, rfl, rfl, rfl⟩ rfl rfl rfl rfl rfl (by kernel_rfl) Tryz.func5 (by kernel_rfl)
    (of_decide_eq_true (by kernel_rfl)) (by unfold Func.isWrapper; rw [if_neg (by decide +kernel)]; exact ⟨rfl, rfl⟩)
    (fun os started H enc _ F => dotDeep_lifted os started H enc F)
end Go.Proofs.YthhdlpggmmfaiaaGreat
