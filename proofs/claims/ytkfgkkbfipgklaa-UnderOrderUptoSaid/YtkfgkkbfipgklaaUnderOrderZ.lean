/- The law UnderOrder returns true for every input, and leaves its arguments as they were; no condition beyond those of the statement itself. -/
import Derived.Test.YtkfgkkbfipgklaaUnderOrderL1
import Derived.Test.YtkfgkkbfipgklaaUnderOrderW
import Derived.Test.YtkfgkkbfipgklaaUnderOrderD
import Derived.Test.YtkfgkkbfipgklaaChecked
import Derived.Test.YtkfgkkbfipgklaaRows
namespace Go.Proofs.Ytkfgkkbfipgklaa
open Go.ChangeShapes Go.WideShapes Go.ChangeAt Go.RowKit Go.Abs
def bulk_Try (H : Type) : Bk H := { bk := Rows.uptoBulk, al := Rows.uptoBulkAll, str := fun s => by simp [Rows.uptoBulk], one := fun d => by (cases d <;> first | (simp [Rows.uptoBulk]; done) | (rename_i l; cases l <;> simp [Rows.uptoBulk])), sl := fun e s => by (simp only [Rows.uptoBulk]; omega), ag := fun l => by simp [Rows.uptoBulk], nil := by simp [Rows.uptoBulkAll], cons := fun _ _ => by simp [Rows.uptoBulkAll] }
set_option maxRecDepth 100000 in
theorem underOrder_lifted (os : Os) (started : os.Started) (H : Type) (enc : TypeId × Value → H) (F : Stop.Interp) :
    ReturnsInHanded {} Try.checked os 3 .any ((Rows.OpenSpec.upto Rows.underOrderSpec).pre6 enc Try.prog Try.f3 Rows.underOrderUptoRow.domain false) (((Rows.OpenSpec.upto Rows.underOrderSpec).at F).post enc Try.prog Try.f3 false true false false) := by
  refine law_upto (s := Rows.underOrderSpec) (s2 := Rows.OpenSpec.upto Rows.underOrderSpec) (k := Rows.uptoSmall) rfl (B := 4) own_Try started (by kernel_rfl) Try.func3 (OpenSpec.witness (enc := enc) (C := Try.checked) (s := Rows.OpenSpec.upto Rows.underOrderSpec) (k := Rows.uptoSmall) rfl false ⟨#[], #[.slice none 0 0, .agg #[.int .i64 0, .string ⟨#[]⟩, .int .i64 0, .int .i64 0, .int .i64 0, .int .i64 0, .int .i64 0, .int .i64 0, .int .i64 0, .int .i64 0, .int .i64 0, .int .i64 0, .string ⟨#[]⟩, .int .i64 0, .int .i64 0, .int .i64 0, .int .i64 0, .int .i64 0, .int .i64 0, .int .i64 0, .int .i64 0, .int .i64 0, .int .i64 0, .string ⟨#[]⟩, .int .i64 0, .int .i64 0, .int .i64 0, .int .i64 0, .int .i64 0, .int .i64 0, .int .i64 0, .int .i64 0, .int .i64 0]], []⟩ 8 (by kernel_rfl) (by kernel_rfl) (by kernel_rfl) (x := ([.nil, .agg [.agg [.lit (.int .i64 0), .lit (.string []), .lit (.int .i64 0), .agg [.agg [.lit (.int .i64 0), .lit (.int .i64 0)], .agg [.lit (.int .i64 0), .lit (.int .i64 0)], .agg [.lit (.int .i64 0), .lit (.int .i64 0)], .agg [.lit (.int .i64 0), .lit (.int .i64 0)]]], .agg [.lit (.int .i64 0), .lit (.string []), .lit (.int .i64 0), .agg [.agg [.lit (.int .i64 0), .lit (.int .i64 0)], .agg [.lit (.int .i64 0), .lit (.int .i64 0)], .agg [.lit (.int .i64 0), .lit (.int .i64 0)], .agg [.lit (.int .i64 0), .lit (.int .i64 0)]]], .agg [.lit (.int .i64 0), .lit (.string []), .lit (.int .i64 0), .agg [.agg [.lit (.int .i64 0), .lit (.int .i64 0)], .agg [.lit (.int .i64 0), .lit (.int .i64 0)], .agg [.lit (.int .i64 0), .lit (.int .i64 0)], .agg [.lit (.int .i64 0), .lit (.int .i64 0)]]]]], [], [])) (by kernel_rfl) rfl (by kernel_rfl)) laidOut_Try (by kernel_rfl) rfl rfl (by kernel_rfl) (by kernel_rfl) (fun ds h => ?_) (fun _ _ _ _ h => h) ?_
  · match ds, h with
    | [_, _], _ => rfl
  · intro W base args ds ps hval hA0 hkk
    have hA : DataW.TrodAll enc Try.prog W 0 (fun _ => true) true [22, 28] args.toList ds ps := hA0
    have hval : ∀ (j : Nat) t v, (#[22, 28] : Array TypeId)[j]? = some t → args[j]? = some v → Value.okWide Try.prog W .any base t v := hval
    obtain ⟨v0, l0, d0, e0, p0, q0, ea0, rfl, rfl, h0, hA⟩ := trodAll_cons hA
    obtain ⟨v1, l1, d1, e1, p1, q1, ea1, rfl, rfl, h1, hA⟩ := trodAll_cons hA
    obtain ⟨rfl, _, _⟩ := trodAll_nil hA
    subst_vars
    obtain ⟨a0, g0, b0, r0⟩ := decU_arg (K := bulk_Try H) (dec_t22) h0
    have k0 := hval 0 22 v0 rfl (by rw [← Array.getElem?_toList, ea0]; rfl)
    obtain ⟨a1, g1, b1, r1⟩ := decU_arg (K := bulk_Try H) (dec_t28) h1
    have k1 := hval 1 28 v1 rfl (by rw [← Array.getElem?_toList, ea0]; rfl)
    have hb : Rows.uptoBulkAll [d0, d1] ≤ 1048576 := of_decide_eq_true hkk
    simp only [Rows.uptoBulkAll] at hb
    have b0 : (lsum uGClass a0 + 1) ≤ Rows.uptoBulk d0 := b0
    have b1 : (uGType a1.a0 + (uGType a1.a1 + (uGType a1.a2 + (0))) + 1) ≤ Rows.uptoBulk d1 := b1
    exact ⟨_, argsRd_all (xs := [.vs 7 (List.map eGClass a0), .agg ((eA3 eGType) a1)]) (by rw [ea0]; exact ⟨arg_one r0 k0 (by kernel_rfl), arg_agg r1 k1 (by kernel_rfl), trivial⟩), law27_UnderOrder_ok (law27_UnderOrder_true g0 g1 (by omega))⟩
theorem underOrder_holds : Rows.UnderOrderUptoSaid :=
  OpenClaim.holds_of_cond 3 Try.f3 rfl rfl rfl rfl rfl rfl rfl ⟨rfl, rfl, rfl, rfl, rfl⟩ rfl rfl rfl rfl rfl (by kernel_rfl) Try.func3 (by kernel_rfl)
    (of_decide_eq_true (by kernel_rfl)) (by unfold Func.isWrapper; rw [if_neg (by decide +kernel)]; exact ⟨rfl, rfl⟩)
    (fun os started H enc _ F => underOrder_lifted os started H enc F)
end Go.Proofs.Ytkfgkkbfipgklaa
