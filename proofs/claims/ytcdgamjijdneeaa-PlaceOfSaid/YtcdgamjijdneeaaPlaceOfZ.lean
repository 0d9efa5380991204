/- The law PlaceOf returns true for every input, and leaves its arguments as they were; no condition beyond those of the statement itself. -/
import Derived.Test.YtcdgamjijdneeaaPlaceOfL1
import Derived.Test.YtcdgamjijdneeaaPlaceOfW
import Derived.Test.YtcdgamjijdneeaaPlaceOfD
import Derived.Test.YtcdgamjijdneeaaChecked
import Derived.Test.YtcdgamjijdneeaaRows
namespace Go.Proofs.Ytcdgamjijdneeaa
open Go.ChangeShapes Go.WideShapes Go.ChangeAt Go.RowKit Go.Abs
set_option maxRecDepth 100000 in
theorem placeOf_lifted (os : Os) (started : os.Started) (H : Type) (enc : TypeId × Value → H) :
    ReturnsInHanded {} Try.checked os 4 .any (Rows.placeOfSpec.pre6 enc Try.prog Try.f4 Rows.placeOfRow.domain false) (Rows.placeOfSpec.post enc Try.prog Try.f4 false true false false) := by
  refine law_lifted (B := 4) own_Try started (by kernel_rfl) Try.func4 (ChangeSpec.witness6 (enc := enc) (C := Try.checked) false ⟨#[], #[.string ⟨#[]⟩, .int .i64 0, .agg #[.int .i64 0, .int .i64 0]], []⟩ 8 (by kernel_rfl) (by kernel_rfl) (by kernel_rfl) (by kernel_rfl)) laidOut_Try (by kernel_rfl) rfl (by kernel_rfl) (by kernel_rfl) (fun ds h => ?_) ?_
  · match ds, h with
    | [_, _, _], _ => rfl
  · intro W base args ds ps hval hA0
    have hA : DataW.TrodAll enc Try.prog W 0 (fun _ => true) true [9, 3, 27] args.toList ds ps := hA0
    have hval : ∀ (j : Nat) t v, (#[9, 3, 27] : Array TypeId)[j]? = some t → args[j]? = some v → Value.okWide Try.prog W .any base t v := hval
    obtain ⟨v0, l0, d0, e0, p0, q0, ea0, rfl, rfl, h0, hA⟩ := trodAll_cons hA
    obtain ⟨v1, l1, d1, e1, p1, q1, ea1, rfl, rfl, h1, hA⟩ := trodAll_cons hA
    obtain ⟨v2, l2, d2, e2, p2, q2, ea2, rfl, rfl, h2, hA⟩ := trodAll_cons hA
    obtain ⟨rfl, _, _⟩ := trodAll_nil hA
    subst ea2
    subst ea1
    obtain ⟨a0, g0, r0⟩ := dec_arg (dec_t9) h0
    have k0 := hval 0 9 v0 rfl (by rw [← Array.getElem?_toList, ea0]; rfl)
    obtain ⟨a1, g1, r1⟩ := dec_arg (dec_t3) h1
    have k1 := hval 1 3 v1 rfl (by rw [← Array.getElem?_toList, ea0]; rfl)
    obtain ⟨a2, g2, r2⟩ := dec_arg (dec_t27) h2
    have k2 := hval 2 27 v2 rfl (by rw [← Array.getElem?_toList, ea0]; rfl)
    exact ⟨_, argsRd_all (xs := [.str a0, .int .i64 a1, .agg ((eA2 eI) a2)]) (by rw [ea0]; exact ⟨arg_one r0 k0 (by kernel_rfl), arg_one r1 k1 (by kernel_rfl), arg_agg r2 k2 (by kernel_rfl), trivial⟩), law01_PlaceOf_ok (law01_PlaceOf_true g0 g1 g2)⟩
theorem placeOf_holds : Rows.PlaceOfSaid :=
  OpenClaim.holds_of_wide 4 Try.f4 rfl rfl rfl rfl rfl rfl rfl ⟨rfl, rfl, rfl, rfl, rfl⟩ rfl rfl rfl rfl rfl (by kernel_rfl) Try.func4 (by kernel_rfl)
    (of_decide_eq_true (by kernel_rfl)) (by unfold Func.isWrapper; rw [if_neg (by decide +kernel)]; exact ⟨rfl, rfl⟩)
    (fun os started H enc _ => placeOf_lifted os started H enc)
end Go.Proofs.Ytcdgamjijdneeaa
