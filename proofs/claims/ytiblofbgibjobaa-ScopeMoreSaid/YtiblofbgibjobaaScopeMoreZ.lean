/- The law ScopeMore returns true for every input, and leaves its arguments as they were; no condition beyond those of the statement itself. -/
import Derived.Test.YtiblofbgibjobaaScopeMoreL1
import Derived.Test.YtiblofbgibjobaaScopeMoreW
import Derived.Test.YtiblofbgibjobaaScopeMoreD
import Derived.Test.YtiblofbgibjobaaChecked
import Derived.Test.YtiblofbgibjobaaRows
namespace Go.Proofs.Ytiblofbgibjobaa
open Go.ChangeShapes Go.WideShapes Go.ChangeAt Go.RowKit Go.Abs
set_option maxRecDepth 100000 in
theorem scopeMore_lifted (os : Os) (started : os.Started) (H : Type) (enc : TypeId × Value → H) :
    ReturnsInHanded {} Try.checked os 4 .any (Rows.scopeMoreSpec.pre6 enc Try.prog Try.f4 Rows.scopeMoreRow.domain false) (Rows.scopeMoreSpec.post enc Try.prog Try.f4 false true false false) := by
  refine law_lifted (B := 4) own_Try started (by kernel_rfl) Try.func4 (ChangeSpec.witness6 (enc := enc) (C := Try.checked) false ⟨#[], #[.agg #[.string ⟨#[]⟩, .bool false, .int .i64 0, .string ⟨#[]⟩, .int .i64 0, .int .i64 0, .int .i64 0, .int .i64 0, .int .i64 0, .int .i64 0, .int .i64 0, .int .i64 0, .int .i64 0, .slice none 0 0, .slice none 0 0, .slice none 0 0, .int .i64 0], .agg #[.string ⟨#[]⟩, .int .i64 0, .string ⟨#[]⟩, .int .i64 0, .int .i64 0, .int .i64 0, .int .i64 0, .int .i64 0, .int .i64 0, .int .i64 0, .int .i64 0, .int .i64 0, .int .i64 0], .string ⟨#[]⟩], []⟩ 8 (by kernel_rfl) (by kernel_rfl) (by kernel_rfl) (by kernel_rfl)) laidOut_Try (by kernel_rfl) rfl (by kernel_rfl) (by kernel_rfl) (fun ds h => ?_) ?_
  · match ds, h with
    | [_, _, _], _ => rfl
  · intro W base args ds ps hval hA0
    have hA : DataW.TrodAll enc Try.prog W 0 (fun _ => true) true [35, 44, 9] args.toList ds ps := hA0
    have hval : ∀ (j : Nat) t v, (#[35, 44, 9] : Array TypeId)[j]? = some t → args[j]? = some v → Value.okWide Try.prog W .any base t v := hval
    obtain ⟨v0, l0, d0, e0, p0, q0, ea0, rfl, rfl, h0, hA⟩ := trodAll_cons hA
    obtain ⟨v1, l1, d1, e1, p1, q1, ea1, rfl, rfl, h1, hA⟩ := trodAll_cons hA
    obtain ⟨v2, l2, d2, e2, p2, q2, ea2, rfl, rfl, h2, hA⟩ := trodAll_cons hA
    obtain ⟨rfl, _, _⟩ := trodAll_nil hA
    subst ea2
    subst ea1
    obtain ⟨a0, g0, r0⟩ := dec_arg (dec_t35) h0
    have k0 := hval 0 35 v0 rfl (by rw [← Array.getElem?_toList, ea0]; rfl)
    obtain ⟨a1, g1, r1⟩ := dec_arg (dec_t44) h1
    have k1 := hval 1 44 v1 rfl (by rw [← Array.getElem?_toList, ea0]; rfl)
    obtain ⟨a2, g2, r2⟩ := dec_arg (dec_t9) h2
    have k2 := hval 2 9 v2 rfl (by rw [← Array.getElem?_toList, ea0]; rfl)
    exact ⟨_, argsRd_all (xs := [.agg (eGMethod a0), .agg (eGVar a1), .str a2]) (by rw [ea0]; exact ⟨arg_agg r0 k0 (by kernel_rfl), arg_agg r1 k1 (by kernel_rfl), arg_one r2 k2 (by kernel_rfl), trivial⟩), law18_ScopeMore_ok (law18_ScopeMore_true g0 g1 g2)⟩
theorem scopeMore_holds : Rows.ScopeMoreSaid :=
  OpenClaim.holds_of_wide 4 Try.f4 rfl rfl rfl rfl rfl rfl rfl ⟨rfl, rfl, rfl, rfl, rfl⟩ rfl rfl rfl rfl rfl (by kernel_rfl) Try.func4 (by kernel_rfl)
    (of_decide_eq_true (by kernel_rfl)) (by unfold Func.isWrapper; rw [if_neg (by decide +kernel)]; exact ⟨rfl, rfl⟩)
    (fun os started H enc _ => scopeMore_lifted os started H enc)
end Go.Proofs.Ytiblofbgibjobaa
