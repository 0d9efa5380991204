/- The law ShapeOrder returns true for every input, and leaves its arguments as they were; no condition beyond those of the statement itself. -/
import Derived.Test.YtkmaieldmcjbfaaDoorShapeOrderL1
import Derived.Test.YtkmaieldmcjbfaaDoorShapeOrderW
import Derived.Test.YtkmaieldmcjbfaaDoorShapeOrderD
import Derived.Test.YtkmaieldmcjbfaaDoorChecked
import Derived.Test.YtkmaieldmcjbfaaDoorCards
import Derived.Test.YtkmaieldmcjbfaaDoorTie
import Derived.SevenTiedAt
namespace Go.Proofs.YtkmaieldmcjbfaaDoor
open Go.ChangeShapes Go.WideShapes Go.ChangeAt Go.RowKit Go.Abs
set_option maxRecDepth 100000 in
theorem shapeOrder_globs (W : World) (h : laidMetH Tryd.prog Rows.shapeOrderRow.laid W) : GlobOk globs_Tryd W (fun _ => False) := (globOk_cons (glob_rd (T := 107) (name := "demesne/word.words") (by kernel_rfl) (by kernel_rfl) (rdD_array (ds := [(.lit (.string [99, 108, 97, 115, 115])), (.lit (.string [101, 120, 116, 101, 110, 100, 115])), (.lit (.string [114, 101, 112])), (.lit (.string [112, 101, 101, 114])), (.lit (.string [119, 111, 114, 108, 100])), (.lit (.string [97, 110, 121])), (.lit (.string [117, 110, 105, 113, 117, 101])), (.lit (.string [112, 117, 114, 101])), (.lit (.string [118, 111, 105, 100])), (.lit (.string [105, 110, 116])), (.lit (.string [105, 102])), (.lit (.string [101, 108, 115, 101])), (.lit (.string [119, 104, 105, 108, 101])), (.lit (.string [114, 101, 116, 117, 114, 110])), (.lit (.string [110, 101, 119])), (.lit (.string [109, 111, 118, 101])), (.lit (.string [100, 101, 108, 101, 116, 101])), (.lit (.string [116, 104, 105, 115])), (.lit (.string [110, 117, 108, 108])), (.lit (.string [105, 110, 112, 117, 116])), (.lit (.string [110, 105, 108])), (.lit (.string [115, 97, 109, 101])), (.lit (.string [99, 97, 115, 116]))]) (E := 9) (n := 23) (sz := 1) (rs := [[.str [99, 108, 97, 115, 115]], [.str [101, 120, 116, 101, 110, 100, 115]], [.str [114, 101, 112]], [.str [112, 101, 101, 114]], [.str [119, 111, 114, 108, 100]], [.str [97, 110, 121]], [.str [117, 110, 105, 113, 117, 101]], [.str [112, 117, 114, 101]], [.str [118, 111, 105, 100]], [.str [105, 110, 116]], [.str [105, 102]], [.str [101, 108, 115, 101]], [.str [119, 104, 105, 108, 101]], [.str [114, 101, 116, 117, 114, 110]], [.str [110, 101, 119]], [.str [109, 111, 118, 101]], [.str [100, 101, 108, 101, 116, 101]], [.str [116, 104, 105, 115]], [.str [110, 117, 108, 108]], [.str [105, 110, 112, 117, 116]], [.str [110, 105, 108]], [.str [115, 97, 109, 101]], [.str [99, 97, 115, 116]]]) (by kernel_rfl) rfl (by decide) ⟨(rdD_str (by kernel_rfl) _), (rdD_str (by kernel_rfl) _), (rdD_str (by kernel_rfl) _), (rdD_str (by kernel_rfl) _), (rdD_str (by kernel_rfl) _), (rdD_str (by kernel_rfl) _), (rdD_str (by kernel_rfl) _), (rdD_str (by kernel_rfl) _), (rdD_str (by kernel_rfl) _), (rdD_str (by kernel_rfl) _), (rdD_str (by kernel_rfl) _), (rdD_str (by kernel_rfl) _), (rdD_str (by kernel_rfl) _), (rdD_str (by kernel_rfl) _), (rdD_str (by kernel_rfl) _), (rdD_str (by kernel_rfl) _), (rdD_str (by kernel_rfl) _), (rdD_str (by kernel_rfl) _), (rdD_str (by kernel_rfl) _), (rdD_str (by kernel_rfl) _), (rdD_str (by kernel_rfl) _), (rdD_str (by kernel_rfl) _), (rdD_str (by kernel_rfl) _), trivial⟩) (laid_atH (by kernel_rfl) h ("demesne/word.words", Rows.laid_demesne_word_words) (.head _)) (by decide)) globOk_nil)
theorem shapeOrder_met (os : Os) (args : Array Value) : laidMetH Tryd.prog Rows.shapeOrderRow.laid ((World.doorLaid Tryd.prog 14 os).forCall (fun _ _ => 0) ⟨#[], args, []⟩).memory :=
  laidMetH_of_parts3 (fuel := 8) (laidMet_of_run' 8 (by kernel_rfl) (by kernel_rfl)) (by kernel_rfl) (by kernel_rfl)
set_option maxRecDepth 100000 in
theorem shapeOrder_lifted (os : Os) (started : os.Started) (H : Type) (enc : TypeId × Value → H) :
    ReturnsInHanded {} Tryd.checked os 9 .any (fun w args => (Rows.shapeOrderSpec.pre enc Tryd.prog Tryd.f9 [] false w args ∧ laidMetH Tryd.prog Rows.shapeOrderRow.laid w) ∧ sizedMet enc Tryd.prog Tryd.f9 (OpenSpec.ofChange Rows.shapeOrderSpec) false w args) (Rows.shapeOrderSpec.post enc Tryd.prog Tryd.f9 false true false false) := by
  refine law_lifted_laid (G := globs_Tryd) (B := 4) (L := Rows.shapeOrderRow.laid) own_Tryd started (by kernel_rfl) Tryd.func9 (ChangeSpec.witness_shaped (enc := enc) (C := Tryd.checked) (os := os) (X := fun w _ => laidMetH Tryd.prog Rows.shapeOrderRow.laid w) false (World.doorLaid Tryd.prog 14 os) #[.slice none 0 0, .agg #[.int .i64 0, .string ⟨#[]⟩, .int .i64 0, .int .i64 0, .int .i64 0, .int .i64 0, .int .i64 0, .int .i64 0, .int .i64 0, .int .i64 0, .int .i64 0, .int .i64 0, .string ⟨#[]⟩, .int .i64 0, .int .i64 0, .int .i64 0, .int .i64 0, .int .i64 0, .int .i64 0, .int .i64 0, .int .i64 0, .int .i64 0, .int .i64 0, .string ⟨#[]⟩, .int .i64 0, .int .i64 0, .int .i64 0, .int .i64 0, .int .i64 0, .int .i64 0, .int .i64 0, .int .i64 0, .int .i64 0]] 8 rfl (World.shaped_of_RefB (by kernel_rfl) (by kernel_rfl)) (by kernel_rfl) (by kernel_rfl) (by kernel_rfl) (shapeOrder_met os _)) laidOut_Tryd (by kernel_rfl) rfl (by kernel_rfl) (by kernel_rfl) (fun ds h => ?_) (fun W h => shapeOrder_globs W h) ?_
  · match ds, h with
    | [_, _], _ => rfl
  · intro W base args ds ps hval hA0
    have hA : DataW.TrodAll enc Tryd.prog W 0 (fun _ => true) true [58, 61] args.toList ds ps := hA0
    have hval : ∀ (j : Nat) t v, (#[58, 61] : Array TypeId)[j]? = some t → args[j]? = some v → Value.okWide Tryd.prog W .any base t v := hval
    obtain ⟨v0, l0, d0, e0, p0, q0, ea0, rfl, rfl, h0, hA⟩ := trodAll_cons hA
    obtain ⟨v1, l1, d1, e1, p1, q1, ea1, rfl, rfl, h1, hA⟩ := trodAll_cons hA
    obtain ⟨rfl, _, _⟩ := trodAll_nil hA
    subst ea1
    obtain ⟨a0, g0, r0⟩ := dec_arg (dec_t58) h0
    have k0 := hval 0 58 v0 rfl (by rw [← Array.getElem?_toList, ea0]; rfl)
    obtain ⟨a1, g1, r1⟩ := dec_arg (dec_t61) h1
    have k1 := hval 1 61 v1 rfl (by rw [← Array.getElem?_toList, ea0]; rfl)
    exact ⟨_, argsRd_all (xs := [.vs 7 (List.map eGClass a0), .agg ((eA3 eGType) a1)]) (by rw [ea0]; exact ⟨arg_one r0 k0 (by kernel_rfl), arg_agg r1 k1 (by kernel_rfl), trivial⟩), law19_ShapeOrder_ok (law19_ShapeOrder_true g0 g1)⟩
theorem shapeOrder_row_holds : Rows.ShapeOrderSaid :=
  OpenClaim.holds_of_wide 9 Tryd.f9 rfl rfl rfl rfl rfl rfl rfl ⟨rfl, rfl, rfl, rfl, rfl⟩ rfl rfl rfl rfl rfl (by kernel_rfl) Tryd.func9 (by kernel_rfl)
    (of_decide_eq_true (by kernel_rfl)) (by unfold Func.isWrapper; rw [if_neg (by decide +kernel)]; exact ⟨rfl, rfl⟩)
    (fun os started H enc _ => shapeOrder_lifted os started H enc)
theorem shapeOrder_holds : Rows.ShapeOrderCardSaid :=
  Claim7.holds_tied_plain_at .later [] [.widerDeep] true (true, "632a13ede9a279907a2262363d48c595c8ef8457bff28589c68c91b97bcb1f85") false shapeOrder_row_holds (fun _ h => by cases h) (by kernel_rfl) (fun _ h => by cases h) shapeOrder_row_tie rfl ⟨rfl, rfl⟩ (by kernel_rfl) rfl
    (fun f fn hf hfn => by
      obtain rfl : f = 9 := Option.some.inj ((show Tryd.prog.funcNamed "demesne/demesnelaw19.ShapeOrder" = some 9 by kernel_rfl).symm.trans hf) |>.symm
      obtain rfl : fn = Tryd.f9 := (Option.some.inj (Tryd.func9.symm.trans hfn)).symm
      exact ⟨by kernel_rfl, fun j t ht => by
        have hm : t ∈ [58, 61] := by have := Array.mem_of_getElem? (show (#[58, 61] : Array TypeId)[j]? = some t from ht); simpa using this
        have hall : ([58, 61].all fun u => !Tryd.prog.wantsStandIn u) = true := by kernel_rfl
        exact (show Tryd.prog.wantsStandIn t = false by simpa using List.all_eq_true.1 hall t hm)⟩)
    (by kernel_rfl)
end Go.Proofs.YtkmaieldmcjbfaaDoor
