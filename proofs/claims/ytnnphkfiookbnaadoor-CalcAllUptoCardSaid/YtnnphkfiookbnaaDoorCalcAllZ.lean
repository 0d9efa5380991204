/- The law CalcAll returns true for every input, and leaves its arguments as they were; no condition beyond those of the statement itself. -/
import Derived.Test.YtnnphkfiookbnaaDoorCalcAllL1
import Derived.Test.YtnnphkfiookbnaaDoorCalcAllW
import Derived.Test.YtnnphkfiookbnaaDoorCalcAllD
import Derived.Test.YtnnphkfiookbnaaDoorChecked
import Derived.Test.YtnnphkfiookbnaaDoorCards
import Derived.Test.YtnnphkfiookbnaaDoorTie
import Derived.SevenTiedAt
namespace Go.Proofs.YtnnphkfiookbnaaDoor
open Go.ChangeShapes Go.WideShapes Go.ChangeAt Go.RowKit Go.Abs
set_option maxRecDepth 100000 in
theorem calcAll_globs (W : World) (h : laidMetH Tryd.prog Rows.calcAllUptoRow.laid W) : GlobOk globs_Tryd W (fun _ => False) := (globOk_cons (glob_rd (T := 177) (name := "demesne/word.words") (by kernel_rfl) (by kernel_rfl) (rdD_array (ds := [(.lit (.string [99, 108, 97, 115, 115])), (.lit (.string [101, 120, 116, 101, 110, 100, 115])), (.lit (.string [114, 101, 112])), (.lit (.string [112, 101, 101, 114])), (.lit (.string [119, 111, 114, 108, 100])), (.lit (.string [97, 110, 121])), (.lit (.string [117, 110, 105, 113, 117, 101])), (.lit (.string [112, 117, 114, 101])), (.lit (.string [118, 111, 105, 100])), (.lit (.string [105, 110, 116])), (.lit (.string [105, 102])), (.lit (.string [101, 108, 115, 101])), (.lit (.string [119, 104, 105, 108, 101])), (.lit (.string [114, 101, 116, 117, 114, 110])), (.lit (.string [110, 101, 119])), (.lit (.string [109, 111, 118, 101])), (.lit (.string [100, 101, 108, 101, 116, 101])), (.lit (.string [116, 104, 105, 115])), (.lit (.string [110, 117, 108, 108])), (.lit (.string [105, 110, 112, 117, 116])), (.lit (.string [110, 105, 108])), (.lit (.string [115, 97, 109, 101])), (.lit (.string [99, 97, 115, 116]))]) (E := 9) (n := 23) (sz := 1) (rs := [[.str [99, 108, 97, 115, 115]], [.str [101, 120, 116, 101, 110, 100, 115]], [.str [114, 101, 112]], [.str [112, 101, 101, 114]], [.str [119, 111, 114, 108, 100]], [.str [97, 110, 121]], [.str [117, 110, 105, 113, 117, 101]], [.str [112, 117, 114, 101]], [.str [118, 111, 105, 100]], [.str [105, 110, 116]], [.str [105, 102]], [.str [101, 108, 115, 101]], [.str [119, 104, 105, 108, 101]], [.str [114, 101, 116, 117, 114, 110]], [.str [110, 101, 119]], [.str [109, 111, 118, 101]], [.str [100, 101, 108, 101, 116, 101]], [.str [116, 104, 105, 115]], [.str [110, 117, 108, 108]], [.str [105, 110, 112, 117, 116]], [.str [110, 105, 108]], [.str [115, 97, 109, 101]], [.str [99, 97, 115, 116]]]) (by kernel_rfl) rfl (by decide) ⟨(rdD_str (by kernel_rfl) _), (rdD_str (by kernel_rfl) _), (rdD_str (by kernel_rfl) _), (rdD_str (by kernel_rfl) _), (rdD_str (by kernel_rfl) _), (rdD_str (by kernel_rfl) _), (rdD_str (by kernel_rfl) _), (rdD_str (by kernel_rfl) _), (rdD_str (by kernel_rfl) _), (rdD_str (by kernel_rfl) _), (rdD_str (by kernel_rfl) _), (rdD_str (by kernel_rfl) _), (rdD_str (by kernel_rfl) _), (rdD_str (by kernel_rfl) _), (rdD_str (by kernel_rfl) _), (rdD_str (by kernel_rfl) _), (rdD_str (by kernel_rfl) _), (rdD_str (by kernel_rfl) _), (rdD_str (by kernel_rfl) _), (rdD_str (by kernel_rfl) _), (rdD_str (by kernel_rfl) _), (rdD_str (by kernel_rfl) _), (rdD_str (by kernel_rfl) _), trivial⟩) (laid_atH (by kernel_rfl) h ("demesne/word.words", Rows.laid_demesne_word_words) (.head _)) (by decide)) globOk_nil)
theorem calcAll_met (os : Os) (args : Array Value) : laidMetH Tryd.prog Rows.calcAllUptoRow.laid ((World.doorLaid Tryd.prog 24 os).forCall (fun _ _ => 0) ⟨#[], args, []⟩).memory :=
  laidMetH_of_parts3 (fuel := 8) (laidMet_of_run' 8 (by kernel_rfl) (by kernel_rfl)) (by kernel_rfl) (by kernel_rfl)
def bulk_Tryd (H : Type) : Bk H := { bk := Rows.uptoBulk, al := Rows.uptoBulkAll, str := fun s => by simp [Rows.uptoBulk], one := fun d => by (cases d <;> first | (simp [Rows.uptoBulk]; done) | (rename_i l; cases l <;> simp [Rows.uptoBulk])), sl := fun e s => by (simp only [Rows.uptoBulk]; omega), ag := fun l => by simp [Rows.uptoBulk], nil := by simp [Rows.uptoBulkAll], cons := fun _ _ => by simp [Rows.uptoBulkAll] }
set_option maxRecDepth 100000 in
theorem calcAll_lifted (os : Os) (started : os.Started) (H : Type) (enc : TypeId × Value → H) (F : Stop.Interp) :
    ReturnsInHanded {} Tryd.checked os 4 .any ((Rows.OpenSpec.upto Rows.calcAllSpec).preRow enc Tryd.prog Tryd.f4 Rows.calcAllUptoRow.domain false Rows.calcAllUptoRow.laid) (((Rows.OpenSpec.upto Rows.calcAllSpec).at F).post enc Tryd.prog Tryd.f4 false true false false) := by
  have hx : ∃ places, DataW.whole enc Tryd.prog ((World.doorLaid Tryd.prog 24 os).forCall (fun _ _ => 0) ⟨#[], #[.slice none 0 0, .agg #[.int .i64 0, .string ⟨#[]⟩, .string ⟨#[]⟩, .slice none 0 0, .int .i64 0, .int .i64 0, .slice none 0 0], .slice none 0 0], []⟩).memory Tryd.f4.params.toList Rows.calcAllSpec.vars false (#[.slice none 0 0, .agg #[.int .i64 0, .string ⟨#[]⟩, .string ⟨#[]⟩, .slice none 0 0, .int .i64 0, .int .i64 0, .slice none 0 0], .slice none 0 0] : Array Value).toList 8 = some ([.nil, .agg [.agg [.lit (.int .i64 0), .lit (.string []), .lit (.string []), .nil, .lit (.int .i64 0), .lit (.int .i64 0)], .nil], .nil], [], places) := ⟨[], by kernel_rfl⟩
  obtain ⟨places, hx⟩ := hx
  refine law_upto_laid (G := globs_Tryd) (s := Rows.calcAllSpec) (s2 := Rows.OpenSpec.upto Rows.calcAllSpec) (k := Rows.uptoSmall) rfl (B := 4) (L := Rows.calcAllUptoRow.laid) own_Tryd started (by kernel_rfl) Tryd.func4 (witness_row_at (enc := enc) (C := Tryd.checked) false (World.doorLaid Tryd.prog 24 os) #[.slice none 0 0, .agg #[.int .i64 0, .string ⟨#[]⟩, .string ⟨#[]⟩, .slice none 0 0, .int .i64 0, .int .i64 0, .slice none 0 0], .slice none 0 0] rfl (by kernel_rfl) (by kernel_rfl) (by kernel_rfl) (OpenSpec.preRow_of_cond 8 hx (by kernel_rfl) (fun k hk => by cases hk; kernel_rfl) (by kernel_rfl) (calcAll_met os _))) laidOut_Tryd (by kernel_rfl) rfl rfl (by kernel_rfl) (by kernel_rfl) (fun ds h => ?_) (fun _ _ _ _ h => h) (fun W h => calcAll_globs W h) ?_
  · match ds, h with
    | [_, _, _], _ => rfl
  · intro W base args ds ps hval hA0 hkk
    have hA : DataW.TrodAll enc Tryd.prog W 0 (fun _ => true) true [22, 28, 29] args.toList ds ps := hA0
    have hval : ∀ (j : Nat) t v, (#[22, 28, 29] : Array TypeId)[j]? = some t → args[j]? = some v → Value.okWide Tryd.prog W .any base t v := hval
    obtain ⟨v0, l0, d0, e0, p0, q0, ea0, rfl, rfl, h0, hA⟩ := trodAll_cons hA
    obtain ⟨v1, l1, d1, e1, p1, q1, ea1, rfl, rfl, h1, hA⟩ := trodAll_cons hA
    obtain ⟨v2, l2, d2, e2, p2, q2, ea2, rfl, rfl, h2, hA⟩ := trodAll_cons hA
    obtain ⟨rfl, _, _⟩ := trodAll_nil hA
    subst_vars
    obtain ⟨a0, g0, b0, r0⟩ := decU_arg (K := bulk_Tryd H) (dec_t22) h0
    have k0 := hval 0 22 v0 rfl (by rw [← Array.getElem?_toList, ea0]; rfl)
    obtain ⟨a1, g1, b1, r1⟩ := decU_arg (K := bulk_Tryd H) (dec_t28) h1
    have k1 := hval 1 28 v1 rfl (by rw [← Array.getElem?_toList, ea0]; rfl)
    obtain ⟨a2, g2, b2, r2⟩ := decU_arg (K := bulk_Tryd H) (dec_t29) h2
    have k2 := hval 2 29 v2 rfl (by rw [← Array.getElem?_toList, ea0]; rfl)
    have hb : Rows.uptoBulkAll [d0, d1, d2] ≤ 1048576 := of_decide_eq_true hkk
    simp only [Rows.uptoBulkAll] at hb
    have b0 : (lsum uGClass a0 + 1) ≤ Rows.uptoBulk d0 := b0
    have b1 : uGHere_law39 a1 ≤ Rows.uptoBulk d1 := b1
    have b2 : (lsum uGExpr a2 + 1) ≤ Rows.uptoBulk d2 := b2
    exact ⟨_, argsRd_all (xs := [.vs 7 (List.map eGClass a0), .agg (eGHere_law39 a1), .vs 4 (eLGExpr a2)]) (by rw [ea0]; exact ⟨arg_one r0 k0 (by kernel_rfl), arg_agg r1 k1 (by kernel_rfl), arg_one (vsR eLGExpr_map r2) k2 (by kernel_rfl), trivial⟩), law39_CalcAll_ok (law39_CalcAll_true g0 g1 g2 (by omega))⟩
theorem calcAll_row_holds : Rows.CalcAllUptoSaid :=
  OpenClaim.holds_of_cond 4 Tryd.f4 rfl rfl rfl rfl rfl rfl rfl ⟨rfl, rfl, rfl, rfl, rfl⟩ rfl rfl rfl rfl rfl (by kernel_rfl) Tryd.func4 (by kernel_rfl)
    (of_decide_eq_true (by kernel_rfl)) (by unfold Func.isWrapper; rw [if_neg (by decide +kernel)]; exact ⟨rfl, rfl⟩)
    (fun os started H enc _ F => by rw [OpenClaim.pre_eq_preRow]; exact calcAll_lifted os started H enc F)
theorem calcAll_holds : Rows.CalcAllUptoCardSaid :=
  Claim7.holds_tied_plain_at .later [] [.widerDeep] true (true, "592343231a83734f064e044b4eb4ae56ede2c5eacb10ceb7c041f4d32bcfcd30") false calcAll_row_holds (fun _ h => by cases h) (by kernel_rfl) (fun _ h => by cases h) calcAllUpto_row_tie rfl ⟨rfl, rfl⟩ (by kernel_rfl) rfl
    (fun f fn hf hfn => by
      obtain rfl : f = 4 := Option.some.inj ((show Tryd.prog.funcNamed "demesne/demesnelaw39.CalcAll" = some 4 by kernel_rfl).symm.trans hf) |>.symm
      obtain rfl : fn = Tryd.f4 := (Option.some.inj (Tryd.func4.symm.trans hfn)).symm
      exact ⟨by kernel_rfl, fun j t ht => by
        have hm : t ∈ [22, 28, 29] := by have := Array.mem_of_getElem? (show (#[22, 28, 29] : Array TypeId)[j]? = some t from ht); simpa using this
        have hall : ([22, 28, 29].all fun u => !Tryd.prog.wantsStandIn u) = true := by kernel_rfl
        exact (show Tryd.prog.wantsStandIn t = false by simpa using List.all_eq_true.1 hall t hm)⟩)
    (by kernel_rfl)
end Go.Proofs.YtnnphkfiookbnaaDoor
