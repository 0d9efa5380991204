/- The law EventBack returns true for every input, and leaves its arguments as they were; no condition beyond those of the statement itself. -/
import Derived.Test.YtccladleehbmhaaDoorEventBackL1
import Derived.Test.YtccladleehbmhaaDoorEventBackW
import Derived.Test.YtccladleehbmhaaDoorEventBackD
import Derived.Test.YtccladleehbmhaaDoorChecked
import Derived.Test.YtccladleehbmhaaDoorCards
import Derived.Test.YtccladleehbmhaaDoorTie
import Derived.SevenTiedAt
import Derived.Lay
import Derived.MakeChecks
namespace Go.Proofs.YtccladleehbmhaaDoor
open Go.ChangeShapes Go.WideShapes Go.ChangeAt Go.RowKit Go.Abs
set_option maxRecDepth 100000 in
set_option maxHeartbeats 4000000 in
theorem eventBack_globs (W : World) (h : laidMetH Tryd.prog Rows.eventBackRow.laid W) : GlobOk globs_Tryd W (fun _ => False) := (globOk_cons (glob_rd (T := 69) (name := "strings.asciiSpace") (by kernel_rfl) (by kernel_rfl) (rdD_ints (n := 256) (E := 5) (k := .u8) [0, 0, 0, 0, 0, 0, 0, 0, 0, 1, 1, 1, 1, 1, 0, 0, 0, 0, 0, 0, 0, 0, 0, 0, 0, 0, 0, 0, 0, 0, 0, 0, 1, 0, 0, 0, 0, 0, 0, 0, 0, 0, 0, 0, 0, 0, 0, 0, 0, 0, 0, 0, 0, 0, 0, 0, 0, 0, 0, 0, 0, 0, 0, 0, 0, 0, 0, 0, 0, 0, 0, 0, 0, 0, 0, 0, 0, 0, 0, 0, 0, 0, 0, 0, 0, 0, 0, 0, 0, 0, 0, 0, 0, 0, 0, 0, 0, 0, 0, 0, 0, 0, 0, 0, 0, 0, 0, 0, 0, 0, 0, 0, 0, 0, 0, 0, 0, 0, 0, 0, 0, 0, 0, 0, 0, 0, 0, 0, 0, 0, 0, 0, 0, 0, 0, 0, 0, 0, 0, 0, 0, 0, 0, 0, 0, 0, 0, 0, 0, 0, 0, 0, 0, 0, 0, 0, 0, 0, 0, 0, 0, 0, 0, 0, 0, 0, 0, 0, 0, 0, 0, 0, 0, 0, 0, 0, 0, 0, 0, 0, 0, 0, 0, 0, 0, 0, 0, 0, 0, 0, 0, 0, 0, 0, 0, 0, 0, 0, 0, 0, 0, 0, 0, 0, 0, 0, 0, 0, 0, 0, 0, 0, 0, 0, 0, 0, 0, 0, 0, 0, 0, 0, 0, 0, 0, 0, 0, 0, 0, 0, 0, 0, 0, 0, 0, 0, 0, 0, 0, 0, 0, 0, 0, 0, 0, 0, 0, 0, 0, 0, 0, 0, 0, 0, 0, 0] (by kernel_rfl) (by kernel_rfl) (by kernel_rfl) (by kernel_rfl) (by kernel_rfl)) (laid_atH (by kernel_rfl) h ("strings.asciiSpace", Rows.laid_strings_asciiSpace) (.tail _ (.tail _ (.tail _ (.head _))))) (by decide)) (globOk_cons (glob_rd (T := 87) (name := "demesne/word.words") (by kernel_rfl) (by kernel_rfl) (rdD_array (ds := [(.lit (.string [99, 108, 97, 115, 115])), (.lit (.string [101, 120, 116, 101, 110, 100, 115])), (.lit (.string [114, 101, 112])), (.lit (.string [112, 101, 101, 114])), (.lit (.string [119, 111, 114, 108, 100])), (.lit (.string [97, 110, 121])), (.lit (.string [117, 110, 105, 113, 117, 101])), (.lit (.string [112, 117, 114, 101])), (.lit (.string [118, 111, 105, 100])), (.lit (.string [105, 110, 116])), (.lit (.string [105, 102])), (.lit (.string [101, 108, 115, 101])), (.lit (.string [119, 104, 105, 108, 101])), (.lit (.string [114, 101, 116, 117, 114, 110])), (.lit (.string [110, 101, 119])), (.lit (.string [109, 111, 118, 101])), (.lit (.string [100, 101, 108, 101, 116, 101])), (.lit (.string [116, 104, 105, 115])), (.lit (.string [110, 117, 108, 108])), (.lit (.string [105, 110, 112, 117, 116])), (.lit (.string [110, 105, 108])), (.lit (.string [115, 97, 109, 101])), (.lit (.string [99, 97, 115, 116]))]) (E := 9) (n := 23) (sz := 1) (rs := [[.str [99, 108, 97, 115, 115]], [.str [101, 120, 116, 101, 110, 100, 115]], [.str [114, 101, 112]], [.str [112, 101, 101, 114]], [.str [119, 111, 114, 108, 100]], [.str [97, 110, 121]], [.str [117, 110, 105, 113, 117, 101]], [.str [112, 117, 114, 101]], [.str [118, 111, 105, 100]], [.str [105, 110, 116]], [.str [105, 102]], [.str [101, 108, 115, 101]], [.str [119, 104, 105, 108, 101]], [.str [114, 101, 116, 117, 114, 110]], [.str [110, 101, 119]], [.str [109, 111, 118, 101]], [.str [100, 101, 108, 101, 116, 101]], [.str [116, 104, 105, 115]], [.str [110, 117, 108, 108]], [.str [105, 110, 112, 117, 116]], [.str [110, 105, 108]], [.str [115, 97, 109, 101]], [.str [99, 97, 115, 116]]]) (by kernel_rfl) rfl (by decide) ⟨(rdD_str (by kernel_rfl) _), (rdD_str (by kernel_rfl) _), (rdD_str (by kernel_rfl) _), (rdD_str (by kernel_rfl) _), (rdD_str (by kernel_rfl) _), (rdD_str (by kernel_rfl) _), (rdD_str (by kernel_rfl) _), (rdD_str (by kernel_rfl) _), (rdD_str (by kernel_rfl) _), (rdD_str (by kernel_rfl) _), (rdD_str (by kernel_rfl) _), (rdD_str (by kernel_rfl) _), (rdD_str (by kernel_rfl) _), (rdD_str (by kernel_rfl) _), (rdD_str (by kernel_rfl) _), (rdD_str (by kernel_rfl) _), (rdD_str (by kernel_rfl) _), (rdD_str (by kernel_rfl) _), (rdD_str (by kernel_rfl) _), (rdD_str (by kernel_rfl) _), (rdD_str (by kernel_rfl) _), (rdD_str (by kernel_rfl) _), (rdD_str (by kernel_rfl) _), trivial⟩) (laid_atH (by kernel_rfl) h ("demesne/word.words", Rows.laid_demesne_word_words) (.tail _ (.head _))) (by decide)) globOk_nil))
set_option maxRecDepth 100000 in
theorem eventBack_met (os : Os) (args : Array Value) : laidMetH Tryd.prog Rows.eventBackRow.laid ((World.laidAll Tryd.prog os Rows.eventBackRow.laid).forCall (fun _ _ => 0) ⟨#[], args, []⟩).memory := by
  rw [MakeChecks.laidMetH_plain _ _ _ (by kernel_rfl)]; exact laidMet_laidAll _ (by kernel_rfl) (by kernel_rfl)
set_option maxRecDepth 100000 in
theorem eventBack_lifted (os : Os) (started : os.Started) (H : Type) (enc : TypeId × Value → H) :
    ReturnsInHanded {} Tryd.checked os 5 .any (fun w args => (Rows.eventBackSpec.pre enc Tryd.prog Tryd.f5 [] false w args ∧ laidMetH Tryd.prog Rows.eventBackRow.laid w) ∧ sizedMet enc Tryd.prog Tryd.f5 (OpenSpec.ofChange Rows.eventBackSpec) false w args) (Rows.eventBackSpec.post enc Tryd.prog Tryd.f5 false true false false) := by
  refine law_lifted_laid (G := globs_Tryd) (B := 4) (L := Rows.eventBackRow.laid) own_Tryd started (by kernel_rfl) Tryd.func5 (ChangeSpec.witness_shaped (enc := enc) (C := Tryd.checked) (os := os) (X := fun w _ => laidMetH Tryd.prog Rows.eventBackRow.laid w) false (World.laidAll Tryd.prog os Rows.eventBackRow.laid) #[.slice none 0 0, .string ⟨#[]⟩] 257 (World.laidAll_os _ _ _) (World.shaped_of_ZipB (by kernel_rfl) (by kernel_rfl)) (by kernel_rfl) (by kernel_rfl) (by kernel_rfl) (eventBack_met os _)) laidOut_Tryd (by kernel_rfl) rfl (by kernel_rfl) (by kernel_rfl) (fun ds h => ?_) (fun W h => eventBack_globs W h) ?_
  · match ds, h with
    | [_, _], _ => rfl
  · intro W base args ds ps hval hA0
    have hA : DataW.TrodAll enc Tryd.prog W 0 (fun _ => true) true [30, 9] args.toList ds ps := hA0
    have hval : ∀ (j : Nat) t v, (#[30, 9] : Array TypeId)[j]? = some t → args[j]? = some v → Value.okWide Tryd.prog W .any base t v := hval
    obtain ⟨v0, l0, d0, e0, p0, q0, ea0, rfl, rfl, h0, hA⟩ := trodAll_cons hA
    obtain ⟨v1, l1, d1, e1, p1, q1, ea1, rfl, rfl, h1, hA⟩ := trodAll_cons hA
    obtain ⟨rfl, _, _⟩ := trodAll_nil hA
    subst ea1
    obtain ⟨a0, g0, r0⟩ := dec_arg (dec_t30) h0
    have k0 := hval 0 30 v0 rfl (by rw [← Array.getElem?_toList, ea0]; rfl)
    obtain ⟨a1, g1, r1⟩ := dec_arg (dec_t9) h1
    have k1 := hval 1 9 v1 rfl (by rw [← Array.getElem?_toList, ea0]; rfl)
    exact ⟨_, argsRd_all (xs := [.vs 10 (List.map eGEvent a0), .str a1]) (by rw [ea0]; exact ⟨arg_one r0 k0 (by kernel_rfl), arg_one r1 k1 (by kernel_rfl), trivial⟩), law42_EventBack_ok (law42_EventBack_true g0 g1)⟩
theorem eventBack_row_holds : Rows.EventBackSaid :=
  OpenClaim.holds_of_wide 5 Tryd.f5 rfl rfl rfl rfl rfl rfl rfl ⟨rfl, rfl, rfl, rfl, rfl⟩ rfl rfl rfl rfl rfl (by kernel_rfl) Tryd.func5 (by kernel_rfl)
    (of_decide_eq_true (by kernel_rfl)) (by unfold Func.isWrapper; rw [if_neg (by decide +kernel)]; exact ⟨rfl, rfl⟩)
    (fun os started H enc _ => eventBack_lifted os started H enc)
theorem eventBack_holds : Rows.EventBackCardSaid :=
  Claim7.holds_tied_plain_at .later [] [.data, .widerDeep, .listed, .data, .pinned] true (true, "a368002b912cf807b4917d4ae62a946bec8fb2067758b055461d8ba764745e5b") false eventBack_row_holds (fun _ h => by cases h) (by kernel_rfl) (fun _ h => by cases h) eventBack_row_tie rfl ⟨rfl, rfl⟩ (by kernel_rfl) rfl
    (fun f fn hf hfn => by
      obtain rfl : f = 5 := Option.some.inj ((show Tryd.prog.funcNamed "demesne/demesnelaw42.EventBack" = some 5 by kernel_rfl).symm.trans hf) |>.symm
      obtain rfl : fn = Tryd.f5 := (Option.some.inj (Tryd.func5.symm.trans hfn)).symm
      exact ⟨by kernel_rfl, fun j t ht => by
        have hm : t ∈ [30, 9] := by have := Array.mem_of_getElem? (show (#[30, 9] : Array TypeId)[j]? = some t from ht); simpa using this
        have hall : ([30, 9].all fun u => !Tryd.prog.wantsStandIn u) = true := by kernel_rfl
        exact (show Tryd.prog.wantsStandIn t = false by simpa using List.all_eq_true.1 hall t hm)⟩)
    (by kernel_rfl)
end Go.Proofs.YtccladleehbmhaaDoor
