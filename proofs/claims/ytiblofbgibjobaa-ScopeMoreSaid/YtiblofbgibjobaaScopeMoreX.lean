/- A part of the proof that the law ScopeMore gives true for every input. -/
import Derived.Test.YtiblofbgibjobaaScopeMoreA3
import Derived.Test.YtiblofbgibjobaaProg
/- Facts about the types of the program. -/
namespace Go.Proofs.Ytiblofbgibjobaa
open Go.RowKit Go.Abs
/-- The package variables that are read: their blocks, and what they hold. -/
abbrev globs_Try : List (Nat × List PV) := []
theorem Try_agg_35 : aggB Try.prog 35 17 = true := by kernel_rfl
theorem Try_fld_35_3 : fieldB Try.prog 35 3 13 = true := by kernel_rfl
theorem Try_one_24 : oneB Try.prog 24 = true := by kernel_rfl
theorem Try_slc_24 : sliceB Try.prog 24 44 13 = true := by kernel_rfl
theorem Try_fld_35_4 : fieldB Try.prog 35 4 14 = true := by kernel_rfl
theorem Try_cal_5 : callB Try.prog 5 = true := by kernel_rfl
theorem Try_fld_44_0 : fieldB Try.prog 44 0 0 = true := by kernel_rfl
theorem Try_one_9 : oneB Try.prog 9 = true := by kernel_rfl
theorem Try_zer_44 : zeroIs Try.prog 44 (.agg #[.string ⟨#[]⟩, .int .i64 0, .string ⟨#[]⟩, .int .i64 0, .int .i64 0, .int .i64 0, .int .i64 0, .int .i64 0, .int .i64 0, .int .i64 0, .int .i64 0, .int .i64 0, .int .i64 0]) := by unfold zeroIs; kernel_rfl
theorem Try_plc_44 : placesB Try.prog 44 [(0, 1), (1, 11), (12, 1)] = true := by kernel_rfl
theorem Try_zer_35 : zeroIs Try.prog 35 (.agg #[.string ⟨#[]⟩, .bool false, .int .i64 0, .string ⟨#[]⟩, .int .i64 0, .int .i64 0, .int .i64 0, .int .i64 0, .int .i64 0, .int .i64 0, .int .i64 0, .int .i64 0, .int .i64 0, .slice none 0 0, .slice none 0 0, .slice none 0 0, .int .i64 0]) := by unfold zeroIs; kernel_rfl
theorem Try_plc_35 : placesB Try.prog 35 [(0, 1), (1, 1), (2, 11), (13, 1), (14, 1), (15, 1), (16, 1)] = true := by kernel_rfl
theorem Try_non_35 : oneB Try.prog 35 = false := by kernel_rfl
theorem Try_agg_44 : aggB Try.prog 44 13 = true := by kernel_rfl
theorem Try_cal_17 : callB Try.prog 17 = true := by kernel_rfl
theorem Try_cal_18 : callB Try.prog 18 = true := by kernel_rfl
theorem Try_cal_9 : callB Try.prog 9 = true := by kernel_rfl
theorem Try_zer_53 : zeroIs Try.prog 53 (.agg #[.int .i64 0, .string ⟨#[]⟩, .string ⟨#[]⟩, .string ⟨#[]⟩, .int .i64 0, .string ⟨#[]⟩, .int .i64 0, .int .i64 0, .int .i64 0, .int .i64 0, .int .i64 0, .int .i64 0, .int .i64 0, .int .i64 0, .int .i64 0, .int .i64 0, .int .i64 0, .string ⟨#[]⟩, .slice none 0 0, .slice none 0 0, .slice none 0 0, .slice none 0 0, .int .i64 0]) := by unfold zeroIs; kernel_rfl
theorem Try_plc_53 : placesB Try.prog 53 [(0, 1), (1, 1), (2, 1), (3, 1), (4, 11), (15, 4), (19, 1), (20, 1), (21, 1), (22, 1)] = true := by kernel_rfl
theorem Try_zer_9 : zeroIs Try.prog 9 (.string ⟨#[]⟩) := by unfold zeroIs; kernel_rfl
theorem Try_agg_53 : aggB Try.prog 53 23 = true := by kernel_rfl
theorem Try_cal_21 : callB Try.prog 21 = true := by kernel_rfl
theorem Try_fld_53_1 : fieldB Try.prog 53 1 1 = true := by kernel_rfl
theorem Try_fld_53_2 : fieldB Try.prog 53 2 2 = true := by kernel_rfl
theorem Try_fld_53_5 : fieldB Try.prog 53 5 15 = true := by kernel_rfl
theorem Try_agg_51 : aggB Try.prog 51 4 = true := by kernel_rfl
theorem Try_zer_51 : zeroIs Try.prog 51 (.agg #[.int .i64 0, .int .i64 0, .string ⟨#[]⟩, .slice none 0 0]) := by unfold zeroIs; kernel_rfl
theorem Try_slc_49 : sliceB Try.prog 49 51 4 = true := by kernel_rfl
theorem Try_fld_53_6 : fieldB Try.prog 53 6 19 = true := by kernel_rfl
theorem Try_one_49 : oneB Try.prog 49 = true := by kernel_rfl
theorem Try_elm_51 : elemB Try.prog 51 56 = true := by kernel_rfl
theorem Try_non_51 : oneB Try.prog 51 = false := by kernel_rfl
theorem Try_zer_22 : zeroIs Try.prog 22 (.slice none 0 0) := by unfold zeroIs; kernel_rfl
theorem Try_cal_26 : callB Try.prog 26 = true := by kernel_rfl
theorem Try_zer_49 : zeroIs Try.prog 49 (.slice none 0 0) := by unfold zeroIs; kernel_rfl
theorem Try_fld_51_3 : fieldB Try.prog 51 3 3 = true := by kernel_rfl
theorem Try_cal_28 : callB Try.prog 28 = true := by kernel_rfl
theorem Try_mixed : Try.prog.follows .mixedOrders = true := by kernel_rfl
theorem Try_cal_29 : callB Try.prog 29 = true := by kernel_rfl
theorem Try_fld_51_0 : fieldB Try.prog 51 0 0 = true := by kernel_rfl
theorem Try_one_3 : oneB Try.prog 3 = true := by kernel_rfl
theorem Try_one_22 : oneB Try.prog 22 = true := by kernel_rfl
theorem Try_fld_51_2 : fieldB Try.prog 51 2 2 = true := by kernel_rfl
theorem Try_slc_22 : sliceB Try.prog 22 9 1 = true := by kernel_rfl
theorem Try_elm_9 : elemB Try.prog 9 16 = true := by kernel_rfl
theorem Try_cal_27 : callB Try.prog 27 = true := by kernel_rfl
theorem Try_cal_24 : callB Try.prog 24 = true := by kernel_rfl
theorem Try_cal_23 : callB Try.prog 23 = true := by kernel_rfl
theorem Try_cal_14 : callB Try.prog 14 = true := by kernel_rfl
theorem Try_cal_6 : callB Try.prog 6 = true := by kernel_rfl
theorem Try_elm_44 : elemB Try.prog 44 120 = true := by kernel_rfl
theorem Try_zer_27 : zeroIs Try.prog 27 (.agg #[.string ⟨#[]⟩, .slice none 0 0, .string ⟨#[]⟩, .slice none 0 0, .slice none 0 0, .slice none 0 0, .int .i64 0]) := by unfold zeroIs; kernel_rfl
theorem Try_plc_27 : placesB Try.prog 27 [(0, 1), (1, 1), (2, 1), (3, 1), (4, 1), (5, 1), (6, 1)] = true := by kernel_rfl
theorem Try_zer_32 : zeroIs Try.prog 32 (.agg #[.int .i64 0, .string ⟨#[]⟩, .int .i64 0, .int .i64 0, .int .i64 0, .int .i64 0, .int .i64 0, .int .i64 0, .int .i64 0, .int .i64 0, .int .i64 0]) := by unfold zeroIs; kernel_rfl
theorem Try_agg_27 : aggB Try.prog 27 7 = true := by kernel_rfl
theorem Try_fld_27_0 : fieldB Try.prog 27 0 0 = true := by kernel_rfl
theorem Try_plc_32 : placesB Try.prog 32 [(0, 1), (1, 1), (2, 1), (3, 8)] = true := by kernel_rfl
theorem Try_agg_32 : aggB Try.prog 32 11 = true := by kernel_rfl
theorem Try_non_32 : oneB Try.prog 32 = false := by kernel_rfl
theorem Try_fld_32_3 : fieldB Try.prog 32 3 3 = true := by kernel_rfl
theorem Try_arr_30 : arrayB Try.prog 30 4 29 2 = true := by kernel_rfl
theorem Try_fld_27_1 : fieldB Try.prog 27 1 1 = true := by kernel_rfl
theorem Try_slc_23 : sliceB Try.prog 23 29 2 = true := by kernel_rfl
theorem Try_elm_29 : elemB Try.prog 29 16 = true := by kernel_rfl
theorem Try_zer_29 : zeroIs Try.prog 29 (.agg #[.int .i64 0, .int .i64 0]) := by unfold zeroIs; kernel_rfl
theorem Try_plc_29 : placesB Try.prog 29 [(0, 1), (1, 1)] = true := by kernel_rfl
theorem Try_agg_29 : aggB Try.prog 29 2 = true := by kernel_rfl
theorem Try_non_29 : oneB Try.prog 29 = false := by kernel_rfl
theorem Try_cal_19 : callB Try.prog 19 = true := by kernel_rfl
theorem Try_fld_32_2 : fieldB Try.prog 32 2 2 = true := by kernel_rfl
theorem Try_cal_11 : callB Try.prog 11 = true := by kernel_rfl
theorem Try_zer_24 : zeroIs Try.prog 24 (.slice none 0 0) := by unfold zeroIs; kernel_rfl
theorem Try_slc_66 : sliceB Try.prog 66 24 1 = true := by kernel_rfl
theorem Try_und_3 : Try.prog.underlying 3 = some (.int .i64) := by kernel_rfl
theorem Try_cal_25 : callB Try.prog 25 = true := by kernel_rfl
theorem Try_cal_22 : callB Try.prog 22 = true := by kernel_rfl
theorem Try_cal_15 : callB Try.prog 15 = true := by kernel_rfl
theorem Try_fld_44_1 : fieldB Try.prog 44 1 1 = true := by kernel_rfl
theorem Try_cal_7 : callB Try.prog 7 = true := by kernel_rfl
theorem Try_eqt_32 : eqB Try.prog 32 [(.i .i64), .s, (.i .i64), (.i .i64), (.i .i64), (.i .i64), (.i .i64), (.i .i64), (.i .i64), (.i .i64), (.i .i64)] = true := by kernel_rfl
theorem Try_non_44 : oneB Try.prog 44 = false := by kernel_rfl
theorem Try_fld_32_0 : fieldB Try.prog 32 0 0 = true := by kernel_rfl
theorem Try_zer_59 : zeroIs Try.prog 59 (.agg #[.bool false, .int .i64 0]) := by unfold zeroIs; kernel_rfl
theorem Try_plc_59 : placesB Try.prog 59 [(0, 1), (1, 1)] = true := by kernel_rfl
theorem Try_slc_45 : sliceB Try.prog 45 59 2 = true := by kernel_rfl
theorem Try_elm_59 : elemB Try.prog 59 16 = true := by kernel_rfl
theorem Try_cal_13 : callB Try.prog 13 = true := by kernel_rfl
end Go.Proofs.Ytiblofbgibjobaa
