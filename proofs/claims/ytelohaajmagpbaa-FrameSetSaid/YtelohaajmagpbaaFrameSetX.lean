/- A part of the proof that the law FrameSet gives true for every input. -/
import Derived.Test.YtelohaajmagpbaaFrameSetA3
import Derived.Test.YtelohaajmagpbaaProg
/- Facts about the types of the program. -/
namespace Go.Proofs.Ytelohaajmagpbaa
open Go.RowKit Go.Abs
theorem Try_agg_28 : aggB Try.prog 28 7 = true := by kernel_rfl
theorem Try_slc_22 : sliceB Try.prog 22 49 7 = true := by kernel_rfl
theorem Try_agg_49 : aggB Try.prog 49 7 = true := by kernel_rfl
theorem Try_zer_49 : zeroIs Try.prog 49 (.agg #[.string ⟨#[]⟩, .slice none 0 0, .string ⟨#[]⟩, .slice none 0 0, .slice none 0 0, .slice none 0 0, .int .i64 0]) := by unfold zeroIs; kernel_rfl
theorem Try_non_49 : oneB Try.prog 49 = false := by kernel_rfl
theorem Try_fld_49_1 : fieldB Try.prog 49 1 1 = true := by kernel_rfl
theorem Try_one_44 : oneB Try.prog 44 = true := by kernel_rfl
theorem Try_slc_44 : sliceB Try.prog 44 9 1 = true := by kernel_rfl
theorem Try_fld_49_3 : fieldB Try.prog 49 3 3 = true := by kernel_rfl
theorem Try_one_45 : oneB Try.prog 45 = true := by kernel_rfl
theorem Try_slc_45 : sliceB Try.prog 45 51 2 = true := by kernel_rfl
theorem Try_fld_49_4 : fieldB Try.prog 49 4 4 = true := by kernel_rfl
theorem Try_one_46 : oneB Try.prog 46 = true := by kernel_rfl
theorem Try_slc_46 : sliceB Try.prog 46 92 13 = true := by kernel_rfl
theorem Try_fld_49_5 : fieldB Try.prog 49 5 5 = true := by kernel_rfl
theorem Try_one_47 : oneB Try.prog 47 = true := by kernel_rfl
theorem Try_slc_47 : sliceB Try.prog 47 66 17 = true := by kernel_rfl
theorem Try_agg_66 : aggB Try.prog 66 17 = true := by kernel_rfl
theorem Try_zer_66 : zeroIs Try.prog 66 (.agg #[.string ⟨#[]⟩, .bool false, .int .i64 0, .string ⟨#[]⟩, .int .i64 0, .int .i64 0, .int .i64 0, .int .i64 0, .int .i64 0, .int .i64 0, .int .i64 0, .int .i64 0, .int .i64 0, .slice none 0 0, .slice none 0 0, .slice none 0 0, .int .i64 0]) := by unfold zeroIs; kernel_rfl
theorem Try_non_66 : oneB Try.prog 66 = false := by kernel_rfl
theorem Try_fld_66_3 : fieldB Try.prog 66 3 13 = true := by kernel_rfl
theorem Try_fld_66_4 : fieldB Try.prog 66 4 14 = true := by kernel_rfl
theorem Try_fld_66_5 : fieldB Try.prog 66 5 15 = true := by kernel_rfl
theorem Try_one_64 : oneB Try.prog 64 = true := by kernel_rfl
theorem Try_slc_64 : sliceB Try.prog 64 82 23 = true := by kernel_rfl
theorem Try_fld_92_1 : fieldB Try.prog 92 1 1 = true := by kernel_rfl
theorem Try_fld_54_3 : fieldB Try.prog 54 3 3 = true := by kernel_rfl
theorem Try_arr_52 : arrayB Try.prog 52 4 51 2 = true := by kernel_rfl
theorem Try_fld_51_0 : fieldB Try.prog 51 0 0 = true := by kernel_rfl
theorem Try_one_3 : oneB Try.prog 3 = true := by kernel_rfl
theorem Try_cal_22 : callB Try.prog 22 = true := by kernel_rfl
theorem Try_agg_82 : aggB Try.prog 82 23 = true := by kernel_rfl
theorem Try_fld_82_7 : fieldB Try.prog 82 7 20 = true := by kernel_rfl
theorem Try_fld_82_8 : fieldB Try.prog 82 8 21 = true := by kernel_rfl
theorem Try_fld_82_6 : fieldB Try.prog 82 6 19 = true := by kernel_rfl
theorem Try_one_78 : oneB Try.prog 78 = true := by kernel_rfl
theorem Try_slc_78 : sliceB Try.prog 78 80 4 = true := by kernel_rfl
theorem Try_fld_82_5 : fieldB Try.prog 82 5 15 = true := by kernel_rfl
theorem Try_agg_80 : aggB Try.prog 80 4 = true := by kernel_rfl
theorem Try_fld_80_3 : fieldB Try.prog 80 3 3 = true := by kernel_rfl
theorem Try_cal_34 : callB Try.prog 34 = true := by kernel_rfl
theorem Try_cal_23 : callB Try.prog 23 = true := by kernel_rfl
theorem Try_cal_24 : callB Try.prog 24 = true := by kernel_rfl
theorem Try_cal_12 : callB Try.prog 12 = true := by kernel_rfl
theorem Try_fld_28_0 : fieldB Try.prog 28 0 0 = true := by kernel_rfl
theorem Try_one_23 : oneB Try.prog 23 = true := by kernel_rfl
theorem Try_slc_23 : sliceB Try.prog 23 43 7 = true := by kernel_rfl
theorem Try_fld_43_2 : fieldB Try.prog 43 2 5 = true := by kernel_rfl
theorem Try_one_24 : oneB Try.prog 24 = true := by kernel_rfl
theorem Try_slc_24 : sliceB Try.prog 24 30 2 = true := by kernel_rfl
theorem Try_cal_13 : callB Try.prog 13 = true := by kernel_rfl
theorem Try_fld_28_1 : fieldB Try.prog 28 1 1 = true := by kernel_rfl
theorem Try_fld_26_3 : fieldB Try.prog 26 3 3 = true := by kernel_rfl
theorem Try_cal_4 : callB Try.prog 4 = true := by kernel_rfl
theorem Try_plc_49 : placesB Try.prog 49 [(0, 1), (1, 1), (2, 1), (3, 1), (4, 1), (5, 1), (6, 1)] = true := by kernel_rfl
theorem Try_arr_41 : arrayB Try.prog 41 4 3 1 = true := by kernel_rfl
theorem Try_zer_41 : zeroIs Try.prog 41 (.agg #[.int .i64 0, .int .i64 0, .int .i64 0, .int .i64 0]) := by unfold zeroIs; kernel_rfl
theorem Try_zer_43 : zeroIs Try.prog 43 (.agg #[.string ⟨#[]⟩, .int .i64 0, .int .i64 0, .int .i64 0, .int .i64 0, .slice none 0 0, .bool false]) := by unfold zeroIs; kernel_rfl
theorem Try_plc_43 : placesB Try.prog 43 [(0, 1), (1, 4), (5, 1), (6, 1)] = true := by kernel_rfl
theorem Try_zer_26 : zeroIs Try.prog 26 (.agg #[.int .i64 0, .string ⟨#[]⟩, .string ⟨#[]⟩, .slice none 0 0, .int .i64 0, .int .i64 0]) := by unfold zeroIs; kernel_rfl
theorem Try_plc_26 : placesB Try.prog 26 [(0, 1), (1, 1), (2, 1), (3, 1), (4, 1), (5, 1)] = true := by kernel_rfl
theorem Try_zer_51 : zeroIs Try.prog 51 (.agg #[.int .i64 0, .int .i64 0]) := by unfold zeroIs; kernel_rfl
theorem Try_plc_51 : placesB Try.prog 51 [(0, 1), (1, 1)] = true := by kernel_rfl
theorem Try_mixed : Try.prog.follows .mixedOrders = true := by kernel_rfl
theorem Try_agg_26 : aggB Try.prog 26 6 = true := by kernel_rfl
theorem Try_fld_26_0 : fieldB Try.prog 26 0 0 = true := by kernel_rfl
theorem Try_fld_26_1 : fieldB Try.prog 26 1 1 = true := by kernel_rfl
theorem Try_one_9 : oneB Try.prog 9 = true := by kernel_rfl
theorem Try_agg_43 : aggB Try.prog 43 7 = true := by kernel_rfl
theorem Try_non_43 : oneB Try.prog 43 = false := by kernel_rfl
theorem Try_fld_43_0 : fieldB Try.prog 43 0 0 = true := by kernel_rfl
theorem Try_fld_49_0 : fieldB Try.prog 49 0 0 = true := by kernel_rfl
theorem Try_cal_38 : callB Try.prog 38 = true := by kernel_rfl
theorem Try_cal_37 : callB Try.prog 37 = true := by kernel_rfl
theorem Try_cal_26 : callB Try.prog 26 = true := by kernel_rfl
theorem Try_cal_32 : callB Try.prog 32 = true := by kernel_rfl
theorem Try_fld_43_1 : fieldB Try.prog 43 1 1 = true := by kernel_rfl
theorem Try_slc_73 : sliceB Try.prog 73 3 1 = true := by kernel_rfl
theorem Try_zer_3 : zeroIs Try.prog 3 (.int .i64 0) := by unfold zeroIs; kernel_rfl
theorem Try_elm_3 : elemB Try.prog 3 8 = true := by kernel_rfl
theorem Try_cal_41 : callB Try.prog 41 = true := by kernel_rfl
theorem Try_zer_73 : zeroIs Try.prog 73 (.slice none 0 0) := by unfold zeroIs; kernel_rfl
theorem Try_cal_43 : callB Try.prog 43 = true := by kernel_rfl
theorem Try_one_22 : oneB Try.prog 22 = true := by kernel_rfl
theorem Try_fld_49_2 : fieldB Try.prog 49 2 2 = true := by kernel_rfl
theorem Try_one_73 : oneB Try.prog 73 = true := by kernel_rfl
theorem Try_cal_46 : callB Try.prog 46 = true := by kernel_rfl
theorem Try_cal_44 : callB Try.prog 44 = true := by kernel_rfl
theorem Try_cal_45 : callB Try.prog 45 = true := by kernel_rfl
theorem Try_cal_42 : callB Try.prog 42 = true := by kernel_rfl
theorem Try_agg_51 : aggB Try.prog 51 2 = true := by kernel_rfl
theorem Try_non_51 : oneB Try.prog 51 = false := by kernel_rfl
theorem Try_fld_51_1 : fieldB Try.prog 51 1 1 = true := by kernel_rfl
theorem Try_cal_40 : callB Try.prog 40 = true := by kernel_rfl
theorem Try_cal_39 : callB Try.prog 39 = true := by kernel_rfl
theorem Try_cal_33 : callB Try.prog 33 = true := by kernel_rfl
theorem Try_cal_21 : callB Try.prog 21 = true := by kernel_rfl
theorem Try_zer_4 : zeroIs Try.prog 4 (.bool false) := by unfold zeroIs; kernel_rfl
theorem Try_one_4 : oneB Try.prog 4 = true := by kernel_rfl
theorem Try_cal_19 : callB Try.prog 19 = true := by kernel_rfl
theorem Try_cal_29 : callB Try.prog 29 = true := by kernel_rfl
theorem Try_cal_14 : callB Try.prog 14 = true := by kernel_rfl
theorem Try_cal_5 : callB Try.prog 5 = true := by kernel_rfl
theorem Try_arr_33 : arrayB Try.prog 33 2 32 3 = true := by kernel_rfl
theorem Try_fld_32_0 : fieldB Try.prog 32 0 0 = true := by kernel_rfl
theorem Try_fld_32_1 : fieldB Try.prog 32 1 1 = true := by kernel_rfl
theorem Try_agg_30 : aggB Try.prog 30 2 = true := by kernel_rfl
theorem Try_plc_66 : placesB Try.prog 66 [(0, 1), (1, 1), (2, 11), (13, 1), (14, 1), (15, 1), (16, 1)] = true := by kernel_rfl
theorem Try_fld_66_0 : fieldB Try.prog 66 0 0 = true := by kernel_rfl
theorem Try_fld_26_2 : fieldB Try.prog 26 2 2 = true := by kernel_rfl
theorem Try_cal_28 : callB Try.prog 28 = true := by kernel_rfl
theorem Try_cal_27 : callB Try.prog 27 = true := by kernel_rfl
theorem Try_cal_17 : callB Try.prog 17 = true := by kernel_rfl
theorem Try_agg_92 : aggB Try.prog 92 13 = true := by kernel_rfl
theorem Try_fld_92_0 : fieldB Try.prog 92 0 0 = true := by kernel_rfl
theorem Try_cal_35 : callB Try.prog 35 = true := by kernel_rfl
theorem Try_cal_36 : callB Try.prog 36 = true := by kernel_rfl
theorem Try_cal_25 : callB Try.prog 25 = true := by kernel_rfl
theorem Try_cal_15 : callB Try.prog 15 = true := by kernel_rfl
theorem Try_non_26 : oneB Try.prog 26 = false := by kernel_rfl
theorem Try_zer_30 : zeroIs Try.prog 30 (.agg #[.bool false, .int .i64 0]) := by unfold zeroIs; kernel_rfl
theorem Try_elm_30 : elemB Try.prog 30 16 = true := by kernel_rfl
theorem Try_cal_16 : callB Try.prog 16 = true := by kernel_rfl
theorem Try_non_30 : oneB Try.prog 30 = false := by kernel_rfl
theorem Try_cal_6 : callB Try.prog 6 = true := by kernel_rfl
theorem Try_plc_30 : placesB Try.prog 30 [(0, 1), (1, 1)] = true := by kernel_rfl
theorem Try_cal_7 : callB Try.prog 7 = true := by kernel_rfl
theorem Try_eqt_30 : eqB Try.prog 30 [.b, (.i .i64)] = true := by kernel_rfl
theorem Try_und_4 : Try.prog.underlying 4 = some .bool := by kernel_rfl
theorem Try_cal_8 : callB Try.prog 8 = true := by kernel_rfl
theorem Try_zer_54 : zeroIs Try.prog 54 (.agg #[.int .i64 0, .string ⟨#[]⟩, .int .i64 0, .int .i64 0, .int .i64 0, .int .i64 0, .int .i64 0, .int .i64 0, .int .i64 0, .int .i64 0, .int .i64 0]) := by unfold zeroIs; kernel_rfl
theorem Try_plc_54 : placesB Try.prog 54 [(0, 1), (1, 1), (2, 1), (3, 8)] = true := by kernel_rfl
theorem Try_agg_54 : aggB Try.prog 54 11 = true := by kernel_rfl
theorem Try_non_54 : oneB Try.prog 54 = false := by kernel_rfl
theorem Try_elm_51 : elemB Try.prog 51 16 = true := by kernel_rfl
theorem Try_cal_18 : callB Try.prog 18 = true := by kernel_rfl
theorem Try_fld_54_2 : fieldB Try.prog 54 2 2 = true := by kernel_rfl
theorem Try_cal_9 : callB Try.prog 9 = true := by kernel_rfl
theorem Try_fld_54_0 : fieldB Try.prog 54 0 0 = true := by kernel_rfl
theorem Try_cal_31 : callB Try.prog 31 = true := by kernel_rfl
theorem Try_cal_30 : callB Try.prog 30 = true := by kernel_rfl
theorem Try_cal_20 : callB Try.prog 20 = true := by kernel_rfl
theorem Try_agg_41 : aggB Try.prog 41 4 = true := by kernel_rfl
theorem Try_non_41 : oneB Try.prog 41 = false := by kernel_rfl
theorem Try_cal_10 : callB Try.prog 10 = true := by kernel_rfl
theorem Try_fld_54_1 : fieldB Try.prog 54 1 1 = true := by kernel_rfl
theorem Try_cal_11 : callB Try.prog 11 = true := by kernel_rfl
end Go.Proofs.Ytelohaajmagpbaa
