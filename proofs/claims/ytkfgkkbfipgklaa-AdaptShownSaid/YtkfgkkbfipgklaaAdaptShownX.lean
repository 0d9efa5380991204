/- A part of the proof that the law AdaptShown gives true for every input. -/
import Derived.Test.YtkfgkkbfipgklaaAdaptShownA3
import Derived.Test.YtkfgkkbfipgklaaProg
/- Facts about the types of the program. -/
namespace Go.Proofs.Ytkfgkkbfipgklaa
open Go.RowKit Go.Abs
theorem Try_fld_27_1 : fieldB Try.prog 27 1 1 = true := by kernel_rfl
theorem Try_one_9 : oneB Try.prog 9 = true := by kernel_rfl
theorem Try_slc_22 : sliceB Try.prog 22 43 7 = true := by kernel_rfl
theorem Try_fld_43_0 : fieldB Try.prog 43 0 0 = true := by kernel_rfl
theorem Try_cal_13 : callB Try.prog 13 = true := by kernel_rfl
theorem Try_fld_43_3 : fieldB Try.prog 43 3 3 = true := by kernel_rfl
theorem Try_one_39 : oneB Try.prog 39 = true := by kernel_rfl
theorem Try_slc_39 : sliceB Try.prog 39 24 2 = true := by kernel_rfl
theorem Try_fld_43_1 : fieldB Try.prog 43 1 1 = true := by kernel_rfl
theorem Try_one_38 : oneB Try.prog 38 = true := by kernel_rfl
theorem Try_slc_38 : sliceB Try.prog 38 9 1 = true := by kernel_rfl
theorem Try_cal_14 : callB Try.prog 14 = true := by kernel_rfl
theorem Try_mixed : Try.prog.follows .mixedOrders = true := by kernel_rfl
theorem Try_fld_27_0 : fieldB Try.prog 27 0 0 = true := by kernel_rfl
theorem Try_one_3 : oneB Try.prog 3 = true := by kernel_rfl
theorem Try_fld_27_2 : fieldB Try.prog 27 2 2 = true := by kernel_rfl
theorem Try_agg_27 : aggB Try.prog 27 11 = true := by kernel_rfl
theorem Try_fld_27_3 : fieldB Try.prog 27 3 3 = true := by kernel_rfl
theorem Try_arr_25 : arrayB Try.prog 25 4 24 2 = true := by kernel_rfl
theorem Try_fld_24_0 : fieldB Try.prog 24 0 0 = true := by kernel_rfl
theorem Try_cal_20 : callB Try.prog 20 = true := by kernel_rfl
theorem Try_zer_27 : zeroIs Try.prog 27 (.agg #[.int .i64 0, .string ⟨#[]⟩, .int .i64 0, .int .i64 0, .int .i64 0, .int .i64 0, .int .i64 0, .int .i64 0, .int .i64 0, .int .i64 0, .int .i64 0]) := by unfold zeroIs; kernel_rfl
theorem Try_plc_27 : placesB Try.prog 27 [(0, 1), (1, 1), (2, 1), (3, 8)] = true := by kernel_rfl
theorem Try_eqt_27 : eqB Try.prog 27 [(.i .i64), .s, (.i .i64), (.i .i64), (.i .i64), (.i .i64), (.i .i64), (.i .i64), (.i .i64), (.i .i64), (.i .i64)] = true := by kernel_rfl
theorem Try_und_9 : Try.prog.underlying 9 = some .string := by kernel_rfl
theorem Try_cal_67 : callB Try.prog 67 = true := by kernel_rfl
theorem Try_zer_9 : zeroIs Try.prog 9 (.string ⟨#[]⟩) := by unfold zeroIs; kernel_rfl
theorem Try_cal_85 : callB Try.prog 85 = true := by kernel_rfl
theorem Try_cal_68 : callB Try.prog 68 = true := by kernel_rfl
theorem Try_cal_69 : callB Try.prog 69 = true := by kernel_rfl
theorem Try_cal_41 : callB Try.prog 41 = true := by kernel_rfl
theorem Try_agg_24 : aggB Try.prog 24 2 = true := by kernel_rfl
theorem Try_zer_24 : zeroIs Try.prog 24 (.agg #[.int .i64 0, .int .i64 0]) := by unfold zeroIs; kernel_rfl
theorem Try_non_24 : oneB Try.prog 24 = false := by kernel_rfl
theorem Try_plc_24 : placesB Try.prog 24 [(0, 1), (1, 1)] = true := by kernel_rfl
theorem Try_eqt_24 : eqB Try.prog 24 [(.i .i64), (.i .i64)] = true := by kernel_rfl
theorem Try_fld_24_1 : fieldB Try.prog 24 1 1 = true := by kernel_rfl
theorem Try_cal_42 : callB Try.prog 42 = true := by kernel_rfl
theorem Try_cal_15 : callB Try.prog 15 = true := by kernel_rfl
theorem Try_cal_47 : callB Try.prog 47 = true := by kernel_rfl
theorem Try_elm_24 : elemB Try.prog 24 16 = true := by kernel_rfl
theorem Try_cal_22 : callB Try.prog 22 = true := by kernel_rfl
theorem Try_cal_21 : callB Try.prog 21 = true := by kernel_rfl
theorem Try_zer_43 : zeroIs Try.prog 43 (.agg #[.string ⟨#[]⟩, .slice none 0 0, .string ⟨#[]⟩, .slice none 0 0, .slice none 0 0, .slice none 0 0, .int .i64 0]) := by unfold zeroIs; kernel_rfl
theorem Try_plc_43 : placesB Try.prog 43 [(0, 1), (1, 1), (2, 1), (3, 1), (4, 1), (5, 1), (6, 1)] = true := by kernel_rfl
theorem Try_zer_25 : zeroIs Try.prog 25 (.agg #[.int .i64 0, .int .i64 0, .int .i64 0, .int .i64 0, .int .i64 0, .int .i64 0, .int .i64 0, .int .i64 0]) := by unfold zeroIs; kernel_rfl
theorem Try_zer_47 : zeroIs Try.prog 47 (.agg #[.int .i64 0, .int .i64 0, .string ⟨#[]⟩, .int .i64 0, .int .i64 0, .int .i64 0, .int .i64 0, .int .i64 0, .int .i64 0, .int .i64 0, .int .i64 0, .int .i64 0, .bool false]) := by unfold zeroIs; kernel_rfl
theorem Try_plc_47 : placesB Try.prog 47 [(0, 1), (1, 11), (12, 1)] = true := by kernel_rfl
theorem Try_agg_47 : aggB Try.prog 47 13 = true := by kernel_rfl
theorem Try_non_47 : oneB Try.prog 47 = false := by kernel_rfl
theorem Try_non_27 : oneB Try.prog 27 = false := by kernel_rfl
theorem Try_fld_47_1 : fieldB Try.prog 47 1 1 = true := by kernel_rfl
theorem Try_cal_64 : callB Try.prog 64 = true := by kernel_rfl
theorem Try_cal_63 : callB Try.prog 63 = true := by kernel_rfl
theorem Try_cal_38 : callB Try.prog 38 = true := by kernel_rfl
theorem Try_agg_43 : aggB Try.prog 43 7 = true := by kernel_rfl
theorem Try_cal_80 : callB Try.prog 80 = true := by kernel_rfl
theorem Try_cal_79 : callB Try.prog 79 = true := by kernel_rfl
theorem Try_cal_59 : callB Try.prog 59 = true := by kernel_rfl
theorem Try_cal_82 : callB Try.prog 82 = true := by kernel_rfl
theorem Try_zer_55 : zeroIs Try.prog 55 (.slice none 0 0) := by unfold zeroIs; kernel_rfl
theorem Try_cal_60 : callB Try.prog 60 = true := by kernel_rfl
theorem Try_one_22 : oneB Try.prog 22 = true := by kernel_rfl
theorem Try_fld_43_2 : fieldB Try.prog 43 2 2 = true := by kernel_rfl
theorem Try_one_55 : oneB Try.prog 55 = true := by kernel_rfl
theorem Try_slc_55 : sliceB Try.prog 55 3 1 = true := by kernel_rfl
theorem Try_cal_84 : callB Try.prog 84 = true := by kernel_rfl
theorem Try_cal_66 : callB Try.prog 66 = true := by kernel_rfl
theorem Try_zer_3 : zeroIs Try.prog 3 (.int .i64 0) := by unfold zeroIs; kernel_rfl
theorem Try_elm_3 : elemB Try.prog 3 8 = true := by kernel_rfl
theorem Try_cal_81 : callB Try.prog 81 = true := by kernel_rfl
theorem Try_cal_83 : callB Try.prog 83 = true := by kernel_rfl
theorem Try_cal_62 : callB Try.prog 62 = true := by kernel_rfl
theorem Try_cal_61 : callB Try.prog 61 = true := by kernel_rfl
theorem Try_cal_37 : callB Try.prog 37 = true := by kernel_rfl
theorem Try_zer_39 : zeroIs Try.prog 39 (.slice none 0 0) := by unfold zeroIs; kernel_rfl
theorem Try_fld_47_2 : fieldB Try.prog 47 2 12 = true := by kernel_rfl
theorem Try_one_4 : oneB Try.prog 4 = true := by kernel_rfl
theorem Try_cal_46 : callB Try.prog 46 = true := by kernel_rfl
theorem Try_cal_71 : callB Try.prog 71 = true := by kernel_rfl
theorem Try_fld_47_0 : fieldB Try.prog 47 0 0 = true := by kernel_rfl
theorem Try_cal_45 : callB Try.prog 45 = true := by kernel_rfl
theorem Try_cal_70 : callB Try.prog 70 = true := by kernel_rfl
theorem Try_cal_86 : callB Try.prog 86 = true := by kernel_rfl
theorem Try_cal_72 : callB Try.prog 72 = true := by kernel_rfl
theorem Try_cal_44 : callB Try.prog 44 = true := by kernel_rfl
theorem Try_cal_18 : callB Try.prog 18 = true := by kernel_rfl
theorem Try_cal_73 : callB Try.prog 73 = true := by kernel_rfl
theorem Try_cal_49 : callB Try.prog 49 = true := by kernel_rfl
theorem Try_cal_48 : callB Try.prog 48 = true := by kernel_rfl
theorem Try_cal_23 : callB Try.prog 23 = true := by kernel_rfl
theorem Try_cal_16 : callB Try.prog 16 = true := by kernel_rfl
theorem Try_cal_19 : callB Try.prog 19 = true := by kernel_rfl
theorem Try_und_4 : Try.prog.underlying 4 = some .bool := by kernel_rfl
end Go.Proofs.Ytkfgkkbfipgklaa
