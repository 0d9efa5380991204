/- A part of the proof that the law UnderOrder gives true for every input. -/
import Derived.Test.YtkfgkkbfipgklaaUnderOrderA3
import Derived.Test.YtkfgkkbfipgklaaProg
/- Facts about the types of the program. -/
namespace Go.Proofs.Ytkfgkkbfipgklaa
open Go.RowKit Go.Abs
theorem Try_slc_22 : sliceB Try.prog 22 43 7 = true := by kernel_rfl
theorem Try_fld_43_3 : fieldB Try.prog 43 3 3 = true := by kernel_rfl
theorem Try_one_39 : oneB Try.prog 39 = true := by kernel_rfl
theorem Try_slc_39 : sliceB Try.prog 39 24 2 = true := by kernel_rfl
theorem Try_fld_43_1 : fieldB Try.prog 43 1 1 = true := by kernel_rfl
theorem Try_one_38 : oneB Try.prog 38 = true := by kernel_rfl
theorem Try_slc_38 : sliceB Try.prog 38 9 1 = true := by kernel_rfl
theorem Try_cal_8 : callB Try.prog 8 = true := by kernel_rfl
theorem Try_zer_32 : zeroIs Try.prog 32 (.agg #[.int .i64 0, .int .i64 0]) := by unfold zeroIs; kernel_rfl
theorem Try_agg_43 : aggB Try.prog 43 7 = true := by kernel_rfl
theorem Try_one_9 : oneB Try.prog 9 = true := by kernel_rfl
theorem Try_und_9 : Try.prog.underlying 9 = some .string := by kernel_rfl
theorem Try_cal_67 : callB Try.prog 67 = true := by kernel_rfl
theorem Try_zer_9 : zeroIs Try.prog 9 (.string ⟨#[]⟩) := by unfold zeroIs; kernel_rfl
theorem Try_cal_85 : callB Try.prog 85 = true := by kernel_rfl
theorem Try_cal_68 : callB Try.prog 68 = true := by kernel_rfl
theorem Try_cal_69 : callB Try.prog 69 = true := by kernel_rfl
theorem Try_cal_41 : callB Try.prog 41 = true := by kernel_rfl
theorem Try_fld_24_0 : fieldB Try.prog 24 0 0 = true := by kernel_rfl
theorem Try_one_3 : oneB Try.prog 3 = true := by kernel_rfl
theorem Try_agg_24 : aggB Try.prog 24 2 = true := by kernel_rfl
theorem Try_fld_24_1 : fieldB Try.prog 24 1 1 = true := by kernel_rfl
theorem Try_cal_42 : callB Try.prog 42 = true := by kernel_rfl
theorem Try_fld_43_5 : fieldB Try.prog 43 5 5 = true := by kernel_rfl
theorem Try_one_41 : oneB Try.prog 41 = true := by kernel_rfl
theorem Try_slc_41 : sliceB Try.prog 41 80 17 = true := by kernel_rfl
theorem Try_agg_80 : aggB Try.prog 80 17 = true := by kernel_rfl
theorem Try_fld_80_5 : fieldB Try.prog 80 5 15 = true := by kernel_rfl
theorem Try_one_78 : oneB Try.prog 78 = true := by kernel_rfl
theorem Try_slc_78 : sliceB Try.prog 78 102 23 = true := by kernel_rfl
theorem Try_agg_102 : aggB Try.prog 102 23 = true := by kernel_rfl
theorem Try_zer_102 : zeroIs Try.prog 102 (.agg #[.int .i64 0, .string ⟨#[]⟩, .string ⟨#[]⟩, .string ⟨#[]⟩, .int .i64 0, .string ⟨#[]⟩, .int .i64 0, .int .i64 0, .int .i64 0, .int .i64 0, .int .i64 0, .int .i64 0, .int .i64 0, .int .i64 0, .int .i64 0, .int .i64 0, .int .i64 0, .string ⟨#[]⟩, .slice none 0 0, .slice none 0 0, .slice none 0 0, .slice none 0 0, .int .i64 0]) := by unfold zeroIs; kernel_rfl
theorem Try_fld_102_0 : fieldB Try.prog 102 0 0 = true := by kernel_rfl
theorem Try_fld_102_1 : fieldB Try.prog 102 1 1 = true := by kernel_rfl
theorem Try_fld_102_2 : fieldB Try.prog 102 2 2 = true := by kernel_rfl
theorem Try_fld_102_3 : fieldB Try.prog 102 3 3 = true := by kernel_rfl
theorem Try_zer_27 : zeroIs Try.prog 27 (.agg #[.int .i64 0, .string ⟨#[]⟩, .int .i64 0, .int .i64 0, .int .i64 0, .int .i64 0, .int .i64 0, .int .i64 0, .int .i64 0, .int .i64 0, .int .i64 0]) := by unfold zeroIs; kernel_rfl
theorem Try_plc_27 : placesB Try.prog 27 [(0, 1), (1, 1), (2, 1), (3, 8)] = true := by kernel_rfl
theorem Try_fld_102_4 : fieldB Try.prog 102 4 4 = true := by kernel_rfl
theorem Try_agg_27 : aggB Try.prog 27 11 = true := by kernel_rfl
theorem Try_non_27 : oneB Try.prog 27 = false := by kernel_rfl
theorem Try_zer_100 : zeroIs Try.prog 100 (.agg #[.int .i64 0, .int .i64 0, .string ⟨#[]⟩, .slice none 0 0]) := by unfold zeroIs; kernel_rfl
theorem Try_plc_100 : placesB Try.prog 100 [(0, 1), (1, 1), (2, 1), (3, 1)] = true := by kernel_rfl
theorem Try_fld_102_5 : fieldB Try.prog 102 5 15 = true := by kernel_rfl
theorem Try_agg_100 : aggB Try.prog 100 4 = true := by kernel_rfl
theorem Try_non_100 : oneB Try.prog 100 = false := by kernel_rfl
theorem Try_fld_102_6 : fieldB Try.prog 102 6 19 = true := by kernel_rfl
theorem Try_one_98 : oneB Try.prog 98 = true := by kernel_rfl
theorem Try_fld_102_7 : fieldB Try.prog 102 7 20 = true := by kernel_rfl
theorem Try_fld_102_8 : fieldB Try.prog 102 8 21 = true := by kernel_rfl
theorem Try_non_102 : oneB Try.prog 102 = false := by kernel_rfl
theorem Try_cal_97 : callB Try.prog 97 = true := by kernel_rfl
theorem Try_eqt_27 : eqB Try.prog 27 [(.i .i64), .s, (.i .i64), (.i .i64), (.i .i64), (.i .i64), (.i .i64), (.i .i64), (.i .i64), (.i .i64), (.i .i64)] = true := by kernel_rfl
theorem Try_fld_100_0 : fieldB Try.prog 100 0 0 = true := by kernel_rfl
theorem Try_fld_100_1 : fieldB Try.prog 100 1 1 = true := by kernel_rfl
theorem Try_fld_100_2 : fieldB Try.prog 100 2 2 = true := by kernel_rfl
theorem Try_fld_100_3 : fieldB Try.prog 100 3 3 = true := by kernel_rfl
theorem Try_slc_98 : sliceB Try.prog 98 100 4 = true := by kernel_rfl
theorem Try_cal_98 : callB Try.prog 98 = true := by kernel_rfl
theorem Try_mixed : Try.prog.follows .mixedOrders = true := by kernel_rfl
theorem Try_cal_94 : callB Try.prog 94 = true := by kernel_rfl
theorem Try_fld_27_0 : fieldB Try.prog 27 0 0 = true := by kernel_rfl
theorem Try_fld_27_1 : fieldB Try.prog 27 1 1 = true := by kernel_rfl
theorem Try_fld_27_2 : fieldB Try.prog 27 2 2 = true := by kernel_rfl
theorem Try_fld_27_3 : fieldB Try.prog 27 3 3 = true := by kernel_rfl
theorem Try_arr_25 : arrayB Try.prog 25 4 24 2 = true := by kernel_rfl
theorem Try_zer_24 : zeroIs Try.prog 24 (.agg #[.int .i64 0, .int .i64 0]) := by unfold zeroIs; kernel_rfl
theorem Try_non_24 : oneB Try.prog 24 = false := by kernel_rfl
theorem Try_plc_24 : placesB Try.prog 24 [(0, 1), (1, 1)] = true := by kernel_rfl
theorem Try_eqt_24 : eqB Try.prog 24 [(.i .i64), (.i .i64)] = true := by kernel_rfl
theorem Try_cal_15 : callB Try.prog 15 = true := by kernel_rfl
theorem Try_cal_95 : callB Try.prog 95 = true := by kernel_rfl
theorem Try_cal_102 : callB Try.prog 102 = true := by kernel_rfl
theorem Try_cal_100 : callB Try.prog 100 = true := by kernel_rfl
theorem Try_cal_101 : callB Try.prog 101 = true := by kernel_rfl
theorem Try_cal_99 : callB Try.prog 99 = true := by kernel_rfl
theorem Try_cal_96 : callB Try.prog 96 = true := by kernel_rfl
theorem Try_cal_92 : callB Try.prog 92 = true := by kernel_rfl
theorem Try_cal_93 : callB Try.prog 93 = true := by kernel_rfl
theorem Try_cal_88 : callB Try.prog 88 = true := by kernel_rfl
theorem Try_fld_80_0 : fieldB Try.prog 80 0 0 = true := by kernel_rfl
theorem Try_fld_80_2 : fieldB Try.prog 80 2 2 = true := by kernel_rfl
theorem Try_agg_25 : aggB Try.prog 25 8 = true := by kernel_rfl
theorem Try_zer_25 : zeroIs Try.prog 25 (.agg #[.int .i64 0, .int .i64 0, .int .i64 0, .int .i64 0, .int .i64 0, .int .i64 0, .int .i64 0, .int .i64 0]) := by unfold zeroIs; kernel_rfl
theorem Try_non_25 : oneB Try.prog 25 = false := by kernel_rfl
theorem Try_cal_89 : callB Try.prog 89 = true := by kernel_rfl
theorem Try_fld_80_3 : fieldB Try.prog 80 3 13 = true := by kernel_rfl
theorem Try_one_40 : oneB Try.prog 40 = true := by kernel_rfl
theorem Try_slc_40 : sliceB Try.prog 40 77 13 = true := by kernel_rfl
theorem Try_fld_77_0 : fieldB Try.prog 77 0 0 = true := by kernel_rfl
theorem Try_fld_77_1 : fieldB Try.prog 77 1 1 = true := by kernel_rfl
theorem Try_cal_76 : callB Try.prog 76 = true := by kernel_rfl
theorem Try_fld_80_4 : fieldB Try.prog 80 4 14 = true := by kernel_rfl
theorem Try_cal_90 : callB Try.prog 90 = true := by kernel_rfl
theorem Try_cal_75 : callB Try.prog 75 = true := by kernel_rfl
theorem Try_fld_43_0 : fieldB Try.prog 43 0 0 = true := by kernel_rfl
theorem Try_fld_43_2 : fieldB Try.prog 43 2 2 = true := by kernel_rfl
theorem Try_fld_43_4 : fieldB Try.prog 43 4 4 = true := by kernel_rfl
theorem Try_cal_53 : callB Try.prog 53 = true := by kernel_rfl
theorem Try_cal_77 : callB Try.prog 77 = true := by kernel_rfl
theorem Try_cal_54 : callB Try.prog 54 = true := by kernel_rfl
theorem Try_cal_30 : callB Try.prog 30 = true := by kernel_rfl
theorem Try_plc_32 : placesB Try.prog 32 [(0, 1), (1, 1)] = true := by kernel_rfl
theorem Try_agg_32 : aggB Try.prog 32 2 = true := by kernel_rfl
theorem Try_non_32 : oneB Try.prog 32 = false := by kernel_rfl
theorem Try_cal_31 : callB Try.prog 31 = true := by kernel_rfl
theorem Try_zer_43 : zeroIs Try.prog 43 (.agg #[.string ⟨#[]⟩, .slice none 0 0, .string ⟨#[]⟩, .slice none 0 0, .slice none 0 0, .slice none 0 0, .int .i64 0]) := by unfold zeroIs; kernel_rfl
theorem Try_non_43 : oneB Try.prog 43 = false := by kernel_rfl
theorem Try_cal_13 : callB Try.prog 13 = true := by kernel_rfl
theorem Try_cal_55 : callB Try.prog 55 = true := by kernel_rfl
theorem Try_fld_43_6 : fieldB Try.prog 43 6 6 = true := by kernel_rfl
theorem Try_cal_29 : callB Try.prog 29 = true := by kernel_rfl
theorem Try_agg_77 : aggB Try.prog 77 13 = true := by kernel_rfl
theorem Try_zer_77 : zeroIs Try.prog 77 (.agg #[.string ⟨#[]⟩, .int .i64 0, .string ⟨#[]⟩, .int .i64 0, .int .i64 0, .int .i64 0, .int .i64 0, .int .i64 0, .int .i64 0, .int .i64 0, .int .i64 0, .int .i64 0, .int .i64 0]) := by unfold zeroIs; kernel_rfl
theorem Try_non_77 : oneB Try.prog 77 = false := by kernel_rfl
theorem Try_fld_77_2 : fieldB Try.prog 77 2 12 = true := by kernel_rfl
theorem Try_zer_106 : zeroIs Try.prog 106 (.agg #[.int .i64 0, .int .i64 0, .int .i64 0, .int .i64 0, .string ⟨#[]⟩, .int .i64 0, .int .i64 0, .int .i64 0, .int .i64 0, .int .i64 0, .int .i64 0, .int .i64 0, .int .i64 0, .int .i64 0, .int .i64 0]) := by unfold zeroIs; kernel_rfl
theorem Try_plc_106 : placesB Try.prog 106 [(0, 1), (1, 1), (2, 1), (3, 11), (14, 1)] = true := by kernel_rfl
theorem Try_slc_103 : sliceB Try.prog 103 106 15 = true := by kernel_rfl
theorem Try_elm_106 : elemB Try.prog 106 128 = true := by kernel_rfl
theorem Try_zer_80 : zeroIs Try.prog 80 (.agg #[.string ⟨#[]⟩, .bool false, .int .i64 0, .string ⟨#[]⟩, .int .i64 0, .int .i64 0, .int .i64 0, .int .i64 0, .int .i64 0, .int .i64 0, .int .i64 0, .int .i64 0, .int .i64 0, .slice none 0 0, .slice none 0 0, .slice none 0 0, .int .i64 0]) := by unfold zeroIs; kernel_rfl
theorem Try_non_80 : oneB Try.prog 80 = false := by kernel_rfl
theorem Try_fld_80_6 : fieldB Try.prog 80 6 16 = true := by kernel_rfl
theorem Try_elm_77 : elemB Try.prog 77 120 = true := by kernel_rfl
theorem Try_cal_58 : callB Try.prog 58 = true := by kernel_rfl
theorem Try_zer_116 : zeroIs Try.prog 116 (.agg #[.int .i64 0, .int .i64 0, .int .i64 0, .int .i64 0, .string ⟨#[]⟩, .string ⟨#[]⟩, .string ⟨#[]⟩, .int .i64 0, .string ⟨#[]⟩, .int .i64 0, .int .i64 0, .int .i64 0, .int .i64 0, .int .i64 0, .int .i64 0, .int .i64 0, .int .i64 0, .int .i64 0, .int .i64 0, .int .i64 0, .string ⟨#[]⟩, .slice none 0 0, .slice none 0 0, .slice none 0 0, .slice none 0 0, .int .i64 0]) := by unfold zeroIs; kernel_rfl
theorem Try_plc_116 : placesB Try.prog 116 [(0, 1), (1, 1), (2, 1), (3, 23)] = true := by kernel_rfl
theorem Try_agg_116 : aggB Try.prog 116 26 = true := by kernel_rfl
theorem Try_non_116 : oneB Try.prog 116 = false := by kernel_rfl
theorem Try_fld_116_3 : fieldB Try.prog 116 3 3 = true := by kernel_rfl
theorem Try_slc_113 : sliceB Try.prog 113 116 26 = true := by kernel_rfl
theorem Try_elm_116 : elemB Try.prog 116 312 = true := by kernel_rfl
theorem Try_fld_116_2 : fieldB Try.prog 116 2 2 = true := by kernel_rfl
theorem Try_cal_91 : callB Try.prog 91 = true := by kernel_rfl
theorem Try_fld_102_9 : fieldB Try.prog 102 9 22 = true := by kernel_rfl
theorem Try_cal_78 : callB Try.prog 78 = true := by kernel_rfl
theorem Try_fld_106_3 : fieldB Try.prog 106 3 3 = true := by kernel_rfl
theorem Try_fld_106_4 : fieldB Try.prog 106 4 14 = true := by kernel_rfl
theorem Try_cal_56 : callB Try.prog 56 = true := by kernel_rfl
theorem Try_fld_32_0 : fieldB Try.prog 32 0 0 = true := by kernel_rfl
theorem Try_one_30 : oneB Try.prog 30 = true := by kernel_rfl
theorem Try_elm_9 : elemB Try.prog 9 16 = true := by kernel_rfl
theorem Try_cal_57 : callB Try.prog 57 = true := by kernel_rfl
theorem Try_cal_32 : callB Try.prog 32 = true := by kernel_rfl
theorem Try_cal_9 : callB Try.prog 9 = true := by kernel_rfl
theorem Try_ftb_32_0 : fieldTB Try.prog 32 0 30 0 = true := by kernel_rfl
theorem Try_slc_55 : sliceB Try.prog 55 3 1 = true := by kernel_rfl
theorem Try_cal_34 : callB Try.prog 34 = true := by kernel_rfl
theorem Try_zer_3 : zeroIs Try.prog 3 (.int .i64 0) := by unfold zeroIs; kernel_rfl
theorem Try_elm_3 : elemB Try.prog 3 8 = true := by kernel_rfl
theorem Try_cal_33 : callB Try.prog 33 = true := by kernel_rfl
theorem Try_cal_10 : callB Try.prog 10 = true := by kernel_rfl
theorem Try_plc_43 : placesB Try.prog 43 [(0, 1), (1, 1), (2, 1), (3, 1), (4, 1), (5, 1), (6, 1)] = true := by kernel_rfl
theorem Try_cal_64 : callB Try.prog 64 = true := by kernel_rfl
theorem Try_elm_24 : elemB Try.prog 24 16 = true := by kernel_rfl
theorem Try_cal_63 : callB Try.prog 63 = true := by kernel_rfl
theorem Try_cal_38 : callB Try.prog 38 = true := by kernel_rfl
theorem Try_cal_39 : callB Try.prog 39 = true := by kernel_rfl
theorem Try_cal_73 : callB Try.prog 73 = true := by kernel_rfl
theorem Try_one_55 : oneB Try.prog 55 = true := by kernel_rfl
theorem Try_cal_84 : callB Try.prog 84 = true := by kernel_rfl
theorem Try_cal_66 : callB Try.prog 66 = true := by kernel_rfl
theorem Try_cal_65 : callB Try.prog 65 = true := by kernel_rfl
theorem Try_cal_48 : callB Try.prog 48 = true := by kernel_rfl
theorem Try_cal_35 : callB Try.prog 35 = true := by kernel_rfl
theorem Try_zer_4 : zeroIs Try.prog 4 (.bool false) := by unfold zeroIs; kernel_rfl
theorem Try_cal_80 : callB Try.prog 80 = true := by kernel_rfl
theorem Try_cal_79 : callB Try.prog 79 = true := by kernel_rfl
theorem Try_cal_59 : callB Try.prog 59 = true := by kernel_rfl
theorem Try_cal_60 : callB Try.prog 60 = true := by kernel_rfl
theorem Try_one_22 : oneB Try.prog 22 = true := by kernel_rfl
theorem Try_one_4 : oneB Try.prog 4 = true := by kernel_rfl
theorem Try_cal_81 : callB Try.prog 81 = true := by kernel_rfl
theorem Try_cal_36 : callB Try.prog 36 = true := by kernel_rfl
theorem Try_cal_82 : callB Try.prog 82 = true := by kernel_rfl
theorem Try_zer_55 : zeroIs Try.prog 55 (.slice none 0 0) := by unfold zeroIs; kernel_rfl
theorem Try_cal_83 : callB Try.prog 83 = true := by kernel_rfl
theorem Try_cal_62 : callB Try.prog 62 = true := by kernel_rfl
theorem Try_cal_61 : callB Try.prog 61 = true := by kernel_rfl
theorem Try_cal_37 : callB Try.prog 37 = true := by kernel_rfl
theorem Try_cal_40 : callB Try.prog 40 = true := by kernel_rfl
theorem Try_cal_12 : callB Try.prog 12 = true := by kernel_rfl
theorem Try_cal_11 : callB Try.prog 11 = true := by kernel_rfl
theorem Try_arr_28 : arrayB Try.prog 28 3 27 11 = true := by kernel_rfl
end Go.Proofs.Ytkfgkkbfipgklaa
