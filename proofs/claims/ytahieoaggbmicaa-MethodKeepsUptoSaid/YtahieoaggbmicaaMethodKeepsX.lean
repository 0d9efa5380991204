/- A part of the proof that the law MethodKeeps gives true for every input. -/
import Derived.Test.YtahieoaggbmicaaMethodKeepsA3
import Derived.Test.YtahieoaggbmicaaProg
/- Facts about the types of the program. -/
namespace Go.Proofs.Ytahieoaggbmicaa
open Go.RowKit Go.Abs
theorem Try_slc_22 : sliceB Try.prog 22 56 7 = true := by kernel_rfl
theorem Try_agg_56 : aggB Try.prog 56 7 = true := by kernel_rfl
theorem Try_zer_56 : zeroIs Try.prog 56 (.agg #[.string ⟨#[]⟩, .slice none 0 0, .string ⟨#[]⟩, .slice none 0 0, .slice none 0 0, .slice none 0 0, .int .i64 0]) := by unfold zeroIs; kernel_rfl
theorem Try_non_56 : oneB Try.prog 56 = false := by kernel_rfl
theorem Try_fld_56_1 : fieldB Try.prog 56 1 1 = true := by kernel_rfl
theorem Try_one_52 : oneB Try.prog 52 = true := by kernel_rfl
theorem Try_slc_52 : sliceB Try.prog 52 9 1 = true := by kernel_rfl
theorem Try_fld_56_3 : fieldB Try.prog 56 3 3 = true := by kernel_rfl
theorem Try_one_53 : oneB Try.prog 53 = true := by kernel_rfl
theorem Try_slc_53 : sliceB Try.prog 53 26 2 = true := by kernel_rfl
theorem Try_fld_56_4 : fieldB Try.prog 56 4 4 = true := by kernel_rfl
theorem Try_one_30 : oneB Try.prog 30 = true := by kernel_rfl
theorem Try_slc_30 : sliceB Try.prog 30 50 13 = true := by kernel_rfl
theorem Try_fld_56_5 : fieldB Try.prog 56 5 5 = true := by kernel_rfl
theorem Try_one_54 : oneB Try.prog 54 = true := by kernel_rfl
theorem Try_slc_54 : sliceB Try.prog 54 33 17 = true := by kernel_rfl
theorem Try_agg_33 : aggB Try.prog 33 17 = true := by kernel_rfl
theorem Try_zer_33 : zeroIs Try.prog 33 (.agg #[.string ⟨#[]⟩, .bool false, .int .i64 0, .string ⟨#[]⟩, .int .i64 0, .int .i64 0, .int .i64 0, .int .i64 0, .int .i64 0, .int .i64 0, .int .i64 0, .int .i64 0, .int .i64 0, .slice none 0 0, .slice none 0 0, .slice none 0 0, .int .i64 0]) := by unfold zeroIs; kernel_rfl
theorem Try_non_33 : oneB Try.prog 33 = false := by kernel_rfl
theorem Try_fld_33_3 : fieldB Try.prog 33 3 13 = true := by kernel_rfl
theorem Try_fld_33_4 : fieldB Try.prog 33 4 14 = true := by kernel_rfl
theorem Try_fld_33_5 : fieldB Try.prog 33 5 15 = true := by kernel_rfl
theorem Try_one_31 : oneB Try.prog 31 = true := by kernel_rfl
theorem Try_slc_31 : sliceB Try.prog 31 83 23 = true := by kernel_rfl
theorem Try_fld_50_1 : fieldB Try.prog 50 1 1 = true := by kernel_rfl
theorem Try_fld_29_3 : fieldB Try.prog 29 3 3 = true := by kernel_rfl
theorem Try_arr_27 : arrayB Try.prog 27 4 26 2 = true := by kernel_rfl
theorem Try_fld_26_0 : fieldB Try.prog 26 0 0 = true := by kernel_rfl
theorem Try_one_3 : oneB Try.prog 3 = true := by kernel_rfl
theorem Try_cal_38 : callB Try.prog 38 = true := by kernel_rfl
theorem Try_agg_83 : aggB Try.prog 83 23 = true := by kernel_rfl
theorem Try_fld_83_7 : fieldB Try.prog 83 7 20 = true := by kernel_rfl
theorem Try_fld_83_8 : fieldB Try.prog 83 8 21 = true := by kernel_rfl
theorem Try_fld_83_6 : fieldB Try.prog 83 6 19 = true := by kernel_rfl
theorem Try_one_79 : oneB Try.prog 79 = true := by kernel_rfl
theorem Try_slc_79 : sliceB Try.prog 79 81 4 = true := by kernel_rfl
theorem Try_fld_83_5 : fieldB Try.prog 83 5 15 = true := by kernel_rfl
theorem Try_agg_81 : aggB Try.prog 81 4 = true := by kernel_rfl
theorem Try_fld_81_3 : fieldB Try.prog 81 3 3 = true := by kernel_rfl
theorem Try_cal_63 : callB Try.prog 63 = true := by kernel_rfl
theorem Try_cal_39 : callB Try.prog 39 = true := by kernel_rfl
theorem Try_cal_40 : callB Try.prog 40 = true := by kernel_rfl
theorem Try_cal_10 : callB Try.prog 10 = true := by kernel_rfl
theorem Try_zer_46 : zeroIs Try.prog 46 (.agg #[.int .i64 0, .int .i64 0]) := by unfold zeroIs; kernel_rfl
theorem Try_one_9 : oneB Try.prog 9 = true := by kernel_rfl
theorem Try_und_9 : Try.prog.underlying 9 = some .string := by kernel_rfl
theorem Try_cal_102 : callB Try.prog 102 = true := by kernel_rfl
theorem Try_zer_9 : zeroIs Try.prog 9 (.string ⟨#[]⟩) := by unfold zeroIs; kernel_rfl
theorem Try_cal_114 : callB Try.prog 114 = true := by kernel_rfl
theorem Try_cal_103 : callB Try.prog 103 = true := by kernel_rfl
theorem Try_cal_104 : callB Try.prog 104 = true := by kernel_rfl
theorem Try_cal_89 : callB Try.prog 89 = true := by kernel_rfl
theorem Try_agg_26 : aggB Try.prog 26 2 = true := by kernel_rfl
theorem Try_fld_26_1 : fieldB Try.prog 26 1 1 = true := by kernel_rfl
theorem Try_cal_90 : callB Try.prog 90 = true := by kernel_rfl
theorem Try_zer_83 : zeroIs Try.prog 83 (.agg #[.int .i64 0, .string ⟨#[]⟩, .string ⟨#[]⟩, .string ⟨#[]⟩, .int .i64 0, .string ⟨#[]⟩, .int .i64 0, .int .i64 0, .int .i64 0, .int .i64 0, .int .i64 0, .int .i64 0, .int .i64 0, .int .i64 0, .int .i64 0, .int .i64 0, .int .i64 0, .string ⟨#[]⟩, .slice none 0 0, .slice none 0 0, .slice none 0 0, .slice none 0 0, .int .i64 0]) := by unfold zeroIs; kernel_rfl
theorem Try_fld_83_0 : fieldB Try.prog 83 0 0 = true := by kernel_rfl
theorem Try_fld_83_1 : fieldB Try.prog 83 1 1 = true := by kernel_rfl
theorem Try_fld_83_2 : fieldB Try.prog 83 2 2 = true := by kernel_rfl
theorem Try_fld_83_3 : fieldB Try.prog 83 3 3 = true := by kernel_rfl
theorem Try_zer_29 : zeroIs Try.prog 29 (.agg #[.int .i64 0, .string ⟨#[]⟩, .int .i64 0, .int .i64 0, .int .i64 0, .int .i64 0, .int .i64 0, .int .i64 0, .int .i64 0, .int .i64 0, .int .i64 0]) := by unfold zeroIs; kernel_rfl
theorem Try_plc_29 : placesB Try.prog 29 [(0, 1), (1, 1), (2, 1), (3, 8)] = true := by kernel_rfl
theorem Try_fld_83_4 : fieldB Try.prog 83 4 4 = true := by kernel_rfl
theorem Try_agg_29 : aggB Try.prog 29 11 = true := by kernel_rfl
theorem Try_non_29 : oneB Try.prog 29 = false := by kernel_rfl
theorem Try_zer_81 : zeroIs Try.prog 81 (.agg #[.int .i64 0, .int .i64 0, .string ⟨#[]⟩, .slice none 0 0]) := by unfold zeroIs; kernel_rfl
theorem Try_plc_81 : placesB Try.prog 81 [(0, 1), (1, 1), (2, 1), (3, 1)] = true := by kernel_rfl
theorem Try_non_81 : oneB Try.prog 81 = false := by kernel_rfl
theorem Try_non_83 : oneB Try.prog 83 = false := by kernel_rfl
theorem Try_cal_126 : callB Try.prog 126 = true := by kernel_rfl
theorem Try_eqt_29 : eqB Try.prog 29 [(.i .i64), .s, (.i .i64), (.i .i64), (.i .i64), (.i .i64), (.i .i64), (.i .i64), (.i .i64), (.i .i64), (.i .i64)] = true := by kernel_rfl
theorem Try_fld_81_0 : fieldB Try.prog 81 0 0 = true := by kernel_rfl
theorem Try_fld_81_1 : fieldB Try.prog 81 1 1 = true := by kernel_rfl
theorem Try_fld_81_2 : fieldB Try.prog 81 2 2 = true := by kernel_rfl
theorem Try_cal_88 : callB Try.prog 88 = true := by kernel_rfl
theorem Try_mixed : Try.prog.follows .mixedOrders = true := by kernel_rfl
theorem Try_cal_122 : callB Try.prog 122 = true := by kernel_rfl
theorem Try_fld_29_0 : fieldB Try.prog 29 0 0 = true := by kernel_rfl
theorem Try_fld_29_1 : fieldB Try.prog 29 1 1 = true := by kernel_rfl
theorem Try_fld_29_2 : fieldB Try.prog 29 2 2 = true := by kernel_rfl
theorem Try_zer_26 : zeroIs Try.prog 26 (.agg #[.int .i64 0, .int .i64 0]) := by unfold zeroIs; kernel_rfl
theorem Try_non_26 : oneB Try.prog 26 = false := by kernel_rfl
theorem Try_plc_26 : placesB Try.prog 26 [(0, 1), (1, 1)] = true := by kernel_rfl
theorem Try_eqt_26 : eqB Try.prog 26 [(.i .i64), (.i .i64)] = true := by kernel_rfl
theorem Try_cal_117 : callB Try.prog 117 = true := by kernel_rfl
theorem Try_cal_123 : callB Try.prog 123 = true := by kernel_rfl
theorem Try_cal_130 : callB Try.prog 130 = true := by kernel_rfl
theorem Try_cal_128 : callB Try.prog 128 = true := by kernel_rfl
theorem Try_cal_129 : callB Try.prog 129 = true := by kernel_rfl
theorem Try_cal_127 : callB Try.prog 127 = true := by kernel_rfl
theorem Try_cal_124 : callB Try.prog 124 = true := by kernel_rfl
theorem Try_cal_115 : callB Try.prog 115 = true := by kernel_rfl
theorem Try_cal_116 : callB Try.prog 116 = true := by kernel_rfl
theorem Try_cal_105 : callB Try.prog 105 = true := by kernel_rfl
theorem Try_fld_33_0 : fieldB Try.prog 33 0 0 = true := by kernel_rfl
theorem Try_fld_33_2 : fieldB Try.prog 33 2 2 = true := by kernel_rfl
theorem Try_agg_27 : aggB Try.prog 27 8 = true := by kernel_rfl
theorem Try_zer_27 : zeroIs Try.prog 27 (.agg #[.int .i64 0, .int .i64 0, .int .i64 0, .int .i64 0, .int .i64 0, .int .i64 0, .int .i64 0, .int .i64 0]) := by unfold zeroIs; kernel_rfl
theorem Try_non_27 : oneB Try.prog 27 = false := by kernel_rfl
theorem Try_cal_106 : callB Try.prog 106 = true := by kernel_rfl
theorem Try_fld_50_0 : fieldB Try.prog 50 0 0 = true := by kernel_rfl
theorem Try_cal_92 : callB Try.prog 92 = true := by kernel_rfl
theorem Try_cal_107 : callB Try.prog 107 = true := by kernel_rfl
theorem Try_cal_91 : callB Try.prog 91 = true := by kernel_rfl
theorem Try_fld_56_0 : fieldB Try.prog 56 0 0 = true := by kernel_rfl
theorem Try_fld_56_2 : fieldB Try.prog 56 2 2 = true := by kernel_rfl
theorem Try_cal_70 : callB Try.prog 70 = true := by kernel_rfl
theorem Try_cal_71 : callB Try.prog 71 = true := by kernel_rfl
theorem Try_cal_46 : callB Try.prog 46 = true := by kernel_rfl
theorem Try_plc_46 : placesB Try.prog 46 [(0, 1), (1, 1)] = true := by kernel_rfl
theorem Try_agg_46 : aggB Try.prog 46 2 = true := by kernel_rfl
theorem Try_non_46 : oneB Try.prog 46 = false := by kernel_rfl
theorem Try_cal_47 : callB Try.prog 47 = true := by kernel_rfl
theorem Try_cal_50 : callB Try.prog 50 = true := by kernel_rfl
theorem Try_cal_72 : callB Try.prog 72 = true := by kernel_rfl
theorem Try_fld_56_6 : fieldB Try.prog 56 6 6 = true := by kernel_rfl
theorem Try_cal_73 : callB Try.prog 73 = true := by kernel_rfl
theorem Try_agg_50 : aggB Try.prog 50 13 = true := by kernel_rfl
theorem Try_zer_50 : zeroIs Try.prog 50 (.agg #[.string ⟨#[]⟩, .int .i64 0, .string ⟨#[]⟩, .int .i64 0, .int .i64 0, .int .i64 0, .int .i64 0, .int .i64 0, .int .i64 0, .int .i64 0, .int .i64 0, .int .i64 0, .int .i64 0]) := by unfold zeroIs; kernel_rfl
theorem Try_non_50 : oneB Try.prog 50 = false := by kernel_rfl
theorem Try_fld_50_2 : fieldB Try.prog 50 2 12 = true := by kernel_rfl
theorem Try_zer_142 : zeroIs Try.prog 142 (.agg #[.int .i64 0, .int .i64 0, .int .i64 0, .int .i64 0, .string ⟨#[]⟩, .int .i64 0, .int .i64 0, .int .i64 0, .int .i64 0, .int .i64 0, .int .i64 0, .int .i64 0, .int .i64 0, .int .i64 0, .int .i64 0]) := by unfold zeroIs; kernel_rfl
theorem Try_plc_142 : placesB Try.prog 142 [(0, 1), (1, 1), (2, 1), (3, 11), (14, 1)] = true := by kernel_rfl
theorem Try_slc_139 : sliceB Try.prog 139 142 15 = true := by kernel_rfl
theorem Try_elm_142 : elemB Try.prog 142 128 = true := by kernel_rfl
theorem Try_fld_33_6 : fieldB Try.prog 33 6 16 = true := by kernel_rfl
theorem Try_elm_50 : elemB Try.prog 50 120 = true := by kernel_rfl
theorem Try_cal_55 : callB Try.prog 55 = true := by kernel_rfl
theorem Try_zer_154 : zeroIs Try.prog 154 (.agg #[.int .i64 0, .int .i64 0, .int .i64 0, .int .i64 0, .string ⟨#[]⟩, .string ⟨#[]⟩, .string ⟨#[]⟩, .int .i64 0, .string ⟨#[]⟩, .int .i64 0, .int .i64 0, .int .i64 0, .int .i64 0, .int .i64 0, .int .i64 0, .int .i64 0, .int .i64 0, .int .i64 0, .int .i64 0, .int .i64 0, .string ⟨#[]⟩, .slice none 0 0, .slice none 0 0, .slice none 0 0, .slice none 0 0, .int .i64 0]) := by unfold zeroIs; kernel_rfl
theorem Try_plc_154 : placesB Try.prog 154 [(0, 1), (1, 1), (2, 1), (3, 23)] = true := by kernel_rfl
theorem Try_agg_154 : aggB Try.prog 154 26 = true := by kernel_rfl
theorem Try_non_154 : oneB Try.prog 154 = false := by kernel_rfl
theorem Try_fld_154_3 : fieldB Try.prog 154 3 3 = true := by kernel_rfl
theorem Try_slc_151 : sliceB Try.prog 151 154 26 = true := by kernel_rfl
theorem Try_elm_154 : elemB Try.prog 154 312 = true := by kernel_rfl
theorem Try_fld_154_2 : fieldB Try.prog 154 2 2 = true := by kernel_rfl
theorem Try_cal_108 : callB Try.prog 108 = true := by kernel_rfl
theorem Try_fld_83_9 : fieldB Try.prog 83 9 22 = true := by kernel_rfl
theorem Try_cal_93 : callB Try.prog 93 = true := by kernel_rfl
theorem Try_fld_142_3 : fieldB Try.prog 142 3 3 = true := by kernel_rfl
theorem Try_fld_142_4 : fieldB Try.prog 142 4 14 = true := by kernel_rfl
theorem Try_cal_74 : callB Try.prog 74 = true := by kernel_rfl
theorem Try_fld_46_0 : fieldB Try.prog 46 0 0 = true := by kernel_rfl
theorem Try_one_44 : oneB Try.prog 44 = true := by kernel_rfl
theorem Try_elm_9 : elemB Try.prog 9 16 = true := by kernel_rfl
theorem Try_cal_75 : callB Try.prog 75 = true := by kernel_rfl
theorem Try_cal_48 : callB Try.prog 48 = true := by kernel_rfl
theorem Try_cal_17 : callB Try.prog 17 = true := by kernel_rfl
theorem Try_ftb_46_0 : fieldTB Try.prog 46 0 44 0 = true := by kernel_rfl
theorem Try_slc_86 : sliceB Try.prog 86 3 1 = true := by kernel_rfl
theorem Try_cal_49 : callB Try.prog 49 = true := by kernel_rfl
theorem Try_zer_3 : zeroIs Try.prog 3 (.int .i64 0) := by unfold zeroIs; kernel_rfl
theorem Try_elm_3 : elemB Try.prog 3 8 = true := by kernel_rfl
theorem Try_cal_44 : callB Try.prog 44 = true := by kernel_rfl
theorem Try_cal_18 : callB Try.prog 18 = true := by kernel_rfl
theorem Try_zer_35 : zeroIs Try.prog 35 (.agg #[.string ⟨#[]⟩, .string ⟨#[]⟩, .bool false, .int .i64 0, .string ⟨#[]⟩, .int .i64 0, .int .i64 0, .int .i64 0, .int .i64 0, .int .i64 0, .int .i64 0, .int .i64 0, .int .i64 0, .int .i64 0, .slice none 0 0, .slice none 0 0, .slice none 0 0, .int .i64 0]) := by unfold zeroIs; kernel_rfl
theorem Try_zer_86 : zeroIs Try.prog 86 (.slice none 0 0) := by unfold zeroIs; kernel_rfl
theorem Try_cal_66 : callB Try.prog 66 = true := by kernel_rfl
theorem Try_one_22 : oneB Try.prog 22 = true := by kernel_rfl
theorem Try_cal_101 : callB Try.prog 101 = true := by kernel_rfl
theorem Try_cal_100 : callB Try.prog 100 = true := by kernel_rfl
theorem Try_cal_86 : callB Try.prog 86 = true := by kernel_rfl
theorem Try_one_86 : oneB Try.prog 86 = true := by kernel_rfl
theorem Try_cal_87 : callB Try.prog 87 = true := by kernel_rfl
theorem Try_cal_67 : callB Try.prog 67 = true := by kernel_rfl
theorem Try_cal_85 : callB Try.prog 85 = true := by kernel_rfl
theorem Try_cal_42 : callB Try.prog 42 = true := by kernel_rfl
theorem Try_plc_35 : placesB Try.prog 35 [(0, 1), (1, 17)] = true := by kernel_rfl
theorem Try_zer_4 : zeroIs Try.prog 4 (.bool false) := by unfold zeroIs; kernel_rfl
theorem Try_agg_35 : aggB Try.prog 35 18 = true := by kernel_rfl
theorem Try_non_35 : oneB Try.prog 35 = false := by kernel_rfl
theorem Try_one_4 : oneB Try.prog 4 = true := by kernel_rfl
theorem Try_zer_112 : zeroIs Try.prog 112 (.agg #[.string ⟨#[]⟩, .bool false, .int .i64 0, .string ⟨#[]⟩, .int .i64 0, .int .i64 0, .int .i64 0, .int .i64 0, .int .i64 0, .int .i64 0, .int .i64 0, .int .i64 0, .int .i64 0, .slice none 0 0, .slice none 0 0, .slice none 0 0, .int .i64 0, .int .i64 0]) := by unfold zeroIs; kernel_rfl
theorem Try_plc_112 : placesB Try.prog 112 [(0, 17), (17, 1)] = true := by kernel_rfl
theorem Try_fld_112_0 : fieldB Try.prog 112 0 0 = true := by kernel_rfl
theorem Try_fld_112_1 : fieldB Try.prog 112 1 17 = true := by kernel_rfl
theorem Try_fld_35_0 : fieldB Try.prog 35 0 0 = true := by kernel_rfl
theorem Try_fld_35_1 : fieldB Try.prog 35 1 1 = true := by kernel_rfl
theorem Try_cal_65 : callB Try.prog 65 = true := by kernel_rfl
theorem Try_cal_64 : callB Try.prog 64 = true := by kernel_rfl
theorem Try_cal_41 : callB Try.prog 41 = true := by kernel_rfl
theorem Try_cal_14 : callB Try.prog 14 = true := by kernel_rfl
theorem Try_fld_33_1 : fieldB Try.prog 33 1 1 = true := by kernel_rfl
theorem Try_cal_52 : callB Try.prog 52 = true := by kernel_rfl
theorem Try_und_4 : Try.prog.underlying 4 = some .bool := by kernel_rfl
theorem Try_cal_21 : callB Try.prog 21 = true := by kernel_rfl
theorem Try_cal_77 : callB Try.prog 77 = true := by kernel_rfl
theorem Try_cal_76 : callB Try.prog 76 = true := by kernel_rfl
theorem Try_cal_51 : callB Try.prog 51 = true := by kernel_rfl
theorem Try_cal_19 : callB Try.prog 19 = true := by kernel_rfl
theorem Try_arr_43 : arrayB Try.prog 43 2 9 1 = true := by kernel_rfl
theorem Try_cal_20 : callB Try.prog 20 = true := by kernel_rfl
theorem Try_plc_50 : placesB Try.prog 50 [(0, 1), (1, 11), (12, 1)] = true := by kernel_rfl
theorem Try_plc_33 : placesB Try.prog 33 [(0, 1), (1, 1), (2, 11), (13, 1), (14, 1), (15, 1), (16, 1)] = true := by kernel_rfl
theorem Try_plc_56 : placesB Try.prog 56 [(0, 1), (1, 1), (2, 1), (3, 1), (4, 1), (5, 1), (6, 1)] = true := by kernel_rfl
theorem Try_eqt_46 : eqB Try.prog 46 [(.i .i64), (.i .i64)] = true := by kernel_rfl
theorem Try_cal_11 : callB Try.prog 11 = true := by kernel_rfl
theorem Try_cal_12 : callB Try.prog 12 = true := by kernel_rfl
end Go.Proofs.Ytahieoaggbmicaa
