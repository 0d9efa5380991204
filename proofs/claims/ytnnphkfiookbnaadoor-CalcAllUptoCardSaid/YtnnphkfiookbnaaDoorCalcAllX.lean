/- A part of the proof that the law CalcAll gives true for every input. -/
import Derived.Test.YtnnphkfiookbnaaDoorCalcAllA3
import Derived.Test.YtnnphkfiookbnaaDoorProg
/- Facts about the types of the program. -/
namespace Go.Proofs.YtnnphkfiookbnaaDoor
open Go.RowKit Go.Abs
/-- The package variables that are read: their blocks, and what they hold. -/
abbrev globs_Tryd : List (Nat × List PV) := [(0, [.str [99, 108, 97, 115, 115], .str [101, 120, 116, 101, 110, 100, 115], .str [114, 101, 112], .str [112, 101, 101, 114], .str [119, 111, 114, 108, 100], .str [97, 110, 121], .str [117, 110, 105, 113, 117, 101], .str [112, 117, 114, 101], .str [118, 111, 105, 100], .str [105, 110, 116], .str [105, 102], .str [101, 108, 115, 101], .str [119, 104, 105, 108, 101], .str [114, 101, 116, 117, 114, 110], .str [110, 101, 119], .str [109, 111, 118, 101], .str [100, 101, 108, 101, 116, 101], .str [116, 104, 105, 115], .str [110, 117, 108, 108], .str [105, 110, 112, 117, 116], .str [110, 105, 108], .str [115, 97, 109, 101], .str [99, 97, 115, 116]])]
theorem Tryd_slc_29 : sliceB Tryd.prog 29 31 4 = true := by kernel_rfl
theorem Tryd_mixed : Tryd.prog.follows .mixedOrders = true := by kernel_rfl
theorem Tryd_agg_28 : aggB Tryd.prog 28 7 = true := by kernel_rfl
theorem Tryd_agg_31 : aggB Tryd.prog 31 4 = true := by kernel_rfl
theorem Tryd_slc_22 : sliceB Tryd.prog 22 108 7 = true := by kernel_rfl
theorem Tryd_agg_108 : aggB Tryd.prog 108 7 = true := by kernel_rfl
theorem Tryd_zer_108 : zeroIs Tryd.prog 108 (.agg #[.string ⟨#[]⟩, .slice none 0 0, .string ⟨#[]⟩, .slice none 0 0, .slice none 0 0, .slice none 0 0, .int .i64 0]) := by unfold zeroIs; kernel_rfl
theorem Tryd_non_108 : oneB Tryd.prog 108 = false := by kernel_rfl
theorem Tryd_fld_108_1 : fieldB Tryd.prog 108 1 1 = true := by kernel_rfl
theorem Tryd_one_77 : oneB Tryd.prog 77 = true := by kernel_rfl
theorem Tryd_slc_77 : sliceB Tryd.prog 77 9 1 = true := by kernel_rfl
theorem Tryd_fld_108_3 : fieldB Tryd.prog 108 3 3 = true := by kernel_rfl
theorem Tryd_one_104 : oneB Tryd.prog 104 = true := by kernel_rfl
theorem Tryd_slc_104 : sliceB Tryd.prog 104 110 2 = true := by kernel_rfl
theorem Tryd_fld_108_4 : fieldB Tryd.prog 108 4 4 = true := by kernel_rfl
theorem Tryd_one_105 : oneB Tryd.prog 105 = true := by kernel_rfl
theorem Tryd_slc_105 : sliceB Tryd.prog 105 143 13 = true := by kernel_rfl
theorem Tryd_fld_108_5 : fieldB Tryd.prog 108 5 5 = true := by kernel_rfl
theorem Tryd_one_106 : oneB Tryd.prog 106 = true := by kernel_rfl
theorem Tryd_slc_106 : sliceB Tryd.prog 106 116 17 = true := by kernel_rfl
theorem Tryd_agg_116 : aggB Tryd.prog 116 17 = true := by kernel_rfl
theorem Tryd_zer_116 : zeroIs Tryd.prog 116 (.agg #[.string ⟨#[]⟩, .bool false, .int .i64 0, .string ⟨#[]⟩, .int .i64 0, .int .i64 0, .int .i64 0, .int .i64 0, .int .i64 0, .int .i64 0, .int .i64 0, .int .i64 0, .int .i64 0, .slice none 0 0, .slice none 0 0, .slice none 0 0, .int .i64 0]) := by unfold zeroIs; kernel_rfl
theorem Tryd_non_116 : oneB Tryd.prog 116 = false := by kernel_rfl
theorem Tryd_fld_116_3 : fieldB Tryd.prog 116 3 13 = true := by kernel_rfl
theorem Tryd_fld_116_4 : fieldB Tryd.prog 116 4 14 = true := by kernel_rfl
theorem Tryd_fld_116_5 : fieldB Tryd.prog 116 5 15 = true := by kernel_rfl
theorem Tryd_one_114 : oneB Tryd.prog 114 = true := by kernel_rfl
theorem Tryd_slc_114 : sliceB Tryd.prog 114 120 23 = true := by kernel_rfl
theorem Tryd_fld_143_1 : fieldB Tryd.prog 143 1 1 = true := by kernel_rfl
theorem Tryd_fld_113_3 : fieldB Tryd.prog 113 3 3 = true := by kernel_rfl
theorem Tryd_arr_111 : arrayB Tryd.prog 111 4 110 2 = true := by kernel_rfl
theorem Tryd_fld_110_0 : fieldB Tryd.prog 110 0 0 = true := by kernel_rfl
theorem Tryd_one_3 : oneB Tryd.prog 3 = true := by kernel_rfl
theorem Tryd_cal_52 : callB Tryd.prog 52 = true := by kernel_rfl
theorem Tryd_agg_120 : aggB Tryd.prog 120 23 = true := by kernel_rfl
theorem Tryd_fld_120_7 : fieldB Tryd.prog 120 7 20 = true := by kernel_rfl
theorem Tryd_fld_120_8 : fieldB Tryd.prog 120 8 21 = true := by kernel_rfl
theorem Tryd_fld_120_6 : fieldB Tryd.prog 120 6 19 = true := by kernel_rfl
theorem Tryd_one_29 : oneB Tryd.prog 29 = true := by kernel_rfl
theorem Tryd_fld_120_5 : fieldB Tryd.prog 120 5 15 = true := by kernel_rfl
theorem Tryd_fld_31_3 : fieldB Tryd.prog 31 3 3 = true := by kernel_rfl
theorem Tryd_cal_79 : callB Tryd.prog 79 = true := by kernel_rfl
theorem Tryd_cal_53 : callB Tryd.prog 53 = true := by kernel_rfl
theorem Tryd_cal_54 : callB Tryd.prog 54 = true := by kernel_rfl
theorem Tryd_cal_28 : callB Tryd.prog 28 = true := by kernel_rfl
theorem Tryd_fld_28_0 : fieldB Tryd.prog 28 0 0 = true := by kernel_rfl
theorem Tryd_fld_25_3 : fieldB Tryd.prog 25 3 3 = true := by kernel_rfl
theorem Tryd_one_23 : oneB Tryd.prog 23 = true := by kernel_rfl
theorem Tryd_slc_23 : sliceB Tryd.prog 23 35 2 = true := by kernel_rfl
theorem Tryd_fld_28_1 : fieldB Tryd.prog 28 1 6 = true := by kernel_rfl
theorem Tryd_one_26 : oneB Tryd.prog 26 = true := by kernel_rfl
theorem Tryd_slc_26 : sliceB Tryd.prog 26 3 1 = true := by kernel_rfl
theorem Tryd_cal_29 : callB Tryd.prog 29 = true := by kernel_rfl
theorem Tryd_cal_9 : callB Tryd.prog 9 = true := by kernel_rfl
theorem Tryd_zer_31 : zeroIs Tryd.prog 31 (.agg #[.int .i64 0, .int .i64 0, .string ⟨#[]⟩, .slice none 0 0]) := by unfold zeroIs; kernel_rfl
theorem Tryd_plc_31 : placesB Tryd.prog 31 [(0, 1), (1, 1), (2, 1), (3, 1)] = true := by kernel_rfl
theorem Tryd_non_31 : oneB Tryd.prog 31 = false := by kernel_rfl
theorem Tryd_zer_25 : zeroIs Tryd.prog 25 (.agg #[.int .i64 0, .string ⟨#[]⟩, .string ⟨#[]⟩, .slice none 0 0, .int .i64 0, .int .i64 0]) := by unfold zeroIs; kernel_rfl
theorem Tryd_plc_25 : placesB Tryd.prog 25 [(0, 1), (1, 1), (2, 1), (3, 1), (4, 1), (5, 1)] = true := by kernel_rfl
theorem Tryd_zer_3 : zeroIs Tryd.prog 3 (.int .i64 0) := by unfold zeroIs; kernel_rfl
theorem Tryd_zer_35 : zeroIs Tryd.prog 35 (.agg #[.bool false, .int .i64 0]) := by unfold zeroIs; kernel_rfl
theorem Tryd_agg_25 : aggB Tryd.prog 25 6 = true := by kernel_rfl
theorem Tryd_zer_72 : zeroIs Tryd.prog 72 (.agg #[.slice none 0 0, .int .i64 0, .string ⟨#[]⟩, .string ⟨#[]⟩, .slice none 0 0, .int .i64 0, .int .i64 0, .slice none 0 0, .bool false]) := by unfold zeroIs; kernel_rfl
theorem Tryd_plc_72 : placesB Tryd.prog 72 [(0, 1), (1, 6), (7, 1), (8, 1)] = true := by kernel_rfl
theorem Tryd_zer_4 : zeroIs Tryd.prog 4 (.bool false) := by unfold zeroIs; kernel_rfl
theorem Tryd_cal_117 : callB Tryd.prog 117 = true := by kernel_rfl
theorem Tryd_cal_86 : callB Tryd.prog 86 = true := by kernel_rfl
theorem Tryd_cal_85 : callB Tryd.prog 85 = true := by kernel_rfl
theorem Tryd_cal_59 : callB Tryd.prog 59 = true := by kernel_rfl
theorem Tryd_one_4 : oneB Tryd.prog 4 = true := by kernel_rfl
theorem Tryd_cal_60 : callB Tryd.prog 60 = true := by kernel_rfl
theorem Tryd_zer_29 : zeroIs Tryd.prog 29 (.slice none 0 0) := by unfold zeroIs; kernel_rfl
theorem Tryd_cal_88 : callB Tryd.prog 88 = true := by kernel_rfl
theorem Tryd_elm_31 : elemB Tryd.prog 31 56 = true := by kernel_rfl
theorem Tryd_cal_118 : callB Tryd.prog 118 = true := by kernel_rfl
theorem Tryd_fld_31_0 : fieldB Tryd.prog 31 0 0 = true := by kernel_rfl
theorem Tryd_cal_89 : callB Tryd.prog 89 = true := by kernel_rfl
theorem Tryd_fld_31_1 : fieldB Tryd.prog 31 1 1 = true := by kernel_rfl
theorem Tryd_fld_31_2 : fieldB Tryd.prog 31 2 2 = true := by kernel_rfl
theorem Tryd_one_9 : oneB Tryd.prog 9 = true := by kernel_rfl
theorem Tryd_und_9 : Tryd.prog.underlying 9 = some .string := by kernel_rfl
theorem Tryd_cal_119 : callB Tryd.prog 119 = true := by kernel_rfl
theorem Tryd_und_94 : Tryd.prog.underlying 94 = some (.slice 5) := by kernel_rfl
theorem Tryd_und_5 : Tryd.prog.underlying 5 = some (.int .u8) := by kernel_rfl
theorem Tryd_slc_94 : sliceB Tryd.prog 94 5 1 = true := by kernel_rfl
theorem Tryd_one_5 : oneB Tryd.prog 5 = true := by kernel_rfl
theorem Tryd_cal_120 : callB Tryd.prog 120 = true := by kernel_rfl
theorem Tryd_arr_177 : arrayB Tryd.prog 177 23 9 1 = true := by kernel_rfl
theorem Tryd_cal_135 : callB Tryd.prog 135 = true := by kernel_rfl
theorem Tryd_cal_146 : callB Tryd.prog 146 = true := by kernel_rfl
theorem Tryd_cal_134 : callB Tryd.prog 134 = true := by kernel_rfl
theorem Tryd_cal_121 : callB Tryd.prog 121 = true := by kernel_rfl
theorem Tryd_cal_90 : callB Tryd.prog 90 = true := by kernel_rfl
theorem Tryd_cal_91 : callB Tryd.prog 91 = true := by kernel_rfl
theorem Tryd_cal_61 : callB Tryd.prog 61 = true := by kernel_rfl
theorem Tryd_cal_87 : callB Tryd.prog 87 = true := by kernel_rfl
theorem Tryd_cal_33 : callB Tryd.prog 33 = true := by kernel_rfl
theorem Tryd_plc_35 : placesB Tryd.prog 35 [(0, 1), (1, 1)] = true := by kernel_rfl
theorem Tryd_agg_35 : aggB Tryd.prog 35 2 = true := by kernel_rfl
theorem Tryd_non_35 : oneB Tryd.prog 35 = false := by kernel_rfl
theorem Tryd_fld_72_0 : fieldB Tryd.prog 72 0 0 = true := by kernel_rfl
theorem Tryd_one_22 : oneB Tryd.prog 22 = true := by kernel_rfl
theorem Tryd_fld_72_1 : fieldB Tryd.prog 72 1 1 = true := by kernel_rfl
theorem Tryd_fld_25_1 : fieldB Tryd.prog 25 1 1 = true := by kernel_rfl
theorem Tryd_fld_108_0 : fieldB Tryd.prog 108 0 0 = true := by kernel_rfl
theorem Tryd_cal_137 : callB Tryd.prog 137 = true := by kernel_rfl
theorem Tryd_cal_136 : callB Tryd.prog 136 = true := by kernel_rfl
theorem Tryd_cal_122 : callB Tryd.prog 122 = true := by kernel_rfl
theorem Tryd_plc_108 : placesB Tryd.prog 108 [(0, 1), (1, 1), (2, 1), (3, 1), (4, 1), (5, 1), (6, 1)] = true := by kernel_rfl
theorem Tryd_plc_116 : placesB Tryd.prog 116 [(0, 1), (1, 1), (2, 11), (13, 1), (14, 1), (15, 1), (16, 1)] = true := by kernel_rfl
theorem Tryd_fld_116_0 : fieldB Tryd.prog 116 0 0 = true := by kernel_rfl
theorem Tryd_fld_25_2 : fieldB Tryd.prog 25 2 2 = true := by kernel_rfl
theorem Tryd_cal_124 : callB Tryd.prog 124 = true := by kernel_rfl
theorem Tryd_cal_123 : callB Tryd.prog 123 = true := by kernel_rfl
theorem Tryd_cal_92 : callB Tryd.prog 92 = true := by kernel_rfl
theorem Tryd_fld_25_0 : fieldB Tryd.prog 25 0 0 = true := by kernel_rfl
theorem Tryd_agg_143 : aggB Tryd.prog 143 13 = true := by kernel_rfl
theorem Tryd_fld_143_0 : fieldB Tryd.prog 143 0 0 = true := by kernel_rfl
theorem Tryd_cal_138 : callB Tryd.prog 138 = true := by kernel_rfl
theorem Tryd_cal_139 : callB Tryd.prog 139 = true := by kernel_rfl
theorem Tryd_cal_125 : callB Tryd.prog 125 = true := by kernel_rfl
theorem Tryd_cal_93 : callB Tryd.prog 93 = true := by kernel_rfl
theorem Tryd_cal_62 : callB Tryd.prog 62 = true := by kernel_rfl
theorem Tryd_fld_72_3 : fieldB Tryd.prog 72 3 8 = true := by kernel_rfl
theorem Tryd_cal_63 : callB Tryd.prog 63 = true := by kernel_rfl
theorem Tryd_fld_72_2 : fieldB Tryd.prog 72 2 7 = true := by kernel_rfl
theorem Tryd_cal_64 : callB Tryd.prog 64 = true := by kernel_rfl
theorem Tryd_cal_34 : callB Tryd.prog 34 = true := by kernel_rfl
theorem Tryd_fld_35_0 : fieldB Tryd.prog 35 0 0 = true := by kernel_rfl
theorem Tryd_und_4 : Tryd.prog.underlying 4 = some .bool := by kernel_rfl
theorem Tryd_fld_35_1 : fieldB Tryd.prog 35 1 1 = true := by kernel_rfl
theorem Tryd_elm_3 : elemB Tryd.prog 3 8 = true := by kernel_rfl
theorem Tryd_cal_94 : callB Tryd.prog 94 = true := by kernel_rfl
theorem Tryd_cal_95 : callB Tryd.prog 95 = true := by kernel_rfl
theorem Tryd_cal_96 : callB Tryd.prog 96 = true := by kernel_rfl
theorem Tryd_cal_98 : callB Tryd.prog 98 = true := by kernel_rfl
theorem Tryd_cal_97 : callB Tryd.prog 97 = true := by kernel_rfl
theorem Tryd_cal_99 : callB Tryd.prog 99 = true := by kernel_rfl
theorem Tryd_cal_100 : callB Tryd.prog 100 = true := by kernel_rfl
theorem Tryd_cal_101 : callB Tryd.prog 101 = true := by kernel_rfl
theorem Tryd_cal_65 : callB Tryd.prog 65 = true := by kernel_rfl
theorem Tryd_elm_35 : elemB Tryd.prog 35 16 = true := by kernel_rfl
theorem Tryd_cal_35 : callB Tryd.prog 35 = true := by kernel_rfl
theorem Tryd_cal_14 : callB Tryd.prog 14 = true := by kernel_rfl
theorem Tryd_cal_11 : callB Tryd.prog 11 = true := by kernel_rfl
theorem Tryd_eqt_35 : eqB Tryd.prog 35 [.b, (.i .i64)] = true := by kernel_rfl
theorem Tryd_cal_10 : callB Tryd.prog 10 = true := by kernel_rfl
theorem Tryd_zer_39 : zeroIs Tryd.prog 39 (.agg #[.bool false, .int .i64 0, .slice none 0 0, .int .i64 0]) := by unfold zeroIs; kernel_rfl
theorem Tryd_cal_80 : callB Tryd.prog 80 = true := by kernel_rfl
theorem Tryd_cal_112 : callB Tryd.prog 112 = true := by kernel_rfl
theorem Tryd_zer_9 : zeroIs Tryd.prog 9 (.string ⟨#[]⟩) := by unfold zeroIs; kernel_rfl
theorem Tryd_cal_132 : callB Tryd.prog 132 = true := by kernel_rfl
theorem Tryd_cal_113 : callB Tryd.prog 113 = true := by kernel_rfl
theorem Tryd_cal_114 : callB Tryd.prog 114 = true := by kernel_rfl
theorem Tryd_cal_81 : callB Tryd.prog 81 = true := by kernel_rfl
theorem Tryd_cal_55 : callB Tryd.prog 55 = true := by kernel_rfl
theorem Tryd_cal_56 : callB Tryd.prog 56 = true := by kernel_rfl
theorem Tryd_cal_30 : callB Tryd.prog 30 = true := by kernel_rfl
theorem Tryd_plc_39 : placesB Tryd.prog 39 [(0, 2), (2, 1), (3, 1)] = true := by kernel_rfl
theorem Tryd_agg_39 : aggB Tryd.prog 39 4 = true := by kernel_rfl
theorem Tryd_non_39 : oneB Tryd.prog 39 = false := by kernel_rfl
theorem Tryd_cal_31 : callB Tryd.prog 31 = true := by kernel_rfl
theorem Tryd_cal_115 : callB Tryd.prog 115 = true := by kernel_rfl
theorem Tryd_cal_82 : callB Tryd.prog 82 = true := by kernel_rfl
theorem Tryd_zer_143 : zeroIs Tryd.prog 143 (.agg #[.string ⟨#[]⟩, .int .i64 0, .string ⟨#[]⟩, .int .i64 0, .int .i64 0, .int .i64 0, .int .i64 0, .int .i64 0, .int .i64 0, .int .i64 0, .int .i64 0, .int .i64 0, .int .i64 0]) := by unfold zeroIs; kernel_rfl
theorem Tryd_elm_143 : elemB Tryd.prog 143 120 = true := by kernel_rfl
theorem Tryd_cal_133 : callB Tryd.prog 133 = true := by kernel_rfl
theorem Tryd_cal_116 : callB Tryd.prog 116 = true := by kernel_rfl
theorem Tryd_cal_83 : callB Tryd.prog 83 = true := by kernel_rfl
theorem Tryd_cal_57 : callB Tryd.prog 57 = true := by kernel_rfl
theorem Tryd_zer_124 : zeroIs Tryd.prog 124 (.agg #[.int .i64 0, .int .i64 0]) := by unfold zeroIs; kernel_rfl
theorem Tryd_cal_32 : callB Tryd.prog 32 = true := by kernel_rfl
theorem Tryd_fld_39_2 : fieldB Tryd.prog 39 2 3 = true := by kernel_rfl
theorem Tryd_fld_39_0 : fieldB Tryd.prog 39 0 0 = true := by kernel_rfl
theorem Tryd_arr_124 : arrayB Tryd.prog 124 2 3 1 = true := by kernel_rfl
theorem Tryd_fld_39_1 : fieldB Tryd.prog 39 1 2 = true := by kernel_rfl
theorem Tryd_cal_84 : callB Tryd.prog 84 = true := by kernel_rfl
theorem Tryd_cal_58 : callB Tryd.prog 58 = true := by kernel_rfl
theorem Tryd_cal_12 : callB Tryd.prog 12 = true := by kernel_rfl
theorem Tryd_cal_15 : callB Tryd.prog 15 = true := by kernel_rfl
theorem Tryd_cal_13 : callB Tryd.prog 13 = true := by kernel_rfl
end Go.Proofs.YtnnphkfiookbnaaDoor
