/- A part of the proof that the law FieldKeeps gives true for every input. -/
import Derived.Test.YtdffghiejjaomaaFieldKeepsA3
import Derived.Test.YtdffghiejjaomaaProg
/- Facts about the types of the program. -/
namespace Go.Proofs.Ytdffghiejjaomaa
open Go.RowKit Go.Abs
theorem Try_slc_48 : sliceB Try.prog 48 95 7 = true := by kernel_rfl
theorem Try_fld_95_4 : fieldB Try.prog 95 4 4 = true := by kernel_rfl
theorem Try_one_92 : oneB Try.prog 92 = true := by kernel_rfl
theorem Try_slc_92 : sliceB Try.prog 92 69 13 = true := by kernel_rfl
theorem Try_cal_38 : callB Try.prog 38 = true := by kernel_rfl
theorem Try_zer_54 : zeroIs Try.prog 54 (.agg #[.int .i64 0, .int .i64 0]) := by unfold zeroIs; kernel_rfl
theorem Try_agg_95 : aggB Try.prog 95 7 = true := by kernel_rfl
theorem Try_fld_95_1 : fieldB Try.prog 95 1 1 = true := by kernel_rfl
theorem Try_one_91 : oneB Try.prog 91 = true := by kernel_rfl
theorem Try_slc_91 : sliceB Try.prog 91 9 1 = true := by kernel_rfl
theorem Try_one_9 : oneB Try.prog 9 = true := by kernel_rfl
theorem Try_und_9 : Try.prog.underlying 9 = some .string := by kernel_rfl
theorem Try_cal_99 : callB Try.prog 99 = true := by kernel_rfl
theorem Try_zer_9 : zeroIs Try.prog 9 (.string ⟨#[]⟩) := by unfold zeroIs; kernel_rfl
theorem Try_cal_106 : callB Try.prog 106 = true := by kernel_rfl
theorem Try_cal_100 : callB Try.prog 100 = true := by kernel_rfl
theorem Try_cal_101 : callB Try.prog 101 = true := by kernel_rfl
theorem Try_cal_94 : callB Try.prog 94 = true := by kernel_rfl
theorem Try_fld_95_3 : fieldB Try.prog 95 3 3 = true := by kernel_rfl
theorem Try_one_43 : oneB Try.prog 43 = true := by kernel_rfl
theorem Try_slc_43 : sliceB Try.prog 43 42 2 = true := by kernel_rfl
theorem Try_fld_42_0 : fieldB Try.prog 42 0 0 = true := by kernel_rfl
theorem Try_one_3 : oneB Try.prog 3 = true := by kernel_rfl
theorem Try_agg_42 : aggB Try.prog 42 2 = true := by kernel_rfl
theorem Try_fld_42_1 : fieldB Try.prog 42 1 1 = true := by kernel_rfl
theorem Try_cal_95 : callB Try.prog 95 = true := by kernel_rfl
theorem Try_fld_95_5 : fieldB Try.prog 95 5 5 = true := by kernel_rfl
theorem Try_one_93 : oneB Try.prog 93 = true := by kernel_rfl
theorem Try_slc_93 : sliceB Try.prog 93 114 17 = true := by kernel_rfl
theorem Try_agg_114 : aggB Try.prog 114 17 = true := by kernel_rfl
theorem Try_fld_114_5 : fieldB Try.prog 114 5 15 = true := by kernel_rfl
theorem Try_one_112 : oneB Try.prog 112 = true := by kernel_rfl
theorem Try_slc_112 : sliceB Try.prog 112 121 23 = true := by kernel_rfl
theorem Try_agg_121 : aggB Try.prog 121 23 = true := by kernel_rfl
theorem Try_zer_121 : zeroIs Try.prog 121 (.agg #[.int .i64 0, .string ⟨#[]⟩, .string ⟨#[]⟩, .string ⟨#[]⟩, .int .i64 0, .string ⟨#[]⟩, .int .i64 0, .int .i64 0, .int .i64 0, .int .i64 0, .int .i64 0, .int .i64 0, .int .i64 0, .int .i64 0, .int .i64 0, .int .i64 0, .int .i64 0, .string ⟨#[]⟩, .slice none 0 0, .slice none 0 0, .slice none 0 0, .slice none 0 0, .int .i64 0]) := by unfold zeroIs; kernel_rfl
theorem Try_fld_121_0 : fieldB Try.prog 121 0 0 = true := by kernel_rfl
theorem Try_fld_121_1 : fieldB Try.prog 121 1 1 = true := by kernel_rfl
theorem Try_fld_121_2 : fieldB Try.prog 121 2 2 = true := by kernel_rfl
theorem Try_fld_121_3 : fieldB Try.prog 121 3 3 = true := by kernel_rfl
theorem Try_zer_67 : zeroIs Try.prog 67 (.agg #[.int .i64 0, .string ⟨#[]⟩, .int .i64 0, .int .i64 0, .int .i64 0, .int .i64 0, .int .i64 0, .int .i64 0, .int .i64 0, .int .i64 0, .int .i64 0]) := by unfold zeroIs; kernel_rfl
theorem Try_plc_67 : placesB Try.prog 67 [(0, 1), (1, 1), (2, 1), (3, 8)] = true := by kernel_rfl
theorem Try_fld_121_4 : fieldB Try.prog 121 4 4 = true := by kernel_rfl
theorem Try_agg_67 : aggB Try.prog 67 11 = true := by kernel_rfl
theorem Try_non_67 : oneB Try.prog 67 = false := by kernel_rfl
theorem Try_zer_119 : zeroIs Try.prog 119 (.agg #[.int .i64 0, .int .i64 0, .string ⟨#[]⟩, .slice none 0 0]) := by unfold zeroIs; kernel_rfl
theorem Try_plc_119 : placesB Try.prog 119 [(0, 1), (1, 1), (2, 1), (3, 1)] = true := by kernel_rfl
theorem Try_fld_121_5 : fieldB Try.prog 121 5 15 = true := by kernel_rfl
theorem Try_agg_119 : aggB Try.prog 119 4 = true := by kernel_rfl
theorem Try_non_119 : oneB Try.prog 119 = false := by kernel_rfl
theorem Try_fld_121_6 : fieldB Try.prog 121 6 19 = true := by kernel_rfl
theorem Try_one_117 : oneB Try.prog 117 = true := by kernel_rfl
theorem Try_fld_121_7 : fieldB Try.prog 121 7 20 = true := by kernel_rfl
theorem Try_fld_121_8 : fieldB Try.prog 121 8 21 = true := by kernel_rfl
theorem Try_non_121 : oneB Try.prog 121 = false := by kernel_rfl
theorem Try_cal_113 : callB Try.prog 113 = true := by kernel_rfl
theorem Try_eqt_67 : eqB Try.prog 67 [(.i .i64), .s, (.i .i64), (.i .i64), (.i .i64), (.i .i64), (.i .i64), (.i .i64), (.i .i64), (.i .i64), (.i .i64)] = true := by kernel_rfl
theorem Try_fld_119_0 : fieldB Try.prog 119 0 0 = true := by kernel_rfl
theorem Try_fld_119_1 : fieldB Try.prog 119 1 1 = true := by kernel_rfl
theorem Try_fld_119_2 : fieldB Try.prog 119 2 2 = true := by kernel_rfl
theorem Try_fld_119_3 : fieldB Try.prog 119 3 3 = true := by kernel_rfl
theorem Try_slc_117 : sliceB Try.prog 117 119 4 = true := by kernel_rfl
theorem Try_cal_114 : callB Try.prog 114 = true := by kernel_rfl
theorem Try_mixed : Try.prog.follows .mixedOrders = true := by kernel_rfl
theorem Try_cal_110 : callB Try.prog 110 = true := by kernel_rfl
theorem Try_fld_67_0 : fieldB Try.prog 67 0 0 = true := by kernel_rfl
theorem Try_fld_67_1 : fieldB Try.prog 67 1 1 = true := by kernel_rfl
theorem Try_fld_67_2 : fieldB Try.prog 67 2 2 = true := by kernel_rfl
theorem Try_fld_67_3 : fieldB Try.prog 67 3 3 = true := by kernel_rfl
theorem Try_arr_65 : arrayB Try.prog 65 4 42 2 = true := by kernel_rfl
theorem Try_zer_42 : zeroIs Try.prog 42 (.agg #[.int .i64 0, .int .i64 0]) := by unfold zeroIs; kernel_rfl
theorem Try_non_42 : oneB Try.prog 42 = false := by kernel_rfl
theorem Try_plc_42 : placesB Try.prog 42 [(0, 1), (1, 1)] = true := by kernel_rfl
theorem Try_eqt_42 : eqB Try.prog 42 [(.i .i64), (.i .i64)] = true := by kernel_rfl
theorem Try_cal_109 : callB Try.prog 109 = true := by kernel_rfl
theorem Try_cal_111 : callB Try.prog 111 = true := by kernel_rfl
theorem Try_cal_118 : callB Try.prog 118 = true := by kernel_rfl
theorem Try_cal_116 : callB Try.prog 116 = true := by kernel_rfl
theorem Try_cal_117 : callB Try.prog 117 = true := by kernel_rfl
theorem Try_cal_115 : callB Try.prog 115 = true := by kernel_rfl
theorem Try_cal_112 : callB Try.prog 112 = true := by kernel_rfl
theorem Try_cal_107 : callB Try.prog 107 = true := by kernel_rfl
theorem Try_cal_108 : callB Try.prog 108 = true := by kernel_rfl
theorem Try_cal_102 : callB Try.prog 102 = true := by kernel_rfl
theorem Try_fld_114_0 : fieldB Try.prog 114 0 0 = true := by kernel_rfl
theorem Try_fld_114_2 : fieldB Try.prog 114 2 2 = true := by kernel_rfl
theorem Try_agg_65 : aggB Try.prog 65 8 = true := by kernel_rfl
theorem Try_zer_65 : zeroIs Try.prog 65 (.agg #[.int .i64 0, .int .i64 0, .int .i64 0, .int .i64 0, .int .i64 0, .int .i64 0, .int .i64 0, .int .i64 0]) := by unfold zeroIs; kernel_rfl
theorem Try_non_65 : oneB Try.prog 65 = false := by kernel_rfl
theorem Try_cal_103 : callB Try.prog 103 = true := by kernel_rfl
theorem Try_fld_114_3 : fieldB Try.prog 114 3 13 = true := by kernel_rfl
theorem Try_fld_69_0 : fieldB Try.prog 69 0 0 = true := by kernel_rfl
theorem Try_fld_69_1 : fieldB Try.prog 69 1 1 = true := by kernel_rfl
theorem Try_cal_97 : callB Try.prog 97 = true := by kernel_rfl
theorem Try_fld_114_4 : fieldB Try.prog 114 4 14 = true := by kernel_rfl
theorem Try_cal_104 : callB Try.prog 104 = true := by kernel_rfl
theorem Try_cal_96 : callB Try.prog 96 = true := by kernel_rfl
theorem Try_fld_95_0 : fieldB Try.prog 95 0 0 = true := by kernel_rfl
theorem Try_fld_95_2 : fieldB Try.prog 95 2 2 = true := by kernel_rfl
theorem Try_cal_84 : callB Try.prog 84 = true := by kernel_rfl
theorem Try_cal_77 : callB Try.prog 77 = true := by kernel_rfl
theorem Try_cal_85 : callB Try.prog 85 = true := by kernel_rfl
theorem Try_cal_68 : callB Try.prog 68 = true := by kernel_rfl
theorem Try_plc_54 : placesB Try.prog 54 [(0, 1), (1, 1)] = true := by kernel_rfl
theorem Try_agg_54 : aggB Try.prog 54 2 = true := by kernel_rfl
theorem Try_non_54 : oneB Try.prog 54 = false := by kernel_rfl
theorem Try_cal_69 : callB Try.prog 69 = true := by kernel_rfl
theorem Try_zer_95 : zeroIs Try.prog 95 (.agg #[.string ⟨#[]⟩, .slice none 0 0, .string ⟨#[]⟩, .slice none 0 0, .slice none 0 0, .slice none 0 0, .int .i64 0]) := by unfold zeroIs; kernel_rfl
theorem Try_non_95 : oneB Try.prog 95 = false := by kernel_rfl
theorem Try_cal_64 : callB Try.prog 64 = true := by kernel_rfl
theorem Try_cal_86 : callB Try.prog 86 = true := by kernel_rfl
theorem Try_fld_95_6 : fieldB Try.prog 95 6 6 = true := by kernel_rfl
theorem Try_cal_87 : callB Try.prog 87 = true := by kernel_rfl
theorem Try_agg_69 : aggB Try.prog 69 13 = true := by kernel_rfl
theorem Try_zer_69 : zeroIs Try.prog 69 (.agg #[.string ⟨#[]⟩, .int .i64 0, .string ⟨#[]⟩, .int .i64 0, .int .i64 0, .int .i64 0, .int .i64 0, .int .i64 0, .int .i64 0, .int .i64 0, .int .i64 0, .int .i64 0, .int .i64 0]) := by unfold zeroIs; kernel_rfl
theorem Try_non_69 : oneB Try.prog 69 = false := by kernel_rfl
theorem Try_fld_69_2 : fieldB Try.prog 69 2 12 = true := by kernel_rfl
theorem Try_zer_140 : zeroIs Try.prog 140 (.agg #[.int .i64 0, .int .i64 0, .int .i64 0, .int .i64 0, .string ⟨#[]⟩, .int .i64 0, .int .i64 0, .int .i64 0, .int .i64 0, .int .i64 0, .int .i64 0, .int .i64 0, .int .i64 0, .int .i64 0, .int .i64 0]) := by unfold zeroIs; kernel_rfl
theorem Try_plc_140 : placesB Try.prog 140 [(0, 1), (1, 1), (2, 1), (3, 11), (14, 1)] = true := by kernel_rfl
theorem Try_slc_137 : sliceB Try.prog 137 140 15 = true := by kernel_rfl
theorem Try_elm_140 : elemB Try.prog 140 128 = true := by kernel_rfl
theorem Try_zer_114 : zeroIs Try.prog 114 (.agg #[.string ⟨#[]⟩, .bool false, .int .i64 0, .string ⟨#[]⟩, .int .i64 0, .int .i64 0, .int .i64 0, .int .i64 0, .int .i64 0, .int .i64 0, .int .i64 0, .int .i64 0, .int .i64 0, .slice none 0 0, .slice none 0 0, .slice none 0 0, .int .i64 0]) := by unfold zeroIs; kernel_rfl
theorem Try_non_114 : oneB Try.prog 114 = false := by kernel_rfl
theorem Try_fld_114_6 : fieldB Try.prog 114 6 16 = true := by kernel_rfl
theorem Try_elm_69 : elemB Try.prog 69 120 = true := by kernel_rfl
theorem Try_cal_90 : callB Try.prog 90 = true := by kernel_rfl
theorem Try_zer_148 : zeroIs Try.prog 148 (.agg #[.int .i64 0, .int .i64 0, .int .i64 0, .int .i64 0, .string ⟨#[]⟩, .string ⟨#[]⟩, .string ⟨#[]⟩, .int .i64 0, .string ⟨#[]⟩, .int .i64 0, .int .i64 0, .int .i64 0, .int .i64 0, .int .i64 0, .int .i64 0, .int .i64 0, .int .i64 0, .int .i64 0, .int .i64 0, .int .i64 0, .string ⟨#[]⟩, .slice none 0 0, .slice none 0 0, .slice none 0 0, .slice none 0 0, .int .i64 0]) := by unfold zeroIs; kernel_rfl
theorem Try_plc_148 : placesB Try.prog 148 [(0, 1), (1, 1), (2, 1), (3, 23)] = true := by kernel_rfl
theorem Try_agg_148 : aggB Try.prog 148 26 = true := by kernel_rfl
theorem Try_non_148 : oneB Try.prog 148 = false := by kernel_rfl
theorem Try_fld_148_3 : fieldB Try.prog 148 3 3 = true := by kernel_rfl
theorem Try_slc_145 : sliceB Try.prog 145 148 26 = true := by kernel_rfl
theorem Try_elm_148 : elemB Try.prog 148 312 = true := by kernel_rfl
theorem Try_fld_148_2 : fieldB Try.prog 148 2 2 = true := by kernel_rfl
theorem Try_cal_105 : callB Try.prog 105 = true := by kernel_rfl
theorem Try_fld_121_9 : fieldB Try.prog 121 9 22 = true := by kernel_rfl
theorem Try_cal_98 : callB Try.prog 98 = true := by kernel_rfl
theorem Try_fld_140_3 : fieldB Try.prog 140 3 3 = true := by kernel_rfl
theorem Try_fld_140_4 : fieldB Try.prog 140 4 14 = true := by kernel_rfl
theorem Try_cal_88 : callB Try.prog 88 = true := by kernel_rfl
theorem Try_fld_54_0 : fieldB Try.prog 54 0 0 = true := by kernel_rfl
theorem Try_one_52 : oneB Try.prog 52 = true := by kernel_rfl
theorem Try_elm_9 : elemB Try.prog 9 16 = true := by kernel_rfl
theorem Try_cal_89 : callB Try.prog 89 = true := by kernel_rfl
theorem Try_cal_70 : callB Try.prog 70 = true := by kernel_rfl
theorem Try_cal_46 : callB Try.prog 46 = true := by kernel_rfl
theorem Try_ftb_54_0 : fieldTB Try.prog 54 0 52 0 = true := by kernel_rfl
theorem Try_slc_50 : sliceB Try.prog 50 3 1 = true := by kernel_rfl
theorem Try_cal_65 : callB Try.prog 65 = true := by kernel_rfl
theorem Try_zer_3 : zeroIs Try.prog 3 (.int .i64 0) := by unfold zeroIs; kernel_rfl
theorem Try_elm_3 : elemB Try.prog 3 8 = true := by kernel_rfl
theorem Try_cal_34 : callB Try.prog 34 = true := by kernel_rfl
theorem Try_cal_36 : callB Try.prog 36 = true := by kernel_rfl
theorem Try_map_106 : mapB Try.prog 106 9 3 = true := by kernel_rfl
theorem Try_zer_50 : zeroIs Try.prog 50 (.slice none 0 0) := by unfold zeroIs; kernel_rfl
theorem Try_cal_62 : callB Try.prog 62 = true := by kernel_rfl
theorem Try_one_48 : oneB Try.prog 48 = true := by kernel_rfl
theorem Try_cal_83 : callB Try.prog 83 = true := by kernel_rfl
theorem Try_cal_82 : callB Try.prog 82 = true := by kernel_rfl
theorem Try_cal_67 : callB Try.prog 67 = true := by kernel_rfl
theorem Try_one_50 : oneB Try.prog 50 = true := by kernel_rfl
theorem Try_cal_80 : callB Try.prog 80 = true := by kernel_rfl
theorem Try_cal_63 : callB Try.prog 63 = true := by kernel_rfl
theorem Try_cal_79 : callB Try.prog 79 = true := by kernel_rfl
theorem Try_cal_33 : callB Try.prog 33 = true := by kernel_rfl
theorem Try_cal_47 : callB Try.prog 47 = true := by kernel_rfl
theorem Try_cal_43 : callB Try.prog 43 = true := by kernel_rfl
theorem Try_plc_69 : placesB Try.prog 69 [(0, 1), (1, 11), (12, 1)] = true := by kernel_rfl
theorem Try_plc_95 : placesB Try.prog 95 [(0, 1), (1, 1), (2, 1), (3, 1), (4, 1), (5, 1), (6, 1)] = true := by kernel_rfl
theorem Try_zer_61 : zeroIs Try.prog 61 (.slice none 0 0) := by unfold zeroIs; kernel_rfl
theorem Try_cal_66 : callB Try.prog 66 = true := by kernel_rfl
theorem Try_one_61 : oneB Try.prog 61 = true := by kernel_rfl
theorem Try_zer_71 : zeroIs Try.prog 71 (.agg #[.string ⟨#[]⟩, .string ⟨#[]⟩, .int .i64 0, .string ⟨#[]⟩, .int .i64 0, .int .i64 0, .int .i64 0, .int .i64 0, .int .i64 0, .int .i64 0, .int .i64 0, .int .i64 0, .int .i64 0, .int .i64 0]) := by unfold zeroIs; kernel_rfl
theorem Try_plc_71 : placesB Try.prog 71 [(0, 1), (1, 13)] = true := by kernel_rfl
theorem Try_slc_61 : sliceB Try.prog 61 71 14 = true := by kernel_rfl
theorem Try_elm_71 : elemB Try.prog 71 136 = true := by kernel_rfl
theorem Try_cal_81 : callB Try.prog 81 = true := by kernel_rfl
theorem Try_cal_40 : callB Try.prog 40 = true := by kernel_rfl
theorem Try_cal_72 : callB Try.prog 72 = true := by kernel_rfl
theorem Try_agg_71 : aggB Try.prog 71 14 = true := by kernel_rfl
theorem Try_fld_71_1 : fieldB Try.prog 71 1 1 = true := by kernel_rfl
theorem Try_cal_91 : callB Try.prog 91 = true := by kernel_rfl
theorem Try_cal_71 : callB Try.prog 71 = true := by kernel_rfl
theorem Try_cal_48 : callB Try.prog 48 = true := by kernel_rfl
theorem Try_cal_39 : callB Try.prog 39 = true := by kernel_rfl
theorem Try_eqt_71 : eqB Try.prog 71 [.s, .s, (.i .i64), .s, (.i .i64), (.i .i64), (.i .i64), (.i .i64), (.i .i64), (.i .i64), (.i .i64), (.i .i64), (.i .i64), (.i .i64)] = true := by kernel_rfl
end Go.Proofs.Ytdffghiejjaomaa
