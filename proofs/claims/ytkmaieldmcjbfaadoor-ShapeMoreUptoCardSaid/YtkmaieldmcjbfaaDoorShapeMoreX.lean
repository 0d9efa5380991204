/- A part of the proof that the law ShapeMore gives true for every input. -/
import Derived.Test.YtkmaieldmcjbfaaDoorShapeMoreA3
import Derived.Test.YtkmaieldmcjbfaaDoorProg
/- Facts about the types of the program. -/
namespace Go.Proofs.YtkmaieldmcjbfaaDoor
open Go.RowKit Go.Abs
/-- The package variables that are read: their blocks, and what they hold. -/
abbrev globs_Tryd : List (Nat × List PV) := [(0, [.str [99, 108, 97, 115, 115], .str [101, 120, 116, 101, 110, 100, 115], .str [114, 101, 112], .str [112, 101, 101, 114], .str [119, 111, 114, 108, 100], .str [97, 110, 121], .str [117, 110, 105, 113, 117, 101], .str [112, 117, 114, 101], .str [118, 111, 105, 100], .str [105, 110, 116], .str [105, 102], .str [101, 108, 115, 101], .str [119, 104, 105, 108, 101], .str [114, 101, 116, 117, 114, 110], .str [110, 101, 119], .str [109, 111, 118, 101], .str [100, 101, 108, 101, 116, 101], .str [116, 104, 105, 115], .str [110, 117, 108, 108], .str [105, 110, 112, 117, 116], .str [110, 105, 108], .str [115, 97, 109, 101], .str [99, 97, 115, 116]])]
theorem Tryd_fld_42_3 : fieldB Tryd.prog 42 3 13 = true := by kernel_rfl
theorem Tryd_one_36 : oneB Tryd.prog 36 = true := by kernel_rfl
theorem Tryd_slc_36 : sliceB Tryd.prog 36 52 13 = true := by kernel_rfl
theorem Tryd_fld_42_4 : fieldB Tryd.prog 42 4 14 = true := by kernel_rfl
theorem Tryd_agg_45 : aggB Tryd.prog 45 4 = true := by kernel_rfl
theorem Tryd_fld_45_3 : fieldB Tryd.prog 45 3 3 = true := by kernel_rfl
theorem Tryd_one_43 : oneB Tryd.prog 43 = true := by kernel_rfl
theorem Tryd_slc_43 : sliceB Tryd.prog 43 45 4 = true := by kernel_rfl
theorem Tryd_cal_17 : callB Tryd.prog 17 = true := by kernel_rfl
theorem Tryd_zer_26 : zeroIs Tryd.prog 26 (.agg #[.int .i64 0, .string ⟨#[]⟩, .int .i64 0, .int .i64 0, .int .i64 0, .int .i64 0, .int .i64 0, .int .i64 0, .int .i64 0, .int .i64 0, .int .i64 0]) := by unfold zeroIs; kernel_rfl
theorem Tryd_plc_26 : placesB Tryd.prog 26 [(0, 1), (1, 1), (2, 1), (3, 8)] = true := by kernel_rfl
theorem Tryd_zer_52 : zeroIs Tryd.prog 52 (.agg #[.string ⟨#[]⟩, .int .i64 0, .string ⟨#[]⟩, .int .i64 0, .int .i64 0, .int .i64 0, .int .i64 0, .int .i64 0, .int .i64 0, .int .i64 0, .int .i64 0, .int .i64 0, .int .i64 0]) := by unfold zeroIs; kernel_rfl
theorem Tryd_plc_52 : placesB Tryd.prog 52 [(0, 1), (1, 11), (12, 1)] = true := by kernel_rfl
theorem Tryd_zer_42 : zeroIs Tryd.prog 42 (.agg #[.string ⟨#[]⟩, .bool false, .int .i64 0, .string ⟨#[]⟩, .int .i64 0, .int .i64 0, .int .i64 0, .int .i64 0, .int .i64 0, .int .i64 0, .int .i64 0, .int .i64 0, .int .i64 0, .slice none 0 0, .slice none 0 0, .slice none 0 0, .int .i64 0]) := by unfold zeroIs; kernel_rfl
theorem Tryd_plc_42 : placesB Tryd.prog 42 [(0, 1), (1, 1), (2, 11), (13, 1), (14, 1), (15, 1), (16, 1)] = true := by kernel_rfl
theorem Tryd_agg_42 : aggB Tryd.prog 42 17 = true := by kernel_rfl
theorem Tryd_non_42 : oneB Tryd.prog 42 = false := by kernel_rfl
theorem Tryd_zer_39 : zeroIs Tryd.prog 39 (.agg #[.string ⟨#[]⟩, .slice none 0 0, .string ⟨#[]⟩, .slice none 0 0, .slice none 0 0, .slice none 0 0, .int .i64 0]) := by unfold zeroIs; kernel_rfl
theorem Tryd_plc_39 : placesB Tryd.prog 39 [(0, 1), (1, 1), (2, 1), (3, 1), (4, 1), (5, 1), (6, 1)] = true := by kernel_rfl
theorem Tryd_zer_45 : zeroIs Tryd.prog 45 (.agg #[.int .i64 0, .int .i64 0, .string ⟨#[]⟩, .slice none 0 0]) := by unfold zeroIs; kernel_rfl
theorem Tryd_plc_45 : placesB Tryd.prog 45 [(0, 1), (1, 1), (2, 1), (3, 1)] = true := by kernel_rfl
theorem Tryd_zer_4 : zeroIs Tryd.prog 4 (.bool false) := by unfold zeroIs; kernel_rfl
theorem Tryd_one_3 : oneB Tryd.prog 3 = true := by kernel_rfl
theorem Tryd_cal_102 : callB Tryd.prog 102 = true := by kernel_rfl
theorem Tryd_cal_84 : callB Tryd.prog 84 = true := by kernel_rfl
theorem Tryd_cal_83 : callB Tryd.prog 83 = true := by kernel_rfl
theorem Tryd_cal_62 : callB Tryd.prog 62 = true := by kernel_rfl
theorem Tryd_one_4 : oneB Tryd.prog 4 = true := by kernel_rfl
theorem Tryd_cal_63 : callB Tryd.prog 63 = true := by kernel_rfl
theorem Tryd_zer_43 : zeroIs Tryd.prog 43 (.slice none 0 0) := by unfold zeroIs; kernel_rfl
theorem Tryd_non_45 : oneB Tryd.prog 45 = false := by kernel_rfl
theorem Tryd_cal_86 : callB Tryd.prog 86 = true := by kernel_rfl
theorem Tryd_mixed : Tryd.prog.follows .mixedOrders = true := by kernel_rfl
theorem Tryd_elm_45 : elemB Tryd.prog 45 56 = true := by kernel_rfl
theorem Tryd_cal_103 : callB Tryd.prog 103 = true := by kernel_rfl
theorem Tryd_fld_45_0 : fieldB Tryd.prog 45 0 0 = true := by kernel_rfl
theorem Tryd_cal_87 : callB Tryd.prog 87 = true := by kernel_rfl
theorem Tryd_fld_45_1 : fieldB Tryd.prog 45 1 1 = true := by kernel_rfl
theorem Tryd_fld_45_2 : fieldB Tryd.prog 45 2 2 = true := by kernel_rfl
theorem Tryd_one_9 : oneB Tryd.prog 9 = true := by kernel_rfl
theorem Tryd_und_9 : Tryd.prog.underlying 9 = some .string := by kernel_rfl
theorem Tryd_cal_55 : callB Tryd.prog 55 = true := by kernel_rfl
theorem Tryd_und_80 : Tryd.prog.underlying 80 = some (.slice 5) := by kernel_rfl
theorem Tryd_und_5 : Tryd.prog.underlying 5 = some (.int .u8) := by kernel_rfl
theorem Tryd_slc_80 : sliceB Tryd.prog 80 5 1 = true := by kernel_rfl
theorem Tryd_one_5 : oneB Tryd.prog 5 = true := by kernel_rfl
theorem Tryd_cal_56 : callB Tryd.prog 56 = true := by kernel_rfl
theorem Tryd_arr_107 : arrayB Tryd.prog 107 23 9 1 = true := by kernel_rfl
theorem Tryd_cal_80 : callB Tryd.prog 80 = true := by kernel_rfl
theorem Tryd_slc_27 : sliceB Tryd.prog 27 9 1 = true := by kernel_rfl
theorem Tryd_cal_99 : callB Tryd.prog 99 = true := by kernel_rfl
theorem Tryd_cal_79 : callB Tryd.prog 79 = true := by kernel_rfl
theorem Tryd_cal_57 : callB Tryd.prog 57 = true := by kernel_rfl
theorem Tryd_cal_32 : callB Tryd.prog 32 = true := by kernel_rfl
theorem Tryd_cal_88 : callB Tryd.prog 88 = true := by kernel_rfl
theorem Tryd_cal_64 : callB Tryd.prog 64 = true := by kernel_rfl
theorem Tryd_cal_85 : callB Tryd.prog 85 = true := by kernel_rfl
theorem Tryd_cal_42 : callB Tryd.prog 42 = true := by kernel_rfl
theorem Tryd_agg_26 : aggB Tryd.prog 26 11 = true := by kernel_rfl
theorem Tryd_non_26 : oneB Tryd.prog 26 = false := by kernel_rfl
theorem Tryd_zer_71 : zeroIs Tryd.prog 71 (.nilFunc) := by unfold zeroIs; kernel_rfl
theorem Tryd_one_71 : oneB Tryd.prog 71 = true := by kernel_rfl
theorem Tryd_agg_39 : aggB Tryd.prog 39 7 = true := by kernel_rfl
theorem Tryd_fld_39_0 : fieldB Tryd.prog 39 0 0 = true := by kernel_rfl
theorem Tryd_fld_26_3 : fieldB Tryd.prog 26 3 3 = true := by kernel_rfl
theorem Tryd_arr_24 : arrayB Tryd.prog 24 4 23 2 = true := by kernel_rfl
theorem Tryd_fld_39_1 : fieldB Tryd.prog 39 1 1 = true := by kernel_rfl
theorem Tryd_one_27 : oneB Tryd.prog 27 = true := by kernel_rfl
theorem Tryd_slc_35 : sliceB Tryd.prog 35 23 2 = true := by kernel_rfl
theorem Tryd_elm_23 : elemB Tryd.prog 23 16 = true := by kernel_rfl
theorem Tryd_zer_23 : zeroIs Tryd.prog 23 (.agg #[.int .i64 0, .int .i64 0]) := by unfold zeroIs; kernel_rfl
theorem Tryd_plc_23 : placesB Tryd.prog 23 [(0, 1), (1, 1)] = true := by kernel_rfl
theorem Tryd_agg_23 : aggB Tryd.prog 23 2 = true := by kernel_rfl
theorem Tryd_non_23 : oneB Tryd.prog 23 = false := by kernel_rfl
theorem Tryd_cal_67 : callB Tryd.prog 67 = true := by kernel_rfl
theorem Tryd_fld_26_2 : fieldB Tryd.prog 26 2 2 = true := by kernel_rfl
theorem Tryd_cal_45 : callB Tryd.prog 45 = true := by kernel_rfl
theorem Tryd_agg_52 : aggB Tryd.prog 52 13 = true := by kernel_rfl
theorem Tryd_fld_52_0 : fieldB Tryd.prog 52 0 0 = true := by kernel_rfl
theorem Tryd_cal_89 : callB Tryd.prog 89 = true := by kernel_rfl
theorem Tryd_cal_90 : callB Tryd.prog 90 = true := by kernel_rfl
theorem Tryd_cal_65 : callB Tryd.prog 65 = true := by kernel_rfl
theorem Tryd_zer_36 : zeroIs Tryd.prog 36 (.slice none 0 0) := by unfold zeroIs; kernel_rfl
theorem Tryd_slc_126 : sliceB Tryd.prog 126 36 1 = true := by kernel_rfl
theorem Tryd_und_3 : Tryd.prog.underlying 3 = some (.int .i64) := by kernel_rfl
theorem Tryd_elm_52 : elemB Tryd.prog 52 120 = true := by kernel_rfl
theorem Tryd_cal_104 : callB Tryd.prog 104 = true := by kernel_rfl
theorem Tryd_cal_91 : callB Tryd.prog 91 = true := by kernel_rfl
theorem Tryd_cal_66 : callB Tryd.prog 66 = true := by kernel_rfl
theorem Tryd_fld_52_1 : fieldB Tryd.prog 52 1 1 = true := by kernel_rfl
theorem Tryd_cal_44 : callB Tryd.prog 44 = true := by kernel_rfl
theorem Tryd_fld_26_0 : fieldB Tryd.prog 26 0 0 = true := by kernel_rfl
theorem Tryd_cal_46 : callB Tryd.prog 46 = true := by kernel_rfl
theorem Tryd_fld_23_0 : fieldB Tryd.prog 23 0 0 = true := by kernel_rfl
theorem Tryd_cal_24 : callB Tryd.prog 24 = true := by kernel_rfl
theorem Tryd_cal_43 : callB Tryd.prog 43 = true := by kernel_rfl
theorem Tryd_cal_19 : callB Tryd.prog 19 = true := by kernel_rfl
theorem Tryd_eqt_26 : eqB Tryd.prog 26 [(.i .i64), .s, (.i .i64), (.i .i64), (.i .i64), (.i .i64), (.i .i64), (.i .i64), (.i .i64), (.i .i64), (.i .i64)] = true := by kernel_rfl
theorem Tryd_cal_18 : callB Tryd.prog 18 = true := by kernel_rfl
theorem Tryd_non_39 : oneB Tryd.prog 39 = false := by kernel_rfl
theorem Tryd_cal_92 : callB Tryd.prog 92 = true := by kernel_rfl
theorem Tryd_cal_39 : callB Tryd.prog 39 = true := by kernel_rfl
theorem Tryd_zer_9 : zeroIs Tryd.prog 9 (.string ⟨#[]⟩) := by unfold zeroIs; kernel_rfl
theorem Tryd_cal_61 : callB Tryd.prog 61 = true := by kernel_rfl
theorem Tryd_cal_40 : callB Tryd.prog 40 = true := by kernel_rfl
theorem Tryd_cal_41 : callB Tryd.prog 41 = true := by kernel_rfl
theorem Tryd_cal_16 : callB Tryd.prog 16 = true := by kernel_rfl
theorem Tryd_cal_68 : callB Tryd.prog 68 = true := by kernel_rfl
theorem Tryd_cal_69 : callB Tryd.prog 69 = true := by kernel_rfl
theorem Tryd_cal_47 : callB Tryd.prog 47 = true := by kernel_rfl
theorem Tryd_cal_95 : callB Tryd.prog 95 = true := by kernel_rfl
theorem Tryd_cal_71 : callB Tryd.prog 71 = true := by kernel_rfl
theorem Tryd_cal_94 : callB Tryd.prog 94 = true := by kernel_rfl
theorem Tryd_cal_93 : callB Tryd.prog 93 = true := by kernel_rfl
theorem Tryd_cal_70 : callB Tryd.prog 70 = true := by kernel_rfl
theorem Tryd_cal_48 : callB Tryd.prog 48 = true := by kernel_rfl
theorem Tryd_cal_25 : callB Tryd.prog 25 = true := by kernel_rfl
theorem Tryd_cal_72 : callB Tryd.prog 72 = true := by kernel_rfl
theorem Tryd_cal_20 : callB Tryd.prog 20 = true := by kernel_rfl
end Go.Proofs.YtkmaieldmcjbfaaDoor
