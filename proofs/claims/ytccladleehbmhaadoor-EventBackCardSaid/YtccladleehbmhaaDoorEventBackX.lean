/- A part of the proof that the law EventBack gives true for every input. -/
import Derived.Test.YtccladleehbmhaaDoorEventBackA3
import Derived.Test.YtccladleehbmhaaDoorProg
/- Facts about the types of the program. -/
namespace Go.Proofs.YtccladleehbmhaaDoor
open Go.RowKit Go.Abs
/-- The package variables that are read: their blocks, and what they hold. -/
abbrev globs_Tryd : List (Nat × List PV) := [(0, [.int .u8 0, .int .u8 0, .int .u8 0, .int .u8 0, .int .u8 0, .int .u8 0, .int .u8 0, .int .u8 0, .int .u8 0, .int .u8 1, .int .u8 1, .int .u8 1, .int .u8 1, .int .u8 1, .int .u8 0, .int .u8 0, .int .u8 0, .int .u8 0, .int .u8 0, .int .u8 0, .int .u8 0, .int .u8 0, .int .u8 0, .int .u8 0, .int .u8 0, .int .u8 0, .int .u8 0, .int .u8 0, .int .u8 0, .int .u8 0, .int .u8 0, .int .u8 0, .int .u8 1, .int .u8 0, .int .u8 0, .int .u8 0, .int .u8 0, .int .u8 0, .int .u8 0, .int .u8 0, .int .u8 0, .int .u8 0, .int .u8 0, .int .u8 0, .int .u8 0, .int .u8 0, .int .u8 0, .int .u8 0, .int .u8 0, .int .u8 0, .int .u8 0, .int .u8 0, .int .u8 0, .int .u8 0, .int .u8 0, .int .u8 0, .int .u8 0, .int .u8 0, .int .u8 0, .int .u8 0, .int .u8 0, .int .u8 0, .int .u8 0, .int .u8 0, .int .u8 0, .int .u8 0, .int .u8 0, .int .u8 0, .int .u8 0, .int .u8 0, .int .u8 0, .int .u8 0, .int .u8 0, .int .u8 0, .int .u8 0, .int .u8 0, .int .u8 0, .int .u8 0, .int .u8 0, .int .u8 0, .int .u8 0, .int .u8 0, .int .u8 0, .int .u8 0, .int .u8 0, .int .u8 0, .int .u8 0, .int .u8 0, .int .u8 0, .int .u8 0, .int .u8 0, .int .u8 0, .int .u8 0, .int .u8 0, .int .u8 0, .int .u8 0, .int .u8 0, .int .u8 0, .int .u8 0, .int .u8 0, .int .u8 0, .int .u8 0, .int .u8 0, .int .u8 0, .int .u8 0, .int .u8 0, .int .u8 0, .int .u8 0, .int .u8 0, .int .u8 0, .int .u8 0, .int .u8 0, .int .u8 0, .int .u8 0, .int .u8 0, .int .u8 0, .int .u8 0, .int .u8 0, .int .u8 0, .int .u8 0, .int .u8 0, .int .u8 0, .int .u8 0, .int .u8 0, .int .u8 0, .int .u8 0, .int .u8 0, .int .u8 0, .int .u8 0, .int .u8 0, .int .u8 0, .int .u8 0, .int .u8 0, .int .u8 0, .int .u8 0, .int .u8 0, .int .u8 0, .int .u8 0, .int .u8 0, .int .u8 0, .int .u8 0, .int .u8 0, .int .u8 0, .int .u8 0, .int .u8 0, .int .u8 0, .int .u8 0, .int .u8 0, .int .u8 0, .int .u8 0, .int .u8 0, .int .u8 0, .int .u8 0, .int .u8 0, .int .u8 0, .int .u8 0, .int .u8 0, .int .u8 0, .int .u8 0, .int .u8 0, .int .u8 0, .int .u8 0, .int .u8 0, .int .u8 0, .int .u8 0, .int .u8 0, .int .u8 0, .int .u8 0, .int .u8 0, .int .u8 0, .int .u8 0, .int .u8 0, .int .u8 0, .int .u8 0, .int .u8 0, .int .u8 0, .int .u8 0, .int .u8 0, .int .u8 0, .int .u8 0, .int .u8 0, .int .u8 0, .int .u8 0, .int .u8 0, .int .u8 0, .int .u8 0, .int .u8 0, .int .u8 0, .int .u8 0, .int .u8 0, .int .u8 0, .int .u8 0, .int .u8 0, .int .u8 0, .int .u8 0, .int .u8 0, .int .u8 0, .int .u8 0, .int .u8 0, .int .u8 0, .int .u8 0, .int .u8 0, .int .u8 0, .int .u8 0, .int .u8 0, .int .u8 0, .int .u8 0, .int .u8 0, .int .u8 0, .int .u8 0, .int .u8 0, .int .u8 0, .int .u8 0, .int .u8 0, .int .u8 0, .int .u8 0, .int .u8 0, .int .u8 0, .int .u8 0, .int .u8 0, .int .u8 0, .int .u8 0, .int .u8 0, .int .u8 0, .int .u8 0, .int .u8 0, .int .u8 0, .int .u8 0, .int .u8 0, .int .u8 0, .int .u8 0, .int .u8 0, .int .u8 0, .int .u8 0, .int .u8 0, .int .u8 0, .int .u8 0, .int .u8 0, .int .u8 0, .int .u8 0, .int .u8 0, .int .u8 0, .int .u8 0, .int .u8 0, .int .u8 0, .int .u8 0, .int .u8 0, .int .u8 0, .int .u8 0, .int .u8 0, .int .u8 0, .int .u8 0, .int .u8 0, .int .u8 0, .int .u8 0, .int .u8 0]), (2, [.str [99, 108, 97, 115, 115], .str [101, 120, 116, 101, 110, 100, 115], .str [114, 101, 112], .str [112, 101, 101, 114], .str [119, 111, 114, 108, 100], .str [97, 110, 121], .str [117, 110, 105, 113, 117, 101], .str [112, 117, 114, 101], .str [118, 111, 105, 100], .str [105, 110, 116], .str [105, 102], .str [101, 108, 115, 101], .str [119, 104, 105, 108, 101], .str [114, 101, 116, 117, 114, 110], .str [110, 101, 119], .str [109, 111, 118, 101], .str [100, 101, 108, 101, 116, 101], .str [116, 104, 105, 115], .str [110, 117, 108, 108], .str [105, 110, 112, 117, 116], .str [110, 105, 108], .str [115, 97, 109, 101], .str [99, 97, 115, 116]])]
theorem Tryd_slc_30 : sliceB Tryd.prog 30 27 10 = true := by kernel_rfl
theorem Tryd_und_9 : Tryd.prog.underlying 9 = some .string := by kernel_rfl
theorem Tryd_zer_27 : zeroIs Tryd.prog 27 (.agg #[.int .i64 0, .int .i64 0, .int .i64 0, .string ⟨#[]⟩, .bool false, .int .i64 0, .int .i64 0, .int .i64 0, .int .i64 0, .int .i64 0]) := by unfold zeroIs; kernel_rfl
theorem Tryd_plc_27 : placesB Tryd.prog 27 [(0, 1), (1, 1), (2, 1), (3, 1), (4, 2), (6, 4)] = true := by kernel_rfl
theorem Tryd_agg_27 : aggB Tryd.prog 27 10 = true := by kernel_rfl
theorem Tryd_non_27 : oneB Tryd.prog 27 = false := by kernel_rfl
theorem Tryd_ext_80 : ExtSB Tryd.prog 80 cntB := ext_cnt Tryd.func80 (by kernel_rfl) (by kernel_rfl) (by kernel_rfl) (by kernel_rfl)
theorem Tryd_ext_82 : ExtSB Tryd.prog 82 idxB := ext_idx Tryd.func82 (by kernel_rfl) (by kernel_rfl) (by kernel_rfl) (by kernel_rfl)
theorem Tryd_cal_69 : callB Tryd.prog 69 = true := by kernel_rfl
theorem Tryd_cal_56 : callB Tryd.prog 56 = true := by kernel_rfl
theorem Tryd_cal_66 : callB Tryd.prog 66 = true := by kernel_rfl
theorem Tryd_cal_65 : callB Tryd.prog 65 = true := by kernel_rfl
theorem Tryd_slc_41 : sliceB Tryd.prog 41 9 1 = true := by kernel_rfl
theorem Tryd_elm_9 : elemB Tryd.prog 9 16 = true := by kernel_rfl
theorem Tryd_zer_9 : zeroIs Tryd.prog 9 (.string ⟨#[]⟩) := by unfold zeroIs; kernel_rfl
theorem Tryd_one_9 : oneB Tryd.prog 9 = true := by kernel_rfl
theorem Tryd_cal_53 : callB Tryd.prog 53 = true := by kernel_rfl
theorem Tryd_cal_37 : callB Tryd.prog 37 = true := by kernel_rfl
theorem Tryd_cal_24 : callB Tryd.prog 24 = true := by kernel_rfl
theorem Tryd_arr_69 : arrayB Tryd.prog 69 256 5 1 = true := by kernel_rfl
theorem Tryd_one_5 : oneB Tryd.prog 5 = true := by kernel_rfl
theorem Tryd_und_5 : Tryd.prog.underlying 5 = some (.int .u8) := by kernel_rfl
theorem Tryd_und_3 : Tryd.prog.underlying 3 = some (.int .i64) := by kernel_rfl
theorem Tryd_slc_80 : sliceB Tryd.prog 80 82 2 = true := by kernel_rfl
theorem Tryd_elm_82 : elemB Tryd.prog 82 16 = true := by kernel_rfl
theorem Tryd_zer_82 : zeroIs Tryd.prog 82 (.agg #[.int .i64 0, .int .i64 0]) := by unfold zeroIs; kernel_rfl
theorem Tryd_cal_25 : callB Tryd.prog 25 = true := by kernel_rfl
theorem Tryd_cal_81 : callB Tryd.prog 81 = true := by kernel_rfl
theorem Tryd_cal_68 : callB Tryd.prog 68 = true := by kernel_rfl
theorem Tryd_cal_55 : callB Tryd.prog 55 = true := by kernel_rfl
theorem Tryd_und_55 : Tryd.prog.underlying 55 = some (.slice 5) := by kernel_rfl
theorem Tryd_slc_55 : sliceB Tryd.prog 55 5 1 = true := by kernel_rfl
theorem Tryd_cal_44 : callB Tryd.prog 44 = true := by kernel_rfl
theorem Tryd_und_108 : Tryd.prog.underlying 108 = some (.int .u64) := by kernel_rfl
theorem Tryd_zer_5 : zeroIs Tryd.prog 5 (.int .u8 0) := by unfold zeroIs; kernel_rfl
theorem Tryd_elm_5 : elemB Tryd.prog 5 1 = true := by kernel_rfl
theorem Tryd_mixed : Tryd.prog.follows .mixedOrders = true := by kernel_rfl
theorem Tryd_cal_76 : callB Tryd.prog 76 = true := by kernel_rfl
theorem Tryd_cal_61 : callB Tryd.prog 61 = true := by kernel_rfl
theorem Tryd_cal_67 : callB Tryd.prog 67 = true := by kernel_rfl
theorem Tryd_cal_54 : callB Tryd.prog 54 = true := by kernel_rfl
theorem Tryd_fld_27_1 : fieldB Tryd.prog 27 1 1 = true := by kernel_rfl
theorem Tryd_fld_27_2 : fieldB Tryd.prog 27 2 2 = true := by kernel_rfl
theorem Tryd_fld_27_5 : fieldB Tryd.prog 27 5 6 = true := by kernel_rfl
theorem Tryd_arr_25 : arrayB Tryd.prog 25 4 3 1 = true := by kernel_rfl
theorem Tryd_cal_26 : callB Tryd.prog 26 = true := by kernel_rfl
theorem Tryd_one_3 : oneB Tryd.prog 3 = true := by kernel_rfl
theorem Tryd_fld_27_3 : fieldB Tryd.prog 27 3 3 = true := by kernel_rfl
theorem Tryd_cal_43 : callB Tryd.prog 43 = true := by kernel_rfl
theorem Tryd_arr_87 : arrayB Tryd.prog 87 23 9 1 = true := by kernel_rfl
theorem Tryd_cal_59 : callB Tryd.prog 59 = true := by kernel_rfl
theorem Tryd_cal_75 : callB Tryd.prog 75 = true := by kernel_rfl
theorem Tryd_cal_58 : callB Tryd.prog 58 = true := by kernel_rfl
theorem Tryd_cal_45 : callB Tryd.prog 45 = true := by kernel_rfl
theorem Tryd_cal_27 : callB Tryd.prog 27 = true := by kernel_rfl
theorem Tryd_zer_24 : zeroIs Tryd.prog 24 (.agg #[.bool false, .int .i64 0]) := by unfold zeroIs; kernel_rfl
theorem Tryd_plc_24 : placesB Tryd.prog 24 [(0, 1), (1, 1)] = true := by kernel_rfl
theorem Tryd_fld_27_4 : fieldB Tryd.prog 27 4 4 = true := by kernel_rfl
theorem Tryd_agg_24 : aggB Tryd.prog 24 2 = true := by kernel_rfl
theorem Tryd_non_24 : oneB Tryd.prog 24 = false := by kernel_rfl
theorem Tryd_cal_38 : callB Tryd.prog 38 = true := by kernel_rfl
theorem Tryd_cal_19 : callB Tryd.prog 19 = true := by kernel_rfl
theorem Tryd_cal_7 : callB Tryd.prog 7 = true := by kernel_rfl
theorem Tryd_eqt_27 : eqB Tryd.prog 27 [(.i .i64), (.i .i64), (.i .i64), .s, .b, (.i .i64), (.i .i64), (.i .i64), (.i .i64), (.i .i64)] = true := by kernel_rfl
theorem Tryd_cal_6 : callB Tryd.prog 6 = true := by kernel_rfl
theorem Tryd_fld_27_0 : fieldB Tryd.prog 27 0 0 = true := by kernel_rfl
theorem Tryd_cal_12 : callB Tryd.prog 12 = true := by kernel_rfl
theorem Tryd_cal_36 : callB Tryd.prog 36 = true := by kernel_rfl
theorem Tryd_fld_24_1 : fieldB Tryd.prog 24 1 1 = true := by kernel_rfl
theorem Tryd_cal_18 : callB Tryd.prog 18 = true := by kernel_rfl
theorem Tryd_elm_27 : elemB Tryd.prog 27 88 = true := by kernel_rfl
theorem Tryd_fld_24_0 : fieldB Tryd.prog 24 0 0 = true := by kernel_rfl
theorem Tryd_one_4 : oneB Tryd.prog 4 = true := by kernel_rfl
theorem Tryd_cal_49 : callB Tryd.prog 49 = true := by kernel_rfl
theorem Tryd_cal_62 : callB Tryd.prog 62 = true := by kernel_rfl
theorem Tryd_cal_50 : callB Tryd.prog 50 = true := by kernel_rfl
theorem Tryd_cal_30 : callB Tryd.prog 30 = true := by kernel_rfl
theorem Tryd_cal_14 : callB Tryd.prog 14 = true := by kernel_rfl
theorem Tryd_zer_57 : zeroIs Tryd.prog 57 (.agg #[.pointer none, .slice none 0 0]) := by unfold zeroIs; kernel_rfl
theorem Tryd_cal_33 : callB Tryd.prog 33 = true := by kernel_rfl
theorem Tryd_cal_34 : callB Tryd.prog 34 = true := by kernel_rfl
theorem Tryd_cal_35 : callB Tryd.prog 35 = true := by kernel_rfl
theorem Tryd_cal_16 : callB Tryd.prog 16 = true := by kernel_rfl
theorem Tryd_cal_40 : callB Tryd.prog 40 = true := by kernel_rfl
theorem Tryd_cal_23 : callB Tryd.prog 23 = true := by kernel_rfl
theorem Tryd_cal_9 : callB Tryd.prog 9 = true := by kernel_rfl
theorem Tryd_cal_11 : callB Tryd.prog 11 = true := by kernel_rfl
theorem Tryd_cal_20 : callB Tryd.prog 20 = true := by kernel_rfl
theorem Tryd_cal_48 : callB Tryd.prog 48 = true := by kernel_rfl
theorem Tryd_cal_39 : callB Tryd.prog 39 = true := by kernel_rfl
theorem Tryd_cal_21 : callB Tryd.prog 21 = true := by kernel_rfl
theorem Tryd_zer_25 : zeroIs Tryd.prog 25 (.agg #[.int .i64 0, .int .i64 0, .int .i64 0, .int .i64 0]) := by unfold zeroIs; kernel_rfl
theorem Tryd_cal_22 : callB Tryd.prog 22 = true := by kernel_rfl
theorem Tryd_agg_25 : aggB Tryd.prog 25 4 = true := by kernel_rfl
theorem Tryd_non_25 : oneB Tryd.prog 25 = false := by kernel_rfl
theorem Tryd_cal_28 : callB Tryd.prog 28 = true := by kernel_rfl
theorem Tryd_cal_46 : callB Tryd.prog 46 = true := by kernel_rfl
theorem Tryd_cal_60 : callB Tryd.prog 60 = true := by kernel_rfl
theorem Tryd_cal_47 : callB Tryd.prog 47 = true := by kernel_rfl
theorem Tryd_cal_29 : callB Tryd.prog 29 = true := by kernel_rfl
theorem Tryd_cal_13 : callB Tryd.prog 13 = true := by kernel_rfl
theorem Tryd_cal_51 : callB Tryd.prog 51 = true := by kernel_rfl
theorem Tryd_cal_31 : callB Tryd.prog 31 = true := by kernel_rfl
theorem Tryd_cal_32 : callB Tryd.prog 32 = true := by kernel_rfl
theorem Tryd_cal_15 : callB Tryd.prog 15 = true := by kernel_rfl
theorem Tryd_cal_8 : callB Tryd.prog 8 = true := by kernel_rfl
theorem Tryd_cal_10 : callB Tryd.prog 10 = true := by kernel_rfl
theorem Tryd_und_4 : Tryd.prog.underlying 4 = some .bool := by kernel_rfl
end Go.Proofs.YtccladleehbmhaaDoor
