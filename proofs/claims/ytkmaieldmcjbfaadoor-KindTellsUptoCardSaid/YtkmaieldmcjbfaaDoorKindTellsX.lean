/- A part of the proof that the law KindTells gives true for every input. -/
import Derived.Test.YtkmaieldmcjbfaaDoorKindTellsA2
import Derived.Test.YtkmaieldmcjbfaaDoorProg
/- Facts about the types of the program. -/
namespace Go.Proofs.YtkmaieldmcjbfaaDoor
open Go.RowKit Go.Abs
/-- The package variables that are read: their blocks, and what they hold. -/
abbrev globs_Tryd : List (Nat × List PV) := [(0, [.str [99, 108, 97, 115, 115], .str [101, 120, 116, 101, 110, 100, 115], .str [114, 101, 112], .str [112, 101, 101, 114], .str [119, 111, 114, 108, 100], .str [97, 110, 121], .str [117, 110, 105, 113, 117, 101], .str [112, 117, 114, 101], .str [118, 111, 105, 100], .str [105, 110, 116], .str [105, 102], .str [101, 108, 115, 101], .str [119, 104, 105, 108, 101], .str [114, 101, 116, 117, 114, 110], .str [110, 101, 119], .str [109, 111, 118, 101], .str [100, 101, 108, 101, 116, 101], .str [116, 104, 105, 115], .str [110, 117, 108, 108], .str [105, 110, 112, 117, 116], .str [110, 105, 108], .str [115, 97, 109, 101], .str [99, 97, 115, 116]])]
theorem Tryd_slc_27 : sliceB Tryd.prog 27 9 1 = true := by kernel_rfl
theorem Tryd_fld_26_1 : fieldB Tryd.prog 26 1 1 = true := by kernel_rfl
theorem Tryd_one_9 : oneB Tryd.prog 9 = true := by kernel_rfl
theorem Tryd_und_9 : Tryd.prog.underlying 9 = some .string := by kernel_rfl
theorem Tryd_zer_23 : zeroIs Tryd.prog 23 (.agg #[.int .i64 0, .int .i64 0]) := by unfold zeroIs; kernel_rfl
theorem Tryd_plc_23 : placesB Tryd.prog 23 [(0, 1), (1, 1)] = true := by kernel_rfl
theorem Tryd_arr_24 : arrayB Tryd.prog 24 4 23 2 = true := by kernel_rfl
theorem Tryd_zer_24 : zeroIs Tryd.prog 24 (.agg #[.int .i64 0, .int .i64 0, .int .i64 0, .int .i64 0, .int .i64 0, .int .i64 0, .int .i64 0, .int .i64 0]) := by unfold zeroIs; kernel_rfl
theorem Tryd_zer_26 : zeroIs Tryd.prog 26 (.agg #[.int .i64 0, .string ⟨#[]⟩, .int .i64 0, .int .i64 0, .int .i64 0, .int .i64 0, .int .i64 0, .int .i64 0, .int .i64 0, .int .i64 0, .int .i64 0]) := by unfold zeroIs; kernel_rfl
theorem Tryd_plc_26 : placesB Tryd.prog 26 [(0, 1), (1, 1), (2, 1), (3, 8)] = true := by kernel_rfl
theorem Tryd_agg_26 : aggB Tryd.prog 26 11 = true := by kernel_rfl
theorem Tryd_non_26 : oneB Tryd.prog 26 = false := by kernel_rfl
theorem Tryd_zer_9 : zeroIs Tryd.prog 9 (.string ⟨#[]⟩) := by unfold zeroIs; kernel_rfl
theorem Tryd_fld_26_0 : fieldB Tryd.prog 26 0 0 = true := by kernel_rfl
theorem Tryd_one_3 : oneB Tryd.prog 3 = true := by kernel_rfl
theorem Tryd_eqt_26 : eqB Tryd.prog 26 [(.i .i64), .s, (.i .i64), (.i .i64), (.i .i64), (.i .i64), (.i .i64), (.i .i64), (.i .i64), (.i .i64), (.i .i64)] = true := by kernel_rfl
theorem Tryd_cal_55 : callB Tryd.prog 55 = true := by kernel_rfl
theorem Tryd_und_80 : Tryd.prog.underlying 80 = some (.slice 5) := by kernel_rfl
theorem Tryd_und_5 : Tryd.prog.underlying 5 = some (.int .u8) := by kernel_rfl
theorem Tryd_slc_80 : sliceB Tryd.prog 80 5 1 = true := by kernel_rfl
theorem Tryd_one_5 : oneB Tryd.prog 5 = true := by kernel_rfl
theorem Tryd_cal_56 : callB Tryd.prog 56 = true := by kernel_rfl
theorem Tryd_mixed : Tryd.prog.follows .mixedOrders = true := by kernel_rfl
theorem Tryd_arr_107 : arrayB Tryd.prog 107 23 9 1 = true := by kernel_rfl
theorem Tryd_cal_80 : callB Tryd.prog 80 = true := by kernel_rfl
theorem Tryd_cal_99 : callB Tryd.prog 99 = true := by kernel_rfl
theorem Tryd_cal_79 : callB Tryd.prog 79 = true := by kernel_rfl
theorem Tryd_cal_57 : callB Tryd.prog 57 = true := by kernel_rfl
theorem Tryd_cal_32 : callB Tryd.prog 32 = true := by kernel_rfl
theorem Tryd_fld_26_2 : fieldB Tryd.prog 26 2 2 = true := by kernel_rfl
theorem Tryd_fld_26_3 : fieldB Tryd.prog 26 3 3 = true := by kernel_rfl
theorem Tryd_cal_33 : callB Tryd.prog 33 = true := by kernel_rfl
theorem Tryd_slc_35 : sliceB Tryd.prog 35 23 2 = true := by kernel_rfl
theorem Tryd_agg_23 : aggB Tryd.prog 23 2 = true := by kernel_rfl
theorem Tryd_non_23 : oneB Tryd.prog 23 = false := by kernel_rfl
theorem Tryd_fld_23_0 : fieldB Tryd.prog 23 0 0 = true := by kernel_rfl
theorem Tryd_fld_23_1 : fieldB Tryd.prog 23 1 1 = true := by kernel_rfl
theorem Tryd_cal_34 : callB Tryd.prog 34 = true := by kernel_rfl
theorem Tryd_eqt_23 : eqB Tryd.prog 23 [(.i .i64), (.i .i64)] = true := by kernel_rfl
theorem Tryd_cal_11 : callB Tryd.prog 11 = true := by kernel_rfl
theorem Tryd_cal_36 : callB Tryd.prog 36 = true := by kernel_rfl
theorem Tryd_elm_9 : elemB Tryd.prog 9 16 = true := by kernel_rfl
theorem Tryd_cal_37 : callB Tryd.prog 37 = true := by kernel_rfl
theorem Tryd_cal_13 : callB Tryd.prog 13 = true := by kernel_rfl
theorem Tryd_cal_10 : callB Tryd.prog 10 = true := by kernel_rfl
theorem Tryd_cal_39 : callB Tryd.prog 39 = true := by kernel_rfl
theorem Tryd_cal_61 : callB Tryd.prog 61 = true := by kernel_rfl
theorem Tryd_cal_40 : callB Tryd.prog 40 = true := by kernel_rfl
theorem Tryd_cal_41 : callB Tryd.prog 41 = true := by kernel_rfl
theorem Tryd_cal_16 : callB Tryd.prog 16 = true := by kernel_rfl
theorem Tryd_cal_35 : callB Tryd.prog 35 = true := by kernel_rfl
theorem Tryd_cal_12 : callB Tryd.prog 12 = true := by kernel_rfl
theorem Tryd_und_4 : Tryd.prog.underlying 4 = some .bool := by kernel_rfl
theorem Tryd_cal_38 : callB Tryd.prog 38 = true := by kernel_rfl
theorem Tryd_cal_14 : callB Tryd.prog 14 = true := by kernel_rfl
end Go.Proofs.YtkmaieldmcjbfaaDoor
