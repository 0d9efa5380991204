/- A part of the proof that the law WordBack gives true for every input. -/
import Derived.Test.YtiblofbgibjobaaDoorWordBackA2
import Derived.Test.YtiblofbgibjobaaDoorProg
/- Facts about the types of the program. -/
namespace Go.Proofs.YtiblofbgibjobaaDoor
open Go.RowKit Go.Abs
/-- The package variables that are read: their blocks, and what they hold. -/
abbrev globs_Tryd : List (Nat × List PV) := [(0, [.str [99, 108, 97, 115, 115], .str [101, 120, 116, 101, 110, 100, 115], .str [114, 101, 112], .str [112, 101, 101, 114], .str [119, 111, 114, 108, 100], .str [97, 110, 121], .str [117, 110, 105, 113, 117, 101], .str [112, 117, 114, 101], .str [118, 111, 105, 100], .str [105, 110, 116], .str [105, 102], .str [101, 108, 115, 101], .str [119, 104, 105, 108, 101], .str [114, 101, 116, 117, 114, 110], .str [110, 101, 119], .str [109, 111, 118, 101], .str [100, 101, 108, 101, 116, 101], .str [116, 104, 105, 115], .str [110, 117, 108, 108], .str [105, 110, 112, 117, 116], .str [110, 105, 108], .str [115, 97, 109, 101], .str [99, 97, 115, 116]])]
theorem Tryd_und_9 : Tryd.prog.underlying 9 = some .string := by kernel_rfl
theorem Tryd_und_33 : Tryd.prog.underlying 33 = some (.slice 5) := by kernel_rfl
theorem Tryd_und_5 : Tryd.prog.underlying 5 = some (.int .u8) := by kernel_rfl
theorem Tryd_slc_33 : sliceB Tryd.prog 33 5 1 = true := by kernel_rfl
theorem Tryd_one_5 : oneB Tryd.prog 5 = true := by kernel_rfl
theorem Tryd_cal_16 : callB Tryd.prog 16 = true := by kernel_rfl
theorem Tryd_und_3 : Tryd.prog.underlying 3 = some (.int .i64) := by kernel_rfl
theorem Tryd_und_34 : Tryd.prog.underlying 34 = some (.int .u64) := by kernel_rfl
theorem Tryd_zer_5 : zeroIs Tryd.prog 5 (.int .u8 0) := by unfold zeroIs; kernel_rfl
theorem Tryd_elm_5 : elemB Tryd.prog 5 1 = true := by kernel_rfl
theorem Tryd_mixed : Tryd.prog.follows .mixedOrders = true := by kernel_rfl
theorem Tryd_cal_23 : callB Tryd.prog 23 = true := by kernel_rfl
theorem Tryd_cal_9 : callB Tryd.prog 9 = true := by kernel_rfl
theorem Tryd_cal_7 : callB Tryd.prog 7 = true := by kernel_rfl
theorem Tryd_arr_36 : arrayB Tryd.prog 36 23 9 1 = true := by kernel_rfl
theorem Tryd_cal_25 : callB Tryd.prog 25 = true := by kernel_rfl
theorem Tryd_slc_38 : sliceB Tryd.prog 38 9 1 = true := by kernel_rfl
theorem Tryd_one_9 : oneB Tryd.prog 9 = true := by kernel_rfl
theorem Tryd_cal_27 : callB Tryd.prog 27 = true := by kernel_rfl
theorem Tryd_cal_24 : callB Tryd.prog 24 = true := by kernel_rfl
theorem Tryd_cal_12 : callB Tryd.prog 12 = true := by kernel_rfl
theorem Tryd_cal_14 : callB Tryd.prog 14 = true := by kernel_rfl
theorem Tryd_cal_13 : callB Tryd.prog 13 = true := by kernel_rfl
theorem Tryd_cal_6 : callB Tryd.prog 6 = true := by kernel_rfl
theorem Tryd_und_27 : Tryd.prog.underlying 27 = some (.int .u32) := by kernel_rfl
theorem Tryd_cal_11 : callB Tryd.prog 11 = true := by kernel_rfl
theorem Tryd_cal_15 : callB Tryd.prog 15 = true := by kernel_rfl
theorem Tryd_und_4 : Tryd.prog.underlying 4 = some .bool := by kernel_rfl
theorem Tryd_cal_17 : callB Tryd.prog 17 = true := by kernel_rfl
theorem Tryd_cal_18 : callB Tryd.prog 18 = true := by kernel_rfl
theorem Tryd_cal_19 : callB Tryd.prog 19 = true := by kernel_rfl
theorem Tryd_zer_9 : zeroIs Tryd.prog 9 (.string ⟨#[]⟩) := by unfold zeroIs; kernel_rfl
theorem Tryd_cal_26 : callB Tryd.prog 26 = true := by kernel_rfl
theorem Tryd_cal_21 : callB Tryd.prog 21 = true := by kernel_rfl
theorem Tryd_cal_20 : callB Tryd.prog 20 = true := by kernel_rfl
theorem Tryd_cal_22 : callB Tryd.prog 22 = true := by kernel_rfl
end Go.Proofs.YtiblofbgibjobaaDoor
