/- A part of the proof that the law AboveBelow gives true for every input. -/
import Derived.Test.YtpbbeljmmabeeaaAbsV
import Derived.Test.YtpbbeljmmabeeaaProg
/- Facts about the types of the program. -/
namespace Go.Proofs.Ytpbbeljmmabeeaa
open Go.RowKit Go.Abs
theorem Try_slc_45 : sliceB Try.prog 45 94 7 = true := by kernel_rfl
theorem Try_zer_94 : zeroIs Try.prog 94 (.agg #[.string ⟨#[]⟩, .slice none 0 0, .string ⟨#[]⟩, .slice none 0 0, .slice none 0 0, .slice none 0 0, .int .i64 0]) := by unfold zeroIs; kernel_rfl
theorem Try_plc_94 : placesB Try.prog 94 [(0, 1), (1, 1), (2, 1), (3, 1), (4, 1), (5, 1), (6, 1)] = true := by kernel_rfl
theorem Try_zer_64 : zeroIs Try.prog 64 (.agg #[.int .i64 0, .int .i64 0]) := by unfold zeroIs; kernel_rfl
theorem Try_agg_94 : aggB Try.prog 94 7 = true := by kernel_rfl
theorem Try_non_94 : oneB Try.prog 94 = false := by kernel_rfl
theorem Try_zer_3 : zeroIs Try.prog 3 (.int .i64 0) := by unfold zeroIs; kernel_rfl
theorem Try_one_3 : oneB Try.prog 3 = true := by kernel_rfl
theorem Try_fld_94_0 : fieldB Try.prog 94 0 0 = true := by kernel_rfl
theorem Try_one_9 : oneB Try.prog 9 = true := by kernel_rfl
theorem Try_cal_67 : callB Try.prog 67 = true := by kernel_rfl
theorem Try_one_45 : oneB Try.prog 45 = true := by kernel_rfl
theorem Try_cal_84 : callB Try.prog 84 = true := by kernel_rfl
theorem Try_cal_83 : callB Try.prog 83 = true := by kernel_rfl
theorem Try_cal_71 : callB Try.prog 71 = true := by kernel_rfl
theorem Try_fld_94_2 : fieldB Try.prog 94 2 2 = true := by kernel_rfl
theorem Try_cal_81 : callB Try.prog 81 = true := by kernel_rfl
theorem Try_fld_94_6 : fieldB Try.prog 94 6 6 = true := by kernel_rfl
theorem Try_plc_64 : placesB Try.prog 64 [(0, 1), (1, 1)] = true := by kernel_rfl
theorem Try_agg_64 : aggB Try.prog 64 2 = true := by kernel_rfl
theorem Try_non_64 : oneB Try.prog 64 = false := by kernel_rfl
theorem Try_cal_42 : callB Try.prog 42 = true := by kernel_rfl
theorem Try_eqt_64 : eqB Try.prog 64 [(.i .i64), (.i .i64)] = true := by kernel_rfl
theorem Try_zer_42 : zeroIs Try.prog 42 (.slice none 0 0) := by unfold zeroIs; kernel_rfl
theorem Try_one_42 : oneB Try.prog 42 = true := by kernel_rfl
theorem Try_slc_42 : sliceB Try.prog 42 3 1 = true := by kernel_rfl
theorem Try_cal_82 : callB Try.prog 82 = true := by kernel_rfl
theorem Try_cal_68 : callB Try.prog 68 = true := by kernel_rfl
theorem Try_elm_3 : elemB Try.prog 3 8 = true := by kernel_rfl
theorem Try_cal_40 : callB Try.prog 40 = true := by kernel_rfl
theorem Try_cal_38 : callB Try.prog 38 = true := by kernel_rfl
theorem Try_zer_4 : zeroIs Try.prog 4 (.bool false) := by unfold zeroIs; kernel_rfl
theorem Try_one_4 : oneB Try.prog 4 = true := by kernel_rfl
theorem Try_cal_44 : callB Try.prog 44 = true := by kernel_rfl
theorem Try_cal_69 : callB Try.prog 69 = true := by kernel_rfl
theorem Try_cal_70 : callB Try.prog 70 = true := by kernel_rfl
theorem Try_cal_41 : callB Try.prog 41 = true := by kernel_rfl
theorem Try_cal_45 : callB Try.prog 45 = true := by kernel_rfl
theorem Try_und_4 : Try.prog.underlying 4 = some .bool := by kernel_rfl
theorem Try_zer_9 : zeroIs Try.prog 9 (.string ⟨#[]⟩) := by unfold zeroIs; kernel_rfl
theorem Try_cal_46 : callB Try.prog 46 = true := by kernel_rfl
theorem Try_mixed : Try.prog.follows .mixedOrders = true := by kernel_rfl
theorem Try_cal_47 : callB Try.prog 47 = true := by kernel_rfl
end Go.Proofs.Ytpbbeljmmabeeaa
