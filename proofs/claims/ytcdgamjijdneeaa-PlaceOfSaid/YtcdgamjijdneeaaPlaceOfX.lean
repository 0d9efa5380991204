/- A part of the proof that the law PlaceOf gives true for every input. -/
import Derived.Test.YtcdgamjijdneeaaAbsW
import Derived.Test.YtcdgamjijdneeaaProg
/- Facts about the types of the program. -/
namespace Go.Proofs.Ytcdgamjijdneeaa
open Go.RowKit Go.Abs
theorem Try_und_9 : Try.prog.underlying 9 = some .string := by kernel_rfl
theorem Try_ext_64 : ExtSB Try.prog 64 cntB := ext_cnt Try.func64 (by kernel_rfl) (by kernel_rfl) (by kernel_rfl) (by kernel_rfl)
theorem Try_ext_114 : ExtSB Try.prog 114 idxB := ext_idx Try.func114 (by kernel_rfl) (by kernel_rfl) (by kernel_rfl) (by kernel_rfl)
theorem Try_cal_100 : callB Try.prog 100 = true := by kernel_rfl
theorem Try_cal_38 : callB Try.prog 38 = true := by kernel_rfl
theorem Try_cal_67 : callB Try.prog 67 = true := by kernel_rfl
theorem Try_cal_40 : callB Try.prog 40 = true := by kernel_rfl
theorem Try_cal_13 : callB Try.prog 13 = true := by kernel_rfl
theorem Try_cal_10 : callB Try.prog 10 = true := by kernel_rfl
theorem Try_cal_14 : callB Try.prog 14 = true := by kernel_rfl
theorem Try_arr_27 : arrayB Try.prog 27 2 3 1 = true := by kernel_rfl
theorem Try_one_3 : oneB Try.prog 3 = true := by kernel_rfl
theorem Try_zer_79 : zeroIs Try.prog 79 (.agg #[.int .i64 0, .int .i64 0, .int .i64 0]) := by unfold zeroIs; kernel_rfl
theorem Try_zer_4 : zeroIs Try.prog 4 (.bool false) := by unfold zeroIs; kernel_rfl
theorem Try_cal_66 : callB Try.prog 66 = true := by kernel_rfl
theorem Try_one_9 : oneB Try.prog 9 = true := by kernel_rfl
theorem Try_cal_87 : callB Try.prog 87 = true := by kernel_rfl
theorem Try_plc_79 : placesB Try.prog 79 [(0, 1), (1, 1), (2, 1)] = true := by kernel_rfl
theorem Try_agg_79 : aggB Try.prog 79 3 = true := by kernel_rfl
theorem Try_non_79 : oneB Try.prog 79 = false := by kernel_rfl
theorem Try_fld_79_0 : fieldB Try.prog 79 0 0 = true := by kernel_rfl
theorem Try_one_4 : oneB Try.prog 4 = true := by kernel_rfl
theorem Try_cal_86 : callB Try.prog 86 = true := by kernel_rfl
theorem Try_cal_39 : callB Try.prog 39 = true := by kernel_rfl
theorem Try_fld_79_2 : fieldB Try.prog 79 2 2 = true := by kernel_rfl
theorem Try_fld_79_1 : fieldB Try.prog 79 1 1 = true := by kernel_rfl
theorem Try_cal_15 : callB Try.prog 15 = true := by kernel_rfl
theorem Try_cal_16 : callB Try.prog 16 = true := by kernel_rfl
theorem Try_und_4 : Try.prog.underlying 4 = some .bool := by kernel_rfl
end Go.Proofs.Ytcdgamjijdneeaa
