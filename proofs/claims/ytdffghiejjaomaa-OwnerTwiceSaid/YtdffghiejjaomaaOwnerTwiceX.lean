/- A part of the proof that the law OwnerTwice gives true for every input. -/
import Derived.Test.YtdffghiejjaomaaAbsP
import Derived.Test.YtdffghiejjaomaaProg
/- Facts about the types of the program. -/
namespace Go.Proofs.Ytdffghiejjaomaa
open Go.RowKit Go.Abs
theorem Try_arr_78 : arrayB Try.prog 78 3 42 2 = true := by kernel_rfl
theorem Try_agg_42 : aggB Try.prog 42 2 = true := by kernel_rfl
theorem Try_zer_42 : zeroIs Try.prog 42 (.agg #[.int .i64 0, .int .i64 0]) := by unfold zeroIs; kernel_rfl
theorem Try_non_42 : oneB Try.prog 42 = false := by kernel_rfl
theorem Try_mixed : Try.prog.follows .mixedOrders = true := by kernel_rfl
theorem Try_slc_43 : sliceB Try.prog 43 42 2 = true := by kernel_rfl
theorem Try_plc_42 : placesB Try.prog 42 [(0, 1), (1, 1)] = true := by kernel_rfl
theorem Try_fld_42_0 : fieldB Try.prog 42 0 0 = true := by kernel_rfl
theorem Try_one_3 : oneB Try.prog 3 = true := by kernel_rfl
theorem Try_fld_42_1 : fieldB Try.prog 42 1 1 = true := by kernel_rfl
theorem Try_cal_26 : callB Try.prog 26 = true := by kernel_rfl
theorem Try_eqt_42 : eqB Try.prog 42 [(.i .i64), (.i .i64)] = true := by kernel_rfl
theorem Try_zer_9 : zeroIs Try.prog 9 (.string ⟨#[]⟩) := by unfold zeroIs; kernel_rfl
theorem Try_slc_91 : sliceB Try.prog 91 9 1 = true := by kernel_rfl
theorem Try_cal_78 : callB Try.prog 78 = true := by kernel_rfl
theorem Try_one_9 : oneB Try.prog 9 = true := by kernel_rfl
theorem Try_cal_61 : callB Try.prog 61 = true := by kernel_rfl
theorem Try_cal_25 : callB Try.prog 25 = true := by kernel_rfl
theorem Try_cal_92 : callB Try.prog 92 = true := by kernel_rfl
theorem Try_cal_74 : callB Try.prog 74 = true := by kernel_rfl
theorem Try_zer_3 : zeroIs Try.prog 3 (.int .i64 0) := by unfold zeroIs; kernel_rfl
theorem Try_slc_50 : sliceB Try.prog 50 3 1 = true := by kernel_rfl
theorem Try_cal_73 : callB Try.prog 73 = true := by kernel_rfl
theorem Try_cal_49 : callB Try.prog 49 = true := by kernel_rfl
theorem Try_und_4 : Try.prog.underlying 4 = some .bool := by kernel_rfl
theorem Try_elm_42 : elemB Try.prog 42 16 = true := by kernel_rfl
theorem Try_cal_29 : callB Try.prog 29 = true := by kernel_rfl
theorem Try_cal_27 : callB Try.prog 27 = true := by kernel_rfl
theorem Try_cal_30 : callB Try.prog 30 = true := by kernel_rfl
theorem Try_cal_28 : callB Try.prog 28 = true := by kernel_rfl
end Go.Proofs.Ytdffghiejjaomaa
