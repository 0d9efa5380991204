/- A part of the proof that the law HeapPut gives true for every input. -/
import Derived.Test.YtdffghiejjaomaaAbsP
import Derived.Test.YtdffghiejjaomaaProg
/- Facts about the types of the program. -/
namespace Go.Proofs.Ytdffghiejjaomaa
open Go.RowKit Go.Abs
theorem Try_slc_22 : sliceB Try.prog 22 30 7 = true := by kernel_rfl
theorem Try_fld_30_2 : fieldB Try.prog 30 2 5 = true := by kernel_rfl
theorem Try_one_28 : oneB Try.prog 28 = true := by kernel_rfl
theorem Try_slc_28 : sliceB Try.prog 28 24 2 = true := by kernel_rfl
theorem Try_cal_14 : callB Try.prog 14 = true := by kernel_rfl
theorem Try_fld_30_3 : fieldB Try.prog 30 3 6 = true := by kernel_rfl
theorem Try_one_4 : oneB Try.prog 4 = true := by kernel_rfl
theorem Try_cal_22 : callB Try.prog 22 = true := by kernel_rfl
theorem Try_cal_15 : callB Try.prog 15 = true := by kernel_rfl
theorem Try_agg_30 : aggB Try.prog 30 7 = true := by kernel_rfl
theorem Try_zer_30 : zeroIs Try.prog 30 (.agg #[.string ⟨#[]⟩, .int .i64 0, .int .i64 0, .int .i64 0, .int .i64 0, .slice none 0 0, .bool false]) := by unfold zeroIs; kernel_rfl
theorem Try_non_30 : oneB Try.prog 30 = false := by kernel_rfl
theorem Try_zer_24 : zeroIs Try.prog 24 (.agg #[.bool false, .int .i64 0]) := by unfold zeroIs; kernel_rfl
theorem Try_elm_24 : elemB Try.prog 24 16 = true := by kernel_rfl
theorem Try_elm_30 : elemB Try.prog 30 80 = true := by kernel_rfl
theorem Try_arr_57 : arrayB Try.prog 57 2 26 4 = true := by kernel_rfl
theorem Try_agg_26 : aggB Try.prog 26 4 = true := by kernel_rfl
theorem Try_zer_26 : zeroIs Try.prog 26 (.agg #[.int .i64 0, .int .i64 0, .bool false, .int .i64 0]) := by unfold zeroIs; kernel_rfl
theorem Try_non_26 : oneB Try.prog 26 = false := by kernel_rfl
theorem Try_mixed : Try.prog.follows .mixedOrders = true := by kernel_rfl
theorem Try_fld_26_0 : fieldB Try.prog 26 0 0 = true := by kernel_rfl
theorem Try_one_3 : oneB Try.prog 3 = true := by kernel_rfl
theorem Try_fld_26_1 : fieldB Try.prog 26 1 1 = true := by kernel_rfl
theorem Try_plc_24 : placesB Try.prog 24 [(0, 1), (1, 1)] = true := by kernel_rfl
theorem Try_agg_24 : aggB Try.prog 24 2 = true := by kernel_rfl
theorem Try_non_24 : oneB Try.prog 24 = false := by kernel_rfl
theorem Try_cal_16 : callB Try.prog 16 = true := by kernel_rfl
theorem Try_fld_26_2 : fieldB Try.prog 26 2 2 = true := by kernel_rfl
theorem Try_cal_59 : callB Try.prog 59 = true := by kernel_rfl
theorem Try_cal_60 : callB Try.prog 60 = true := by kernel_rfl
theorem Try_cal_18 : callB Try.prog 18 = true := by kernel_rfl
theorem Try_cal_20 : callB Try.prog 20 = true := by kernel_rfl
theorem Try_fld_30_0 : fieldB Try.prog 30 0 0 = true := by kernel_rfl
theorem Try_one_9 : oneB Try.prog 9 = true := by kernel_rfl
theorem Try_fld_30_1 : fieldB Try.prog 30 1 1 = true := by kernel_rfl
theorem Try_agg_27 : aggB Try.prog 27 4 = true := by kernel_rfl
theorem Try_eqt_27 : eqB Try.prog 27 [(.i .i64), (.i .i64), (.i .i64), (.i .i64)] = true := by kernel_rfl
theorem Try_und_4 : Try.prog.underlying 4 = some .bool := by kernel_rfl
theorem Try_eqt_24 : eqB Try.prog 24 [.b, (.i .i64)] = true := by kernel_rfl
theorem Try_cal_52 : callB Try.prog 52 = true := by kernel_rfl
theorem Try_cal_24 : callB Try.prog 24 = true := by kernel_rfl
theorem Try_zer_3 : zeroIs Try.prog 3 (.int .i64 0) := by unfold zeroIs; kernel_rfl
theorem Try_slc_50 : sliceB Try.prog 50 3 1 = true := by kernel_rfl
theorem Try_elm_3 : elemB Try.prog 3 8 = true := by kernel_rfl
theorem Try_cal_37 : callB Try.prog 37 = true := by kernel_rfl
theorem Try_cal_23 : callB Try.prog 23 = true := by kernel_rfl
theorem Try_cal_17 : callB Try.prog 17 = true := by kernel_rfl
theorem Try_cal_19 : callB Try.prog 19 = true := by kernel_rfl
theorem Try_cal_21 : callB Try.prog 21 = true := by kernel_rfl
end Go.Proofs.Ytdffghiejjaomaa
