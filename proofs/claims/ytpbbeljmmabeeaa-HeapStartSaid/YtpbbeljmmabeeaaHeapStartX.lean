/- A part of the proof that the law HeapStart gives true for every input. -/
import Derived.Test.YtpbbeljmmabeeaaAbsV
import Derived.Test.YtpbbeljmmabeeaaProg
/- Facts about the types of the program. -/
namespace Go.Proofs.Ytpbbeljmmabeeaa
open Go.RowKit Go.Abs
theorem Try_slc_45 : sliceB Try.prog 45 94 7 = true := by kernel_rfl
theorem Try_agg_94 : aggB Try.prog 94 7 = true := by kernel_rfl
theorem Try_zer_94 : zeroIs Try.prog 94 (.agg #[.string ⟨#[]⟩, .slice none 0 0, .string ⟨#[]⟩, .slice none 0 0, .slice none 0 0, .slice none 0 0, .int .i64 0]) := by unfold zeroIs; kernel_rfl
theorem Try_non_94 : oneB Try.prog 94 = false := by kernel_rfl
theorem Try_fld_94_1 : fieldB Try.prog 94 1 1 = true := by kernel_rfl
theorem Try_one_90 : oneB Try.prog 90 = true := by kernel_rfl
theorem Try_slc_90 : sliceB Try.prog 90 9 1 = true := by kernel_rfl
theorem Try_fld_94_3 : fieldB Try.prog 94 3 3 = true := by kernel_rfl
theorem Try_one_52 : oneB Try.prog 52 = true := by kernel_rfl
theorem Try_slc_52 : sliceB Try.prog 52 51 2 = true := by kernel_rfl
theorem Try_fld_94_4 : fieldB Try.prog 94 4 4 = true := by kernel_rfl
theorem Try_one_91 : oneB Try.prog 91 = true := by kernel_rfl
theorem Try_slc_91 : sliceB Try.prog 91 79 13 = true := by kernel_rfl
theorem Try_fld_94_5 : fieldB Try.prog 94 5 5 = true := by kernel_rfl
theorem Try_one_92 : oneB Try.prog 92 = true := by kernel_rfl
theorem Try_slc_92 : sliceB Try.prog 92 97 17 = true := by kernel_rfl
theorem Try_agg_97 : aggB Try.prog 97 17 = true := by kernel_rfl
theorem Try_zer_97 : zeroIs Try.prog 97 (.agg #[.string ⟨#[]⟩, .bool false, .int .i64 0, .string ⟨#[]⟩, .int .i64 0, .int .i64 0, .int .i64 0, .int .i64 0, .int .i64 0, .int .i64 0, .int .i64 0, .int .i64 0, .int .i64 0, .slice none 0 0, .slice none 0 0, .slice none 0 0, .int .i64 0]) := by unfold zeroIs; kernel_rfl
theorem Try_non_97 : oneB Try.prog 97 = false := by kernel_rfl
theorem Try_fld_97_3 : fieldB Try.prog 97 3 13 = true := by kernel_rfl
theorem Try_fld_97_4 : fieldB Try.prog 97 4 14 = true := by kernel_rfl
theorem Try_fld_97_5 : fieldB Try.prog 97 5 15 = true := by kernel_rfl
theorem Try_one_95 : oneB Try.prog 95 = true := by kernel_rfl
theorem Try_slc_95 : sliceB Try.prog 95 104 23 = true := by kernel_rfl
theorem Try_fld_79_1 : fieldB Try.prog 79 1 1 = true := by kernel_rfl
theorem Try_fld_77_3 : fieldB Try.prog 77 3 3 = true := by kernel_rfl
theorem Try_arr_75 : arrayB Try.prog 75 4 51 2 = true := by kernel_rfl
theorem Try_fld_51_0 : fieldB Try.prog 51 0 0 = true := by kernel_rfl
theorem Try_one_3 : oneB Try.prog 3 = true := by kernel_rfl
theorem Try_cal_61 : callB Try.prog 61 = true := by kernel_rfl
theorem Try_agg_104 : aggB Try.prog 104 23 = true := by kernel_rfl
theorem Try_fld_104_7 : fieldB Try.prog 104 7 20 = true := by kernel_rfl
theorem Try_fld_104_8 : fieldB Try.prog 104 8 21 = true := by kernel_rfl
theorem Try_fld_104_6 : fieldB Try.prog 104 6 19 = true := by kernel_rfl
theorem Try_one_100 : oneB Try.prog 100 = true := by kernel_rfl
theorem Try_slc_100 : sliceB Try.prog 100 102 4 = true := by kernel_rfl
theorem Try_fld_104_5 : fieldB Try.prog 104 5 15 = true := by kernel_rfl
theorem Try_agg_102 : aggB Try.prog 102 4 = true := by kernel_rfl
theorem Try_fld_102_3 : fieldB Try.prog 102 3 3 = true := by kernel_rfl
theorem Try_cal_78 : callB Try.prog 78 = true := by kernel_rfl
theorem Try_cal_62 : callB Try.prog 62 = true := by kernel_rfl
theorem Try_cal_63 : callB Try.prog 63 = true := by kernel_rfl
theorem Try_cal_26 : callB Try.prog 26 = true := by kernel_rfl
theorem Try_slc_22 : sliceB Try.prog 22 30 7 = true := by kernel_rfl
theorem Try_fld_30_2 : fieldB Try.prog 30 2 5 = true := by kernel_rfl
theorem Try_one_28 : oneB Try.prog 28 = true := by kernel_rfl
theorem Try_slc_28 : sliceB Try.prog 28 24 2 = true := by kernel_rfl
theorem Try_cal_14 : callB Try.prog 14 = true := by kernel_rfl
theorem Try_fld_30_3 : fieldB Try.prog 30 3 6 = true := by kernel_rfl
theorem Try_one_4 : oneB Try.prog 4 = true := by kernel_rfl
theorem Try_cal_22 : callB Try.prog 22 = true := by kernel_rfl
theorem Try_cal_15 : callB Try.prog 15 = true := by kernel_rfl
theorem Try_agg_30 : aggB Try.prog 30 7 = true := by kernel_rfl
theorem Try_zer_30 : zeroIs Try.prog 30 (.agg #[.string ⟨#[]⟩, .int .i64 0, .int .i64 0, .int .i64 0, .int .i64 0, .slice none 0 0, .bool false]) := by unfold zeroIs; kernel_rfl
theorem Try_non_30 : oneB Try.prog 30 = false := by kernel_rfl
theorem Try_zer_3 : zeroIs Try.prog 3 (.int .i64 0) := by unfold zeroIs; kernel_rfl
theorem Try_slc_42 : sliceB Try.prog 42 3 1 = true := by kernel_rfl
theorem Try_elm_3 : elemB Try.prog 3 8 = true := by kernel_rfl
theorem Try_cal_25 : callB Try.prog 25 = true := by kernel_rfl
theorem Try_cal_27 : callB Try.prog 27 = true := by kernel_rfl
theorem Try_mixed : Try.prog.follows .mixedOrders = true := by kernel_rfl
theorem Try_zer_71 : zeroIs Try.prog 71 (.slice none 0 0) := by unfold zeroIs; kernel_rfl
theorem Try_one_45 : oneB Try.prog 45 = true := by kernel_rfl
theorem Try_zer_42 : zeroIs Try.prog 42 (.slice none 0 0) := by unfold zeroIs; kernel_rfl
theorem Try_cal_67 : callB Try.prog 67 = true := by kernel_rfl
theorem Try_one_9 : oneB Try.prog 9 = true := by kernel_rfl
theorem Try_fld_94_0 : fieldB Try.prog 94 0 0 = true := by kernel_rfl
theorem Try_cal_84 : callB Try.prog 84 = true := by kernel_rfl
theorem Try_cal_83 : callB Try.prog 83 = true := by kernel_rfl
theorem Try_cal_71 : callB Try.prog 71 = true := by kernel_rfl
theorem Try_fld_94_2 : fieldB Try.prog 94 2 2 = true := by kernel_rfl
theorem Try_one_42 : oneB Try.prog 42 = true := by kernel_rfl
theorem Try_cal_82 : callB Try.prog 82 = true := by kernel_rfl
theorem Try_cal_68 : callB Try.prog 68 = true := by kernel_rfl
theorem Try_cal_81 : callB Try.prog 81 = true := by kernel_rfl
theorem Try_cal_40 : callB Try.prog 40 = true := by kernel_rfl
theorem Try_cal_72 : callB Try.prog 72 = true := by kernel_rfl
theorem Try_agg_79 : aggB Try.prog 79 13 = true := by kernel_rfl
theorem Try_zer_79 : zeroIs Try.prog 79 (.agg #[.string ⟨#[]⟩, .int .i64 0, .string ⟨#[]⟩, .int .i64 0, .int .i64 0, .int .i64 0, .int .i64 0, .int .i64 0, .int .i64 0, .int .i64 0, .int .i64 0, .int .i64 0, .int .i64 0]) := by unfold zeroIs; kernel_rfl
theorem Try_non_79 : oneB Try.prog 79 = false := by kernel_rfl
theorem Try_one_71 : oneB Try.prog 71 = true := by kernel_rfl
theorem Try_zer_81 : zeroIs Try.prog 81 (.agg #[.string ⟨#[]⟩, .string ⟨#[]⟩, .int .i64 0, .string ⟨#[]⟩, .int .i64 0, .int .i64 0, .int .i64 0, .int .i64 0, .int .i64 0, .int .i64 0, .int .i64 0, .int .i64 0, .int .i64 0, .int .i64 0]) := by unfold zeroIs; kernel_rfl
theorem Try_plc_81 : placesB Try.prog 81 [(0, 1), (1, 13)] = true := by kernel_rfl
theorem Try_slc_71 : sliceB Try.prog 71 81 14 = true := by kernel_rfl
theorem Try_elm_81 : elemB Try.prog 81 136 = true := by kernel_rfl
theorem Try_cal_85 : callB Try.prog 85 = true := by kernel_rfl
theorem Try_cal_50 : callB Try.prog 50 = true := by kernel_rfl
theorem Try_agg_81 : aggB Try.prog 81 14 = true := by kernel_rfl
theorem Try_non_81 : oneB Try.prog 81 = false := by kernel_rfl
theorem Try_fld_81_1 : fieldB Try.prog 81 1 1 = true := by kernel_rfl
theorem Try_fld_77_0 : fieldB Try.prog 77 0 0 = true := by kernel_rfl
theorem Try_zer_24 : zeroIs Try.prog 24 (.agg #[.bool false, .int .i64 0]) := by unfold zeroIs; kernel_rfl
theorem Try_plc_24 : placesB Try.prog 24 [(0, 1), (1, 1)] = true := by kernel_rfl
theorem Try_elm_24 : elemB Try.prog 24 16 = true := by kernel_rfl
theorem Try_cal_29 : callB Try.prog 29 = true := by kernel_rfl
theorem Try_cal_69 : callB Try.prog 69 = true := by kernel_rfl
theorem Try_cal_70 : callB Try.prog 70 = true := by kernel_rfl
theorem Try_cal_41 : callB Try.prog 41 = true := by kernel_rfl
theorem Try_zer_82 : zeroIs Try.prog 82 (.agg #[.string ⟨#[]⟩, .string ⟨#[]⟩, .int .i64 0, .string ⟨#[]⟩, .int .i64 0, .int .i64 0, .int .i64 0, .int .i64 0, .int .i64 0, .int .i64 0, .int .i64 0, .int .i64 0, .int .i64 0, .int .i64 0]) := by unfold zeroIs; kernel_rfl
theorem Try_plc_82 : placesB Try.prog 82 [(0, 1), (1, 13)] = true := by kernel_rfl
theorem Try_slc_73 : sliceB Try.prog 73 82 14 = true := by kernel_rfl
theorem Try_elm_82 : elemB Try.prog 82 136 = true := by kernel_rfl
theorem Try_cal_51 : callB Try.prog 51 = true := by kernel_rfl
theorem Try_fld_82_1 : fieldB Try.prog 82 1 1 = true := by kernel_rfl
theorem Try_cal_30 : callB Try.prog 30 = true := by kernel_rfl
theorem Try_agg_24 : aggB Try.prog 24 2 = true := by kernel_rfl
theorem Try_eqt_24 : eqB Try.prog 24 [.b, (.i .i64)] = true := by kernel_rfl
theorem Try_cal_28 : callB Try.prog 28 = true := by kernel_rfl
end Go.Proofs.Ytpbbeljmmabeeaa
