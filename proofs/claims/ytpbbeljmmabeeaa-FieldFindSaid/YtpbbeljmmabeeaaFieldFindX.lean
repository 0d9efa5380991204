/- A part of the proof that the law FieldFind gives true for every input. -/
import Derived.Test.YtpbbeljmmabeeaaAbsX
import Derived.Test.YtpbbeljmmabeeaaProg
/- Facts about the types of the program. -/
namespace Go.Proofs.Ytpbbeljmmabeeaa
open Go.RowKit Go.Abs
theorem Try_slc_45 : sliceB Try.prog 45 94 7 = true := by kernel_rfl
theorem Try_fld_94_4 : fieldB Try.prog 94 4 4 = true := by kernel_rfl
theorem Try_one_91 : oneB Try.prog 91 = true := by kernel_rfl
theorem Try_slc_91 : sliceB Try.prog 91 79 13 = true := by kernel_rfl
theorem Try_cal_48 : callB Try.prog 48 = true := by kernel_rfl
theorem Try_zer_79 : zeroIs Try.prog 79 (.agg #[.string ⟨#[]⟩, .int .i64 0, .string ⟨#[]⟩, .int .i64 0, .int .i64 0, .int .i64 0, .int .i64 0, .int .i64 0, .int .i64 0, .int .i64 0, .int .i64 0, .int .i64 0, .int .i64 0]) := by unfold zeroIs; kernel_rfl
theorem Try_plc_79 : placesB Try.prog 79 [(0, 1), (1, 11), (12, 1)] = true := by kernel_rfl
theorem Try_zer_94 : zeroIs Try.prog 94 (.agg #[.string ⟨#[]⟩, .slice none 0 0, .string ⟨#[]⟩, .slice none 0 0, .slice none 0 0, .slice none 0 0, .int .i64 0]) := by unfold zeroIs; kernel_rfl
theorem Try_plc_94 : placesB Try.prog 94 [(0, 1), (1, 1), (2, 1), (3, 1), (4, 1), (5, 1), (6, 1)] = true := by kernel_rfl
theorem Try_zer_71 : zeroIs Try.prog 71 (.slice none 0 0) := by unfold zeroIs; kernel_rfl
theorem Try_one_45 : oneB Try.prog 45 = true := by kernel_rfl
theorem Try_zer_42 : zeroIs Try.prog 42 (.slice none 0 0) := by unfold zeroIs; kernel_rfl
theorem Try_cal_67 : callB Try.prog 67 = true := by kernel_rfl
theorem Try_one_9 : oneB Try.prog 9 = true := by kernel_rfl
theorem Try_agg_94 : aggB Try.prog 94 7 = true := by kernel_rfl
theorem Try_fld_94_0 : fieldB Try.prog 94 0 0 = true := by kernel_rfl
theorem Try_cal_84 : callB Try.prog 84 = true := by kernel_rfl
theorem Try_cal_83 : callB Try.prog 83 = true := by kernel_rfl
theorem Try_cal_71 : callB Try.prog 71 = true := by kernel_rfl
theorem Try_fld_94_2 : fieldB Try.prog 94 2 2 = true := by kernel_rfl
theorem Try_one_42 : oneB Try.prog 42 = true := by kernel_rfl
theorem Try_slc_42 : sliceB Try.prog 42 3 1 = true := by kernel_rfl
theorem Try_one_3 : oneB Try.prog 3 = true := by kernel_rfl
theorem Try_cal_82 : callB Try.prog 82 = true := by kernel_rfl
theorem Try_cal_68 : callB Try.prog 68 = true := by kernel_rfl
theorem Try_zer_3 : zeroIs Try.prog 3 (.int .i64 0) := by unfold zeroIs; kernel_rfl
theorem Try_elm_3 : elemB Try.prog 3 8 = true := by kernel_rfl
theorem Try_cal_81 : callB Try.prog 81 = true := by kernel_rfl
theorem Try_cal_40 : callB Try.prog 40 = true := by kernel_rfl
theorem Try_cal_72 : callB Try.prog 72 = true := by kernel_rfl
theorem Try_agg_79 : aggB Try.prog 79 13 = true := by kernel_rfl
theorem Try_non_79 : oneB Try.prog 79 = false := by kernel_rfl
theorem Try_one_71 : oneB Try.prog 71 = true := by kernel_rfl
theorem Try_zer_81 : zeroIs Try.prog 81 (.agg #[.string ⟨#[]⟩, .string ⟨#[]⟩, .int .i64 0, .string ⟨#[]⟩, .int .i64 0, .int .i64 0, .int .i64 0, .int .i64 0, .int .i64 0, .int .i64 0, .int .i64 0, .int .i64 0, .int .i64 0, .int .i64 0]) := by unfold zeroIs; kernel_rfl
theorem Try_plc_81 : placesB Try.prog 81 [(0, 1), (1, 13)] = true := by kernel_rfl
theorem Try_slc_71 : sliceB Try.prog 71 81 14 = true := by kernel_rfl
theorem Try_elm_81 : elemB Try.prog 81 136 = true := by kernel_rfl
theorem Try_mixed : Try.prog.follows .mixedOrders = true := by kernel_rfl
theorem Try_cal_85 : callB Try.prog 85 = true := by kernel_rfl
theorem Try_cal_50 : callB Try.prog 50 = true := by kernel_rfl
theorem Try_cal_77 : callB Try.prog 77 = true := by kernel_rfl
theorem Try_agg_81 : aggB Try.prog 81 14 = true := by kernel_rfl
theorem Try_fld_81_1 : fieldB Try.prog 81 1 1 = true := by kernel_rfl
theorem Try_fld_79_0 : fieldB Try.prog 79 0 0 = true := by kernel_rfl
theorem Try_cal_93 : callB Try.prog 93 = true := by kernel_rfl
theorem Try_cal_76 : callB Try.prog 76 = true := by kernel_rfl
theorem Try_cal_54 : callB Try.prog 54 = true := by kernel_rfl
theorem Try_cal_49 : callB Try.prog 49 = true := by kernel_rfl
theorem Try_non_81 : oneB Try.prog 81 = false := by kernel_rfl
theorem Try_cal_55 : callB Try.prog 55 = true := by kernel_rfl
theorem Try_zer_82 : zeroIs Try.prog 82 (.agg #[.string ⟨#[]⟩, .string ⟨#[]⟩, .int .i64 0, .string ⟨#[]⟩, .int .i64 0, .int .i64 0, .int .i64 0, .int .i64 0, .int .i64 0, .int .i64 0, .int .i64 0, .int .i64 0, .int .i64 0, .int .i64 0]) := by unfold zeroIs; kernel_rfl
theorem Try_cal_69 : callB Try.prog 69 = true := by kernel_rfl
theorem Try_cal_70 : callB Try.prog 70 = true := by kernel_rfl
theorem Try_cal_41 : callB Try.prog 41 = true := by kernel_rfl
theorem Try_non_94 : oneB Try.prog 94 = false := by kernel_rfl
theorem Try_plc_82 : placesB Try.prog 82 [(0, 1), (1, 13)] = true := by kernel_rfl
theorem Try_slc_73 : sliceB Try.prog 73 82 14 = true := by kernel_rfl
theorem Try_elm_82 : elemB Try.prog 82 136 = true := by kernel_rfl
theorem Try_cal_51 : callB Try.prog 51 = true := by kernel_rfl
theorem Try_fld_82_1 : fieldB Try.prog 82 1 1 = true := by kernel_rfl
theorem Try_cal_57 : callB Try.prog 57 = true := by kernel_rfl
theorem Try_agg_82 : aggB Try.prog 82 14 = true := by kernel_rfl
theorem Try_non_82 : oneB Try.prog 82 = false := by kernel_rfl
theorem Try_cal_56 : callB Try.prog 56 = true := by kernel_rfl
theorem Try_eqt_81 : eqB Try.prog 81 [.s, .s, (.i .i64), .s, (.i .i64), (.i .i64), (.i .i64), (.i .i64), (.i .i64), (.i .i64), (.i .i64), (.i .i64), (.i .i64), (.i .i64)] = true := by kernel_rfl
theorem Try_und_4 : Try.prog.underlying 4 = some .bool := by kernel_rfl
theorem Try_zer_64 : zeroIs Try.prog 64 (.agg #[.int .i64 0, .int .i64 0]) := by unfold zeroIs; kernel_rfl
theorem Try_map_119 : mapB Try.prog 119 9 3 = true := by kernel_rfl
theorem Try_fld_79_2 : fieldB Try.prog 79 2 12 = true := by kernel_rfl
theorem Try_plc_64 : placesB Try.prog 64 [(0, 1), (1, 1)] = true := by kernel_rfl
theorem Try_agg_64 : aggB Try.prog 64 2 = true := by kernel_rfl
theorem Try_non_64 : oneB Try.prog 64 = false := by kernel_rfl
theorem Try_cal_53 : callB Try.prog 53 = true := by kernel_rfl
theorem Try_cal_58 : callB Try.prog 58 = true := by kernel_rfl
theorem Try_eqt_64 : eqB Try.prog 64 [(.i .i64), (.i .i64)] = true := by kernel_rfl
end Go.Proofs.Ytpbbeljmmabeeaa
