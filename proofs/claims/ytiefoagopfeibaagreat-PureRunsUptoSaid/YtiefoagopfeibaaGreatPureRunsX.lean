/- A part of the proof that the law PureRuns gives true for every input. -/
import Derived.Test.YtiefoagopfeibaaGreatPureRunsA4
import Derived.Test.YtiefoagopfeibaaGreatProg
/- Facts about the types of the program. -/
namespace Go.Proofs.YtiefoagopfeibaaGreat
open Go.RowKit Go.Abs
/-- The package variables that are read: their blocks, and what they hold. -/
abbrev globs_Tryz : List (Nat × List PV) := []
theorem slc_22 : sliceB Tryz.prog 22 32 7 = true := by kernel_rfl
theorem agg_32 : aggB Tryz.prog 32 7 = true := by kernel_rfl
theorem zer_32 : zeroIs Tryz.prog 32 (.agg #[.string ⟨#[]⟩, .slice none 0 0, .string ⟨#[]⟩, .slice none 0 0, .slice none 0 0, .slice none 0 0, .int .i64 0]) := by unfold zeroIs; kernel_rfl
theorem slc_27 : sliceB Tryz.prog 27 9 1 = true := by kernel_rfl
theorem slc_28 : sliceB Tryz.prog 28 34 2 = true := by kernel_rfl
theorem slc_29 : sliceB Tryz.prog 29 99 13 = true := by kernel_rfl
theorem slc_30 : sliceB Tryz.prog 30 40 17 = true := by kernel_rfl
theorem agg_40 : aggB Tryz.prog 40 17 = true := by kernel_rfl
theorem zer_40 : zeroIs Tryz.prog 40 (.agg #[.string ⟨#[]⟩, .bool false, .int .i64 0, .string ⟨#[]⟩, .int .i64 0, .int .i64 0, .int .i64 0, .int .i64 0, .int .i64 0, .int .i64 0, .int .i64 0, .int .i64 0, .int .i64 0, .slice none 0 0, .slice none 0 0, .slice none 0 0, .int .i64 0]) := by unfold zeroIs; kernel_rfl
theorem non_40 : oneB Tryz.prog 40 = false := by kernel_rfl
theorem one_38 : oneB Tryz.prog 38 = true := by kernel_rfl
theorem slc_38 : sliceB Tryz.prog 38 48 23 = true := by kernel_rfl
theorem arr_35 : arrayB Tryz.prog 35 4 34 2 = true := by kernel_rfl
theorem one_3 : oneB Tryz.prog 3 = true := by kernel_rfl
theorem agg_48 : aggB Tryz.prog 48 23 = true := by kernel_rfl
theorem fld_48_7 : fieldB Tryz.prog 48 7 20 = true := by kernel_rfl
theorem fld_48_8 : fieldB Tryz.prog 48 8 21 = true := by kernel_rfl
theorem slc_44 : sliceB Tryz.prog 44 46 4 = true := by kernel_rfl
theorem agg_46 : aggB Tryz.prog 46 4 = true := by kernel_rfl
theorem zer_55 : zeroIs Tryz.prog 55 (.agg #[.int .i64 0, .int .i64 0]) := by unfold zeroIs; kernel_rfl
theorem und_9 : Tryz.prog.underlying 9 = some .string := by kernel_rfl
theorem zer_105 : zeroIs Tryz.prog 105 (.agg #[.int .i64 0, .string ⟨#[]⟩, .int .i64 0]) := by unfold zeroIs; kernel_rfl
theorem zer_9 : zeroIs Tryz.prog 9 (.string ⟨#[]⟩) := by unfold zeroIs; kernel_rfl
theorem one_9 : oneB Tryz.prog 9 = true := by kernel_rfl
theorem plc_105 : placesB Tryz.prog 105 [(0, 1), (1, 1), (2, 1)] = true := by kernel_rfl
theorem agg_105 : aggB Tryz.prog 105 3 = true := by kernel_rfl
theorem mixed : Tryz.prog.follows .mixedOrders = true := by kernel_rfl
theorem und_5 : Tryz.prog.underlying 5 = some (.int .u8) := by kernel_rfl
theorem und_3 : Tryz.prog.underlying 3 = some (.int .i64) := by kernel_rfl
theorem slc_101 : sliceB Tryz.prog 101 105 3 = true := by kernel_rfl
theorem elm_105 : elemB Tryz.prog 105 32 = true := by kernel_rfl
theorem plc_55 : placesB Tryz.prog 55 [(0, 1), (1, 1)] = true := by kernel_rfl
theorem agg_55 : aggB Tryz.prog 55 2 = true := by kernel_rfl
theorem cal_82 : callB Tryz.prog 82 = true := by kernel_rfl
theorem ftb_105_0 : fieldTB Tryz.prog 105 0 3 0 = true := by kernel_rfl
theorem cal_83 : callB Tryz.prog 83 = true := by kernel_rfl
theorem zer_109 : zeroIs Tryz.prog 109 (.agg #[.string ⟨#[]⟩, .slice none 0 0, .string ⟨#[]⟩, .slice none 0 0, .slice none 0 0, .slice none 0 0, .int .i64 0, .string ⟨#[]⟩, .bool false, .int .i64 0, .string ⟨#[]⟩, .int .i64 0, .int .i64 0, .int .i64 0, .int .i64 0, .int .i64 0, .int .i64 0, .int .i64 0, .int .i64 0, .int .i64 0, .slice none 0 0, .slice none 0 0, .slice none 0 0, .int .i64 0, .slice none 0 0, .slice none 0 0, .int .i64 0, .int .i64 0, .int .i64 0]) := by unfold zeroIs; kernel_rfl
theorem ftb_105_2 : fieldTB Tryz.prog 105 2 3 2 = true := by kernel_rfl
theorem plc_32 : placesB Tryz.prog 32 [(0, 1), (1, 1), (2, 1), (3, 1), (4, 1), (5, 1), (6, 1)] = true := by kernel_rfl
theorem ftb_105_1 : fieldTB Tryz.prog 105 1 9 1 = true := by kernel_rfl
theorem fld_32_0 : fieldB Tryz.prog 32 0 0 = true := by kernel_rfl
theorem cal_45 : callB Tryz.prog 45 = true := by kernel_rfl
theorem plc_40 : placesB Tryz.prog 40 [(0, 1), (1, 1), (2, 11), (13, 1), (14, 1), (15, 1), (16, 1)] = true := by kernel_rfl
theorem one_4 : oneB Tryz.prog 4 = true := by kernel_rfl
theorem zer_186 : zeroIs Tryz.prog 186 (.agg #[.slice none 0 0, .int .i64 0, .string ⟨#[]⟩, .int .i64 0, .int .i64 0, .int .i64 0, .int .i64 0, .int .i64 0, .int .i64 0, .int .i64 0, .int .i64 0, .int .i64 0, .string ⟨#[]⟩, .int .i64 0, .string ⟨#[]⟩, .int .i64 0, .int .i64 0, .int .i64 0, .int .i64 0, .int .i64 0, .int .i64 0, .int .i64 0, .int .i64 0, .int .i64 0, .int .i64 0, .int .i64 0, .int .i64 0, .int .i64 0]) := by unfold zeroIs; kernel_rfl
theorem plc_186 : placesB Tryz.prog 186 [(0, 1), (1, 11), (12, 13), (25, 1), (26, 2)] = true := by kernel_rfl
theorem agg_186 : aggB Tryz.prog 186 28 = true := by kernel_rfl
theorem zer_37 : zeroIs Tryz.prog 37 (.agg #[.int .i64 0, .string ⟨#[]⟩, .int .i64 0, .int .i64 0, .int .i64 0, .int .i64 0, .int .i64 0, .int .i64 0, .int .i64 0, .int .i64 0, .int .i64 0]) := by unfold zeroIs; kernel_rfl
theorem plc_37 : placesB Tryz.prog 37 [(0, 1), (1, 1), (2, 1), (3, 8)] = true := by kernel_rfl
theorem agg_37 : aggB Tryz.prog 37 11 = true := by kernel_rfl
theorem non_37 : oneB Tryz.prog 37 = false := by kernel_rfl
theorem plc_109 : placesB Tryz.prog 109 [(0, 7), (7, 17), (24, 1), (25, 1), (26, 1), (27, 2)] = true := by kernel_rfl
theorem agg_109 : aggB Tryz.prog 109 29 = true := by kernel_rfl
theorem non_109 : oneB Tryz.prog 109 = false := by kernel_rfl
theorem zer_34 : zeroIs Tryz.prog 34 (.agg #[.int .i64 0, .int .i64 0]) := by unfold zeroIs; kernel_rfl
theorem plc_34 : placesB Tryz.prog 34 [(0, 1), (1, 1)] = true := by kernel_rfl
theorem agg_34 : aggB Tryz.prog 34 2 = true := by kernel_rfl
theorem non_34 : oneB Tryz.prog 34 = false := by kernel_rfl
theorem ftb_34_0 : fieldTB Tryz.prog 34 0 3 0 = true := by kernel_rfl
theorem zer_220 : zeroIs Tryz.prog 220 (.agg #[.int .i64 0, .string ⟨#[]⟩, .string ⟨#[]⟩, .string ⟨#[]⟩, .int .i64 0, .string ⟨#[]⟩, .int .i64 0, .int .i64 0, .int .i64 0, .int .i64 0, .int .i64 0, .int .i64 0, .int .i64 0, .int .i64 0, .int .i64 0, .int .i64 0, .int .i64 0, .string ⟨#[]⟩, .slice none 0 0, .slice none 0 0, .slice none 0 0, .slice none 0 0, .int .i64 0, .slice none 0 0, .slice none 0 0, .int .i64 0, .int .i64 0, .int .i64 0]) := by unfold zeroIs; kernel_rfl
theorem zer_48 : zeroIs Tryz.prog 48 (.agg #[.int .i64 0, .string ⟨#[]⟩, .string ⟨#[]⟩, .string ⟨#[]⟩, .int .i64 0, .string ⟨#[]⟩, .int .i64 0, .int .i64 0, .int .i64 0, .int .i64 0, .int .i64 0, .int .i64 0, .int .i64 0, .int .i64 0, .int .i64 0, .int .i64 0, .int .i64 0, .string ⟨#[]⟩, .slice none 0 0, .slice none 0 0, .slice none 0 0, .slice none 0 0, .int .i64 0]) := by unfold zeroIs; kernel_rfl
theorem plc_48 : placesB Tryz.prog 48 [(0, 1), (1, 1), (2, 1), (3, 1), (4, 11), (15, 4), (19, 1), (20, 1), (21, 1), (22, 1)] = true := by kernel_rfl
theorem fld_48_2 : fieldB Tryz.prog 48 2 2 = true := by kernel_rfl
theorem fld_48_3 : fieldB Tryz.prog 48 3 3 = true := by kernel_rfl
theorem plc_220 : placesB Tryz.prog 220 [(0, 23), (23, 1), (24, 1), (25, 1), (26, 2)] = true := by kernel_rfl
theorem agg_220 : aggB Tryz.prog 220 28 = true := by kernel_rfl
theorem zer_247 : zeroIs Tryz.prog 247 (.agg #[.int .i64 0, .int .i64 0, .string ⟨#[]⟩, .slice none 0 0, .int .i64 0, .int .i64 0, .int .i64 0]) := by unfold zeroIs; kernel_rfl
theorem zer_46 : zeroIs Tryz.prog 46 (.agg #[.int .i64 0, .int .i64 0, .string ⟨#[]⟩, .slice none 0 0]) := by unfold zeroIs; kernel_rfl
theorem plc_46 : placesB Tryz.prog 46 [(0, 1), (1, 1), (2, 1), (3, 1)] = true := by kernel_rfl
theorem plc_247 : placesB Tryz.prog 247 [(0, 4), (4, 1), (5, 2)] = true := by kernel_rfl
theorem agg_247 : aggB Tryz.prog 247 7 = true := by kernel_rfl
theorem zer_27 : zeroIs Tryz.prog 27 (.slice none 0 0) := by unfold zeroIs; kernel_rfl
theorem slc_258 : sliceB Tryz.prog 258 27 1 = true := by kernel_rfl
theorem elm_48 : elemB Tryz.prog 48 288 = true := by kernel_rfl
theorem cal_132 : callB Tryz.prog 132 = true := by kernel_rfl
theorem elm_40 : elemB Tryz.prog 40 200 = true := by kernel_rfl
theorem zer_99 : zeroIs Tryz.prog 99 (.agg #[.string ⟨#[]⟩, .int .i64 0, .string ⟨#[]⟩, .int .i64 0, .int .i64 0, .int .i64 0, .int .i64 0, .int .i64 0, .int .i64 0, .int .i64 0, .int .i64 0, .int .i64 0, .int .i64 0]) := by unfold zeroIs; kernel_rfl
theorem plc_99 : placesB Tryz.prog 99 [(0, 1), (1, 11), (12, 1)] = true := by kernel_rfl
theorem elm_99 : elemB Tryz.prog 99 120 = true := by kernel_rfl
theorem cal_87 : callB Tryz.prog 87 = true := by kernel_rfl
theorem elm_32 : elemB Tryz.prog 32 136 = true := by kernel_rfl
theorem zer_75 : zeroIs Tryz.prog 75 (.slice none 0 0) := by unfold zeroIs; kernel_rfl
theorem zer_3 : zeroIs Tryz.prog 3 (.int .i64 0) := by unfold zeroIs; kernel_rfl
theorem cal_93 : callB Tryz.prog 93 = true := by kernel_rfl
theorem one_75 : oneB Tryz.prog 75 = true := by kernel_rfl
theorem zer_77 : zeroIs Tryz.prog 77 (.agg #[.int .i64 0, .int .i64 0, .int .i64 0, .int .i64 0, .string ⟨#[]⟩, .string ⟨#[]⟩, .string ⟨#[]⟩, .int .i64 0, .string ⟨#[]⟩, .int .i64 0, .int .i64 0, .int .i64 0, .int .i64 0, .int .i64 0, .int .i64 0, .int .i64 0, .int .i64 0, .int .i64 0, .int .i64 0, .int .i64 0, .string ⟨#[]⟩, .slice none 0 0, .slice none 0 0, .slice none 0 0, .slice none 0 0, .int .i64 0]) := by unfold zeroIs; kernel_rfl
theorem plc_77 : placesB Tryz.prog 77 [(0, 1), (1, 1), (2, 1), (3, 23)] = true := by kernel_rfl
theorem slc_75 : sliceB Tryz.prog 75 77 26 = true := by kernel_rfl
theorem elm_77 : elemB Tryz.prog 77 312 = true := by kernel_rfl
theorem cal_92 : callB Tryz.prog 92 = true := by kernel_rfl
theorem agg_77 : aggB Tryz.prog 77 26 = true := by kernel_rfl
theorem eqt_55 : eqB Tryz.prog 55 [(.i .i64), (.i .i64)] = true := by kernel_rfl
theorem Tryz_map2_79 : mapB2 Tryz.prog 79 59 3 3 = true := by kernel_rfl
theorem zer_81 : zeroIs Tryz.prog 81 (.agg #[.slice none 0 0, .map none, .slice none 0 0]) := by unfold zeroIs; kernel_rfl
theorem plc_81 : placesB Tryz.prog 81 [(0, 1), (1, 1), (2, 1)] = true := by kernel_rfl
theorem zer_4 : zeroIs Tryz.prog 4 (.bool false) := by unfold zeroIs; kernel_rfl
theorem cal_96 : callB Tryz.prog 96 = true := by kernel_rfl
theorem cal_95 : callB Tryz.prog 95 = true := by kernel_rfl
theorem cal_51 : callB Tryz.prog 51 = true := by kernel_rfl
theorem cal_136 : callB Tryz.prog 136 = true := by kernel_rfl
theorem cal_50 : callB Tryz.prog 50 = true := by kernel_rfl
theorem zer_71 : zeroIs Tryz.prog 71 (.agg #[.string ⟨#[]⟩, .string ⟨#[]⟩, .bool false, .int .i64 0, .string ⟨#[]⟩, .int .i64 0, .int .i64 0, .int .i64 0, .int .i64 0, .int .i64 0, .int .i64 0, .int .i64 0, .int .i64 0, .int .i64 0, .slice none 0 0, .slice none 0 0, .slice none 0 0, .int .i64 0]) := by unfold zeroIs; kernel_rfl
theorem zer_96 : zeroIs Tryz.prog 96 (.slice none 0 0) := by unfold zeroIs; kernel_rfl
theorem slc_96 : sliceB Tryz.prog 96 3 1 = true := by kernel_rfl
theorem cal_135 : callB Tryz.prog 135 = true := by kernel_rfl
theorem elm_3 : elemB Tryz.prog 3 8 = true := by kernel_rfl
theorem plc_71 : placesB Tryz.prog 71 [(0, 1), (1, 17)] = true := by kernel_rfl
theorem agg_71 : aggB Tryz.prog 71 18 = true := by kernel_rfl
theorem non_71 : oneB Tryz.prog 71 = false := by kernel_rfl
theorem zer_192 : zeroIs Tryz.prog 192 (.agg #[.string ⟨#[]⟩, .bool false, .int .i64 0, .string ⟨#[]⟩, .int .i64 0, .int .i64 0, .int .i64 0, .int .i64 0, .int .i64 0, .int .i64 0, .int .i64 0, .int .i64 0, .int .i64 0, .slice none 0 0, .slice none 0 0, .slice none 0 0, .int .i64 0, .int .i64 0]) := by unfold zeroIs; kernel_rfl
theorem plc_192 : placesB Tryz.prog 192 [(0, 17), (17, 1)] = true := by kernel_rfl
theorem cal_134 : callB Tryz.prog 134 = true := by kernel_rfl
theorem cal_133 : callB Tryz.prog 133 = true := by kernel_rfl
theorem cal_47 : callB Tryz.prog 47 = true := by kernel_rfl
theorem cal_53 : callB Tryz.prog 53 = true := by kernel_rfl
theorem cal_52 : callB Tryz.prog 52 = true := by kernel_rfl
theorem arr_59 : arrayB Tryz.prog 59 2 3 1 = true := by kernel_rfl
theorem zer_59 : zeroIs Tryz.prog 59 (.agg #[.int .i64 0, .int .i64 0]) := by unfold zeroIs; kernel_rfl
theorem agg_59 : aggB Tryz.prog 59 2 = true := by kernel_rfl
theorem one_57 : oneB Tryz.prog 57 = true := by kernel_rfl
theorem slc_57 : sliceB Tryz.prog 57 59 2 = true := by kernel_rfl
theorem elm_59 : elemB Tryz.prog 59 16 = true := by kernel_rfl
theorem cal_26 : callB Tryz.prog 26 = true := by kernel_rfl
theorem elm_34 : elemB Tryz.prog 34 16 = true := by kernel_rfl
theorem cal_137 : callB Tryz.prog 137 = true := by kernel_rfl
theorem agg_99 : aggB Tryz.prog 99 13 = true := by kernel_rfl
theorem cal_138 : callB Tryz.prog 138 = true := by kernel_rfl
theorem cal_139 : callB Tryz.prog 139 = true := by kernel_rfl
theorem zer_29 : zeroIs Tryz.prog 29 (.slice none 0 0) := by unfold zeroIs; kernel_rfl
theorem slc_223 : sliceB Tryz.prog 223 29 1 = true := by kernel_rfl
theorem cal_27 : callB Tryz.prog 27 = true := by kernel_rfl
theorem cal_28 : callB Tryz.prog 28 = true := by kernel_rfl
theorem zer_89 : zeroIs Tryz.prog 89 (.agg #[.string ⟨#[]⟩, .string ⟨#[]⟩]) := by unfold zeroIs; kernel_rfl
theorem plc_89 : placesB Tryz.prog 89 [(0, 1), (1, 1)] = true := by kernel_rfl
theorem slc_90 : sliceB Tryz.prog 90 89 2 = true := by kernel_rfl
theorem fld_89_1 : fieldB Tryz.prog 89 1 1 = true := by kernel_rfl
theorem zer_62 : zeroIs Tryz.prog 62 (.agg #[.string ⟨#[]⟩, .string ⟨#[]⟩, .bool false, .int .i64 0, .string ⟨#[]⟩, .int .i64 0, .int .i64 0, .int .i64 0, .int .i64 0, .int .i64 0, .int .i64 0, .int .i64 0, .int .i64 0, .int .i64 0, .slice none 0 0, .slice none 0 0, .slice none 0 0, .int .i64 0]) := by unfold zeroIs; kernel_rfl
theorem cal_59 : callB Tryz.prog 59 = true := by kernel_rfl
theorem cal_78 : callB Tryz.prog 78 = true := by kernel_rfl
theorem plc_62 : placesB Tryz.prog 62 [(0, 1), (1, 17)] = true := by kernel_rfl
theorem agg_62 : aggB Tryz.prog 62 18 = true := by kernel_rfl
theorem non_62 : oneB Tryz.prog 62 = false := by kernel_rfl
theorem cal_17 : callB Tryz.prog 17 = true := by kernel_rfl
theorem fld_89_0 : fieldB Tryz.prog 89 0 0 = true := by kernel_rfl
theorem cal_58 : callB Tryz.prog 58 = true := by kernel_rfl
theorem cal_60 : callB Tryz.prog 60 = true := by kernel_rfl
theorem cal_32 : callB Tryz.prog 32 = true := by kernel_rfl
theorem zer_50 : zeroIs Tryz.prog 50 (.agg #[.int .i64 0, .int .i64 0, .int .i64 0, .int .i64 0, .string ⟨#[]⟩, .string ⟨#[]⟩, .string ⟨#[]⟩, .int .i64 0, .string ⟨#[]⟩, .int .i64 0, .int .i64 0, .int .i64 0, .int .i64 0, .int .i64 0, .int .i64 0, .int .i64 0, .int .i64 0, .int .i64 0, .int .i64 0, .int .i64 0, .string ⟨#[]⟩, .slice none 0 0, .slice none 0 0, .slice none 0 0, .slice none 0 0, .int .i64 0]) := by unfold zeroIs; kernel_rfl
theorem plc_50 : placesB Tryz.prog 50 [(0, 1), (1, 1), (2, 1), (3, 23)] = true := by kernel_rfl
theorem agg_50 : aggB Tryz.prog 50 26 = true := by kernel_rfl
theorem fld_50_3 : fieldB Tryz.prog 50 3 3 = true := by kernel_rfl
theorem slc_25 : sliceB Tryz.prog 25 50 26 = true := by kernel_rfl
theorem elm_50 : elemB Tryz.prog 50 312 = true := by kernel_rfl
theorem cal_22 : callB Tryz.prog 22 = true := by kernel_rfl
theorem cal_61 : callB Tryz.prog 61 = true := by kernel_rfl
theorem elm_89 : elemB Tryz.prog 89 32 = true := by kernel_rfl
theorem agg_89 : aggB Tryz.prog 89 2 = true := by kernel_rfl
theorem eqt_89 : eqB Tryz.prog 89 [.s, .s] = true := by kernel_rfl
theorem cal_34 : callB Tryz.prog 34 = true := by kernel_rfl
theorem eqt_59 : eqB Tryz.prog 59 [(.i .i64), (.i .i64)] = true := by kernel_rfl
instance : SlcI Tryz.prog 22 32 7 := ⟨slc_22⟩
instance : AggI Tryz.prog 32 7 := ⟨agg_32, by kernel_rfl⟩
instance : FldI Tryz.prog 32 1 1 := ⟨by kernel_rfl⟩
instance : OneI Tryz.prog 27 := ⟨by kernel_rfl⟩
instance : SlcI Tryz.prog 27 9 1 := ⟨slc_27⟩
instance : FldI Tryz.prog 32 3 3 := ⟨by kernel_rfl⟩
instance : OneI Tryz.prog 28 := ⟨by kernel_rfl⟩
instance : SlcI Tryz.prog 28 34 2 := ⟨slc_28⟩
instance : FldI Tryz.prog 32 4 4 := ⟨by kernel_rfl⟩
instance : OneI Tryz.prog 29 := ⟨by kernel_rfl⟩
instance : SlcI Tryz.prog 29 99 13 := ⟨slc_29⟩
instance : FldI Tryz.prog 32 5 5 := ⟨by kernel_rfl⟩
instance : OneI Tryz.prog 30 := ⟨by kernel_rfl⟩
instance : SlcI Tryz.prog 30 40 17 := ⟨slc_30⟩
instance : AggI Tryz.prog 40 17 := ⟨agg_40, non_40⟩
instance : FldI Tryz.prog 40 3 13 := ⟨by kernel_rfl⟩
instance : FldI Tryz.prog 40 4 14 := ⟨by kernel_rfl⟩
instance : FldI Tryz.prog 40 5 15 := ⟨by kernel_rfl⟩
instance : OneI Tryz.prog 38 := ⟨one_38⟩
instance : SlcI Tryz.prog 38 48 23 := ⟨slc_38⟩
instance : FldI Tryz.prog 99 1 1 := ⟨by kernel_rfl⟩
instance : FldI Tryz.prog 37 3 3 := ⟨by kernel_rfl⟩
instance : FldI Tryz.prog 34 0 0 := ⟨by kernel_rfl⟩
instance : OneI Tryz.prog 3 := ⟨one_3⟩
instance : AggI Tryz.prog 48 23 := ⟨agg_48, by kernel_rfl⟩
instance : FldI Tryz.prog 48 7 20 := ⟨fld_48_7⟩
instance : FldI Tryz.prog 48 8 21 := ⟨fld_48_8⟩
instance : FldI Tryz.prog 48 6 19 := ⟨by kernel_rfl⟩
instance : OneI Tryz.prog 44 := ⟨by kernel_rfl⟩
instance : SlcI Tryz.prog 44 46 4 := ⟨slc_44⟩
instance : FldI Tryz.prog 48 5 15 := ⟨by kernel_rfl⟩
instance : AggI Tryz.prog 46 4 := ⟨agg_46, by kernel_rfl⟩
instance : FldI Tryz.prog 46 3 3 := ⟨by kernel_rfl⟩
instance : OneI Tryz.prog 9 := ⟨one_9⟩
instance : AggI Tryz.prog 105 3 := ⟨agg_105, by kernel_rfl⟩
instance : FldI Tryz.prog 105 2 2 := ⟨by kernel_rfl⟩
instance : FldI Tryz.prog 105 0 0 := ⟨by kernel_rfl⟩
instance : FldI Tryz.prog 105 1 1 := ⟨by kernel_rfl⟩
instance : SlcI Tryz.prog 101 105 3 := ⟨slc_101⟩
instance : AggI Tryz.prog 55 2 := ⟨agg_55, by kernel_rfl⟩
instance : FldI Tryz.prog 55 0 0 := ⟨by kernel_rfl⟩
instance : OneI Tryz.prog 53 := ⟨by kernel_rfl⟩
instance : FldI Tryz.prog 32 0 0 := ⟨fld_32_0⟩
instance : FldI Tryz.prog 40 1 1 := ⟨by kernel_rfl⟩
instance : OneI Tryz.prog 4 := ⟨one_4⟩
instance : AggI Tryz.prog 186 28 := ⟨agg_186, by kernel_rfl⟩
instance : FldI Tryz.prog 186 4 26 := ⟨by kernel_rfl⟩
instance : FldI Tryz.prog 186 3 25 := ⟨by kernel_rfl⟩
instance : FldI Tryz.prog 186 1 1 := ⟨by kernel_rfl⟩
instance : AggI Tryz.prog 37 11 := ⟨agg_37, non_37⟩
instance : FldI Tryz.prog 40 2 2 := ⟨by kernel_rfl⟩
instance : FldI Tryz.prog 40 0 0 := ⟨by kernel_rfl⟩
instance : AggI Tryz.prog 109 29 := ⟨agg_109, non_109⟩
instance : FldI Tryz.prog 109 5 27 := ⟨by kernel_rfl⟩
instance : FldI Tryz.prog 109 2 24 := ⟨by kernel_rfl⟩
instance : FldI Tryz.prog 109 4 26 := ⟨by kernel_rfl⟩
instance : AggI Tryz.prog 34 2 := ⟨agg_34, non_34⟩
instance : FldI Tryz.prog 48 2 2 := ⟨fld_48_2⟩
instance : FldI Tryz.prog 48 3 3 := ⟨fld_48_3⟩
instance : AggI Tryz.prog 220 28 := ⟨agg_220, by kernel_rfl⟩
instance : FldI Tryz.prog 220 4 26 := ⟨by kernel_rfl⟩
instance : FldI Tryz.prog 48 0 0 := ⟨by kernel_rfl⟩
instance : FldI Tryz.prog 220 2 24 := ⟨by kernel_rfl⟩
instance : FldI Tryz.prog 220 3 25 := ⟨by kernel_rfl⟩
instance : FldI Tryz.prog 48 1 1 := ⟨by kernel_rfl⟩
instance : AggI Tryz.prog 247 7 := ⟨agg_247, by kernel_rfl⟩
instance : FldI Tryz.prog 247 2 5 := ⟨by kernel_rfl⟩
instance : FldI Tryz.prog 247 1 4 := ⟨by kernel_rfl⟩
instance : SlcI Tryz.prog 258 27 1 := ⟨slc_258⟩
instance : FldI Tryz.prog 247 0 0 := ⟨by kernel_rfl⟩
instance : FldI Tryz.prog 220 0 0 := ⟨by kernel_rfl⟩
instance : FldI Tryz.prog 109 1 7 := ⟨by kernel_rfl⟩
instance : FldI Tryz.prog 37 0 0 := ⟨by kernel_rfl⟩
instance : FldI Tryz.prog 109 0 0 := ⟨by kernel_rfl⟩
instance : OneI Tryz.prog 75 := ⟨one_75⟩
instance : SlcI Tryz.prog 75 77 26 := ⟨slc_75⟩
instance : AggI Tryz.prog 77 26 := ⟨agg_77, by kernel_rfl⟩
instance : FldI Tryz.prog 77 0 0 := ⟨by kernel_rfl⟩
instance : FldI Tryz.prog 77 1 1 := ⟨by kernel_rfl⟩
instance : FldI Tryz.prog 77 3 3 := ⟨by kernel_rfl⟩
instance : FldI Tryz.prog 48 9 22 := ⟨by kernel_rfl⟩
instance : FldI Tryz.prog 81 0 0 := ⟨by kernel_rfl⟩
instance : OneI Tryz.prog 22 := ⟨by kernel_rfl⟩
instance : FldI Tryz.prog 32 2 2 := ⟨by kernel_rfl⟩
instance : OneI Tryz.prog 96 := ⟨by kernel_rfl⟩
instance : SlcI Tryz.prog 96 3 1 := ⟨slc_96⟩
instance : AggI Tryz.prog 71 18 := ⟨agg_71, non_71⟩
instance : FldI Tryz.prog 192 0 0 := ⟨by kernel_rfl⟩
instance : FldI Tryz.prog 192 1 17 := ⟨by kernel_rfl⟩
instance : FldI Tryz.prog 71 0 0 := ⟨by kernel_rfl⟩
instance : FldI Tryz.prog 71 1 1 := ⟨by kernel_rfl⟩
instance : AggI Tryz.prog 59 2 := ⟨agg_59, by kernel_rfl⟩
instance : FldI Tryz.prog 81 1 1 := ⟨by kernel_rfl⟩
instance : OneI Tryz.prog 79 := ⟨by kernel_rfl⟩
instance : FldI Tryz.prog 81 2 2 := ⟨by kernel_rfl⟩
instance : OneI Tryz.prog 57 := ⟨one_57⟩
instance : SlcI Tryz.prog 57 59 2 := ⟨slc_57⟩
instance : FldI Tryz.prog 37 2 2 := ⟨by kernel_rfl⟩
instance : FldI Tryz.prog 99 0 0 := ⟨by kernel_rfl⟩
instance : SlcI Tryz.prog 223 29 1 := ⟨slc_223⟩
instance : FldI Tryz.prog 37 1 1 := ⟨by kernel_rfl⟩
instance : SlcI Tryz.prog 90 89 2 := ⟨slc_90⟩
instance : FldI Tryz.prog 89 1 1 := ⟨fld_89_1⟩
instance : AggI Tryz.prog 62 18 := ⟨agg_62, non_62⟩
instance : FldI Tryz.prog 89 0 0 := ⟨fld_89_0⟩
instance : FldI Tryz.prog 62 0 0 := ⟨by kernel_rfl⟩
instance : AggI Tryz.prog 50 26 := ⟨agg_50, by kernel_rfl⟩
instance : FldI Tryz.prog 50 3 3 := ⟨fld_50_3⟩
instance : SlcI Tryz.prog 25 50 26 := ⟨slc_25⟩
instance : FldI Tryz.prog 50 2 2 := ⟨by kernel_rfl⟩
abbrev FZ (f : FuncId) (a : List PV) (r : List Res) : Prop := Abs.Fn globs_Tryz Tryz.prog f a r
end Go.Proofs.YtiefoagopfeibaaGreat
