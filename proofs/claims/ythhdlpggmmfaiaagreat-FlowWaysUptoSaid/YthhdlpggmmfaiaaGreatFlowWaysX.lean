/- A part of the proof that the law FlowWays gives true for every input. -/
import Derived.Test.YthhdlpggmmfaiaaGreatFlowWaysA4
import Derived.Test.YthhdlpggmmfaiaaGreatProg
/- Facts about the types of the program. -/
namespace Go.Proofs.YthhdlpggmmfaiaaGreat
open Go.RowKit Go.Abs
/-- The package variables that are read: their blocks, and what they hold. -/
abbrev globs_Tryz : List (Nat × List PV) := []
theorem slc_22 : sliceB Tryz.prog 22 32 7 = true := by kernel_rfl
theorem agg_32 : aggB Tryz.prog 32 7 = true := by kernel_rfl
theorem zer_32 : zeroIs Tryz.prog 32 (.agg #[.string ⟨#[]⟩, .slice none 0 0, .string ⟨#[]⟩, .slice none 0 0, .slice none 0 0, .slice none 0 0, .int .i64 0]) := by unfold zeroIs; kernel_rfl
theorem one_23 : oneB Tryz.prog 23 = true := by kernel_rfl
theorem slc_23 : sliceB Tryz.prog 23 9 1 = true := by kernel_rfl
theorem slc_28 : sliceB Tryz.prog 28 34 2 = true := by kernel_rfl
theorem slc_29 : sliceB Tryz.prog 29 66 13 = true := by kernel_rfl
theorem fld_32_5 : fieldB Tryz.prog 32 5 5 = true := by kernel_rfl
theorem one_30 : oneB Tryz.prog 30 = true := by kernel_rfl
theorem slc_30 : sliceB Tryz.prog 30 40 17 = true := by kernel_rfl
theorem agg_40 : aggB Tryz.prog 40 17 = true := by kernel_rfl
theorem zer_40 : zeroIs Tryz.prog 40 (.agg #[.string ⟨#[]⟩, .bool false, .int .i64 0, .string ⟨#[]⟩, .int .i64 0, .int .i64 0, .int .i64 0, .int .i64 0, .int .i64 0, .int .i64 0, .int .i64 0, .int .i64 0, .int .i64 0, .slice none 0 0, .slice none 0 0, .slice none 0 0, .int .i64 0]) := by unfold zeroIs; kernel_rfl
theorem non_40 : oneB Tryz.prog 40 = false := by kernel_rfl
theorem slc_38 : sliceB Tryz.prog 38 48 23 = true := by kernel_rfl
theorem fld_66_1 : fieldB Tryz.prog 66 1 1 = true := by kernel_rfl
theorem arr_35 : arrayB Tryz.prog 35 4 34 2 = true := by kernel_rfl
theorem one_3 : oneB Tryz.prog 3 = true := by kernel_rfl
theorem agg_48 : aggB Tryz.prog 48 23 = true := by kernel_rfl
theorem slc_44 : sliceB Tryz.prog 44 46 4 = true := by kernel_rfl
theorem agg_46 : aggB Tryz.prog 46 4 = true := by kernel_rfl
theorem one_9 : oneB Tryz.prog 9 = true := by kernel_rfl
theorem und_9 : Tryz.prog.underlying 9 = some .string := by kernel_rfl
theorem zer_9 : zeroIs Tryz.prog 9 (.string ⟨#[]⟩) := by unfold zeroIs; kernel_rfl
theorem cal_65 : callB Tryz.prog 65 = true := by kernel_rfl
theorem agg_34 : aggB Tryz.prog 34 2 = true := by kernel_rfl
theorem zer_48 : zeroIs Tryz.prog 48 (.agg #[.int .i64 0, .string ⟨#[]⟩, .string ⟨#[]⟩, .string ⟨#[]⟩, .int .i64 0, .string ⟨#[]⟩, .int .i64 0, .int .i64 0, .int .i64 0, .int .i64 0, .int .i64 0, .int .i64 0, .int .i64 0, .int .i64 0, .int .i64 0, .int .i64 0, .int .i64 0, .string ⟨#[]⟩, .slice none 0 0, .slice none 0 0, .slice none 0 0, .slice none 0 0, .int .i64 0]) := by unfold zeroIs; kernel_rfl
theorem zer_37 : zeroIs Tryz.prog 37 (.agg #[.int .i64 0, .string ⟨#[]⟩, .int .i64 0, .int .i64 0, .int .i64 0, .int .i64 0, .int .i64 0, .int .i64 0, .int .i64 0, .int .i64 0, .int .i64 0]) := by unfold zeroIs; kernel_rfl
theorem plc_37 : placesB Tryz.prog 37 [(0, 1), (1, 1), (2, 1), (3, 8)] = true := by kernel_rfl
theorem agg_37 : aggB Tryz.prog 37 11 = true := by kernel_rfl
theorem non_37 : oneB Tryz.prog 37 = false := by kernel_rfl
theorem zer_46 : zeroIs Tryz.prog 46 (.agg #[.int .i64 0, .int .i64 0, .string ⟨#[]⟩, .slice none 0 0]) := by unfold zeroIs; kernel_rfl
theorem plc_46 : placesB Tryz.prog 46 [(0, 1), (1, 1), (2, 1), (3, 1)] = true := by kernel_rfl
theorem eqt_37 : eqB Tryz.prog 37 [(.i .i64), .s, (.i .i64), (.i .i64), (.i .i64), (.i .i64), (.i .i64), (.i .i64), (.i .i64), (.i .i64), (.i .i64)] = true := by kernel_rfl
theorem fld_46_0 : fieldB Tryz.prog 46 0 0 = true := by kernel_rfl
theorem fld_46_1 : fieldB Tryz.prog 46 1 1 = true := by kernel_rfl
theorem fld_46_2 : fieldB Tryz.prog 46 2 2 = true := by kernel_rfl
theorem cal_161 : callB Tryz.prog 161 = true := by kernel_rfl
theorem mixed : Tryz.prog.follows .mixedOrders = true := by kernel_rfl
theorem zer_34 : zeroIs Tryz.prog 34 (.agg #[.int .i64 0, .int .i64 0]) := by unfold zeroIs; kernel_rfl
theorem non_34 : oneB Tryz.prog 34 = false := by kernel_rfl
theorem plc_34 : placesB Tryz.prog 34 [(0, 1), (1, 1)] = true := by kernel_rfl
theorem eqt_34 : eqB Tryz.prog 34 [(.i .i64), (.i .i64)] = true := by kernel_rfl
theorem cal_191 : callB Tryz.prog 191 = true := by kernel_rfl
theorem agg_35 : aggB Tryz.prog 35 8 = true := by kernel_rfl
theorem zer_35 : zeroIs Tryz.prog 35 (.agg #[.int .i64 0, .int .i64 0, .int .i64 0, .int .i64 0, .int .i64 0, .int .i64 0, .int .i64 0, .int .i64 0]) := by unfold zeroIs; kernel_rfl
theorem fld_66_0 : fieldB Tryz.prog 66 0 0 = true := by kernel_rfl
theorem fld_32_0 : fieldB Tryz.prog 32 0 0 = true := by kernel_rfl
theorem cal_34 : callB Tryz.prog 34 = true := by kernel_rfl
theorem slc_70 : sliceB Tryz.prog 70 4 1 = true := by kernel_rfl
theorem zer_73 : zeroIs Tryz.prog 73 (.agg #[.int .i64 0, .int .i64 0]) := by unfold zeroIs; kernel_rfl
theorem zer_149 : zeroIs Tryz.prog 149 (.agg #[.int .i64 0, .string ⟨#[]⟩, .int .i64 0]) := by unfold zeroIs; kernel_rfl
theorem plc_149 : placesB Tryz.prog 149 [(0, 1), (1, 1), (2, 1)] = true := by kernel_rfl
theorem agg_149 : aggB Tryz.prog 149 3 = true := by kernel_rfl
theorem slc_145 : sliceB Tryz.prog 145 149 3 = true := by kernel_rfl
theorem elm_149 : elemB Tryz.prog 149 32 = true := by kernel_rfl
theorem plc_73 : placesB Tryz.prog 73 [(0, 1), (1, 1)] = true := by kernel_rfl
theorem agg_73 : aggB Tryz.prog 73 2 = true := by kernel_rfl
theorem non_73 : oneB Tryz.prog 73 = false := by kernel_rfl
theorem one_71 : oneB Tryz.prog 71 = true := by kernel_rfl
theorem cal_99 : callB Tryz.prog 99 = true := by kernel_rfl
theorem ftb_149_0 : fieldTB Tryz.prog 149 0 3 0 = true := by kernel_rfl
theorem cal_100 : callB Tryz.prog 100 = true := by kernel_rfl
theorem zer_153 : zeroIs Tryz.prog 153 (.agg #[.string ⟨#[]⟩, .slice none 0 0, .string ⟨#[]⟩, .slice none 0 0, .slice none 0 0, .slice none 0 0, .int .i64 0, .string ⟨#[]⟩, .bool false, .int .i64 0, .string ⟨#[]⟩, .int .i64 0, .int .i64 0, .int .i64 0, .int .i64 0, .int .i64 0, .int .i64 0, .int .i64 0, .int .i64 0, .int .i64 0, .slice none 0 0, .slice none 0 0, .slice none 0 0, .int .i64 0, .slice none 0 0, .slice none 0 0, .int .i64 0, .int .i64 0, .int .i64 0]) := by unfold zeroIs; kernel_rfl
theorem ftb_149_2 : fieldTB Tryz.prog 149 2 3 2 = true := by kernel_rfl
theorem plc_32 : placesB Tryz.prog 32 [(0, 1), (1, 1), (2, 1), (3, 1), (4, 1), (5, 1), (6, 1)] = true := by kernel_rfl
theorem ftb_149_1 : fieldTB Tryz.prog 149 1 9 1 = true := by kernel_rfl
theorem plc_40 : placesB Tryz.prog 40 [(0, 1), (1, 1), (2, 11), (13, 1), (14, 1), (15, 1), (16, 1)] = true := by kernel_rfl
theorem one_4 : oneB Tryz.prog 4 = true := by kernel_rfl
theorem zer_216 : zeroIs Tryz.prog 216 (.agg #[.slice none 0 0, .int .i64 0, .string ⟨#[]⟩, .int .i64 0, .int .i64 0, .int .i64 0, .int .i64 0, .int .i64 0, .int .i64 0, .int .i64 0, .int .i64 0, .int .i64 0, .string ⟨#[]⟩, .int .i64 0, .string ⟨#[]⟩, .int .i64 0, .int .i64 0, .int .i64 0, .int .i64 0, .int .i64 0, .int .i64 0, .int .i64 0, .int .i64 0, .int .i64 0, .int .i64 0, .int .i64 0, .int .i64 0, .int .i64 0]) := by unfold zeroIs; kernel_rfl
theorem plc_216 : placesB Tryz.prog 216 [(0, 1), (1, 11), (12, 13), (25, 1), (26, 2)] = true := by kernel_rfl
theorem agg_216 : aggB Tryz.prog 216 28 = true := by kernel_rfl
theorem non_216 : oneB Tryz.prog 216 = false := by kernel_rfl
theorem ftb_34_0 : fieldTB Tryz.prog 34 0 3 0 = true := by kernel_rfl
theorem zer_66 : zeroIs Tryz.prog 66 (.agg #[.string ⟨#[]⟩, .int .i64 0, .string ⟨#[]⟩, .int .i64 0, .int .i64 0, .int .i64 0, .int .i64 0, .int .i64 0, .int .i64 0, .int .i64 0, .int .i64 0, .int .i64 0, .int .i64 0]) := by unfold zeroIs; kernel_rfl
theorem plc_66 : placesB Tryz.prog 66 [(0, 1), (1, 11), (12, 1)] = true := by kernel_rfl
theorem agg_66 : aggB Tryz.prog 66 13 = true := by kernel_rfl
theorem elm_66 : elemB Tryz.prog 66 120 = true := by kernel_rfl
theorem plc_153 : placesB Tryz.prog 153 [(0, 7), (7, 17), (24, 1), (25, 1), (26, 1), (27, 2)] = true := by kernel_rfl
theorem agg_153 : aggB Tryz.prog 153 29 = true := by kernel_rfl
theorem non_153 : oneB Tryz.prog 153 = false := by kernel_rfl
theorem zer_241 : zeroIs Tryz.prog 241 (.agg #[.int .i64 0, .string ⟨#[]⟩, .string ⟨#[]⟩, .string ⟨#[]⟩, .int .i64 0, .string ⟨#[]⟩, .int .i64 0, .int .i64 0, .int .i64 0, .int .i64 0, .int .i64 0, .int .i64 0, .int .i64 0, .int .i64 0, .int .i64 0, .int .i64 0, .int .i64 0, .string ⟨#[]⟩, .slice none 0 0, .slice none 0 0, .slice none 0 0, .slice none 0 0, .int .i64 0, .slice none 0 0, .slice none 0 0, .int .i64 0, .int .i64 0, .int .i64 0]) := by unfold zeroIs; kernel_rfl
theorem plc_48 : placesB Tryz.prog 48 [(0, 1), (1, 1), (2, 1), (3, 1), (4, 11), (15, 4), (19, 1), (20, 1), (21, 1), (22, 1)] = true := by kernel_rfl
theorem plc_241 : placesB Tryz.prog 241 [(0, 23), (23, 1), (24, 1), (25, 1), (26, 2)] = true := by kernel_rfl
theorem agg_241 : aggB Tryz.prog 241 28 = true := by kernel_rfl
theorem zer_259 : zeroIs Tryz.prog 259 (.agg #[.int .i64 0, .int .i64 0, .string ⟨#[]⟩, .slice none 0 0, .int .i64 0, .int .i64 0, .int .i64 0]) := by unfold zeroIs; kernel_rfl
theorem plc_259 : placesB Tryz.prog 259 [(0, 4), (4, 1), (5, 2)] = true := by kernel_rfl
theorem agg_259 : aggB Tryz.prog 259 7 = true := by kernel_rfl
theorem zer_23 : zeroIs Tryz.prog 23 (.slice none 0 0) := by unfold zeroIs; kernel_rfl
theorem slc_280 : sliceB Tryz.prog 280 23 1 = true := by kernel_rfl
theorem elm_48 : elemB Tryz.prog 48 288 = true := by kernel_rfl
theorem cal_130 : callB Tryz.prog 130 = true := by kernel_rfl
theorem elm_40 : elemB Tryz.prog 40 200 = true := by kernel_rfl
theorem cal_104 : callB Tryz.prog 104 = true := by kernel_rfl
theorem elm_32 : elemB Tryz.prog 32 136 = true := by kernel_rfl
theorem map_131 : mapB Tryz.prog 131 9 3 = true := by kernel_rfl
theorem zer_133 : zeroIs Tryz.prog 133 (.agg #[.slice none 0 0, .string ⟨#[]⟩, .slice none 0 0, .string ⟨#[]⟩, .slice none 0 0, .slice none 0 0, .slice none 0 0, .int .i64 0, .string ⟨#[]⟩, .bool false, .int .i64 0, .string ⟨#[]⟩, .int .i64 0, .int .i64 0, .int .i64 0, .int .i64 0, .int .i64 0, .int .i64 0, .int .i64 0, .int .i64 0, .int .i64 0, .slice none 0 0, .slice none 0 0, .slice none 0 0, .int .i64 0, .slice none 0 0, .map none, .int .i64 0, .int .i64 0]) := by unfold zeroIs; kernel_rfl
theorem plc_133 : placesB Tryz.prog 133 [(0, 1), (1, 7), (8, 17), (25, 1), (26, 1), (27, 1), (28, 1)] = true := by kernel_rfl
theorem zer_29 : zeroIs Tryz.prog 29 (.slice none 0 0) := by unfold zeroIs; kernel_rfl
theorem slc_220 : sliceB Tryz.prog 220 29 1 = true := by kernel_rfl
theorem und_3 : Tryz.prog.underlying 3 = some (.int .i64) := by kernel_rfl
theorem zer_3 : zeroIs Tryz.prog 3 (.int .i64 0) := by unfold zeroIs; kernel_rfl
theorem elm_9 : elemB Tryz.prog 9 16 = true := by kernel_rfl
theorem cal_38 : callB Tryz.prog 38 = true := by kernel_rfl
theorem cal_39 : callB Tryz.prog 39 = true := by kernel_rfl
theorem zer_94 : zeroIs Tryz.prog 94 (.int .u64 0) := by unfold zeroIs; kernel_rfl
theorem slc_156 : sliceB Tryz.prog 156 94 1 = true := by kernel_rfl
theorem fld_133_2 : fieldB Tryz.prog 133 2 8 = true := by kernel_rfl
theorem fld_133_0 : fieldB Tryz.prog 133 0 0 = true := by kernel_rfl
theorem one_22 : oneB Tryz.prog 22 = true := by kernel_rfl
theorem fld_133_1 : fieldB Tryz.prog 133 1 1 = true := by kernel_rfl
theorem zer_189 : zeroIs Tryz.prog 189 (.agg #[.string ⟨#[]⟩, .string ⟨#[]⟩, .bool false, .int .i64 0, .string ⟨#[]⟩, .int .i64 0, .int .i64 0, .int .i64 0, .int .i64 0, .int .i64 0, .int .i64 0, .int .i64 0, .int .i64 0, .int .i64 0, .slice none 0 0, .slice none 0 0, .slice none 0 0, .int .i64 0]) := by unfold zeroIs; kernel_rfl
theorem zer_224 : zeroIs Tryz.prog 224 (.agg #[.slice none 0 0, .string ⟨#[]⟩, .slice none 0 0, .string ⟨#[]⟩, .slice none 0 0, .slice none 0 0, .slice none 0 0, .int .i64 0, .string ⟨#[]⟩, .bool false, .int .i64 0, .string ⟨#[]⟩, .int .i64 0, .int .i64 0, .int .i64 0, .int .i64 0, .int .i64 0, .int .i64 0, .int .i64 0, .int .i64 0, .int .i64 0, .slice none 0 0, .slice none 0 0, .slice none 0 0, .int .i64 0, .int .i64 0, .string ⟨#[]⟩, .string ⟨#[]⟩, .string ⟨#[]⟩, .int .i64 0, .string ⟨#[]⟩, .int .i64 0, .int .i64 0, .int .i64 0, .int .i64 0, .int .i64 0, .int .i64 0, .int .i64 0, .int .i64 0, .int .i64 0, .int .i64 0, .int .i64 0, .string ⟨#[]⟩, .slice none 0 0, .slice none 0 0, .slice none 0 0, .slice none 0 0, .int .i64 0, .int .i64 0, .string ⟨#[]⟩, .int .i64 0, .int .i64 0, .int .i64 0, .int .i64 0, .int .i64 0, .int .i64 0, .int .i64 0, .int .i64 0, .int .i64 0, .int .i64 0, .string ⟨#[]⟩, .int .i64 0, .int .i64 0, .int .i64 0, .int .i64 0, .int .i64 0, .int .i64 0, .int .i64 0, .int .i64 0, .int .i64 0]) := by unfold zeroIs; kernel_rfl
theorem plc_224 : placesB Tryz.prog 224 [(0, 1), (1, 7), (8, 17), (25, 23), (48, 11), (59, 11)] = true := by kernel_rfl
theorem elm_34 : elemB Tryz.prog 34 16 = true := by kernel_rfl
theorem cal_187 : callB Tryz.prog 187 = true := by kernel_rfl
theorem cal_188 : callB Tryz.prog 188 = true := by kernel_rfl
theorem cal_189 : callB Tryz.prog 189 = true := by kernel_rfl
theorem cal_151 : callB Tryz.prog 151 = true := by kernel_rfl
theorem cal_132 : callB Tryz.prog 132 = true := by kernel_rfl
theorem plc_189 : placesB Tryz.prog 189 [(0, 1), (1, 17)] = true := by kernel_rfl
theorem agg_189 : aggB Tryz.prog 189 18 = true := by kernel_rfl
theorem non_189 : oneB Tryz.prog 189 = false := by kernel_rfl
theorem zer_75 : zeroIs Tryz.prog 75 (.slice none 0 0) := by unfold zeroIs; kernel_rfl
theorem cal_159 : callB Tryz.prog 159 = true := by kernel_rfl
theorem cal_158 : callB Tryz.prog 158 = true := by kernel_rfl
theorem slc_75 : sliceB Tryz.prog 75 3 1 = true := by kernel_rfl
theorem cal_118 : callB Tryz.prog 118 = true := by kernel_rfl
theorem elm_3 : elemB Tryz.prog 3 8 = true := by kernel_rfl
theorem cal_138 : callB Tryz.prog 138 = true := by kernel_rfl
theorem zer_4 : zeroIs Tryz.prog 4 (.bool false) := by unfold zeroIs; kernel_rfl
theorem zer_264 : zeroIs Tryz.prog 264 (.agg #[.string ⟨#[]⟩, .bool false, .int .i64 0, .string ⟨#[]⟩, .int .i64 0, .int .i64 0, .int .i64 0, .int .i64 0, .int .i64 0, .int .i64 0, .int .i64 0, .int .i64 0, .int .i64 0, .slice none 0 0, .slice none 0 0, .slice none 0 0, .int .i64 0, .int .i64 0]) := by unfold zeroIs; kernel_rfl
theorem plc_264 : placesB Tryz.prog 264 [(0, 17), (17, 1)] = true := by kernel_rfl
theorem cal_178 : callB Tryz.prog 178 = true := by kernel_rfl
theorem cal_177 : callB Tryz.prog 177 = true := by kernel_rfl
theorem cal_133 : callB Tryz.prog 133 = true := by kernel_rfl
theorem cal_106 : callB Tryz.prog 106 = true := by kernel_rfl
theorem elm_94 : elemB Tryz.prog 94 8 = true := by kernel_rfl
theorem cal_40 : callB Tryz.prog 40 = true := by kernel_rfl
theorem cal_88 : callB Tryz.prog 88 = true := by kernel_rfl
theorem cal_119 : callB Tryz.prog 119 = true := by kernel_rfl
theorem cal_59 : callB Tryz.prog 59 = true := by kernel_rfl
theorem zer_135 : zeroIs Tryz.prog 135 (.slice none 0 0) := by unfold zeroIs; kernel_rfl
theorem cal_121 : callB Tryz.prog 121 = true := by kernel_rfl
theorem one_135 : oneB Tryz.prog 135 = true := by kernel_rfl
theorem zer_134 : zeroIs Tryz.prog 134 (.agg #[.int .i64 0, .int .i64 0, .int .i64 0, .int .i64 0, .string ⟨#[]⟩, .string ⟨#[]⟩, .string ⟨#[]⟩, .int .i64 0, .string ⟨#[]⟩, .int .i64 0, .int .i64 0, .int .i64 0, .int .i64 0, .int .i64 0, .int .i64 0, .int .i64 0, .int .i64 0, .int .i64 0, .int .i64 0, .int .i64 0, .string ⟨#[]⟩, .slice none 0 0, .slice none 0 0, .slice none 0 0, .slice none 0 0, .int .i64 0]) := by unfold zeroIs; kernel_rfl
theorem plc_134 : placesB Tryz.prog 134 [(0, 1), (1, 1), (2, 1), (3, 23)] = true := by kernel_rfl
theorem slc_135 : sliceB Tryz.prog 135 134 26 = true := by kernel_rfl
theorem elm_134 : elemB Tryz.prog 134 312 = true := by kernel_rfl
theorem cal_120 : callB Tryz.prog 120 = true := by kernel_rfl
theorem cal_60 : callB Tryz.prog 60 = true := by kernel_rfl
theorem fld_134_3 : fieldB Tryz.prog 134 3 3 = true := by kernel_rfl
theorem fld_48_9 : fieldB Tryz.prog 48 9 22 = true := by kernel_rfl
theorem eqt_73 : eqB Tryz.prog 73 [(.i .i64), (.i .i64)] = true := by kernel_rfl
theorem zer_42 : zeroIs Tryz.prog 42 (.agg #[.slice none 0 0, .string ⟨#[]⟩, .slice none 0 0, .string ⟨#[]⟩, .slice none 0 0, .slice none 0 0, .slice none 0 0, .int .i64 0, .string ⟨#[]⟩, .bool false, .int .i64 0, .string ⟨#[]⟩, .int .i64 0, .int .i64 0, .int .i64 0, .int .i64 0, .int .i64 0, .int .i64 0, .int .i64 0, .int .i64 0, .int .i64 0, .slice none 0 0, .slice none 0 0, .slice none 0 0, .int .i64 0]) := by unfold zeroIs; kernel_rfl
theorem plc_42 : placesB Tryz.prog 42 [(0, 1), (1, 7), (8, 17)] = true := by kernel_rfl
theorem agg_42 : aggB Tryz.prog 42 25 = true := by kernel_rfl
theorem non_42 : oneB Tryz.prog 42 = false := by kernel_rfl
theorem ftb_73_0 : fieldTB Tryz.prog 73 0 71 0 = true := by kernel_rfl
theorem cal_61 : callB Tryz.prog 61 = true := by kernel_rfl
theorem cal_62 : callB Tryz.prog 62 = true := by kernel_rfl
theorem zer_79 : zeroIs Tryz.prog 79 (.agg #[.slice none 0 0, .slice none 0 0, .bool false, .bool false]) := by unfold zeroIs; kernel_rfl
theorem plc_79 : placesB Tryz.prog 79 [(0, 1), (1, 1), (2, 1), (3, 1)] = true := by kernel_rfl
theorem agg_79 : aggB Tryz.prog 79 4 = true := by kernel_rfl
theorem non_79 : oneB Tryz.prog 79 = false := by kernel_rfl
instance : SlcI Tryz.prog 22 32 7 := ⟨slc_22⟩
instance : AggI Tryz.prog 32 7 := ⟨agg_32, by kernel_rfl⟩
instance : FldI Tryz.prog 32 1 1 := ⟨by kernel_rfl⟩
instance : OneI Tryz.prog 23 := ⟨one_23⟩
instance : SlcI Tryz.prog 23 9 1 := ⟨slc_23⟩
instance : FldI Tryz.prog 32 3 3 := ⟨by kernel_rfl⟩
instance : OneI Tryz.prog 28 := ⟨by kernel_rfl⟩
instance : SlcI Tryz.prog 28 34 2 := ⟨slc_28⟩
instance : FldI Tryz.prog 32 4 4 := ⟨by kernel_rfl⟩
instance : OneI Tryz.prog 29 := ⟨by kernel_rfl⟩
instance : SlcI Tryz.prog 29 66 13 := ⟨slc_29⟩
instance : FldI Tryz.prog 32 5 5 := ⟨fld_32_5⟩
instance : OneI Tryz.prog 30 := ⟨one_30⟩
instance : SlcI Tryz.prog 30 40 17 := ⟨slc_30⟩
instance : AggI Tryz.prog 40 17 := ⟨agg_40, non_40⟩
instance : FldI Tryz.prog 40 3 13 := ⟨by kernel_rfl⟩
instance : FldI Tryz.prog 40 4 14 := ⟨by kernel_rfl⟩
instance : FldI Tryz.prog 40 5 15 := ⟨by kernel_rfl⟩
instance : OneI Tryz.prog 38 := ⟨by kernel_rfl⟩
instance : SlcI Tryz.prog 38 48 23 := ⟨slc_38⟩
instance : FldI Tryz.prog 66 1 1 := ⟨fld_66_1⟩
instance : FldI Tryz.prog 37 3 3 := ⟨by kernel_rfl⟩
instance : FldI Tryz.prog 34 0 0 := ⟨by kernel_rfl⟩
instance : OneI Tryz.prog 3 := ⟨one_3⟩
instance : AggI Tryz.prog 48 23 := ⟨agg_48, by kernel_rfl⟩
instance : FldI Tryz.prog 48 7 20 := ⟨by kernel_rfl⟩
instance : FldI Tryz.prog 48 8 21 := ⟨by kernel_rfl⟩
instance : FldI Tryz.prog 48 6 19 := ⟨by kernel_rfl⟩
instance : OneI Tryz.prog 44 := ⟨by kernel_rfl⟩
instance : SlcI Tryz.prog 44 46 4 := ⟨slc_44⟩
instance : FldI Tryz.prog 48 5 15 := ⟨by kernel_rfl⟩
instance : AggI Tryz.prog 46 4 := ⟨agg_46, by kernel_rfl⟩
instance : FldI Tryz.prog 46 3 3 := ⟨by kernel_rfl⟩
instance : OneI Tryz.prog 9 := ⟨one_9⟩
instance : AggI Tryz.prog 34 2 := ⟨agg_34, non_34⟩
instance : FldI Tryz.prog 34 1 1 := ⟨by kernel_rfl⟩
instance : FldI Tryz.prog 48 0 0 := ⟨by kernel_rfl⟩
instance : FldI Tryz.prog 48 1 1 := ⟨by kernel_rfl⟩
instance : FldI Tryz.prog 48 2 2 := ⟨by kernel_rfl⟩
instance : FldI Tryz.prog 48 3 3 := ⟨by kernel_rfl⟩
instance : FldI Tryz.prog 48 4 4 := ⟨by kernel_rfl⟩
instance : AggI Tryz.prog 37 11 := ⟨agg_37, non_37⟩
instance : FldI Tryz.prog 46 0 0 := ⟨fld_46_0⟩
instance : FldI Tryz.prog 46 1 1 := ⟨fld_46_1⟩
instance : FldI Tryz.prog 46 2 2 := ⟨fld_46_2⟩
instance : FldI Tryz.prog 37 0 0 := ⟨by kernel_rfl⟩
instance : FldI Tryz.prog 37 1 1 := ⟨by kernel_rfl⟩
instance : FldI Tryz.prog 37 2 2 := ⟨by kernel_rfl⟩
instance : FldI Tryz.prog 40 0 0 := ⟨by kernel_rfl⟩
instance : FldI Tryz.prog 40 2 2 := ⟨by kernel_rfl⟩
instance : AggI Tryz.prog 35 8 := ⟨agg_35, by kernel_rfl⟩
instance : FldI Tryz.prog 66 0 0 := ⟨fld_66_0⟩
instance : FldI Tryz.prog 32 0 0 := ⟨fld_32_0⟩
instance : FldI Tryz.prog 32 2 2 := ⟨by kernel_rfl⟩
instance : SlcI Tryz.prog 70 4 1 := ⟨slc_70⟩
instance : AggI Tryz.prog 149 3 := ⟨agg_149, by kernel_rfl⟩
instance : FldI Tryz.prog 149 2 2 := ⟨by kernel_rfl⟩
instance : FldI Tryz.prog 149 0 0 := ⟨by kernel_rfl⟩
instance : FldI Tryz.prog 149 1 1 := ⟨by kernel_rfl⟩
instance : SlcI Tryz.prog 145 149 3 := ⟨slc_145⟩
instance : AggI Tryz.prog 73 2 := ⟨agg_73, non_73⟩
instance : FldI Tryz.prog 73 0 0 := ⟨by kernel_rfl⟩
instance : OneI Tryz.prog 71 := ⟨one_71⟩
instance : FldI Tryz.prog 40 1 1 := ⟨by kernel_rfl⟩
instance : OneI Tryz.prog 4 := ⟨one_4⟩
instance : AggI Tryz.prog 216 28 := ⟨agg_216, non_216⟩
instance : FldI Tryz.prog 216 4 26 := ⟨by kernel_rfl⟩
instance : FldI Tryz.prog 216 3 25 := ⟨by kernel_rfl⟩
instance : FldI Tryz.prog 216 1 1 := ⟨by kernel_rfl⟩
instance : FldI Tryz.prog 216 2 12 := ⟨by kernel_rfl⟩
instance : AggI Tryz.prog 66 13 := ⟨agg_66, by kernel_rfl⟩
instance : AggI Tryz.prog 153 29 := ⟨agg_153, non_153⟩
instance : FldI Tryz.prog 153 5 27 := ⟨by kernel_rfl⟩
instance : FldI Tryz.prog 153 2 24 := ⟨by kernel_rfl⟩
instance : FldI Tryz.prog 153 4 26 := ⟨by kernel_rfl⟩
instance : AggI Tryz.prog 241 28 := ⟨agg_241, by kernel_rfl⟩
instance : AggI Tryz.prog 259 7 := ⟨agg_259, by kernel_rfl⟩
instance : FldI Tryz.prog 259 2 5 := ⟨by kernel_rfl⟩
instance : FldI Tryz.prog 259 1 4 := ⟨by kernel_rfl⟩
instance : SlcI Tryz.prog 280 23 1 := ⟨slc_280⟩
instance : FldI Tryz.prog 259 0 0 := ⟨by kernel_rfl⟩
instance : FldI Tryz.prog 241 4 26 := ⟨by kernel_rfl⟩
instance : FldI Tryz.prog 241 1 23 := ⟨by kernel_rfl⟩
instance : FldI Tryz.prog 241 3 25 := ⟨by kernel_rfl⟩
instance : FldI Tryz.prog 241 0 0 := ⟨by kernel_rfl⟩
instance : FldI Tryz.prog 153 1 7 := ⟨by kernel_rfl⟩
instance : FldI Tryz.prog 153 0 0 := ⟨by kernel_rfl⟩
instance : SlcI Tryz.prog 220 29 1 := ⟨slc_220⟩
instance : FldI Tryz.prog 133 3 25 := ⟨by kernel_rfl⟩
instance : FldI Tryz.prog 133 4 26 := ⟨by kernel_rfl⟩
instance : OneI Tryz.prog 131 := ⟨by kernel_rfl⟩
instance : FldI Tryz.prog 133 5 27 := ⟨by kernel_rfl⟩
instance : FldI Tryz.prog 133 6 28 := ⟨by kernel_rfl⟩
instance : SlcI Tryz.prog 156 94 1 := ⟨slc_156⟩
instance : FldI Tryz.prog 133 2 8 := ⟨fld_133_2⟩
instance : FldI Tryz.prog 133 0 0 := ⟨fld_133_0⟩
instance : OneI Tryz.prog 22 := ⟨one_22⟩
instance : FldI Tryz.prog 133 1 1 := ⟨fld_133_1⟩
instance : FldI Tryz.prog 224 1 1 := ⟨by kernel_rfl⟩
instance : FldI Tryz.prog 224 2 8 := ⟨by kernel_rfl⟩
instance : FldI Tryz.prog 224 3 25 := ⟨by kernel_rfl⟩
instance : FldI Tryz.prog 224 5 59 := ⟨by kernel_rfl⟩
instance : AggI Tryz.prog 189 18 := ⟨agg_189, non_189⟩
instance : OneI Tryz.prog 75 := ⟨by kernel_rfl⟩
instance : SlcI Tryz.prog 75 3 1 := ⟨slc_75⟩
instance : FldI Tryz.prog 264 0 0 := ⟨by kernel_rfl⟩
instance : FldI Tryz.prog 264 1 17 := ⟨by kernel_rfl⟩
instance : FldI Tryz.prog 189 0 0 := ⟨by kernel_rfl⟩
instance : FldI Tryz.prog 189 1 1 := ⟨by kernel_rfl⟩
instance : OneI Tryz.prog 94 := ⟨by kernel_rfl⟩
instance : OneI Tryz.prog 135 := ⟨one_135⟩
instance : SlcI Tryz.prog 135 134 26 := ⟨slc_135⟩
instance : FldI Tryz.prog 134 3 3 := ⟨fld_134_3⟩
instance : FldI Tryz.prog 48 9 22 := ⟨fld_48_9⟩
instance : AggI Tryz.prog 42 25 := ⟨agg_42, non_42⟩
instance : FldI Tryz.prog 42 1 1 := ⟨by kernel_rfl⟩
instance : FldI Tryz.prog 42 2 8 := ⟨by kernel_rfl⟩
instance : FldI Tryz.prog 79 2 2 := ⟨by kernel_rfl⟩
instance : FldI Tryz.prog 79 3 3 := ⟨by kernel_rfl⟩
instance : FldI Tryz.prog 42 0 0 := ⟨by kernel_rfl⟩
instance : FldI Tryz.prog 79 0 0 := ⟨by kernel_rfl⟩
instance : AggI Tryz.prog 79 4 := ⟨agg_79, non_79⟩
instance : FldI Tryz.prog 79 1 1 := ⟨by kernel_rfl⟩
instance : OneI Tryz.prog 70 := ⟨by kernel_rfl⟩
abbrev FZ (f : FuncId) (a : List PV) (r : List Res) : Prop := Abs.Fn globs_Tryz Tryz.prog f a r
end Go.Proofs.YthhdlpggmmfaiaaGreat
