/- A part of the proof that the law DotDeep gives true for every input. -/
import Derived.Test.YthhdlpggmmfaiaaGreatDotDeepA4
import Derived.Test.YthhdlpggmmfaiaaGreatProg
/- Facts about the types of the program. -/
namespace Go.Proofs.YthhdlpggmmfaiaaGreat
open Go.RowKit Go.Abs
/-- The package variables that are read: their blocks, and what they hold. -/
abbrev globs_Tryz : List (Nat × List PV) := []
theorem slc_22 : sliceB Tryz.prog 22 32 7 = true := by kernel_rfl
theorem agg_32 : aggB Tryz.prog 32 7 = true := by kernel_rfl
theorem zer_32 : zeroIs Tryz.prog 32 (.agg #[.string ⟨#[]⟩, .slice none 0 0, .string ⟨#[]⟩, .slice none 0 0, .slice none 0 0, .slice none 0 0, .int .i64 0]) := by unfold zeroIs; kernel_rfl
theorem slc_23 : sliceB Tryz.prog 23 9 1 = true := by kernel_rfl
theorem slc_29 : sliceB Tryz.prog 29 66 13 = true := by kernel_rfl
theorem slc_30 : sliceB Tryz.prog 30 40 17 = true := by kernel_rfl
theorem agg_40 : aggB Tryz.prog 40 17 = true := by kernel_rfl
theorem zer_40 : zeroIs Tryz.prog 40 (.agg #[.string ⟨#[]⟩, .bool false, .int .i64 0, .string ⟨#[]⟩, .int .i64 0, .int .i64 0, .int .i64 0, .int .i64 0, .int .i64 0, .int .i64 0, .int .i64 0, .int .i64 0, .int .i64 0, .slice none 0 0, .slice none 0 0, .slice none 0 0, .int .i64 0]) := by unfold zeroIs; kernel_rfl
theorem slc_38 : sliceB Tryz.prog 38 48 23 = true := by kernel_rfl
theorem arr_35 : arrayB Tryz.prog 35 4 34 2 = true := by kernel_rfl
theorem one_3 : oneB Tryz.prog 3 = true := by kernel_rfl
theorem agg_48 : aggB Tryz.prog 48 23 = true := by kernel_rfl
theorem slc_44 : sliceB Tryz.prog 44 46 4 = true := by kernel_rfl
theorem agg_46 : aggB Tryz.prog 46 4 = true := by kernel_rfl
theorem slc_56 : sliceB Tryz.prog 56 64 7 = true := by kernel_rfl
theorem slc_62 : sliceB Tryz.prog 62 107 2 = true := by kernel_rfl
theorem one_9 : oneB Tryz.prog 9 = true := by kernel_rfl
theorem und_9 : Tryz.prog.underlying 9 = some .string := by kernel_rfl
theorem arr_61 : arrayB Tryz.prog 61 4 3 1 = true := by kernel_rfl
theorem agg_61 : aggB Tryz.prog 61 4 = true := by kernel_rfl
theorem zer_61 : zeroIs Tryz.prog 61 (.agg #[.int .i64 0, .int .i64 0, .int .i64 0, .int .i64 0]) := by unfold zeroIs; kernel_rfl
theorem mixed : Tryz.prog.follows .mixedOrders = true := by kernel_rfl
theorem zer_3 : zeroIs Tryz.prog 3 (.int .i64 0) := by unfold zeroIs; kernel_rfl
theorem slc_75 : sliceB Tryz.prog 75 3 1 = true := by kernel_rfl
theorem elm_3 : elemB Tryz.prog 3 8 = true := by kernel_rfl
theorem cal_54 : callB Tryz.prog 54 = true := by kernel_rfl
theorem zer_73 : zeroIs Tryz.prog 73 (.agg #[.int .i64 0, .int .i64 0]) := by unfold zeroIs; kernel_rfl
theorem zer_149 : zeroIs Tryz.prog 149 (.agg #[.int .i64 0, .string ⟨#[]⟩, .int .i64 0]) := by unfold zeroIs; kernel_rfl
theorem zer_9 : zeroIs Tryz.prog 9 (.string ⟨#[]⟩) := by unfold zeroIs; kernel_rfl
theorem plc_149 : placesB Tryz.prog 149 [(0, 1), (1, 1), (2, 1)] = true := by kernel_rfl
theorem agg_149 : aggB Tryz.prog 149 3 = true := by kernel_rfl
theorem slc_145 : sliceB Tryz.prog 145 149 3 = true := by kernel_rfl
theorem elm_149 : elemB Tryz.prog 149 32 = true := by kernel_rfl
theorem plc_73 : placesB Tryz.prog 73 [(0, 1), (1, 1)] = true := by kernel_rfl
theorem agg_73 : aggB Tryz.prog 73 2 = true := by kernel_rfl
theorem ftb_149_0 : fieldTB Tryz.prog 149 0 3 0 = true := by kernel_rfl
theorem cal_100 : callB Tryz.prog 100 = true := by kernel_rfl
theorem zer_153 : zeroIs Tryz.prog 153 (.agg #[.string ⟨#[]⟩, .slice none 0 0, .string ⟨#[]⟩, .slice none 0 0, .slice none 0 0, .slice none 0 0, .int .i64 0, .string ⟨#[]⟩, .bool false, .int .i64 0, .string ⟨#[]⟩, .int .i64 0, .int .i64 0, .int .i64 0, .int .i64 0, .int .i64 0, .int .i64 0, .int .i64 0, .int .i64 0, .int .i64 0, .slice none 0 0, .slice none 0 0, .slice none 0 0, .int .i64 0, .slice none 0 0, .slice none 0 0, .int .i64 0, .int .i64 0, .int .i64 0]) := by unfold zeroIs; kernel_rfl
theorem ftb_149_2 : fieldTB Tryz.prog 149 2 3 2 = true := by kernel_rfl
theorem plc_32 : placesB Tryz.prog 32 [(0, 1), (1, 1), (2, 1), (3, 1), (4, 1), (5, 1), (6, 1)] = true := by kernel_rfl
theorem ftb_149_1 : fieldTB Tryz.prog 149 1 9 1 = true := by kernel_rfl
theorem fld_32_0 : fieldB Tryz.prog 32 0 0 = true := by kernel_rfl
theorem cal_34 : callB Tryz.prog 34 = true := by kernel_rfl
theorem plc_40 : placesB Tryz.prog 40 [(0, 1), (1, 1), (2, 11), (13, 1), (14, 1), (15, 1), (16, 1)] = true := by kernel_rfl
theorem zer_216 : zeroIs Tryz.prog 216 (.agg #[.slice none 0 0, .int .i64 0, .string ⟨#[]⟩, .int .i64 0, .int .i64 0, .int .i64 0, .int .i64 0, .int .i64 0, .int .i64 0, .int .i64 0, .int .i64 0, .int .i64 0, .string ⟨#[]⟩, .int .i64 0, .string ⟨#[]⟩, .int .i64 0, .int .i64 0, .int .i64 0, .int .i64 0, .int .i64 0, .int .i64 0, .int .i64 0, .int .i64 0, .int .i64 0, .int .i64 0, .int .i64 0, .int .i64 0, .int .i64 0]) := by unfold zeroIs; kernel_rfl
theorem zer_37 : zeroIs Tryz.prog 37 (.agg #[.int .i64 0, .string ⟨#[]⟩, .int .i64 0, .int .i64 0, .int .i64 0, .int .i64 0, .int .i64 0, .int .i64 0, .int .i64 0, .int .i64 0, .int .i64 0]) := by unfold zeroIs; kernel_rfl
theorem plc_37 : placesB Tryz.prog 37 [(0, 1), (1, 1), (2, 1), (3, 8)] = true := by kernel_rfl
theorem plc_216 : placesB Tryz.prog 216 [(0, 1), (1, 11), (12, 13), (25, 1), (26, 2)] = true := by kernel_rfl
theorem agg_216 : aggB Tryz.prog 216 28 = true := by kernel_rfl
theorem agg_37 : aggB Tryz.prog 37 11 = true := by kernel_rfl
theorem zer_34 : zeroIs Tryz.prog 34 (.agg #[.int .i64 0, .int .i64 0]) := by unfold zeroIs; kernel_rfl
theorem plc_34 : placesB Tryz.prog 34 [(0, 1), (1, 1)] = true := by kernel_rfl
theorem agg_34 : aggB Tryz.prog 34 2 = true := by kernel_rfl
theorem ftb_34_0 : fieldTB Tryz.prog 34 0 3 0 = true := by kernel_rfl
theorem zer_66 : zeroIs Tryz.prog 66 (.agg #[.string ⟨#[]⟩, .int .i64 0, .string ⟨#[]⟩, .int .i64 0, .int .i64 0, .int .i64 0, .int .i64 0, .int .i64 0, .int .i64 0, .int .i64 0, .int .i64 0, .int .i64 0, .int .i64 0]) := by unfold zeroIs; kernel_rfl
theorem plc_66 : placesB Tryz.prog 66 [(0, 1), (1, 11), (12, 1)] = true := by kernel_rfl
theorem elm_66 : elemB Tryz.prog 66 120 = true := by kernel_rfl
theorem plc_153 : placesB Tryz.prog 153 [(0, 7), (7, 17), (24, 1), (25, 1), (26, 1), (27, 2)] = true := by kernel_rfl
theorem agg_153 : aggB Tryz.prog 153 29 = true := by kernel_rfl
theorem non_153 : oneB Tryz.prog 153 = false := by kernel_rfl
theorem cal_104 : callB Tryz.prog 104 = true := by kernel_rfl
theorem elm_32 : elemB Tryz.prog 32 136 = true := by kernel_rfl
theorem zer_64 : zeroIs Tryz.prog 64 (.agg #[.string ⟨#[]⟩, .int .i64 0, .int .i64 0, .int .i64 0, .int .i64 0, .slice none 0 0, .bool false]) := by unfold zeroIs; kernel_rfl
theorem plc_64 : placesB Tryz.prog 64 [(0, 1), (1, 4), (5, 1), (6, 1)] = true := by kernel_rfl
theorem zer_107 : zeroIs Tryz.prog 107 (.agg #[.bool false, .int .i64 0]) := by unfold zeroIs; kernel_rfl
theorem plc_107 : placesB Tryz.prog 107 [(0, 1), (1, 1)] = true := by kernel_rfl
theorem agg_64 : aggB Tryz.prog 64 7 = true := by kernel_rfl
theorem und_3 : Tryz.prog.underlying 3 = some (.int .i64) := by kernel_rfl
theorem und_93 : Tryz.prog.underlying 93 = some (.int .u64) := by kernel_rfl
theorem und_5 : Tryz.prog.underlying 5 = some (.int .u8) := by kernel_rfl
theorem zer_5 : zeroIs Tryz.prog 5 (.int .u8 0) := by unfold zeroIs; kernel_rfl
theorem slc_111 : sliceB Tryz.prog 111 5 1 = true := by kernel_rfl
theorem elm_5 : elemB Tryz.prog 5 1 = true := by kernel_rfl
theorem one_5 : oneB Tryz.prog 5 = true := by kernel_rfl
theorem cal_82 : callB Tryz.prog 82 = true := by kernel_rfl
theorem und_111 : Tryz.prog.underlying 111 = some (.slice 5) := by kernel_rfl
theorem cal_49 : callB Tryz.prog 49 = true := by kernel_rfl
theorem zer_125 : zeroIs Tryz.prog 125 (.slice none 0 0) := by unfold zeroIs; kernel_rfl
theorem zer_75 : zeroIs Tryz.prog 75 (.slice none 0 0) := by unfold zeroIs; kernel_rfl
theorem cal_159 : callB Tryz.prog 159 = true := by kernel_rfl
theorem cal_158 : callB Tryz.prog 158 = true := by kernel_rfl
theorem cal_118 : callB Tryz.prog 118 = true := by kernel_rfl
theorem cal_138 : callB Tryz.prog 138 = true := by kernel_rfl
theorem agg_66 : aggB Tryz.prog 66 13 = true := by kernel_rfl
theorem one_125 : oneB Tryz.prog 125 = true := by kernel_rfl
theorem zer_128 : zeroIs Tryz.prog 128 (.agg #[.string ⟨#[]⟩, .string ⟨#[]⟩, .int .i64 0, .string ⟨#[]⟩, .int .i64 0, .int .i64 0, .int .i64 0, .int .i64 0, .int .i64 0, .int .i64 0, .int .i64 0, .int .i64 0, .int .i64 0, .int .i64 0]) := by unfold zeroIs; kernel_rfl
theorem plc_128 : placesB Tryz.prog 128 [(0, 1), (1, 13)] = true := by kernel_rfl
theorem slc_125 : sliceB Tryz.prog 125 128 14 = true := by kernel_rfl
theorem elm_128 : elemB Tryz.prog 128 136 = true := by kernel_rfl
theorem cal_116 : callB Tryz.prog 116 = true := by kernel_rfl
theorem agg_107 : aggB Tryz.prog 107 2 = true := by kernel_rfl
theorem elm_9 : elemB Tryz.prog 9 16 = true := by kernel_rfl
theorem cal_58 : callB Tryz.prog 58 = true := by kernel_rfl
theorem cal_23 : callB Tryz.prog 23 = true := by kernel_rfl
theorem mrb_108 : mapRB Tryz.prog 108 3 75 3 = true := by kernel_rfl
theorem zer_108 : zeroIs Tryz.prog 108 (.map none) := by unfold zeroIs; kernel_rfl
theorem one_108 : oneB Tryz.prog 108 = true := by kernel_rfl
theorem zer_113 : zeroIs Tryz.prog 113 (.agg #[.pointer none, .slice none 0 0]) := by unfold zeroIs; kernel_rfl
theorem zer_114 : zeroIs Tryz.prog 114 (.nilFunc) := by unfold zeroIs; kernel_rfl
theorem cal_47 : callB Tryz.prog 47 = true := by kernel_rfl
theorem cal_48 : callB Tryz.prog 48 = true := by kernel_rfl
theorem cal_46 : callB Tryz.prog 46 = true := by kernel_rfl
theorem cal_50 : callB Tryz.prog 50 = true := by kernel_rfl
theorem cal_24 : callB Tryz.prog 24 = true := by kernel_rfl
instance : SlcI Tryz.prog 22 32 7 := ⟨slc_22⟩
instance : AggI Tryz.prog 32 7 := ⟨agg_32, by kernel_rfl⟩
instance : FldI Tryz.prog 32 1 1 := ⟨by kernel_rfl⟩
instance : OneI Tryz.prog 23 := ⟨by kernel_rfl⟩
instance : SlcI Tryz.prog 23 9 1 := ⟨slc_23⟩
instance : FldI Tryz.prog 32 3 3 := ⟨by kernel_rfl⟩
instance : OneI Tryz.prog 28 := ⟨by kernel_rfl⟩
instance : SlcI Tryz.prog 28 34 2 := ⟨by kernel_rfl⟩
instance : FldI Tryz.prog 32 4 4 := ⟨by kernel_rfl⟩
instance : OneI Tryz.prog 29 := ⟨by kernel_rfl⟩
instance : SlcI Tryz.prog 29 66 13 := ⟨slc_29⟩
instance : FldI Tryz.prog 32 5 5 := ⟨by kernel_rfl⟩
instance : OneI Tryz.prog 30 := ⟨by kernel_rfl⟩
instance : SlcI Tryz.prog 30 40 17 := ⟨slc_30⟩
instance : AggI Tryz.prog 40 17 := ⟨agg_40, by kernel_rfl⟩
instance : FldI Tryz.prog 40 3 13 := ⟨by kernel_rfl⟩
instance : FldI Tryz.prog 40 4 14 := ⟨by kernel_rfl⟩
instance : FldI Tryz.prog 40 5 15 := ⟨by kernel_rfl⟩
instance : OneI Tryz.prog 38 := ⟨by kernel_rfl⟩
instance : SlcI Tryz.prog 38 48 23 := ⟨slc_38⟩
instance : FldI Tryz.prog 66 1 1 := ⟨by kernel_rfl⟩
instance : FldI Tryz.prog 37 3 3 := ⟨by kernel_rfl⟩
instance : FldI Tryz.prog 34 0 0 := ⟨by kernel_rfl⟩
instance : OneI Tryz.prog 3 := ⟨one_3⟩
instance : FldI Tryz.prog 48 7 20 := ⟨by kernel_rfl⟩
instance : FldI Tryz.prog 48 8 21 := ⟨by kernel_rfl⟩
instance : FldI Tryz.prog 48 6 19 := ⟨by kernel_rfl⟩
instance : OneI Tryz.prog 44 := ⟨by kernel_rfl⟩
instance : SlcI Tryz.prog 44 46 4 := ⟨slc_44⟩
instance : FldI Tryz.prog 48 5 15 := ⟨by kernel_rfl⟩
instance : FldI Tryz.prog 46 3 3 := ⟨by kernel_rfl⟩
instance : SlcI Tryz.prog 56 64 7 := ⟨slc_56⟩
instance : FldI Tryz.prog 64 2 5 := ⟨by kernel_rfl⟩
instance : OneI Tryz.prog 62 := ⟨by kernel_rfl⟩
instance : SlcI Tryz.prog 62 107 2 := ⟨slc_62⟩
instance : FldI Tryz.prog 64 0 0 := ⟨by kernel_rfl⟩
instance : OneI Tryz.prog 9 := ⟨one_9⟩
instance : FldI Tryz.prog 64 1 1 := ⟨by kernel_rfl⟩
instance : AggI Tryz.prog 61 4 := ⟨agg_61, by kernel_rfl⟩
instance : SlcI Tryz.prog 75 3 1 := ⟨slc_75⟩
instance : AggI Tryz.prog 149 3 := ⟨agg_149, by kernel_rfl⟩
instance : FldI Tryz.prog 149 2 2 := ⟨by kernel_rfl⟩
instance : FldI Tryz.prog 149 0 0 := ⟨by kernel_rfl⟩
instance : FldI Tryz.prog 149 1 1 := ⟨by kernel_rfl⟩
instance : SlcI Tryz.prog 145 149 3 := ⟨slc_145⟩
instance : AggI Tryz.prog 73 2 := ⟨agg_73, by kernel_rfl⟩
instance : FldI Tryz.prog 73 0 0 := ⟨by kernel_rfl⟩
instance : OneI Tryz.prog 71 := ⟨by kernel_rfl⟩
instance : FldI Tryz.prog 32 0 0 := ⟨fld_32_0⟩
instance : FldI Tryz.prog 40 1 1 := ⟨by kernel_rfl⟩
instance : OneI Tryz.prog 4 := ⟨by kernel_rfl⟩
instance : AggI Tryz.prog 216 28 := ⟨agg_216, by kernel_rfl⟩
instance : AggI Tryz.prog 37 11 := ⟨agg_37, by kernel_rfl⟩
instance : AggI Tryz.prog 34 2 := ⟨agg_34, by kernel_rfl⟩
instance : FldI Tryz.prog 37 1 1 := ⟨by kernel_rfl⟩
instance : FldI Tryz.prog 216 4 26 := ⟨by kernel_rfl⟩
instance : FldI Tryz.prog 216 3 25 := ⟨by kernel_rfl⟩
instance : FldI Tryz.prog 216 1 1 := ⟨by kernel_rfl⟩
instance : FldI Tryz.prog 40 2 2 := ⟨by kernel_rfl⟩
instance : FldI Tryz.prog 40 0 0 := ⟨by kernel_rfl⟩
instance : FldI Tryz.prog 37 0 0 := ⟨by kernel_rfl⟩
instance : AggI Tryz.prog 153 29 := ⟨agg_153, non_153⟩
instance : FldI Tryz.prog 153 5 27 := ⟨by kernel_rfl⟩
instance : FldI Tryz.prog 153 0 0 := ⟨by kernel_rfl⟩
instance : FldI Tryz.prog 153 4 26 := ⟨by kernel_rfl⟩
instance : FldI Tryz.prog 64 3 6 := ⟨by kernel_rfl⟩
instance : AggI Tryz.prog 64 7 := ⟨agg_64, by kernel_rfl⟩
instance : SlcI Tryz.prog 111 5 1 := ⟨slc_111⟩
instance : OneI Tryz.prog 5 := ⟨one_5⟩
instance : OneI Tryz.prog 22 := ⟨by kernel_rfl⟩
instance : FldI Tryz.prog 32 2 2 := ⟨by kernel_rfl⟩
instance : OneI Tryz.prog 75 := ⟨by kernel_rfl⟩
instance : AggI Tryz.prog 66 13 := ⟨agg_66, by kernel_rfl⟩
instance : OneI Tryz.prog 125 := ⟨one_125⟩
instance : SlcI Tryz.prog 125 128 14 := ⟨slc_125⟩
instance : AggI Tryz.prog 107 2 := ⟨agg_107, by kernel_rfl⟩
instance : FldI Tryz.prog 128 1 1 := ⟨by kernel_rfl⟩
instance : FldI Tryz.prog 66 0 0 := ⟨by kernel_rfl⟩
instance : FldI Tryz.prog 107 0 0 := ⟨by kernel_rfl⟩
instance : FldI Tryz.prog 107 1 1 := ⟨by kernel_rfl⟩
instance : OneI Tryz.prog 108 := ⟨one_108⟩
instance : OneI Tryz.prog 56 := ⟨by kernel_rfl⟩
instance : OneI Tryz.prog 114 := ⟨by kernel_rfl⟩
abbrev FZ (f : FuncId) (a : List PV) (r : List Res) : Prop := Abs.Fn globs_Tryz Tryz.prog f a r
end Go.Proofs.YthhdlpggmmfaiaaGreat
