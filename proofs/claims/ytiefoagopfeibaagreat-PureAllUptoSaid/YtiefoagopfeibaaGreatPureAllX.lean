/- A part of the proof that the law PureAll gives true for every input. -/
import Derived.Test.YtiefoagopfeibaaGreatPureAllA5
import Derived.Test.YtiefoagopfeibaaGreatProg
/- Facts about the types of the program. -/
namespace Go.Proofs.YtiefoagopfeibaaGreat
open Go.RowKit Go.Abs
/-- The package variables that are read: their blocks, and what they hold. -/
abbrev ii : List (Nat × List PV) := []
theorem dV : sliceB Tryz.prog 22 32 7 = true := by kernel_rfl
theorem eo : jW Tryz.prog 32 7 = true := by kernel_rfl
theorem oT : cJ Tryz.prog 32 (.agg #[.string ⟨#[]⟩, .slice none 0 0, .string ⟨#[]⟩, .slice none 0 0, .slice none 0 0, .slice none 0 0, .int .i64 0]) := by unfold cJ; kernel_rfl
theorem lN : sliceB Tryz.prog 27 9 1 = true := by kernel_rfl
theorem qd : sliceB Tryz.prog 28 34 2 = true := by kernel_rfl
theorem Kn : jl Tryz.prog 32 4 4 = true := by kernel_rfl
theorem PC : kN Tryz.prog 29 = true := by kernel_rfl
theorem fb : sliceB Tryz.prog 29 99 13 = true := by kernel_rfl
theorem Lz : jl Tryz.prog 32 5 5 = true := by kernel_rfl
theorem Ke : kN Tryz.prog 30 = true := by kernel_rfl
theorem iV : sliceB Tryz.prog 30 40 17 = true := by kernel_rfl
theorem dM : jW Tryz.prog 40 17 = true := by kernel_rfl
theorem pQ : cJ Tryz.prog 40 (.agg #[.string ⟨#[]⟩, .bool false, .int .i64 0, .string ⟨#[]⟩, .int .i64 0, .int .i64 0, .int .i64 0, .int .i64 0, .int .i64 0, .int .i64 0, .int .i64 0, .int .i64 0, .int .i64 0, .slice none 0 0, .slice none 0 0, .slice none 0 0, .int .i64 0]) := by unfold cJ; kernel_rfl
theorem MW : kN Tryz.prog 40 = false := by kernel_rfl
theorem MZ : kN Tryz.prog 38 = true := by kernel_rfl
theorem dW : sliceB Tryz.prog 38 48 23 = true := by kernel_rfl
theorem ws : jl Tryz.prog 99 1 1 = true := by kernel_rfl
theorem re : sf Tryz.prog 35 4 34 2 = true := by kernel_rfl
theorem jB : kN Tryz.prog 3 = true := by kernel_rfl
theorem eu : jW Tryz.prog 48 23 = true := by kernel_rfl
theorem Kw : jl Tryz.prog 48 7 20 = true := by kernel_rfl
theorem Li : jl Tryz.prog 48 8 21 = true := by kernel_rfl
theorem gk : sliceB Tryz.prog 44 46 4 = true := by kernel_rfl
theorem iA : jW Tryz.prog 46 4 = true := by kernel_rfl
theorem fg : cJ Tryz.prog 55 (.agg #[.int .i64 0, .int .i64 0]) := by unfold cJ; kernel_rfl
theorem nu : kN Tryz.prog 9 = true := by kernel_rfl
theorem gG : Tryz.prog.underlying 9 = some .string := by kernel_rfl
theorem xM : cJ Tryz.prog 9 (.string ⟨#[]⟩) := by unfold cJ; kernel_rfl
theorem BC : fu Tryz.prog 171 = true := by kernel_rfl
theorem sA : jW Tryz.prog 34 2 = true := by kernel_rfl
theorem yw : cJ Tryz.prog 48 (.agg #[.int .i64 0, .string ⟨#[]⟩, .string ⟨#[]⟩, .string ⟨#[]⟩, .int .i64 0, .string ⟨#[]⟩, .int .i64 0, .int .i64 0, .int .i64 0, .int .i64 0, .int .i64 0, .int .i64 0, .int .i64 0, .int .i64 0, .int .i64 0, .int .i64 0, .int .i64 0, .string ⟨#[]⟩, .slice none 0 0, .slice none 0 0, .slice none 0 0, .slice none 0 0, .int .i64 0]) := by unfold cJ; kernel_rfl
theorem en : cJ Tryz.prog 37 (.agg #[.int .i64 0, .string ⟨#[]⟩, .int .i64 0, .int .i64 0, .int .i64 0, .int .i64 0, .int .i64 0, .int .i64 0, .int .i64 0, .int .i64 0, .int .i64 0]) := by unfold cJ; kernel_rfl
theorem mw : gd Tryz.prog 37 [(0, 1), (1, 1), (2, 1), (3, 8)] = true := by kernel_rfl
theorem LJ : jl Tryz.prog 48 4 4 = true := by kernel_rfl
theorem cg : jW Tryz.prog 37 11 = true := by kernel_rfl
theorem MR : kN Tryz.prog 37 = false := by kernel_rfl
theorem JR : cJ Tryz.prog 46 (.agg #[.int .i64 0, .int .i64 0, .string ⟨#[]⟩, .slice none 0 0]) := by unfold cJ; kernel_rfl
theorem Jm : gd Tryz.prog 46 [(0, 1), (1, 1), (2, 1), (3, 1)] = true := by kernel_rfl
theorem P5 : eqB Tryz.prog 37 [(.i .i64), .s, (.i .i64), (.i .i64), (.i .i64), (.i .i64), (.i .i64), (.i .i64), (.i .i64), (.i .i64), (.i .i64)] = true := by kernel_rfl
theorem vO : jl Tryz.prog 46 0 0 = true := by kernel_rfl
theorem sb : jl Tryz.prog 46 1 1 = true := by kernel_rfl
theorem wJ : jl Tryz.prog 46 2 2 = true := by kernel_rfl
theorem Rr : fu Tryz.prog 177 = true := by kernel_rfl
theorem mixed : Tryz.prog.follows .mixedOrders = true := by kernel_rfl
theorem rc : cJ Tryz.prog 34 (.agg #[.int .i64 0, .int .i64 0]) := by unfold cJ; kernel_rfl
theorem Kg : kN Tryz.prog 34 = false := by kernel_rfl
theorem zp : gd Tryz.prog 34 [(0, 1), (1, 1)] = true := by kernel_rfl
theorem Tp : eqB Tryz.prog 34 [(.i .i64), (.i .i64)] = true := by kernel_rfl
theorem SC : fu Tryz.prog 179 = true := by kernel_rfl
theorem PK : jW Tryz.prog 35 8 = true := by kernel_rfl
theorem TU : cJ Tryz.prog 35 (.agg #[.int .i64 0, .int .i64 0, .int .i64 0, .int .i64 0, .int .i64 0, .int .i64 0, .int .i64 0, .int .i64 0]) := by unfold cJ; kernel_rfl
theorem Eo : jl Tryz.prog 99 0 0 = true := by kernel_rfl
theorem CW : jl Tryz.prog 32 0 0 = true := by kernel_rfl
theorem S8 : fu Tryz.prog 45 = true := by kernel_rfl
theorem kn : gd Tryz.prog 55 [(0, 1), (1, 1)] = true := by kernel_rfl
theorem fQ : jW Tryz.prog 55 2 = true := by kernel_rfl
theorem Sy : fu Tryz.prog 148 = true := by kernel_rfl
theorem Un : fu Tryz.prog 76 = true := by kernel_rfl
theorem JZ : jW Tryz.prog 99 13 = true := by kernel_rfl
theorem uY : cJ Tryz.prog 99 (.agg #[.string ⟨#[]⟩, .int .i64 0, .string ⟨#[]⟩, .int .i64 0, .int .i64 0, .int .i64 0, .int .i64 0, .int .i64 0, .int .i64 0, .int .i64 0, .int .i64 0, .int .i64 0, .int .i64 0]) := by unfold cJ; kernel_rfl
theorem Lu : jl Tryz.prog 99 2 12 = true := by kernel_rfl
theorem nA : cJ Tryz.prog 235 (.agg #[.int .i64 0, .int .i64 0, .int .i64 0, .int .i64 0, .string ⟨#[]⟩, .int .i64 0, .int .i64 0, .int .i64 0, .int .i64 0, .int .i64 0, .int .i64 0, .int .i64 0, .int .i64 0, .int .i64 0, .int .i64 0]) := by unfold cJ; kernel_rfl
theorem BL : gd Tryz.prog 235 [(0, 1), (1, 1), (2, 1), (3, 11), (14, 1)] = true := by kernel_rfl
theorem ny : sliceB Tryz.prog 232 235 15 = true := by kernel_rfl
theorem BM : nU Tryz.prog 235 128 = true := by kernel_rfl
theorem Ff : nU Tryz.prog 99 120 = true := by kernel_rfl
theorem vr : cJ Tryz.prog 50 (.agg #[.int .i64 0, .int .i64 0, .int .i64 0, .int .i64 0, .string ⟨#[]⟩, .string ⟨#[]⟩, .string ⟨#[]⟩, .int .i64 0, .string ⟨#[]⟩, .int .i64 0, .int .i64 0, .int .i64 0, .int .i64 0, .int .i64 0, .int .i64 0, .int .i64 0, .int .i64 0, .int .i64 0, .int .i64 0, .int .i64 0, .string ⟨#[]⟩, .slice none 0 0, .slice none 0 0, .slice none 0 0, .slice none 0 0, .int .i64 0]) := by unfold cJ; kernel_rfl
theorem Rb : gd Tryz.prog 50 [(0, 1), (1, 1), (2, 1), (3, 23)] = true := by kernel_rfl
theorem zm : jW Tryz.prog 50 26 = true := by kernel_rfl
theorem yU : jl Tryz.prog 50 3 3 = true := by kernel_rfl
theorem nN : sliceB Tryz.prog 25 50 26 = true := by kernel_rfl
theorem JC : nU Tryz.prog 50 312 = true := by kernel_rfl
theorem QK : fu Tryz.prog 22 = true := by kernel_rfl
theorem Lc : jl Tryz.prog 48 9 22 = true := by kernel_rfl
theorem Cj : jl Tryz.prog 55 0 0 = true := by kernel_rfl
theorem DH : kN Tryz.prog 53 = true := by kernel_rfl
theorem SV : nU Tryz.prog 9 16 = true := by kernel_rfl
theorem sM : sliceB Tryz.prog 133 55 2 = true := by kernel_rfl
theorem py : sliceB Tryz.prog 96 3 1 = true := by kernel_rfl
theorem Ui : fu Tryz.prog 78 = true := by kernel_rfl
theorem wc : cJ Tryz.prog 3 (.int .i64 0) := by unfold cJ; kernel_rfl
theorem SN : nU Tryz.prog 3 8 = true := by kernel_rfl
theorem nK : cJ Tryz.prog 62 (.agg #[.string ⟨#[]⟩, .string ⟨#[]⟩, .bool false, .int .i64 0, .string ⟨#[]⟩, .int .i64 0, .int .i64 0, .int .i64 0, .int .i64 0, .int .i64 0, .int .i64 0, .int .i64 0, .int .i64 0, .int .i64 0, .slice none 0 0, .slice none 0 0, .slice none 0 0, .int .i64 0]) := by unfold cJ; kernel_rfl
theorem EN : gd Tryz.prog 62 [(0, 1), (1, 17)] = true := by kernel_rfl
theorem qa : jW Tryz.prog 62 18 = true := by kernel_rfl
theorem Nj : kN Tryz.prog 62 = false := by kernel_rfl
theorem RP : fu Tryz.prog 116 = true := by kernel_rfl
theorem Ku : jl Tryz.prog 40 1 1 = true := by kernel_rfl
theorem Ia : kN Tryz.prog 4 = true := by kernel_rfl
theorem zF : fu Tryz.prog 66 = true := by kernel_rfl
theorem OW : Tryz.prog.underlying 4 = some .bool := by kernel_rfl
theorem Sn : fu Tryz.prog 151 = true := by kernel_rfl
theorem Uu : nU Tryz.prog 55 16 = true := by kernel_rfl
theorem QX : cJ Tryz.prog 42 (.agg #[.slice none 0 0, .string ⟨#[]⟩, .slice none 0 0, .string ⟨#[]⟩, .slice none 0 0, .slice none 0 0, .slice none 0 0, .int .i64 0, .string ⟨#[]⟩, .bool false, .int .i64 0, .string ⟨#[]⟩, .int .i64 0, .int .i64 0, .int .i64 0, .int .i64 0, .int .i64 0, .int .i64 0, .int .i64 0, .int .i64 0, .int .i64 0, .slice none 0 0, .slice none 0 0, .slice none 0 0, .int .i64 0]) := by unfold cJ; kernel_rfl
theorem TQ : gd Tryz.prog 42 [(0, 1), (1, 7), (8, 17)] = true := by kernel_rfl
theorem mJ : jW Tryz.prog 42 25 = true := by kernel_rfl
theorem Qn : kN Tryz.prog 42 = false := by kernel_rfl
theorem UE : fu Tryz.prog 9 = true := by kernel_rfl
theorem Rc : nU Tryz.prog 34 16 = true := by kernel_rfl
theorem RM : fu Tryz.prog 124 = true := by kernel_rfl
theorem RR : fu Tryz.prog 120 = true := by kernel_rfl
theorem wY : cJ Tryz.prog 179 (.agg #[.string ⟨#[]⟩, .string ⟨#[]⟩, .int .i64 0, .string ⟨#[]⟩, .int .i64 0, .int .i64 0, .int .i64 0, .int .i64 0, .int .i64 0, .int .i64 0, .int .i64 0, .int .i64 0, .int .i64 0, .int .i64 0]) := by unfold cJ; kernel_rfl
theorem Oe : gd Tryz.prog 179 [(0, 1), (1, 13)] = true := by kernel_rfl
theorem zd : sliceB Tryz.prog 209 179 14 = true := by kernel_rfl
theorem RE : nU Tryz.prog 179 136 = true := by kernel_rfl
theorem BT : jW Tryz.prog 179 14 = true := by kernel_rfl
theorem TW : fu Tryz.prog 36 = true := by kernel_rfl
theorem LM : sQ Tryz.prog 55 0 53 0 = true := by kernel_rfl
theorem Ut : cJ Tryz.prog 75 (.slice none 0 0) := by unfold cJ; kernel_rfl
theorem MQ : fu Tryz.prog 93 = true := by kernel_rfl
theorem Np : kN Tryz.prog 75 = true := by kernel_rfl
theorem Kf : cJ Tryz.prog 77 (.agg #[.int .i64 0, .int .i64 0, .int .i64 0, .int .i64 0, .string ⟨#[]⟩, .string ⟨#[]⟩, .string ⟨#[]⟩, .int .i64 0, .string ⟨#[]⟩, .int .i64 0, .int .i64 0, .int .i64 0, .int .i64 0, .int .i64 0, .int .i64 0, .int .i64 0, .int .i64 0, .int .i64 0, .int .i64 0, .int .i64 0, .string ⟨#[]⟩, .slice none 0 0, .slice none 0 0, .slice none 0 0, .slice none 0 0, .int .i64 0]) := by unfold cJ; kernel_rfl
theorem TC : gd Tryz.prog 77 [(0, 1), (1, 1), (2, 1), (3, 23)] = true := by kernel_rfl
theorem Jl : sliceB Tryz.prog 75 77 26 = true := by kernel_rfl
theorem S9 : nU Tryz.prog 77 312 = true := by kernel_rfl
theorem Ua : fu Tryz.prog 92 = true := by kernel_rfl
theorem Qb : jW Tryz.prog 77 26 = true := by kernel_rfl
theorem wE : cJ Tryz.prog 71 (.agg #[.string ⟨#[]⟩, .string ⟨#[]⟩, .bool false, .int .i64 0, .string ⟨#[]⟩, .int .i64 0, .int .i64 0, .int .i64 0, .int .i64 0, .int .i64 0, .int .i64 0, .int .i64 0, .int .i64 0, .int .i64 0, .slice none 0 0, .slice none 0 0, .slice none 0 0, .int .i64 0]) := by unfold cJ; kernel_rfl
theorem Sf : cJ Tryz.prog 114 (.agg #[.slice none 0 0, .string ⟨#[]⟩, .slice none 0 0, .string ⟨#[]⟩, .slice none 0 0, .slice none 0 0, .slice none 0 0, .int .i64 0, .string ⟨#[]⟩, .bool false, .int .i64 0, .string ⟨#[]⟩, .int .i64 0, .int .i64 0, .int .i64 0, .int .i64 0, .int .i64 0, .int .i64 0, .int .i64 0, .int .i64 0, .int .i64 0, .slice none 0 0, .slice none 0 0, .slice none 0 0, .int .i64 0, .int .i64 0, .string ⟨#[]⟩, .string ⟨#[]⟩, .string ⟨#[]⟩, .int .i64 0, .string ⟨#[]⟩, .int .i64 0, .int .i64 0, .int .i64 0, .int .i64 0, .int .i64 0, .int .i64 0, .int .i64 0, .int .i64 0, .int .i64 0, .int .i64 0, .int .i64 0, .string ⟨#[]⟩, .slice none 0 0, .slice none 0 0, .slice none 0 0, .slice none 0 0, .int .i64 0, .int .i64 0, .string ⟨#[]⟩, .int .i64 0, .int .i64 0, .int .i64 0, .int .i64 0, .int .i64 0, .int .i64 0, .int .i64 0, .int .i64 0, .int .i64 0, .int .i64 0, .string ⟨#[]⟩, .int .i64 0, .int .i64 0, .int .i64 0, .int .i64 0, .int .i64 0, .int .i64 0, .int .i64 0, .int .i64 0, .int .i64 0]) := by unfold cJ; kernel_rfl
theorem Sq : gd Tryz.prog 114 [(0, 1), (1, 7), (8, 17), (25, 23), (48, 11), (59, 11)] = true := by kernel_rfl
theorem Rq : fu Tryz.prog 137 = true := by kernel_rfl
theorem Od : fu Tryz.prog 138 = true := by kernel_rfl
theorem Ow : fu Tryz.prog 139 = true := by kernel_rfl
theorem Uf : cJ Tryz.prog 29 (.slice none 0 0) := by unfold cJ; kernel_rfl
theorem Bv : sliceB Tryz.prog 223 29 1 = true := by kernel_rfl
theorem SR : Tryz.prog.underlying 3 = some (.int .i64) := by kernel_rfl
theorem Tn : fu Tryz.prog 54 = true := by kernel_rfl
theorem Tq : fu Tryz.prog 46 = true := by kernel_rfl
theorem QN : gd Tryz.prog 71 [(0, 1), (1, 17)] = true := by kernel_rfl
theorem tC : jW Tryz.prog 71 18 = true := by kernel_rfl
theorem CQ : kN Tryz.prog 71 = false := by kernel_rfl
theorem Tu : cJ Tryz.prog 96 (.slice none 0 0) := by unfold cJ; kernel_rfl
theorem Tw : fu Tryz.prog 96 = true := by kernel_rfl
theorem Ti : fu Tryz.prog 95 = true := by kernel_rfl
theorem Ud : fu Tryz.prog 51 = true := by kernel_rfl
theorem Sj : fu Tryz.prog 135 = true := by kernel_rfl
theorem NI : fu Tryz.prog 136 = true := by kernel_rfl
theorem SI : cJ Tryz.prog 4 (.bool false) := by unfold cJ; kernel_rfl
theorem Su : cJ Tryz.prog 192 (.agg #[.string ⟨#[]⟩, .bool false, .int .i64 0, .string ⟨#[]⟩, .int .i64 0, .int .i64 0, .int .i64 0, .int .i64 0, .int .i64 0, .int .i64 0, .int .i64 0, .int .i64 0, .int .i64 0, .slice none 0 0, .slice none 0 0, .slice none 0 0, .int .i64 0, .int .i64 0]) := by unfold cJ; kernel_rfl
theorem RK : gd Tryz.prog 192 [(0, 17), (17, 1)] = true := by kernel_rfl
theorem Sk : fu Tryz.prog 134 = true := by kernel_rfl
theorem RF : fu Tryz.prog 133 = true := by kernel_rfl
theorem PW : fu Tryz.prog 47 = true := by kernel_rfl
theorem jz : cJ Tryz.prog 105 (.agg #[.int .i64 0, .string ⟨#[]⟩, .int .i64 0]) := by unfold cJ; kernel_rfl
theorem yW : gd Tryz.prog 105 [(0, 1), (1, 1), (2, 1)] = true := by kernel_rfl
theorem gW : jW Tryz.prog 105 3 = true := by kernel_rfl
theorem UO : Tryz.prog.underlying 5 = some (.int .u8) := by kernel_rfl
theorem xn : sliceB Tryz.prog 101 105 3 = true := by kernel_rfl
theorem Ox : nU Tryz.prog 105 32 = true := by kernel_rfl
theorem Ux : fu Tryz.prog 82 = true := by kernel_rfl
theorem xg : sQ Tryz.prog 105 0 3 0 = true := by kernel_rfl
theorem PD : fu Tryz.prog 83 = true := by kernel_rfl
theorem jX : cJ Tryz.prog 109 (.agg #[.string ⟨#[]⟩, .slice none 0 0, .string ⟨#[]⟩, .slice none 0 0, .slice none 0 0, .slice none 0 0, .int .i64 0, .string ⟨#[]⟩, .bool false, .int .i64 0, .string ⟨#[]⟩, .int .i64 0, .int .i64 0, .int .i64 0, .int .i64 0, .int .i64 0, .int .i64 0, .int .i64 0, .int .i64 0, .int .i64 0, .slice none 0 0, .slice none 0 0, .slice none 0 0, .int .i64 0, .slice none 0 0, .slice none 0 0, .int .i64 0, .int .i64 0, .int .i64 0]) := by unfold cJ; kernel_rfl
theorem zA : sQ Tryz.prog 105 2 3 2 = true := by kernel_rfl
theorem TN : gd Tryz.prog 32 [(0, 1), (1, 1), (2, 1), (3, 1), (4, 1), (5, 1), (6, 1)] = true := by kernel_rfl
theorem zt : sQ Tryz.prog 105 1 9 1 = true := by kernel_rfl
theorem TV : gd Tryz.prog 40 [(0, 1), (1, 1), (2, 11), (13, 1), (14, 1), (15, 1), (16, 1)] = true := by kernel_rfl
theorem BQ : cJ Tryz.prog 186 (.agg #[.slice none 0 0, .int .i64 0, .string ⟨#[]⟩, .int .i64 0, .int .i64 0, .int .i64 0, .int .i64 0, .int .i64 0, .int .i64 0, .int .i64 0, .int .i64 0, .int .i64 0, .string ⟨#[]⟩, .int .i64 0, .string ⟨#[]⟩, .int .i64 0, .int .i64 0, .int .i64 0, .int .i64 0, .int .i64 0, .int .i64 0, .int .i64 0, .int .i64 0, .int .i64 0, .int .i64 0, .int .i64 0, .int .i64 0, .int .i64 0]) := by unfold cJ; kernel_rfl
theorem Ot : gd Tryz.prog 186 [(0, 1), (1, 11), (12, 13), (25, 1), (26, 2)] = true := by kernel_rfl
theorem Jr : jW Tryz.prog 186 28 = true := by kernel_rfl
theorem xi : gd Tryz.prog 109 [(0, 7), (7, 17), (24, 1), (25, 1), (26, 1), (27, 2)] = true := by kernel_rfl
theorem sO : jW Tryz.prog 109 29 = true := by kernel_rfl
theorem NY : kN Tryz.prog 109 = false := by kernel_rfl
theorem PN : sQ Tryz.prog 34 0 3 0 = true := by kernel_rfl
theorem sF : cJ Tryz.prog 220 (.agg #[.int .i64 0, .string ⟨#[]⟩, .string ⟨#[]⟩, .string ⟨#[]⟩, .int .i64 0, .string ⟨#[]⟩, .int .i64 0, .int .i64 0, .int .i64 0, .int .i64 0, .int .i64 0, .int .i64 0, .int .i64 0, .int .i64 0, .int .i64 0, .int .i64 0, .int .i64 0, .string ⟨#[]⟩, .slice none 0 0, .slice none 0 0, .slice none 0 0, .slice none 0 0, .int .i64 0, .slice none 0 0, .slice none 0 0, .int .i64 0, .int .i64 0, .int .i64 0]) := by unfold cJ; kernel_rfl
theorem Uq : gd Tryz.prog 48 [(0, 1), (1, 1), (2, 1), (3, 1), (4, 11), (15, 4), (19, 1), (20, 1), (21, 1), (22, 1)] = true := by kernel_rfl
theorem OE : gd Tryz.prog 220 [(0, 23), (23, 1), (24, 1), (25, 1), (26, 2)] = true := by kernel_rfl
theorem wX : jW Tryz.prog 220 28 = true := by kernel_rfl
theorem sH : cJ Tryz.prog 247 (.agg #[.int .i64 0, .int .i64 0, .string ⟨#[]⟩, .slice none 0 0, .int .i64 0, .int .i64 0, .int .i64 0]) := by unfold cJ; kernel_rfl
theorem Ru : gd Tryz.prog 247 [(0, 4), (4, 1), (5, 2)] = true := by kernel_rfl
theorem ur : jW Tryz.prog 247 7 = true := by kernel_rfl
theorem TK : cJ Tryz.prog 27 (.slice none 0 0) := by unfold cJ; kernel_rfl
theorem Jp : sliceB Tryz.prog 258 27 1 = true := by kernel_rfl
theorem Tl : nU Tryz.prog 48 288 = true := by kernel_rfl
theorem Sr : fu Tryz.prog 132 = true := by kernel_rfl
theorem Ug : nU Tryz.prog 40 200 = true := by kernel_rfl
theorem Ta : gd Tryz.prog 99 [(0, 1), (1, 11), (12, 1)] = true := by kernel_rfl
theorem Uv : fu Tryz.prog 87 = true := by kernel_rfl
theorem TH : nU Tryz.prog 32 136 = true := by kernel_rfl
theorem Tc : eqB Tryz.prog 55 [(.i .i64), (.i .i64)] = true := by kernel_rfl
theorem pz : C8 Tryz.prog 79 59 3 3 = true := by kernel_rfl
theorem Ul : cJ Tryz.prog 81 (.agg #[.slice none 0 0, .map none, .slice none 0 0]) := by unfold cJ; kernel_rfl
theorem TL : gd Tryz.prog 81 [(0, 1), (1, 1), (2, 1)] = true := by kernel_rfl
theorem Tb : fu Tryz.prog 50 = true := by kernel_rfl
theorem Ur : fu Tryz.prog 53 = true := by kernel_rfl
theorem TB : fu Tryz.prog 52 = true := by kernel_rfl
theorem yj : sf Tryz.prog 59 2 3 1 = true := by kernel_rfl
theorem J5 : cJ Tryz.prog 59 (.agg #[.int .i64 0, .int .i64 0]) := by unfold cJ; kernel_rfl
theorem JW : jW Tryz.prog 59 2 = true := by kernel_rfl
theorem MJ : kN Tryz.prog 57 = true := by kernel_rfl
theorem tI : sliceB Tryz.prog 57 59 2 = true := by kernel_rfl
theorem Uy : nU Tryz.prog 59 16 = true := by kernel_rfl
theorem QY : fu Tryz.prog 26 = true := by kernel_rfl
theorem MU : fu Tryz.prog 27 = true := by kernel_rfl
theorem TI : fu Tryz.prog 28 = true := by kernel_rfl
instance : SlcI Tryz.prog 22 32 7 := ⟨dV⟩
instance : AggI Tryz.prog 32 7 := ⟨eo, by kernel_rfl⟩
instance : FldI Tryz.prog 32 1 1 := ⟨by kernel_rfl⟩
instance : OneI Tryz.prog 27 := ⟨by kernel_rfl⟩
instance : SlcI Tryz.prog 27 9 1 := ⟨lN⟩
instance : FldI Tryz.prog 32 3 3 := ⟨by kernel_rfl⟩
instance : OneI Tryz.prog 28 := ⟨by kernel_rfl⟩
instance : SlcI Tryz.prog 28 34 2 := ⟨qd⟩
instance : FldI Tryz.prog 32 4 4 := ⟨Kn⟩
instance : OneI Tryz.prog 29 := ⟨PC⟩
instance : SlcI Tryz.prog 29 99 13 := ⟨fb⟩
instance : FldI Tryz.prog 32 5 5 := ⟨Lz⟩
instance : OneI Tryz.prog 30 := ⟨Ke⟩
instance : SlcI Tryz.prog 30 40 17 := ⟨iV⟩
instance : AggI Tryz.prog 40 17 := ⟨dM, MW⟩
instance : FldI Tryz.prog 40 3 13 := ⟨by kernel_rfl⟩
instance : FldI Tryz.prog 40 4 14 := ⟨by kernel_rfl⟩
instance : FldI Tryz.prog 40 5 15 := ⟨by kernel_rfl⟩
instance : OneI Tryz.prog 38 := ⟨MZ⟩
instance : SlcI Tryz.prog 38 48 23 := ⟨dW⟩
instance : FldI Tryz.prog 99 1 1 := ⟨ws⟩
instance : FldI Tryz.prog 37 3 3 := ⟨by kernel_rfl⟩
instance : FldI Tryz.prog 34 0 0 := ⟨by kernel_rfl⟩
instance : OneI Tryz.prog 3 := ⟨jB⟩
instance : AggI Tryz.prog 48 23 := ⟨eu, by kernel_rfl⟩
instance : FldI Tryz.prog 48 7 20 := ⟨Kw⟩
instance : FldI Tryz.prog 48 8 21 := ⟨Li⟩
instance : FldI Tryz.prog 48 6 19 := ⟨by kernel_rfl⟩
instance : OneI Tryz.prog 44 := ⟨by kernel_rfl⟩
instance : SlcI Tryz.prog 44 46 4 := ⟨gk⟩
instance : FldI Tryz.prog 48 5 15 := ⟨by kernel_rfl⟩
instance : AggI Tryz.prog 46 4 := ⟨iA, by kernel_rfl⟩
instance : FldI Tryz.prog 46 3 3 := ⟨by kernel_rfl⟩
instance : OneI Tryz.prog 9 := ⟨nu⟩
instance : AggI Tryz.prog 34 2 := ⟨sA, Kg⟩
instance : FldI Tryz.prog 34 1 1 := ⟨by kernel_rfl⟩
instance : FldI Tryz.prog 48 0 0 := ⟨by kernel_rfl⟩
instance : FldI Tryz.prog 48 1 1 := ⟨by kernel_rfl⟩
instance : FldI Tryz.prog 48 2 2 := ⟨by kernel_rfl⟩
instance : FldI Tryz.prog 48 3 3 := ⟨by kernel_rfl⟩
instance : FldI Tryz.prog 48 4 4 := ⟨LJ⟩
instance : AggI Tryz.prog 37 11 := ⟨cg, MR⟩
instance : FldI Tryz.prog 46 0 0 := ⟨vO⟩
instance : FldI Tryz.prog 46 1 1 := ⟨sb⟩
instance : FldI Tryz.prog 46 2 2 := ⟨wJ⟩
instance : FldI Tryz.prog 37 0 0 := ⟨by kernel_rfl⟩
instance : FldI Tryz.prog 37 1 1 := ⟨by kernel_rfl⟩
instance : FldI Tryz.prog 37 2 2 := ⟨by kernel_rfl⟩
instance : FldI Tryz.prog 40 0 0 := ⟨by kernel_rfl⟩
instance : FldI Tryz.prog 40 2 2 := ⟨by kernel_rfl⟩
instance : AggI Tryz.prog 35 8 := ⟨PK, by kernel_rfl⟩
instance : FldI Tryz.prog 99 0 0 := ⟨Eo⟩
instance : FldI Tryz.prog 32 0 0 := ⟨CW⟩
instance : FldI Tryz.prog 32 2 2 := ⟨by kernel_rfl⟩
instance : AggI Tryz.prog 55 2 := ⟨fQ, by kernel_rfl⟩
instance : FldI Tryz.prog 32 6 6 := ⟨by kernel_rfl⟩
instance : AggI Tryz.prog 99 13 := ⟨JZ, by kernel_rfl⟩
instance : FldI Tryz.prog 99 2 12 := ⟨Lu⟩
instance : SlcI Tryz.prog 232 235 15 := ⟨ny⟩
instance : FldI Tryz.prog 40 6 16 := ⟨by kernel_rfl⟩
instance : AggI Tryz.prog 50 26 := ⟨zm, by kernel_rfl⟩
instance : FldI Tryz.prog 50 3 3 := ⟨yU⟩
instance : SlcI Tryz.prog 25 50 26 := ⟨nN⟩
instance : FldI Tryz.prog 50 2 2 := ⟨by kernel_rfl⟩
instance : FldI Tryz.prog 48 9 22 := ⟨Lc⟩
instance : FldI Tryz.prog 235 3 3 := ⟨by kernel_rfl⟩
instance : FldI Tryz.prog 235 4 14 := ⟨by kernel_rfl⟩
instance : FldI Tryz.prog 55 0 0 := ⟨Cj⟩
instance : OneI Tryz.prog 53 := ⟨DH⟩
instance : SlcI Tryz.prog 133 55 2 := ⟨sM⟩
instance : SlcI Tryz.prog 96 3 1 := ⟨py⟩
instance : AggI Tryz.prog 62 18 := ⟨qa, Nj⟩
instance : FldI Tryz.prog 62 1 1 := ⟨by kernel_rfl⟩
instance : FldI Tryz.prog 40 1 1 := ⟨Ku⟩
instance : OneI Tryz.prog 4 := ⟨Ia⟩
instance : FldI Tryz.prog 50 0 0 := ⟨by kernel_rfl⟩
instance : FldI Tryz.prog 50 1 1 := ⟨by kernel_rfl⟩
instance : AggI Tryz.prog 42 25 := ⟨mJ, Qn⟩
instance : FldI Tryz.prog 42 1 1 := ⟨by kernel_rfl⟩
instance : FldI Tryz.prog 42 2 8 := ⟨by kernel_rfl⟩
instance : FldI Tryz.prog 42 0 0 := ⟨by kernel_rfl⟩
instance : OneI Tryz.prog 22 := ⟨by kernel_rfl⟩
instance : SlcI Tryz.prog 209 179 14 := ⟨zd⟩
instance : FldI Tryz.prog 179 1 1 := ⟨by kernel_rfl⟩
instance : AggI Tryz.prog 179 14 := ⟨BT, by kernel_rfl⟩
instance : OneI Tryz.prog 75 := ⟨Np⟩
instance : SlcI Tryz.prog 75 77 26 := ⟨Jl⟩
instance : AggI Tryz.prog 77 26 := ⟨Qb, by kernel_rfl⟩
instance : FldI Tryz.prog 77 0 0 := ⟨by kernel_rfl⟩
instance : FldI Tryz.prog 77 1 1 := ⟨by kernel_rfl⟩
instance : FldI Tryz.prog 77 3 3 := ⟨by kernel_rfl⟩
instance : FldI Tryz.prog 114 1 1 := ⟨by kernel_rfl⟩
instance : FldI Tryz.prog 114 2 8 := ⟨by kernel_rfl⟩
instance : FldI Tryz.prog 114 3 25 := ⟨by kernel_rfl⟩
instance : SlcI Tryz.prog 223 29 1 := ⟨Bv⟩
instance : FldI Tryz.prog 114 5 59 := ⟨by kernel_rfl⟩
instance : AggI Tryz.prog 71 18 := ⟨tC, CQ⟩
instance : OneI Tryz.prog 96 := ⟨by kernel_rfl⟩
instance : FldI Tryz.prog 192 0 0 := ⟨by kernel_rfl⟩
instance : FldI Tryz.prog 192 1 17 := ⟨by kernel_rfl⟩
instance : FldI Tryz.prog 71 0 0 := ⟨by kernel_rfl⟩
instance : FldI Tryz.prog 71 1 1 := ⟨by kernel_rfl⟩
instance : AggI Tryz.prog 105 3 := ⟨gW, by kernel_rfl⟩
instance : FldI Tryz.prog 105 2 2 := ⟨by kernel_rfl⟩
instance : FldI Tryz.prog 105 0 0 := ⟨by kernel_rfl⟩
instance : FldI Tryz.prog 105 1 1 := ⟨by kernel_rfl⟩
instance : SlcI Tryz.prog 101 105 3 := ⟨xn⟩
instance : AggI Tryz.prog 186 28 := ⟨Jr, by kernel_rfl⟩
instance : FldI Tryz.prog 186 4 26 := ⟨by kernel_rfl⟩
instance : FldI Tryz.prog 186 3 25 := ⟨by kernel_rfl⟩
instance : FldI Tryz.prog 186 1 1 := ⟨by kernel_rfl⟩
instance : AggI Tryz.prog 109 29 := ⟨sO, NY⟩
instance : FldI Tryz.prog 109 5 27 := ⟨by kernel_rfl⟩
instance : FldI Tryz.prog 109 2 24 := ⟨by kernel_rfl⟩
instance : FldI Tryz.prog 109 4 26 := ⟨by kernel_rfl⟩
instance : AggI Tryz.prog 220 28 := ⟨wX, by kernel_rfl⟩
instance : FldI Tryz.prog 220 4 26 := ⟨by kernel_rfl⟩
instance : FldI Tryz.prog 220 2 24 := ⟨by kernel_rfl⟩
instance : FldI Tryz.prog 220 3 25 := ⟨by kernel_rfl⟩
instance : AggI Tryz.prog 247 7 := ⟨ur, by kernel_rfl⟩
instance : FldI Tryz.prog 247 2 5 := ⟨by kernel_rfl⟩
instance : FldI Tryz.prog 247 1 4 := ⟨by kernel_rfl⟩
instance : SlcI Tryz.prog 258 27 1 := ⟨Jp⟩
instance : FldI Tryz.prog 247 0 0 := ⟨by kernel_rfl⟩
instance : FldI Tryz.prog 220 0 0 := ⟨by kernel_rfl⟩
instance : FldI Tryz.prog 109 1 7 := ⟨by kernel_rfl⟩
instance : FldI Tryz.prog 109 0 0 := ⟨by kernel_rfl⟩
instance : FldI Tryz.prog 81 0 0 := ⟨by kernel_rfl⟩
instance : AggI Tryz.prog 59 2 := ⟨JW, by kernel_rfl⟩
instance : FldI Tryz.prog 81 1 1 := ⟨by kernel_rfl⟩
instance : OneI Tryz.prog 79 := ⟨by kernel_rfl⟩
instance : FldI Tryz.prog 81 2 2 := ⟨by kernel_rfl⟩
instance : OneI Tryz.prog 57 := ⟨MJ⟩
instance : SlcI Tryz.prog 57 59 2 := ⟨tI⟩
abbrev FZ (f : FuncId) (a : List PV) (r : List Res) : Prop := Abs.Fn ii Tryz.prog f a r
end Go.Proofs.YtiefoagopfeibaaGreat
