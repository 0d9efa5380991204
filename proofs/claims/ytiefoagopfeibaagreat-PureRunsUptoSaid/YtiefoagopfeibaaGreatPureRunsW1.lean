/- A part of the proof that the law PureRuns gives true for every input. -/
import Derived.Test.YtiefoagopfeibaaGreatPureRunsT
import Derived.Test.YtiefoagopfeibaaGreatPureRunsB
import Derived.Test.YtiefoagopfeibaaGreatPureRunsX
import Derived.Test.YtiefoagopfeibaaGreatPureRunsI
import Derived.Test.YtiefoagopfeibaaGreatPureRunsW0
/- Each Go function computes its plain function. -/
namespace Go.Proofs.YtiefoagopfeibaaGreat
open Go.RowKit Go.Abs
set_option maxRecDepth 100000
set_option maxHeartbeats 4000000
theorem ref09_member_ok {a0 : List GToken} {a1 : Int} {a2_0 : List UInt8} {a2_1 : List (List UInt8)} {a2_2 : List UInt8} {a2_3 : List GOwner} {a2_6 : Int} {a3 : Int} {b0 : List GVar} {b1 : List GMethod} {r : (List UInt8) × (List (List UInt8)) × (List UInt8) × (List GOwner) × (List GVar) × (List GMethod) × Int × (List UInt8) × Bool × Int × (List UInt8) × Int × Int × Int × Int × Int × Int × Int × Int × Int × (List GVar) × (List GVar) × (List GStmt) × Int × (List GVar) × (List (List UInt8)) × Int × Int × Int} (hF : ref09_member a0 a1 a2_0 a2_1 a2_2 a2_3 a2_6 a3 b0 b1 = some r) : Abs.FnW globs_Tryz Tryz.prog 87 [.pv (.vs 3 (List.map eGToken a0)), .pv (.int .i64 a1), .agg [.pv (.str a2_0), .pv (.vs 1 (List.map eS a2_1)), .pv (.str a2_2), .pv (.vs 2 (List.map eGOwner a2_3)), .ls 0, .ls 1, .pv (.int .i64 a2_6)], .pv (.int .i64 a3)] [(0, some (.row 99 13 (List.map eGVar b0))), (1, some (.row 40 17 (List.map eGMethod b1)))] 2 [] [.agg [.pv (.str r.1), .pv (.vs 1 (List.map eS r.2.1)), .pv (.str r.2.2.1), .pv (.vs 2 (List.map eGOwner r.2.2.2.1)), .ls 1, .ls 2, .pv (.int .i64 r.2.2.2.2.2.2.1), .pv (.str r.2.2.2.2.2.2.2.1), .pv (.bool r.2.2.2.2.2.2.2.2.1), .pv (.int .i64 r.2.2.2.2.2.2.2.2.2.1), .pv (.str r.2.2.2.2.2.2.2.2.2.2.1), .pv (.int .i64 r.2.2.2.2.2.2.2.2.2.2.2.1), .pv (.int .i64 r.2.2.2.2.2.2.2.2.2.2.2.2.1), .pv (.int .i64 r.2.2.2.2.2.2.2.2.2.2.2.2.2.1), .pv (.int .i64 r.2.2.2.2.2.2.2.2.2.2.2.2.2.2.1), .pv (.int .i64 r.2.2.2.2.2.2.2.2.2.2.2.2.2.2.2.1), .pv (.int .i64 r.2.2.2.2.2.2.2.2.2.2.2.2.2.2.2.2.1), .pv (.int .i64 r.2.2.2.2.2.2.2.2.2.2.2.2.2.2.2.2.2.1), .pv (.int .i64 r.2.2.2.2.2.2.2.2.2.2.2.2.2.2.2.2.2.2.1), .pv (.int .i64 r.2.2.2.2.2.2.2.2.2.2.2.2.2.2.2.2.2.2.2.1), .pv (.vs 13 (List.map eGVar r.2.2.2.2.2.2.2.2.2.2.2.2.2.2.2.2.2.2.2.2.1)), .pv (.vs 13 (List.map eGVar r.2.2.2.2.2.2.2.2.2.2.2.2.2.2.2.2.2.2.2.2.2.1)), .ls 3, .pv (.int .i64 r.2.2.2.2.2.2.2.2.2.2.2.2.2.2.2.2.2.2.2.2.2.2.2.1), .pv (.vs 13 (List.map eGVar r.2.2.2.2.2.2.2.2.2.2.2.2.2.2.2.2.2.2.2.2.2.2.2.2.1)), .pv (.vs 1 (List.map eS r.2.2.2.2.2.2.2.2.2.2.2.2.2.2.2.2.2.2.2.2.2.2.2.2.2.1)), .pv (.int .i64 r.2.2.2.2.2.2.2.2.2.2.2.2.2.2.2.2.2.2.2.2.2.2.2.2.2.2.1), .pv (.int .i64 r.2.2.2.2.2.2.2.2.2.2.2.2.2.2.2.2.2.2.2.2.2.2.2.2.2.2.2.1), .pv (.int .i64 r.2.2.2.2.2.2.2.2.2.2.2.2.2.2.2.2.2.2.2.2.2.2.2.2.2.2.2.2)]] [(0, some (.box 109 [.pv (.str r.1), .pv (.vs 1 (List.map eS r.2.1)), .pv (.str r.2.2.1), .pv (.vs 2 (List.map eGOwner r.2.2.2.1)), .ls 1, .ls 2, .pv (.int .i64 r.2.2.2.2.2.2.1), .pv (.str r.2.2.2.2.2.2.2.1), .pv (.bool r.2.2.2.2.2.2.2.2.1), .pv (.int .i64 r.2.2.2.2.2.2.2.2.2.1), .pv (.str r.2.2.2.2.2.2.2.2.2.2.1), .pv (.int .i64 r.2.2.2.2.2.2.2.2.2.2.2.1), .pv (.int .i64 r.2.2.2.2.2.2.2.2.2.2.2.2.1), .pv (.int .i64 r.2.2.2.2.2.2.2.2.2.2.2.2.2.1), .pv (.int .i64 r.2.2.2.2.2.2.2.2.2.2.2.2.2.2.1), .pv (.int .i64 r.2.2.2.2.2.2.2.2.2.2.2.2.2.2.2.1), .pv (.int .i64 r.2.2.2.2.2.2.2.2.2.2.2.2.2.2.2.2.1), .pv (.int .i64 r.2.2.2.2.2.2.2.2.2.2.2.2.2.2.2.2.2.1), .pv (.int .i64 r.2.2.2.2.2.2.2.2.2.2.2.2.2.2.2.2.2.2.1), .pv (.int .i64 r.2.2.2.2.2.2.2.2.2.2.2.2.2.2.2.2.2.2.2.1), .pv (.vs 13 (List.map eGVar r.2.2.2.2.2.2.2.2.2.2.2.2.2.2.2.2.2.2.2.2.1)), .pv (.vs 13 (List.map eGVar r.2.2.2.2.2.2.2.2.2.2.2.2.2.2.2.2.2.2.2.2.2.1)), .ls 3, .pv (.int .i64 r.2.2.2.2.2.2.2.2.2.2.2.2.2.2.2.2.2.2.2.2.2.2.2.1), .pv (.vs 13 (List.map eGVar r.2.2.2.2.2.2.2.2.2.2.2.2.2.2.2.2.2.2.2.2.2.2.2.2.1)), .pv (.vs 1 (List.map eS r.2.2.2.2.2.2.2.2.2.2.2.2.2.2.2.2.2.2.2.2.2.2.2.2.2.1)), .pv (.int .i64 r.2.2.2.2.2.2.2.2.2.2.2.2.2.2.2.2.2.2.2.2.2.2.2.2.2.2.1), .pv (.int .i64 r.2.2.2.2.2.2.2.2.2.2.2.2.2.2.2.2.2.2.2.2.2.2.2.2.2.2.2.1), .pv (.int .i64 r.2.2.2.2.2.2.2.2.2.2.2.2.2.2.2.2.2.2.2.2.2.2.2.2.2.2.2.2)])), (1, some (.row 99 13 (List.map eGVar r.2.2.2.2.1))), (2, some (.row 40 17 (List.map eGMethod r.2.2.2.2.2.1))), (3, some (.row 48 23 (eLGStmt r.2.2.2.2.2.2.2.2.2.2.2.2.2.2.2.2.2.2.2.2.2.2.1)))] 4 := by
 unfold ref09_member at hF
 refine fnW_of_body (n := 131) (m := 2) [] Tryz.func87 rfl rfl rfl ?_
 intro c w O θ hcx
 refine go ?_
 refine rgp (bo 2) ?_
 refine rgp (al 3 (eGGot_ref09 zGGot_ref09) zer_109) ?_
 iterate 4 refine go ?_
 obtain ⟨y3, h4, hF⟩ := bs hF
 refine rgp (cl 4 [.vs 3 (List.map eGToken a0), .int .i64 a1] [.p (.agg (eGToken y3))] (ref09_tok_ok h4)) ?_
 refine rgp (op_field1 (p := .int .i64 y3.fAt) rfl rfl ftb_105_2 one_3 rfl rfl rfl) ?_
 iterate 6 refine go ?_
 obtain ⟨y7, h8, hF⟩ := bs hF
 refine rgp (cl 4 [.vs 3 (List.map eGToken a0), .int .i64 a1, .str [112, 117, 114, 101]] [.p (.bool y7)] (ref09_is_ok h8)) ?_
 refine rgp (op_buildM (zs := [.str zGMethod.fName, .bool zGMethod.fPure, .int .i64 zGMethod.fRet.fKind, .str zGMethod.fRet.fClass, .int .i64 zGMethod.fRet.fN, .int .i64 zGMethod.fRet.fOwn.a0.fKind, .int .i64 zGMethod.fRet.fOwn.a0.fN, .int .i64 zGMethod.fRet.fOwn.a1.fKind, .int .i64 zGMethod.fRet.fOwn.a1.fN, .int .i64 zGMethod.fRet.fOwn.a2.fKind, .int .i64 zGMethod.fRet.fOwn.a2.fN, .int .i64 zGMethod.fRet.fOwn.a3.fKind, .int .i64 zGMethod.fRet.fOwn.a3.fN, .vs 13 (List.map eGVar zGMethod.fParams), .vs 13 (List.map eGVar zGMethod.fLocals), .nils, .int .i64 zGMethod.fAt]) (r := [.pv (.str zGMethod.fName), .pv (.bool y7), .pv (.int .i64 zGMethod.fRet.fKind), .pv (.str zGMethod.fRet.fClass), .pv (.int .i64 zGMethod.fRet.fN), .pv (.int .i64 zGMethod.fRet.fOwn.a0.fKind), .pv (.int .i64 zGMethod.fRet.fOwn.a0.fN), .pv (.int .i64 zGMethod.fRet.fOwn.a1.fKind), .pv (.int .i64 zGMethod.fRet.fOwn.a1.fN), .pv (.int .i64 zGMethod.fRet.fOwn.a2.fKind), .pv (.int .i64 zGMethod.fRet.fOwn.a2.fN), .pv (.int .i64 zGMethod.fRet.fOwn.a3.fKind), .pv (.int .i64 zGMethod.fRet.fOwn.a3.fN), .pv (.vs 13 (List.map eGVar zGMethod.fParams)), .pv (.vs 13 (List.map eGVar zGMethod.fLocals)), .pv .nils, .pv (.int .i64 y3.fAt)]) rfl zer_40 (by exact ⟨rfl, rfl, rfl, rfl, rfl, rfl, rfl, rfl, rfl, rfl, rfl, rfl, rfl, trivial, trivial, rfl, rfl, trivial⟩) plc_40 rfl rfl rfl rfl) ?_
 refine rgp (al 4 (eGMethod zGMethod) zer_40) ?_
 refine go ?_
 refine reg_imp (imp_nil_box 4 15 40 48 23 5 rfl rfl rfl) ?_
 refine go ?_
 refine aw_seq ?_
 obtain ⟨x10, hF, hK12⟩ := bs hF
 refine ctx (sX 131 [pf 0 (.vs 3 (List.map eGToken a0)), pf 1 (.int .i64 x10), pf 3 (.int .i64 a3), (6, some (.lp 0 0)), (8, some (.lp 3 0)), pf 9 (.int .i64 y3.fAt), (10, some (.lp 4 0))] [(0, some (.box 32 [.pv (.str a2_0), .pv (.vs 1 (List.map eS a2_1)), .pv (.str a2_2), .pv (.vs 2 (List.map eGOwner a2_3)), .ls 1, .ls 2, .pv (.int .i64 a2_6)])), (1, some (.row 99 13 (List.map eGVar b0))), (2, some (.row 40 17 (List.map eGMethod b1))), bf 3 109 (eGGot_ref09 zGGot_ref09), (4, some (.box 40 [.pv (.str zGMethod.fName), .pv (.bool y7), .pv (.int .i64 zGMethod.fRet.fKind), .pv (.str zGMethod.fRet.fClass), .pv (.int .i64 zGMethod.fRet.fN), .pv (.int .i64 zGMethod.fRet.fOwn.a0.fKind), .pv (.int .i64 zGMethod.fRet.fOwn.a0.fN), .pv (.int .i64 zGMethod.fRet.fOwn.a1.fKind), .pv (.int .i64 zGMethod.fRet.fOwn.a1.fN), .pv (.int .i64 zGMethod.fRet.fOwn.a2.fKind), .pv (.int .i64 zGMethod.fRet.fOwn.a2.fN), .pv (.int .i64 zGMethod.fRet.fOwn.a3.fKind), .pv (.int .i64 zGMethod.fRet.fOwn.a3.fN), .pv (.vs 13 (List.map eGVar zGMethod.fParams)), .pv (.vs 13 (List.map eGVar zGMethod.fLocals)), .ls 5, .pv (.int .i64 y3.fAt)])), (5, some (.row 48 23 (eLGStmt [])))] 6) ?_ ?_
 ·iterate 4 refine go ?_
  refine cnd hF (fun hb9 hF => ?_) fun hb9 hF => ?_
  ·iterate 4 refine go ?_
   cases hF
   exact rcz [2, 0, 1, 3, 4, 5]
  refine go ?_
  cases hF
  exact pcz [2, 0, 1, 3, 4, 5]
 have hF := hK12
 iterate 6 refine go ?_
 obtain ⟨y15, h16, hF⟩ := bs hF
 refine rgp (cl 6 [.vs 3 (List.map eGToken a0), .int .i64 x10, .vs 1 (List.map eS a2_1), .bool true] [.p (.agg (eGGot_ref07 y15))] (ref07_Parse_ok h16)) ?_
 refine rgp (al 6 (eGGot_ref07 zGGot_ref07) zer_186) ?_
 iterate 9 refine go ?_
 refine cnd hF (fun hb17 hF => ?_) fun hb17 hF => ?_
 ·cases hF
 iterate 6 refine go ?_
 obtain ⟨y20, h21, hF⟩ := bs hF
 refine rgp (cl 7 [.vs 3 (List.map eGToken a0), .int .i64 y15.fNext] [.p (.agg (eGToken y20))] (ref09_tok_ok h21)) ?_
 refine rgp (al 7 (eGToken zGToken) zer_105) ?_
 iterate 8 refine go ?_
 refine cnd hF (fun hb22 hF => ?_) fun hb22 hF => ?_
 ·cases hF
 iterate 4 refine go ?_
 refine rgp (la (eGType y15.fT) agg_37) ?_
 iterate 19 refine go ?_
 obtain ⟨y25, h26, hF⟩ := bs hF
 refine rgp (cl 8 [.vs 3 (List.map eGToken a0), .int .i64 (w_i64 (y15.fNext + 1)), .str [40]] [.p (.bool y25)] (ref09_is_ok h26)) ?_
 refine go ?_
 refine cnd hF (fun hb27 hF => ?_) fun hb27 hF => ?_
 ·iterate 4 refine go ?_
  refine rgp (op_len_ls (n := b1.length) rfl rfl rfl (List.length_map ..) slc_30 rfl rfl) ?_
  iterate 2 refine go ?_
  refine cnd hF (fun hb28 hF => ?_) fun hb28 hF => ?_
  ·cases hF
  iterate 7 refine go ?_
  refine rgp (op_load_lp_aggM (cs := [.pv (.str y20.fText), .pv (.bool y7), .pv (.int .i64 y15.fT.fKind), .pv (.str y15.fT.fClass), .pv (.int .i64 y15.fT.fN), .pv (.int .i64 y15.fT.fOwn.a0.fKind), .pv (.int .i64 y15.fT.fOwn.a0.fN), .pv (.int .i64 y15.fT.fOwn.a1.fKind), .pv (.int .i64 y15.fT.fOwn.a1.fN), .pv (.int .i64 y15.fT.fOwn.a2.fKind), .pv (.int .i64 y15.fT.fOwn.a2.fN), .pv (.int .i64 y15.fT.fOwn.a3.fKind), .pv (.int .i64 y15.fT.fOwn.a3.fN), .pv (.vs 13 (List.map eGVar zGMethod.fParams)), .pv (.vs 13 (List.map eGVar zGMethod.fLocals)), .ls 5, .pv (.int .i64 y3.fAt)]) rfl rfl rfl rfl rfl agg_40 rfl rfl) ?_
  refine go ?_
  obtain ⟨y31, h32, hF⟩ := bs hF
  refine rgp (op_callW (args := [.pv (.vs 3 (List.map eGToken a0)), .pv (.int .i64 (w_i64 (y15.fNext + 1))), .pv (.vs 1 (List.map eS a2_1)), .agg [.pv (.str y20.fText), .pv (.bool y7), .pv (.int .i64 y15.fT.fKind), .pv (.str y15.fT.fClass), .pv (.int .i64 y15.fT.fN), .pv (.int .i64 y15.fT.fOwn.a0.fKind), .pv (.int .i64 y15.fT.fOwn.a0.fN), .pv (.int .i64 y15.fT.fOwn.a1.fKind), .pv (.int .i64 y15.fT.fOwn.a1.fN), .pv (.int .i64 y15.fT.fOwn.a2.fKind), .pv (.int .i64 y15.fT.fOwn.a2.fN), .pv (.int .i64 y15.fT.fOwn.a3.fKind), .pv (.int .i64 y15.fT.fOwn.a3.fN), .pv (.vs 13 (List.map eGVar zGMethod.fParams)), .pv (.vs 13 (List.map eGVar zGMethod.fLocals)), .ls 0, .pv (.int .i64 y3.fAt)], .pv (.int .i64 a3)]) [5] [8] [5] 9 rfl rfl rfl rfl rfl cal_132 (ref09_method_ok h32) rfl (by decide) ⟨rfl, trivial⟩ rfl (by decide) ⟨.inr rfl, trivial⟩ (by kernel_rfl) (by kernel_rfl) rfl rfl rfl rfl) ?_
  refine reg_imp (imp_any 4 15 rfl) ?_
  refine rgp (al 9 (eGGot_ref09 zGGot_ref09) zer_109) ?_
  refine go ?_
  refine reg_nil ?_
  refine piz (sX 131 [(6, some (.lp 0 0)), (8, some (.lp 3 0)), (13, some (.lp 4 0))] [(0, some (.box 32 [.pv (.str a2_0), .pv (.vs 1 (List.map eS a2_1)), .pv (.str a2_2), .pv (.vs 2 (List.map eGOwner a2_3)), .ls 1, .ls 2, .pv (.int .i64 a2_6)])), (1, some (.row 99 13 (List.map eGVar b0))), (2, some (.row 40 17 (List.map eGMethod b1))), bf 3 109 (eGGot_ref09 zGGot_ref09), bf 4 109 (eGGot_ref09 y31)] 5) [0, 1, 2, 3, 9] ?_
  iterate 8 refine go ?_
  refine cnd hF (fun hb33 hF => ?_) fun hb33 hF => ?_
  ·cases hF
  iterate 6 refine go ?_
  refine rgp (la (eGMethod y31.fM) agg_40) ?_
  refine rgp (op_lit (rows := List.map eGMethod ([y31.fM] : List GMethod)) (zs := (eGMethod zGMethod)) rfl rfl slc_30 zer_40 (by exact ⟨rfl, rfl, rfl, rfl, rfl, rfl, rfl, rfl, rfl, rfl, rfl, rfl, rfl, trivial, trivial, trivial, rfl, trivial⟩) rfl rfl rfl rfl rfl rfl rfl rfl) ?_
  obtain ⟨u36, h37, hF⟩ := bs hF
  refine rgp (op_append 5 rfl rfl rfl rfl rfl slc_30 elm_40 zer_40 rfl rfl rfl (room_map (f := eGMethod) (g := eGMethod) h37) (List.map_append (f := eGMethod) (l₁ := b1) (l₂ := [y31.fM])).symm rfl rfl) ?_
  refine reg_imp (imp_any 0 5 rfl) ?_
  iterate 4 refine go ?_
  refine rgp (op_load_lp_aggM (cs := [.pv (.str a2_0), .pv (.vs 1 (List.map eS a2_1)), .pv (.str a2_2), .pv (.vs 2 (List.map eGOwner a2_3)), .ls 1, .ls 5, .pv (.int .i64 a2_6)]) rfl rfl rfl rfl rfl agg_32 rfl rfl) ?_
  iterate 2 refine go ?_
  refine rgp (op_buildM (zs := [.str zGGot_ref09.fC.fName, .vs 1 (List.map eS zGGot_ref09.fC.fParams), .str zGGot_ref09.fC.fSuper, .vs 2 (List.map eGOwner zGGot_ref09.fC.fAbove), .nils, .nils, .int .i64 zGGot_ref09.fC.fAt, .str zGGot_ref09.fM.fName, .bool zGGot_ref09.fM.fPure, .int .i64 zGGot_ref09.fM.fRet.fKind, .str zGGot_ref09.fM.fRet.fClass, .int .i64 zGGot_ref09.fM.fRet.fN, .int .i64 zGGot_ref09.fM.fRet.fOwn.a0.fKind, .int .i64 zGGot_ref09.fM.fRet.fOwn.a0.fN, .int .i64 zGGot_ref09.fM.fRet.fOwn.a1.fKind, .int .i64 zGGot_ref09.fM.fRet.fOwn.a1.fN, .int .i64 zGGot_ref09.fM.fRet.fOwn.a2.fKind, .int .i64 zGGot_ref09.fM.fRet.fOwn.a2.fN, .int .i64 zGGot_ref09.fM.fRet.fOwn.a3.fKind, .int .i64 zGGot_ref09.fM.fRet.fOwn.a3.fN, .vs 13 (List.map eGVar zGGot_ref09.fM.fParams), .vs 13 (List.map eGVar zGGot_ref09.fM.fLocals), .nils, .int .i64 zGGot_ref09.fM.fAt, .vs 13 (List.map eGVar zGGot_ref09.fV), .vs 1 (List.map eS zGGot_ref09.fN), .int .i64 zGGot_ref09.fNext, .int .i64 zGGot_ref09.fF.fErr, .int .i64 zGGot_ref09.fF.fAt]) (r := [.pv (.str a2_0), .pv (.vs 1 (List.map eS a2_1)), .pv (.str a2_2), .pv (.vs 2 (List.map eGOwner a2_3)), .ls 1, .ls 5, .pv (.int .i64 a2_6), .pv (.str zGGot_ref09.fM.fName), .pv (.bool zGGot_ref09.fM.fPure), .pv (.int .i64 zGGot_ref09.fM.fRet.fKind), .pv (.str zGGot_ref09.fM.fRet.fClass), .pv (.int .i64 zGGot_ref09.fM.fRet.fN), .pv (.int .i64 zGGot_ref09.fM.fRet.fOwn.a0.fKind), .pv (.int .i64 zGGot_ref09.fM.fRet.fOwn.a0.fN), .pv (.int .i64 zGGot_ref09.fM.fRet.fOwn.a1.fKind), .pv (.int .i64 zGGot_ref09.fM.fRet.fOwn.a1.fN), .pv (.int .i64 zGGot_ref09.fM.fRet.fOwn.a2.fKind), .pv (.int .i64 zGGot_ref09.fM.fRet.fOwn.a2.fN), .pv (.int .i64 zGGot_ref09.fM.fRet.fOwn.a3.fKind), .pv (.int .i64 zGGot_ref09.fM.fRet.fOwn.a3.fN), .pv (.vs 13 (List.map eGVar zGGot_ref09.fM.fParams)), .pv (.vs 13 (List.map eGVar zGGot_ref09.fM.fLocals)), .pv .nils, .pv (.int .i64 zGGot_ref09.fM.fAt), .pv (.vs 13 (List.map eGVar zGGot_ref09.fV)), .pv (.vs 1 (List.map eS zGGot_ref09.fN)), .pv (.int .i64 y31.fNext), .pv (.int .i64 zGGot_ref09.fF.fErr), .pv (.int .i64 zGGot_ref09.fF.fAt)]) rfl zer_109 (by exact ⟨rfl, trivial, rfl, trivial, rfl, rfl, rfl, rfl, rfl, rfl, rfl, rfl, rfl, rfl, rfl, rfl, rfl, rfl, rfl, rfl, trivial, trivial, rfl, rfl, trivial, trivial, rfl, rfl, rfl, trivial⟩) plc_109 rfl rfl rfl rfl) ?_
  refine go ?_
  refine reg_imp (imp_nil_box 3 22 109 48 23 6 rfl rfl rfl) ?_
  iterate 3 refine go ?_
  refine piz (sX 131 [(8, some (.lp 0 0))] [(0, some (.box 109 [.pv (.str a2_0), .pv (.vs 1 (List.map eS a2_1)), .pv (.str a2_2), .pv (.vs 2 (List.map eGOwner a2_3)), .ls 1, .ls 2, .pv (.int .i64 a2_6), .pv (.str zGGot_ref09.fM.fName), .pv (.bool zGGot_ref09.fM.fPure), .pv (.int .i64 zGGot_ref09.fM.fRet.fKind), .pv (.str zGGot_ref09.fM.fRet.fClass), .pv (.int .i64 zGGot_ref09.fM.fRet.fN), .pv (.int .i64 zGGot_ref09.fM.fRet.fOwn.a0.fKind), .pv (.int .i64 zGGot_ref09.fM.fRet.fOwn.a0.fN), .pv (.int .i64 zGGot_ref09.fM.fRet.fOwn.a1.fKind), .pv (.int .i64 zGGot_ref09.fM.fRet.fOwn.a1.fN), .pv (.int .i64 zGGot_ref09.fM.fRet.fOwn.a2.fKind), .pv (.int .i64 zGGot_ref09.fM.fRet.fOwn.a2.fN), .pv (.int .i64 zGGot_ref09.fM.fRet.fOwn.a3.fKind), .pv (.int .i64 zGGot_ref09.fM.fRet.fOwn.a3.fN), .pv (.vs 13 (List.map eGVar zGGot_ref09.fM.fParams)), .pv (.vs 13 (List.map eGVar zGGot_ref09.fM.fLocals)), .ls 3, .pv (.int .i64 zGGot_ref09.fM.fAt), .pv (.vs 13 (List.map eGVar zGGot_ref09.fV)), .pv (.vs 1 (List.map eS zGGot_ref09.fN)), .pv (.int .i64 y31.fNext), .pv (.int .i64 zGGot_ref09.fF.fErr), .pv (.int .i64 zGGot_ref09.fF.fAt)])), (1, some (.row 99 13 (List.map eGVar b0))), (2, some (.row 40 17 (List.map eGMethod (b1 ++ [y31.fM])))), (3, some (.row 48 23 (eLGStmt [])))] 4) [3, 1, 5, 6] ?_
  cases hF
  exact post_retW hcx rfl (.cons _ _ _ _ (.aggM _ _ _ _ _ 29 _ _ rfl rfl agg_109 rfl rfl) .nil) rfl (.inl rfl)
 iterate 2 refine go ?_
 refine aw_seq ?_
 refine aw_seq ?_
 obtain ⟨p44, hF, hK45⟩ := bs hF
 refine ctx (sX 131 [pf 1 (.int .i64 (w_i64 (y15.fNext + 1))), (6, some (.lp 0 0)), (8, some (.lp 3 0)), pf 9 (.int .i64 y3.fAt), (10, some (.lp 4 0)), pf 105 (.bool (y15.fT.fKind == 0))] [(0, some (.box 32 [.pv (.str a2_0), .pv (.vs 1 (List.map eS a2_1)), .pv (.str a2_2), .pv (.vs 2 (List.map eGOwner a2_3)), .ls 1, .ls 2, .pv (.int .i64 a2_6)])), (1, some (.row 99 13 (List.map eGVar b0))), (2, some (.row 40 17 (List.map eGMethod b1))), bf 3 109 (eGGot_ref09 zGGot_ref09), (4, some (.box 40 [.pv (.str y20.fText), .pv (.bool y7), .pv (.int .i64 y15.fT.fKind), .pv (.str y15.fT.fClass), .pv (.int .i64 y15.fT.fN), .pv (.int .i64 y15.fT.fOwn.a0.fKind), .pv (.int .i64 y15.fT.fOwn.a0.fN), .pv (.int .i64 y15.fT.fOwn.a1.fKind), .pv (.int .i64 y15.fT.fOwn.a1.fN), .pv (.int .i64 y15.fT.fOwn.a2.fKind), .pv (.int .i64 y15.fT.fOwn.a2.fN), .pv (.int .i64 y15.fT.fOwn.a3.fKind), .pv (.int .i64 y15.fT.fOwn.a3.fN), .pv (.vs 13 (List.map eGVar zGMethod.fParams)), .pv (.vs 13 (List.map eGVar zGMethod.fLocals)), .ls 5, .pv (.int .i64 y3.fAt)])), (5, some (.row 48 23 (eLGStmt [])))] 6) ?_ ?_
 ·iterate 3 refine go ?_
  obtain ⟨y40, h41, hF⟩ := bs hF
  refine rgp (cl 8 [.vs 3 (List.map eGToken a0), .int .i64 (w_i64 (y15.fNext + 1)), .str [59]] [.p (.bool y40)] (ref09_is_ok h41)) ?_
  iterate 2 refine go ?_
  rcases ie hF with ⟨hb42, hF⟩ | ⟨hb42, hF⟩
  ·cases hF
  iterate 2 refine gn hb42 ?_
  refine rpf hb42 ?_
  refine go ?_
  rcases ie hF with ⟨hb43, hF⟩ | ⟨hb43, hF⟩
  ·cases hF
  iterate 4 refine gn hb43 ?_
  refine rpf hb43 ?_
  cases hF
  exact rcz [0, 1, 2, 3, 4, 5]
 have hF := hK45
 refine go ?_
 refine cnd hF (fun hb46 hF => ?_) fun hb46 hF => ?_
 ·cases hF
 iterate 6 refine go ?_
 refine rgp (op_len_ls (n := b0.length) rfl rfl rfl (List.length_map ..) slc_29 rfl rfl) ?_
 iterate 2 refine go ?_
 refine cnd hF (fun hb47 hF => ?_) fun hb47 hF => ?_
 ·cases hF
 iterate 8 refine go ?_
 refine rgp (la (eGType y15.fT) agg_37) ?_
 refine go ?_
 refine rgp (bd ((eGVar zGVar)) (eGVar ({ fName := y20.fText, fType := y15.fT, fAt := y3.fAt } : GVar)) zer_99 plc_99) ?_
 refine rgp (op_lit (rows := List.map eGVar ([({ fName := y20.fText, fType := y15.fT, fAt := y3.fAt } : GVar)] : List GVar)) (zs := (eGVar zGVar)) rfl rfl slc_29 zer_99 (by exact ⟨rfl, rfl, rfl, rfl, rfl, rfl, rfl, rfl, rfl, rfl, rfl, rfl, rfl, trivial⟩) rfl rfl rfl rfl rfl rfl rfl rfl) ?_
 obtain ⟨u50, h51, hF⟩ := bs hF
 refine rgp (op_append 6 rfl rfl rfl rfl rfl slc_29 elm_99 zer_99 rfl rfl rfl (room_map (f := eGVar) (g := eGVar) h51) (List.map_append (f := eGVar) (l₁ := b0) (l₂ := [({ fName := y20.fText, fType := y15.fT, fAt := y3.fAt } : GVar)])).symm rfl rfl) ?_
 refine reg_imp (imp_any 0 4 rfl) ?_
 iterate 4 refine go ?_
 refine rgp (op_load_lp_aggM (cs := [.pv (.str a2_0), .pv (.vs 1 (List.map eS a2_1)), .pv (.str a2_2), .pv (.vs 2 (List.map eGOwner a2_3)), .ls 6, .ls 2, .pv (.int .i64 a2_6)]) rfl rfl rfl rfl rfl agg_32 rfl rfl) ?_
 iterate 2 refine go ?_
 refine rgp (op_buildM (zs := [.str zGGot_ref09.fC.fName, .vs 1 (List.map eS zGGot_ref09.fC.fParams), .str zGGot_ref09.fC.fSuper, .vs 2 (List.map eGOwner zGGot_ref09.fC.fAbove), .nils, .nils, .int .i64 zGGot_ref09.fC.fAt, .str zGGot_ref09.fM.fName, .bool zGGot_ref09.fM.fPure, .int .i64 zGGot_ref09.fM.fRet.fKind, .str zGGot_ref09.fM.fRet.fClass, .int .i64 zGGot_ref09.fM.fRet.fN, .int .i64 zGGot_ref09.fM.fRet.fOwn.a0.fKind, .int .i64 zGGot_ref09.fM.fRet.fOwn.a0.fN, .int .i64 zGGot_ref09.fM.fRet.fOwn.a1.fKind, .int .i64 zGGot_ref09.fM.fRet.fOwn.a1.fN, .int .i64 zGGot_ref09.fM.fRet.fOwn.a2.fKind, .int .i64 zGGot_ref09.fM.fRet.fOwn.a2.fN, .int .i64 zGGot_ref09.fM.fRet.fOwn.a3.fKind, .int .i64 zGGot_ref09.fM.fRet.fOwn.a3.fN, .vs 13 (List.map eGVar zGGot_ref09.fM.fParams), .vs 13 (List.map eGVar zGGot_ref09.fM.fLocals), .nils, .int .i64 zGGot_ref09.fM.fAt, .vs 13 (List.map eGVar zGGot_ref09.fV), .vs 1 (List.map eS zGGot_ref09.fN), .int .i64 zGGot_ref09.fNext, .int .i64 zGGot_ref09.fF.fErr, .int .i64 zGGot_ref09.fF.fAt]) (r := [.pv (.str a2_0), .pv (.vs 1 (List.map eS a2_1)), .pv (.str a2_2), .pv (.vs 2 (List.map eGOwner a2_3)), .ls 6, .ls 2, .pv (.int .i64 a2_6), .pv (.str zGGot_ref09.fM.fName), .pv (.bool zGGot_ref09.fM.fPure), .pv (.int .i64 zGGot_ref09.fM.fRet.fKind), .pv (.str zGGot_ref09.fM.fRet.fClass), .pv (.int .i64 zGGot_ref09.fM.fRet.fN), .pv (.int .i64 zGGot_ref09.fM.fRet.fOwn.a0.fKind), .pv (.int .i64 zGGot_ref09.fM.fRet.fOwn.a0.fN), .pv (.int .i64 zGGot_ref09.fM.fRet.fOwn.a1.fKind), .pv (.int .i64 zGGot_ref09.fM.fRet.fOwn.a1.fN), .pv (.int .i64 zGGot_ref09.fM.fRet.fOwn.a2.fKind), .pv (.int .i64 zGGot_ref09.fM.fRet.fOwn.a2.fN), .pv (.int .i64 zGGot_ref09.fM.fRet.fOwn.a3.fKind), .pv (.int .i64 zGGot_ref09.fM.fRet.fOwn.a3.fN), .pv (.vs 13 (List.map eGVar zGGot_ref09.fM.fParams)), .pv (.vs 13 (List.map eGVar zGGot_ref09.fM.fLocals)), .pv .nils, .pv (.int .i64 zGGot_ref09.fM.fAt), .pv (.vs 13 (List.map eGVar zGGot_ref09.fV)), .pv (.vs 1 (List.map eS zGGot_ref09.fN)), .pv (.int .i64 (w_i64 ((w_i64 (y15.fNext + 1)) + 1))), .pv (.int .i64 zGGot_ref09.fF.fErr), .pv (.int .i64 zGGot_ref09.fF.fAt)]) rfl zer_109 (by exact ⟨rfl, trivial, rfl, trivial, rfl, rfl, rfl, rfl, rfl, rfl, rfl, rfl, rfl, rfl, rfl, rfl, rfl, rfl, rfl, rfl, trivial, trivial, rfl, rfl, trivial, trivial, rfl, rfl, rfl, trivial⟩) plc_109 rfl rfl rfl rfl) ?_
 refine go ?_
 refine reg_imp (imp_nil_box 3 22 109 48 23 7 rfl rfl rfl) ?_
 iterate 2 refine go ?_
 refine piz (sX 131 [(8, some (.lp 0 0))] [(0, some (.box 109 [.pv (.str a2_0), .pv (.vs 1 (List.map eS a2_1)), .pv (.str a2_2), .pv (.vs 2 (List.map eGOwner a2_3)), .ls 1, .ls 2, .pv (.int .i64 a2_6), .pv (.str zGGot_ref09.fM.fName), .pv (.bool zGGot_ref09.fM.fPure), .pv (.int .i64 zGGot_ref09.fM.fRet.fKind), .pv (.str zGGot_ref09.fM.fRet.fClass), .pv (.int .i64 zGGot_ref09.fM.fRet.fN), .pv (.int .i64 zGGot_ref09.fM.fRet.fOwn.a0.fKind), .pv (.int .i64 zGGot_ref09.fM.fRet.fOwn.a0.fN), .pv (.int .i64 zGGot_ref09.fM.fRet.fOwn.a1.fKind), .pv (.int .i64 zGGot_ref09.fM.fRet.fOwn.a1.fN), .pv (.int .i64 zGGot_ref09.fM.fRet.fOwn.a2.fKind), .pv (.int .i64 zGGot_ref09.fM.fRet.fOwn.a2.fN), .pv (.int .i64 zGGot_ref09.fM.fRet.fOwn.a3.fKind), .pv (.int .i64 zGGot_ref09.fM.fRet.fOwn.a3.fN), .pv (.vs 13 (List.map eGVar zGGot_ref09.fM.fParams)), .pv (.vs 13 (List.map eGVar zGGot_ref09.fM.fLocals)), .ls 3, .pv (.int .i64 zGGot_ref09.fM.fAt), .pv (.vs 13 (List.map eGVar zGGot_ref09.fV)), .pv (.vs 1 (List.map eS zGGot_ref09.fN)), .pv (.int .i64 (w_i64 ((w_i64 (y15.fNext + 1)) + 1))), .pv (.int .i64 zGGot_ref09.fF.fErr), .pv (.int .i64 zGGot_ref09.fF.fAt)])), (1, some (.row 99 13 (List.map eGVar (b0 ++ [({ fName := y20.fText, fType := y15.fT, fAt := y3.fAt } : GVar)])))), (2, some (.row 40 17 (List.map eGMethod b1))), (3, some (.row 48 23 (eLGStmt [])))] 4) [3, 6, 2, 7] ?_
 cases hF
 exact post_retW hcx rfl (.cons _ _ _ _ (.aggM _ _ _ _ _ 29 _ _ rfl rfl agg_109 rfl rfl) .nil) rfl (.inl rfl)
theorem ref09_class_ok {a0 : List GToken} {a1 : Int} {a2 : Int} {r : GGot_ref09} (hF : ref09_class a0 a1 a2 = some r) : FZ 44 [.vs 3 (List.map eGToken a0), .int .i64 a1, .int .i64 a2] [.p (.agg (eGGot_ref09 r))] := by
 unfold ref09_class at hF
 refine fn_of_body (n := 100) Tryz.func44 rfl rfl rfl fun w O => ?_
 refine go ?_
 refine rgp (al 0 (eGGot_ref09 zGGot_ref09) zer_109) ?_
 iterate 4 refine go ?_
 obtain ⟨y3, h4, hF⟩ := bs hF
 refine rgp (cl 1 [.vs 3 (List.map eGToken a0), .int .i64 a1] [.p (.agg (eGToken y3))] (ref09_tok_ok h4)) ?_
 refine rgp (op_field1 (p := .int .i64 y3.fAt) rfl rfl ftb_105_2 one_3 rfl rfl rfl) ?_
 refine rgp (op_buildM (zs := [.str zGClass.fName, .vs 1 (List.map eS zGClass.fParams), .str zGClass.fSuper, .vs 2 (List.map eGOwner zGClass.fAbove), .nils, .nils, .int .i64 zGClass.fAt]) (r := [.pv (.str zGClass.fName), .pv (.vs 1 (List.map eS zGClass.fParams)), .pv (.str zGClass.fSuper), .pv (.vs 2 (List.map eGOwner zGClass.fAbove)), .pv .nils, .pv .nils, .pv (.int .i64 y3.fAt)]) rfl zer_32 (by exact ⟨rfl, trivial, rfl, trivial, rfl, rfl, rfl, trivial⟩) plc_32 rfl rfl rfl rfl) ?_
 refine rgp (al 1 (eGClass zGClass) zer_32) ?_
 refine go ?_
 refine reg_imp (imp_nil_box 1 4 32 99 13 2 rfl rfl rfl) ?_
 refine reg_imp (imp_nil_box 1 5 32 40 17 3 rfl rfl rfl) ?_
 iterate 6 refine go ?_
 obtain ⟨y7, h8, hF⟩ := bs hF
 refine rgp (cl 4 [.vs 3 (List.map eGToken a0), .int .i64 (w_i64 (a1 + 1))] [.p (.agg (eGToken y7))] (ref09_tok_ok h8)) ?_
 refine rgp (op_field1 (p := .int .i64 y7.fKind) rfl rfl ftb_105_0 one_3 rfl rfl rfl) ?_
 iterate 2 refine go ?_
 refine cnd hF (fun hb9 hF => ?_) fun hb9 hF => ?_
 ·cases hF
 iterate 6 refine go ?_
 obtain ⟨y12, h13, hF⟩ := bs hF
 refine rgp (cl 4 [.vs 3 (List.map eGToken a0), .int .i64 (w_i64 (a1 + 1))] [.p (.agg (eGToken y12))] (ref09_tok_ok h13)) ?_
 refine rgp (op_field1 (p := .str y12.fText) rfl rfl ftb_105_1 one_9 rfl rfl rfl) ?_
 iterate 12 refine go ?_
 obtain ⟨y16, h17, hF⟩ := bs hF
 refine rgp (cl 4 [.vs 3 (List.map eGToken a0), .int .i64 (w_i64 (a1 + 2)), .str [60]] [.p (.bool y16)] (ref09_is_ok h17)) ?_
 refine go ?_
 refine cnd hF (fun hb18 hF => ?_) fun hb18 hF => ?_
 ·cases hF
 iterate 6 refine go ?_
 obtain ⟨y21, h22, hF⟩ := bs hF
 refine rgp (cl 4 [.vs 3 (List.map eGToken a0), .int .i64 (w_i64 (a1 + 2)), .str [101, 120, 116, 101, 110, 100, 115]] [.p (.bool y21)] (ref09_is_ok h22)) ?_
 refine go ?_
 refine cnd hF (fun hb23 hF => ?_) fun hb23 hF => ?_
 ·cases hF
 iterate 6 refine go ?_
 obtain ⟨y26, h27, hF⟩ := bs hF
 refine rgp (cl 4 [.vs 3 (List.map eGToken a0), .int .i64 (w_i64 (a1 + 2)), .str [123]] [.p (.bool y26)] (ref09_is_ok h27)) ?_
 iterate 2 refine go ?_
 refine cnd hF (fun hb28 hF => ?_) fun hb28 hF => ?_
 ·cases hF
 iterate 7 refine go ?_
 refine aw_seq ?_
 obtain ⟨lr103, hF, hK104⟩ := bs hF
 refine aw_for (a0.length + 64) (fun s1 => s1 = (sX 100 [pf 1 (.int .i64 lr103.1), (6, some (.lp 0 0)), (7, some (.lp 1 0))] [bf 0 109 (eGGot_ref09 zGGot_ref09), (1, some (.box 32 [.pv (.str lr103.2.1), .pv (.vs 1 (List.map eS lr103.2.2.1)), .pv (.str lr103.2.2.2.1), .pv (.vs 2 (List.map eGOwner lr103.2.2.2.2.1)), .ls 2, .ls 3, .pv (.int .i64 lr103.2.2.2.2.2.2.2)])), (2, some (.row 99 13 (List.map eGVar lr103.2.2.2.2.2.1))), (3, some (.row 40 17 (List.map eGMethod lr103.2.2.2.2.2.2.1)))] 4)) ?_ ?_
 ·refine rnd_loop (α := Int × (List UInt8) × (List (List UInt8)) × (List UInt8) × (List GOwner) × (List GVar) × (List GMethod) × Int) (fun q => (sX 100 [pf 0 (.vs 3 (List.map eGToken a0)), pf 1 (.int .i64 q.1), pf 2 (.int .i64 a2), (6, some (.lp 0 0)), (7, some (.lp 1 0))] [bf 0 109 (eGGot_ref09 zGGot_ref09), (1, some (.box 32 [.pv (.str q.2.1), .pv (.vs 1 (List.map eS q.2.2.1)), .pv (.str q.2.2.2.1), .pv (.vs 2 (List.map eGOwner q.2.2.2.2.1)), .ls 2, .ls 3, .pv (.int .i64 q.2.2.2.2.2.2.2)])), (2, some (.row 99 13 (List.map eGVar q.2.2.2.2.2.1))), (3, some (.row 40 17 (List.map eGMethod q.2.2.2.2.2.2.1)))] 4)) (fun k q => ref09_class_L1 a0 a2 k q.1 q.2.1 q.2.2.1 q.2.2.2.1 q.2.2.2.2.1 q.2.2.2.2.2.1 q.2.2.2.2.2.2.1 q.2.2.2.2.2.2.2 = some lr103) (w_i64 ((w_i64 (a1 + 2)) + 1), y12.fText, zGClass.fParams, zGClass.fSuper, zGClass.fAbove, [], [], y3.fAt) (impz [0, 1, 2, 3]) hF (fun q h => by cases h) ?_
  clear hF
  rintro k ⟨x43, x44, x45, x46, x47, x48, x49, x50⟩ hF ih
  refine rnd_succ ?_
  iterate 4 refine go ?_
  obtain ⟨y75, h76, hF⟩ := bs hF
  refine rgp (cl 4 [.vs 3 (List.map eGToken a0), .int .i64 x43, .str [125]] [.p (.bool y75)] (ref09_is_ok h76)) ?_
  iterate 2 refine go ?_
  refine cnd hF (fun hb77 hF => ?_) fun hb77 hF => ?_
  ·iterate 2 refine go ?_
   refine aw_block ?_
   refine aw_seq ?_
   refine aw_imp (imp_names 5) ?_
   refine dr_start ⟨_, _, _⟩ rfl ?_
   iterate 2 refine dgo ?_
   refine dr_cons { need := [(7, .lp 1 0)], hneed := [(1, .box 32 [.pv (.str x44), .pv (.vs 1 (List.map eS x45)), .pv (.str x46), .pv (.vs 2 (List.map eGOwner x47)), .ls 2, .ls 3, .pv (.int .i64 x50)])], dst := some 81, val := some (.agg [.pv (.str x44), .pv (.vs 1 (List.map eS x45)), .pv (.str x46), .pv (.vs 2 (List.map eGOwner x47)), .ls 2, .ls 3, .pv (.int .i64 x50)]) } (fun m h => step_on (guard_no rfl) (op_load_lp_aggM (cs := [.pv (.str x44), .pv (.vs 1 (List.map eS x45)), .pv (.str x46), .pv (.vs 2 (List.map eGOwner x47)), .ls 2, .ls 3, .pv (.int .i64 x50)]) rfl h.1.1 h.2.1.1 rfl rfl agg_32 rfl rfl) rfl) ⟨⟨rfl, trivial⟩, ⟨rfl, trivial⟩, trivial⟩ ?_
   refine dgo ?_
   refine dr_cons { need := [(7, .lp 1 0)], hneed := [(1, .box 32 [.pv (.str x44), .pv (.vs 1 (List.map eS x45)), .pv (.str x46), .pv (.vs 2 (List.map eGOwner x47)), .ls 2, .ls 3, .pv (.int .i64 x50)])], dst := some 83, val := some (.agg [.pv (.str x44), .pv (.vs 1 (List.map eS x45)), .pv (.str x46), .pv (.vs 2 (List.map eGOwner x47)), .ls 2, .ls 3, .pv (.int .i64 x50)]) } (fun m h => step_on (guard_no rfl) (op_load_lp_aggM (cs := [.pv (.str x44), .pv (.vs 1 (List.map eS x45)), .pv (.str x46), .pv (.vs 2 (List.map eGOwner x47)), .ls 2, .ls 3, .pv (.int .i64 x50)]) rfl h.1.1 h.2.1.1 rfl rfl agg_32 rfl rfl) rfl) ⟨⟨rfl, trivial⟩, ⟨rfl, trivial⟩, trivial⟩ ?_
   obtain ⟨y82, h83, hF⟩ := bs hF
   refine dr_cons { need := [(83, .agg [.pv (.str x44), .pv (.vs 1 (List.map eS x45)), .pv (.str x46), .pv (.vs 2 (List.map eGOwner x47)), .ls 2, .ls 3, .pv (.int .i64 x50)])], hneed := [(2, .row 99 13 (List.map eGVar x48)), (3, .row 40 17 (List.map eGMethod x49))], dst := some 84, val := some (.pv (.int .i64 y82)) } (fun m h => step_on (guard_no rfl) (op_callB 9 rfl (caps := []) (args := [.agg (eGClass ({ fName := x44, fParams := x45, fSuper := x46, fAbove := x47, fFields := x48, fMethods := x49, fAt := x50 } : GClass))]) [(2, some (.row 99 13 (List.map eGVar x48))), (3, some (.row 40 17 (List.map eGMethod x49)))] rfl rfl (evl_cons h.1.1 evl_nil) (FzH.spec ⟨h.2.1.1, h.2.1.2.1, trivial⟩) rfl rfl cal_45 (ref09_Stmts_ok h83) rfl rfl rfl) rfl) ⟨⟨rfl, trivial⟩, ⟨rfl, rfl, trivial⟩, trivial⟩ ?_
   refine dr_cons { need := [(82, .pv (.int .i64 a2)), (84, .pv (.int .i64 y82))], dst := some 85, val := some (.pv (.int .i64 (w_i64 (a2 + y82)))) } (fun m h => step_on (guard_no rfl) (op_int (k := .i64) (m := a2) (n := y82) rfl h.1.1 h.1.2.1 rfl rfl rfl) rfl) ⟨⟨rfl, rfl, trivial⟩, trivial, trivial⟩ ?_
   obtain ⟨y84, h85, hF⟩ := bs hF
   refine dr_cons { need := [(85, .pv (.int .i64 (w_i64 (a2 + y82)))), (81, .agg [.pv (.str x44), .pv (.vs 1 (List.map eS x45)), .pv (.str x46), .pv (.vs 2 (List.map eGOwner x47)), .ls 2, .ls 3, .pv (.int .i64 x50)]), (80, .pv (.int .i64 x43)), (79, .pv (.vs 3 (List.map eGToken a0)))], hneed := [(2, .row 99 13 (List.map eGVar x48)), (3, .row 40 17 (List.map eGMethod x49))], names := [4, 5, 6, 7], dst := some 86, val := some (.agg [.pv (.str y84.1), .pv (.vs 1 (List.map eS y84.2.1)), .pv (.str y84.2.2.1), .pv (.vs 2 (List.map eGOwner y84.2.2.2.1)), .ls 5, .ls 6, .pv (.int .i64 y84.2.2.2.2.2.2.1), .pv (.str y84.2.2.2.2.2.2.2.1), .pv (.bool y84.2.2.2.2.2.2.2.2.1), .pv (.int .i64 y84.2.2.2.2.2.2.2.2.2.1), .pv (.str y84.2.2.2.2.2.2.2.2.2.2.1), .pv (.int .i64 y84.2.2.2.2.2.2.2.2.2.2.2.1), .pv (.int .i64 y84.2.2.2.2.2.2.2.2.2.2.2.2.1), .pv (.int .i64 y84.2.2.2.2.2.2.2.2.2.2.2.2.2.1), .pv (.int .i64 y84.2.2.2.2.2.2.2.2.2.2.2.2.2.2.1), .pv (.int .i64 y84.2.2.2.2.2.2.2.2.2.2.2.2.2.2.2.1), .pv (.int .i64 y84.2.2.2.2.2.2.2.2.2.2.2.2.2.2.2.2.1), .pv (.int .i64 y84.2.2.2.2.2.2.2.2.2.2.2.2.2.2.2.2.2.1), .pv (.int .i64 y84.2.2.2.2.2.2.2.2.2.2.2.2.2.2.2.2.2.2.1), .pv (.int .i64 y84.2.2.2.2.2.2.2.2.2.2.2.2.2.2.2.2.2.2.2.1), .pv (.vs 13 (List.map eGVar y84.2.2.2.2.2.2.2.2.2.2.2.2.2.2.2.2.2.2.2.2.1)), .pv (.vs 13 (List.map eGVar y84.2.2.2.2.2.2.2.2.2.2.2.2.2.2.2.2.2.2.2.2.2.1)), .ls 7, .pv (.int .i64 y84.2.2.2.2.2.2.2.2.2.2.2.2.2.2.2.2.2.2.2.2.2.2.2.1), .pv (.vs 13 (List.map eGVar y84.2.2.2.2.2.2.2.2.2.2.2.2.2.2.2.2.2.2.2.2.2.2.2.2.1)), .pv (.vs 1 (List.map eS y84.2.2.2.2.2.2.2.2.2.2.2.2.2.2.2.2.2.2.2.2.2.2.2.2.2.1)), .pv (.int .i64 y84.2.2.2.2.2.2.2.2.2.2.2.2.2.2.2.2.2.2.2.2.2.2.2.2.2.2.1), .pv (.int .i64 y84.2.2.2.2.2.2.2.2.2.2.2.2.2.2.2.2.2.2.2.2.2.2.2.2.2.2.2.1), .pv (.int .i64 y84.2.2.2.2.2.2.2.2.2.2.2.2.2.2.2.2.2.2.2.2.2.2.2.2.2.2.2.2)]), upd := [(4, some (.box 109 [.pv (.str y84.1), .pv (.vs 1 (List.map eS y84.2.1)), .pv (.str y84.2.2.1), .pv (.vs 2 (List.map eGOwner y84.2.2.2.1)), .ls 5, .ls 6, .pv (.int .i64 y84.2.2.2.2.2.2.1), .pv (.str y84.2.2.2.2.2.2.2.1), .pv (.bool y84.2.2.2.2.2.2.2.2.1), .pv (.int .i64 y84.2.2.2.2.2.2.2.2.2.1), .pv (.str y84.2.2.2.2.2.2.2.2.2.2.1), .pv (.int .i64 y84.2.2.2.2.2.2.2.2.2.2.2.1), .pv (.int .i64 y84.2.2.2.2.2.2.2.2.2.2.2.2.1), .pv (.int .i64 y84.2.2.2.2.2.2.2.2.2.2.2.2.2.1), .pv (.int .i64 y84.2.2.2.2.2.2.2.2.2.2.2.2.2.2.1), .pv (.int .i64 y84.2.2.2.2.2.2.2.2.2.2.2.2.2.2.2.1), .pv (.int .i64 y84.2.2.2.2.2.2.2.2.2.2.2.2.2.2.2.2.1), .pv (.int .i64 y84.2.2.2.2.2.2.2.2.2.2.2.2.2.2.2.2.2.1), .pv (.int .i64 y84.2.2.2.2.2.2.2.2.2.2.2.2.2.2.2.2.2.2.1), .pv (.int .i64 y84.2.2.2.2.2.2.2.2.2.2.2.2.2.2.2.2.2.2.2.1), .pv (.vs 13 (List.map eGVar y84.2.2.2.2.2.2.2.2.2.2.2.2.2.2.2.2.2.2.2.2.1)), .pv (.vs 13 (List.map eGVar y84.2.2.2.2.2.2.2.2.2.2.2.2.2.2.2.2.2.2.2.2.2.1)), .ls 7, .pv (.int .i64 y84.2.2.2.2.2.2.2.2.2.2.2.2.2.2.2.2.2.2.2.2.2.2.2.1), .pv (.vs 13 (List.map eGVar y84.2.2.2.2.2.2.2.2.2.2.2.2.2.2.2.2.2.2.2.2.2.2.2.2.1)), .pv (.vs 1 (List.map eS y84.2.2.2.2.2.2.2.2.2.2.2.2.2.2.2.2.2.2.2.2.2.2.2.2.2.1)), .pv (.int .i64 y84.2.2.2.2.2.2.2.2.2.2.2.2.2.2.2.2.2.2.2.2.2.2.2.2.2.2.1), .pv (.int .i64 y84.2.2.2.2.2.2.2.2.2.2.2.2.2.2.2.2.2.2.2.2.2.2.2.2.2.2.2.1), .pv (.int .i64 y84.2.2.2.2.2.2.2.2.2.2.2.2.2.2.2.2.2.2.2.2.2.2.2.2.2.2.2.2)])), (5, some (.row 99 13 (List.map eGVar y84.2.2.2.2.1))), (6, some (.row 40 17 (List.map eGMethod y84.2.2.2.2.2.1))), (7, some (.row 48 23 (eLGStmt y84.2.2.2.2.2.2.2.2.2.2.2.2.2.2.2.2.2.2.2.2.2.2.1))), (2, none), (3, none)] } (fun m h => step_on (guard_no rfl) (op_callW (args := [.pv (.vs 3 (List.map eGToken a0)), .pv (.int .i64 x43), .agg [.pv (.str x44), .pv (.vs 1 (List.map eS x45)), .pv (.str x46), .pv (.vs 2 (List.map eGOwner x47)), .ls 0, .ls 1, .pv (.int .i64 x50)], .pv (.int .i64 (w_i64 (a2 + y82)))]) [2, 3] [4, 5, 6, 7] [2, 3] 9 rfl rfl (evl_cons h.1.2.2.2.1 (evl_cons h.1.2.2.1 (evl_cons h.1.2.1 (evl_cons h.1.1 evl_nil)))) rfl rfl cal_87 (ref09_member_ok h85) rfl (by decide) ⟨h.2.1.1, h.2.1.2.1, trivial⟩ rfl (by decide) ⟨.inr (freshG_free h.2.2.1), .inr (freshG_free h.2.2.2.1), .inr (freshG_free h.2.2.2.2.1), .inr (freshG_free h.2.2.2.2.2.1), trivial⟩ (by kernel_rfl) (by kernel_rfl) rfl rfl rfl rfl) rfl) ⟨⟨rfl, rfl, rfl, rfl, trivial⟩, ⟨rfl, rfl, trivial⟩, ⟨rfl, rfl, rfl, rfl, trivial⟩⟩ ?_
   refine dr_cons { names := [8], dst := some 10, val := some (.lp 8 0), upd := [(8, some (.box 109 (bxv (eGGot_ref09 zGGot_ref09))))] } (fun m h => step_on (guard_no rfl) (op_alloc 8 (fresh_free h.2.2.1) (ps := (eGGot_ref09 zGGot_ref09)) rfl zer_109 (by exact ⟨rfl, trivial, rfl, trivial, trivial, trivial, rfl, rfl, rfl, rfl, rfl, rfl, rfl, rfl, rfl, rfl, rfl, rfl, rfl, rfl, trivial, trivial, trivial, rfl, trivial, trivial, rfl, rfl, rfl, trivial⟩) rfl rfl) rfl) ⟨trivial, trivial, ⟨rfl, trivial⟩⟩ ?_
   refine dr_cons { need := [(10, .lp 8 0), (86, .agg [.pv (.str y84.1), .pv (.vs 1 (List.map eS y84.2.1)), .pv (.str y84.2.2.1), .pv (.vs 2 (List.map eGOwner y84.2.2.2.1)), .ls 5, .ls 6, .pv (.int .i64 y84.2.2.2.2.2.2.1), .pv (.str y84.2.2.2.2.2.2.2.1), .pv (.bool y84.2.2.2.2.2.2.2.2.1), .pv (.int .i64 y84.2.2.2.2.2.2.2.2.2.1), .pv (.str y84.2.2.2.2.2.2.2.2.2.2.1), .pv (.int .i64 y84.2.2.2.2.2.2.2.2.2.2.2.1), .pv (.int .i64 y84.2.2.2.2.2.2.2.2.2.2.2.2.1), .pv (.int .i64 y84.2.2.2.2.2.2.2.2.2.2.2.2.2.1), .pv (.int .i64 y84.2.2.2.2.2.2.2.2.2.2.2.2.2.2.1), .pv (.int .i64 y84.2.2.2.2.2.2.2.2.2.2.2.2.2.2.2.1), .pv (.int .i64 y84.2.2.2.2.2.2.2.2.2.2.2.2.2.2.2.2.1), .pv (.int .i64 y84.2.2.2.2.2.2.2.2.2.2.2.2.2.2.2.2.2.1), .pv (.int .i64 y84.2.2.2.2.2.2.2.2.2.2.2.2.2.2.2.2.2.2.1), .pv (.int .i64 y84.2.2.2.2.2.2.2.2.2.2.2.2.2.2.2.2.2.2.2.1), .pv (.vs 13 (List.map eGVar y84.2.2.2.2.2.2.2.2.2.2.2.2.2.2.2.2.2.2.2.2.1)), .pv (.vs 13 (List.map eGVar y84.2.2.2.2.2.2.2.2.2.2.2.2.2.2.2.2.2.2.2.2.2.1)), .ls 7, .pv (.int .i64 y84.2.2.2.2.2.2.2.2.2.2.2.2.2.2.2.2.2.2.2.2.2.2.2.1), .pv (.vs 13 (List.map eGVar y84.2.2.2.2.2.2.2.2.2.2.2.2.2.2.2.2.2.2.2.2.2.2.2.2.1)), .pv (.vs 1 (List.map eS y84.2.2.2.2.2.2.2.2.2.2.2.2.2.2.2.2.2.2.2.2.2.2.2.2.2.1)), .pv (.int .i64 y84.2.2.2.2.2.2.2.2.2.2.2.2.2.2.2.2.2.2.2.2.2.2.2.2.2.2.1), .pv (.int .i64 y84.2.2.2.2.2.2.2.2.2.2.2.2.2.2.2.2.2.2.2.2.2.2.2.2.2.2.2.1), .pv (.int .i64 y84.2.2.2.2.2.2.2.2.2.2.2.2.2.2.2.2.2.2.2.2.2.2.2.2.2.2.2.2)])], hneed := [(8, .box 109 (bxv (eGGot_ref09 zGGot_ref09)))], upd := [(8, some (.box 109 [.pv (.str y84.1), .pv (.vs 1 (List.map eS y84.2.1)), .pv (.str y84.2.2.1), .pv (.vs 2 (List.map eGOwner y84.2.2.2.1)), .ls 5, .ls 6, .pv (.int .i64 y84.2.2.2.2.2.2.1), .pv (.str y84.2.2.2.2.2.2.2.1), .pv (.bool y84.2.2.2.2.2.2.2.2.1), .pv (.int .i64 y84.2.2.2.2.2.2.2.2.2.1), .pv (.str y84.2.2.2.2.2.2.2.2.2.2.1), .pv (.int .i64 y84.2.2.2.2.2.2.2.2.2.2.2.1), .pv (.int .i64 y84.2.2.2.2.2.2.2.2.2.2.2.2.1), .pv (.int .i64 y84.2.2.2.2.2.2.2.2.2.2.2.2.2.1), .pv (.int .i64 y84.2.2.2.2.2.2.2.2.2.2.2.2.2.2.1), .pv (.int .i64 y84.2.2.2.2.2.2.2.2.2.2.2.2.2.2.2.1), .pv (.int .i64 y84.2.2.2.2.2.2.2.2.2.2.2.2.2.2.2.2.1), .pv (.int .i64 y84.2.2.2.2.2.2.2.2.2.2.2.2.2.2.2.2.2.1), .pv (.int .i64 y84.2.2.2.2.2.2.2.2.2.2.2.2.2.2.2.2.2.2.1), .pv (.int .i64 y84.2.2.2.2.2.2.2.2.2.2.2.2.2.2.2.2.2.2.2.1), .pv (.vs 13 (List.map eGVar y84.2.2.2.2.2.2.2.2.2.2.2.2.2.2.2.2.2.2.2.2.1)), .pv (.vs 13 (List.map eGVar y84.2.2.2.2.2.2.2.2.2.2.2.2.2.2.2.2.2.2.2.2.2.1)), .ls 7, .pv (.int .i64 y84.2.2.2.2.2.2.2.2.2.2.2.2.2.2.2.2.2.2.2.2.2.2.2.1), .pv (.vs 13 (List.map eGVar y84.2.2.2.2.2.2.2.2.2.2.2.2.2.2.2.2.2.2.2.2.2.2.2.2.1)), .pv (.vs 1 (List.map eS y84.2.2.2.2.2.2.2.2.2.2.2.2.2.2.2.2.2.2.2.2.2.2.2.2.2.1)), .pv (.int .i64 y84.2.2.2.2.2.2.2.2.2.2.2.2.2.2.2.2.2.2.2.2.2.2.2.2.2.2.1), .pv (.int .i64 y84.2.2.2.2.2.2.2.2.2.2.2.2.2.2.2.2.2.2.2.2.2.2.2.2.2.2.2.1), .pv (.int .i64 y84.2.2.2.2.2.2.2.2.2.2.2.2.2.2.2.2.2.2.2.2.2.2.2.2.2.2.2.2)]))] } (fun m h => step_on (guard_no rfl) (op_store_lp (n := 29) rfl h.1.1 h.1.2.1 rfl h.2.1.1 (or_agg agg_109) (by rw [non_109]; rfl) rfl rfl rfl) rfl) ⟨⟨rfl, rfl, trivial⟩, ⟨rfl, trivial⟩, trivial⟩ ?_
   refine dr_nil mixed rfl (by kernel_rfl) ?_
   refine post_imp (imp_any 1 4 rfl) ?_
   refine post_imp (imp_any 1 5 rfl) ?_
   refine piz (sX 100 [pf 0 (.vs 3 (List.map eGToken a0)), pf 2 (.int .i64 a2), (6, some (.lp 0 0)), (7, some (.lp 1 0)), (10, some (.lp 2 0))] [bf 0 109 (eGGot_ref09 zGGot_ref09), (1, some (.box 32 [.pv (.str x44), .pv (.vs 1 (List.map eS x45)), .pv (.str x46), .pv (.vs 2 (List.map eGOwner x47)), .any, .any, .pv (.int .i64 x50)])), (2, some (.box 109 [.pv (.str y84.1), .pv (.vs 1 (List.map eS y84.2.1)), .pv (.str y84.2.2.1), .pv (.vs 2 (List.map eGOwner y84.2.2.2.1)), .ls 3, .ls 4, .pv (.int .i64 y84.2.2.2.2.2.2.1), .pv (.str y84.2.2.2.2.2.2.2.1), .pv (.bool y84.2.2.2.2.2.2.2.2.1), .pv (.int .i64 y84.2.2.2.2.2.2.2.2.2.1), .pv (.str y84.2.2.2.2.2.2.2.2.2.2.1), .pv (.int .i64 y84.2.2.2.2.2.2.2.2.2.2.2.1), .pv (.int .i64 y84.2.2.2.2.2.2.2.2.2.2.2.2.1), .pv (.int .i64 y84.2.2.2.2.2.2.2.2.2.2.2.2.2.1), .pv (.int .i64 y84.2.2.2.2.2.2.2.2.2.2.2.2.2.2.1), .pv (.int .i64 y84.2.2.2.2.2.2.2.2.2.2.2.2.2.2.2.1), .pv (.int .i64 y84.2.2.2.2.2.2.2.2.2.2.2.2.2.2.2.2.1), .pv (.int .i64 y84.2.2.2.2.2.2.2.2.2.2.2.2.2.2.2.2.2.1), .pv (.int .i64 y84.2.2.2.2.2.2.2.2.2.2.2.2.2.2.2.2.2.2.1), .pv (.int .i64 y84.2.2.2.2.2.2.2.2.2.2.2.2.2.2.2.2.2.2.2.1), .pv (.vs 13 (List.map eGVar y84.2.2.2.2.2.2.2.2.2.2.2.2.2.2.2.2.2.2.2.2.1)), .pv (.vs 13 (List.map eGVar y84.2.2.2.2.2.2.2.2.2.2.2.2.2.2.2.2.2.2.2.2.2.1)), .ls 5, .pv (.int .i64 y84.2.2.2.2.2.2.2.2.2.2.2.2.2.2.2.2.2.2.2.2.2.2.2.1), .pv (.vs 13 (List.map eGVar y84.2.2.2.2.2.2.2.2.2.2.2.2.2.2.2.2.2.2.2.2.2.2.2.2.1)), .pv (.vs 1 (List.map eS y84.2.2.2.2.2.2.2.2.2.2.2.2.2.2.2.2.2.2.2.2.2.2.2.2.2.1)), .pv (.int .i64 y84.2.2.2.2.2.2.2.2.2.2.2.2.2.2.2.2.2.2.2.2.2.2.2.2.2.2.1), .pv (.int .i64 y84.2.2.2.2.2.2.2.2.2.2.2.2.2.2.2.2.2.2.2.2.2.2.2.2.2.2.2.1), .pv (.int .i64 y84.2.2.2.2.2.2.2.2.2.2.2.2.2.2.2.2.2.2.2.2.2.2.2.2.2.2.2.2)])), (3, some (.row 99 13 (List.map eGVar y84.2.2.2.2.1))), (4, some (.row 40 17 (List.map eGMethod y84.2.2.2.2.2.1))), (5, some (.row 48 23 (eLGStmt y84.2.2.2.2.2.2.2.2.2.2.2.2.2.2.2.2.2.2.2.2.2.2.1)))] 6) [0, 1, 8, 5, 6, 7] ?_
   iterate 8 refine go ?_
   refine cnd hF (fun hb86 hF => ?_) fun hb86 hF => ?_
   ·cases hF
   iterate 4 refine go ?_
   refine rgp (op_load_lp_aggM (cs := [.pv (.str y84.1), .pv (.vs 1 (List.map eS y84.2.1)), .pv (.str y84.2.2.1), .pv (.vs 2 (List.map eGOwner y84.2.2.2.1)), .ls 3, .ls 4, .pv (.int .i64 y84.2.2.2.2.2.2.1)]) rfl rfl rfl rfl rfl agg_32 rfl rfl) ?_
   iterate 6 refine go ?_
   refine reg_nil ?_
   refine piz (sX 100 [pf 0 (.vs 3 (List.map eGToken a0)), pf 1 (.int .i64 y84.2.2.2.2.2.2.2.2.2.2.2.2.2.2.2.2.2.2.2.2.2.2.2.2.2.2.1), pf 2 (.int .i64 a2), (6, some (.lp 0 0)), (7, some (.lp 1 0))] [bf 0 109 (eGGot_ref09 zGGot_ref09), (1, some (.box 32 [.pv (.str y84.1), .pv (.vs 1 (List.map eS y84.2.1)), .pv (.str y84.2.2.1), .pv (.vs 2 (List.map eGOwner y84.2.2.2.1)), .ls 2, .ls 3, .pv (.int .i64 y84.2.2.2.2.2.2.1)])), (2, some (.row 99 13 (List.map eGVar y84.2.2.2.2.1))), (3, some (.row 40 17 (List.map eGMethod y84.2.2.2.2.2.1)))] 4) [0, 1, 3, 4] ?_
   refine go ?_
   refine post_round ?_
   exact rnd_back (ih (y84.2.2.2.2.2.2.2.2.2.2.2.2.2.2.2.2.2.2.2.2.2.2.2.2.2.2.1, y84.1, y84.2.1, y84.2.2.1, y84.2.2.2.1, y84.2.2.2.2.1, y84.2.2.2.2.2.1, y84.2.2.2.2.2.2.1) hF) (impz [0, 1, 2, 3])
  refine aw_exit ?_
  iterate 2 refine post_then_exit ?_
  cases hF
  exact post_lp_break _ rfl (impz [0, 1, 2, 3])
 rintro _ rfl
 have hF := hK104
 obtain ⟨x95, x96, x97, x98, x99, x100, x101, x102⟩ := lr103
 iterate 2 refine go ?_
 refine reg_imp (imp_freeze_in [(2, some (.row 99 13 (List.map eGVar x100)))] [] 1 4 2 (FzH.spec ⟨rfl, trivial⟩) trivial rfl rfl rfl) ?_
 refine reg_imp (imp_freeze_in [(3, some (.row 40 17 (List.map eGMethod x101)))] [] 1 5 3 (FzH.spec ⟨rfl, trivial⟩) trivial rfl rfl rfl) ?_
 refine rgp (la (eGClass ({ fName := x96, fParams := x97, fSuper := x98, fAbove := x99, fFields := x100, fMethods := x101, fAt := x102 } : GClass)) agg_32) ?_
 iterate 2 refine go ?_
 refine rgp (bd ((eGGot_ref09 zGGot_ref09)) (eGGot_ref09 ({ fC := ({ fName := x96, fParams := x97, fSuper := x98, fAbove := x99, fFields := x100, fMethods := x101, fAt := x102 } : GClass), fM := zGMethod, fV := [], fN := [], fNext := w_i64 (x95 + 1), fF := zGFault } : GGot_ref09)) zer_109 plc_109) ?_
 iterate 3 refine go ?_
 cases hF
 exact post_ret rfl rfl (.cons _ _ _ _ _ (.agg _ _ _ _ _ 29 _ _ rfl rfl agg_109 rfl rfl rfl) (.p _) .nil) (.inl rfl)
theorem ref09_Of_ok {a0 : List UInt8} {r : (List GClass) × GFault} (hF : ref09_Of a0 = some r) : FZ 21 [.str a0] [.own 32 7 (List.map eGClass r.1), .p (.agg (eGFault r.2))] := by
 unfold ref09_Of at hF
 refine fn_of_body (n := 65) Tryz.func21 rfl rfl rfl fun w O => ?_
 iterate 2 refine go ?_
 refine rgp (al 0 (eGFault zGFault) zer_55) ?_
 iterate 3 refine go ?_
 obtain ⟨y3, h4, hF⟩ := bs hF
 refine rgp (cl 1 [.str a0] [.p (.vs 3 (List.map eGToken y3.1)), .p (.agg (eGFault y3.2))] (Fn.frozen (ref03_Of_ok h4))) ?_
 refine go ?_
 iterate 2 (refine rgp (op_extract rfl rfl rfl rfl rfl) ?_)
 refine rgp (al 1 (eGFault zGFault) zer_55) ?_
 iterate 9 refine go ?_
 refine cnd hF (fun hb5 hF => ?_) fun hb5 hF => ?_
 ·cases hF
 iterate 4 refine go ?_
 refine reg_imp (imp_nil_own 6 32 7 2 rfl rfl) ?_
 iterate 5 refine go ?_
 refine aw_seq ?_
 obtain ⟨x87, hF, hK88⟩ := bs hF
 refine aw_for (a0.length + 64) (fun s1 => s1 = (sX 65 [(3, some (.lp 0 0)), (6, some (.ls 1))] [bf 0 55 (eGFault zGFault), (1, some (.row 32 7 (List.map eGClass x87)))] 2)) ?_ ?_
 ·refine rnd_loop (α := (List GClass) × Int × Int) (fun q => (sX 65 [(3, some (.lp 0 0)), pf 4 (.vs 3 (List.map eGToken y3.1)), (6, some (.ls 1)), pf 7 (.int .i64 q.2.1), pf 8 (.int .i64 q.2.2)] [bf 0 55 (eGFault zGFault), (1, some (.row 32 7 (List.map eGClass q.1)))] 2)) (fun k q => ref09_Of_L1 y3 k q.1 q.2.1 q.2.2 = some x87) ([], 0, 0) (impz [0, 2]) hF (fun q h => by cases h) ?_
  clear hF
  rintro k ⟨x30, x31, x32⟩ hF ih
  refine rnd_succ ?_
  iterate 4 refine go ?_
  obtain ⟨y62, h63, hF⟩ := bs hF
  refine rgp (cl 2 [.vs 3 (List.map eGToken y3.1), .int .i64 x31] [.p (.agg (eGToken y62))] (ref09_tok_ok h63)) ?_
  refine rgp (op_field1 (p := .int .i64 y62.fKind) rfl rfl ftb_105_0 one_3 rfl rfl rfl) ?_
  iterate 2 refine go ?_
  refine cnd hF (fun hb64 hF => ?_) fun hb64 hF => ?_
  ·iterate 2 refine go ?_
   refine aw_block ?_
   iterate 4 refine go ?_
   obtain ⟨y67, h68, hF⟩ := bs hF
   refine rgp (cl 2 [.vs 3 (List.map eGToken y3.1), .int .i64 x31, .str [99, 108, 97, 115, 115]] [.p (.bool y67)] (ref09_is_ok h68)) ?_
   iterate 2 refine go ?_
   refine cnd hF (fun hb69 hF => ?_) fun hb69 hF => ?_
   ·cases hF
   iterate 5 refine go ?_
   refine rgp (op_len_ls (n := x30.length) rfl rfl rfl (List.length_map ..) slc_22 rfl rfl) ?_
   iterate 2 refine go ?_
   refine cnd hF (fun hb70 hF => ?_) fun hb70 hF => ?_
   ·cases hF
   iterate 6 refine go ?_
   obtain ⟨y73, h74, hF⟩ := bs hF
   refine rgp (cl 2 [.vs 3 (List.map eGToken y3.1), .int .i64 x31, .int .i64 x32] [.p (.agg (eGGot_ref09 y73))] (ref09_class_ok h74)) ?_
   refine rgp (al 2 (eGGot_ref09 zGGot_ref09) zer_109) ?_
   iterate 9 refine go ?_
   refine cnd hF (fun hb75 hF => ?_) fun hb75 hF => ?_
   ·cases hF
   iterate 5 refine go ?_
   refine rgp (la (eGClass y73.fC) agg_32) ?_
   refine rgp (op_lit (rows := List.map eGClass ([y73.fC] : List GClass)) (zs := (eGClass zGClass)) rfl rfl slc_22 zer_32 (by exact ⟨rfl, trivial, rfl, trivial, trivial, trivial, rfl, trivial⟩) rfl rfl rfl rfl rfl rfl rfl rfl) ?_
   obtain ⟨u78, h79, hF⟩ := bs hF
   refine rgp (op_append 3 rfl rfl rfl rfl rfl slc_22 elm_32 zer_32 rfl rfl rfl (room_map (f := eGClass) (g := eGClass) h79) (List.map_append (f := eGClass) (l₁ := x30) (l₂ := [y73.fC])).symm rfl rfl) ?_
   iterate 5 refine go ?_
   refine rgp (la (eGClass y73.fC) agg_32) ?_
   obtain ⟨y82, h83, hF⟩ := bs hF
   refine rgp (cl 4 [.agg (eGClass y73.fC)] [.p (.int .i64 y82)] (ref09_Stmts_ok h83)) ?_
   iterate 7 refine go ?_
   refine reg_nil ?_
   refine piz (sX 65 [(3, some (.lp 0 0)), pf 4 (.vs 3 (List.map eGToken y3.1)), (6, some (.ls 1)), pf 7 (.int .i64 y73.fNext), pf 8 (.int .i64 (w_i64 (x32 + y82)))] [bf 0 55 (eGFault zGFault), (1, some (.row 32 7 (List.map eGClass (x30 ++ [y73.fC]))))] 2) [0, 3] ?_
   refine go ?_
   refine post_round ?_
   exact rnd_back (ih ((x30 ++ [y73.fC]), y73.fNext, w_i64 (x32 + y82)) hF) (impz [0, 1])
  refine aw_exit ?_
  iterate 2 refine post_then_exit ?_
  cases hF
  exact post_lp_break _ rfl (impz [0, 1])
 rintro _ rfl
 have hF := hK88
 iterate 3 refine go ?_
 refine rgp (bd ((eGFault zGFault)) (eGFault ({ fErr := 0, fAt := 0 } : GFault)) zer_55 plc_55) ?_
 iterate 4 refine go ?_
 cases hF
 exact post_ret rfl rfl (.cons _ _ _ _ _ (.tmp _ _ rfl) (.own _ _ _ _ rfl nolent3) (.cons _ _ _ _ _ (.agg _ _ _ _ _ 2 _ _ rfl rfl agg_55 rfl rfl rfl) (.p _) .nil)) (.inl rfl)
theorem arena_body_ok {a0 : GMethod} {r : GMethod} (hF : arena_body a0 = some r) : FZ 49 [.agg (eGMethod a0)] [.p (.fn 92 [.vp (eGMethod r)])] := by
 unfold arena_body at hF
 refine fn_of_body (n := 4) Tryz.func49 rfl rfl rfl fun w O => ?_
 refine go ?_
 refine rgp (bo 0) ?_
 iterate 3 refine go ?_
 refine rgp (op_makeFunc rfl rfl rfl rfl) ?_
 iterate 3 refine go ?_
 refine post_imp (imp_freeze [(0, some (.box 40 (bxv (eGMethod a0))))] [(2, some (.pv (.fn 92 [.vp (eGMethod a0)])))] (FzH.spec ⟨rfl, trivial⟩) ⟨⟨_, rfl, rfl⟩, trivial⟩) ?_
 cases hF
 exact post_ret rfl rfl (.cons _ _ _ _ _ (.tmp _ _ rfl) (.p _) .nil) (.inl rfl)
theorem arena_inner_y_ring {rows : List (Int × GStmt)} {sp : Nat} : ∀ (n : Nat) (k0 : Nat) (a0 : List GStmt) (a1 : Int) (r : Bool × Nat), arena_inner_y rows sp n k0 a0 a1 = some r → ItF globs_Tryz Tryz.prog 93 2 (fun l => [.vs 23 (eLGStmt a0), .int .i64 a1, .yld l]) (rows.map (fun z : Int × GStmt => ([.int .i64 z.1, .vp (eGStmt z.2)] : List PV))) sp k0 (r.2) [.bool r.1] := by
 intro n
 induction n with
 | zero => exact fun _ _ _ _ h => by simp [arena_inner_y] at h
 | succ n ih =>
  have arena_inner_y_ih := ih
  clear ih
  intro k0 a0 a1 r hF
  unfold arena_inner_y at hF
  revert hF arena_inner_y_ih
  generalize arena_inner_y rows sp n = arena_inner_y_rec
  intro arena_inner_y_ih hF
  refine itf_of_body (n := 45) Tryz.func93 rfl rfl (fun _ => rfl) ?_
  intro l c w O I hcx hfx hIO
  iterate 6 refine go ?_
  refine rgp (op_len_vs (n := a0.length) rfl rfl (lenR eLGStmt_map) slc_38 rfl rfl) ?_
  iterate 2 refine go ?_
  obtain ⟨lr80, hF, hK81⟩ := bs hF
  refine aw_for ((a0.length - 0 : Int).toNat + 1) (fun s1 => ∃ q, lr80 = .next q ∧ s1 = ⟨45, [], [], 0, [], [], q, []⟩) ?_ ?_
  ·refine rnd_loop (α := Nat × Int) (fun q => ⟨45, [(0, some (.pv (.vs 23 (eLGStmt a0)))), (1, some (.pv (.int .i64 a1))), (2, some (.pv (.yld l))), (9, some (.pv (.int .i64 (a0.length : Int)))), (10, some (.pv (.int .i64 q.2)))], [], 0, [], [], q.1, []⟩) (fun k q => arena_inner_y_L1 a0 a1 sp rows arena_inner_y_rec k q.1 q.2 = some lr80) (k0, 0) (impz []) hF (fun q h => by cases h) ?_
   clear hF
   rintro k ⟨x25, x26⟩ hF ih
   refine rnd_succ ?_
   iterate 3 refine go ?_
   refine aw_seq ?_
   refine cnd hF (fun hb53 hF => ?_) fun hb53 hF => ?_
   ·iterate 2 refine go ?_
    refine aw_seq ?_
    refine aw_block ?_
    iterate 4 refine go ?_
    refine aw_seq ?_
    obtain ⟨p74, hF, hK75⟩ := bs hF
    obtain ⟨x72, x73⟩ := p74
    refine ctx ⟨45, [(0, some (.pv (.vs 23 (eLGStmt a0)))), (1, some (.pv (.int .i64 a1))), (2, some (.pv (.yld l))), (9, some (.pv (.int .i64 (a0.length : Int)))), (10, some (.pv (.int .i64 x26))), (43, some (.pv (.bool x73)))], [], 0, [], [], x72, []⟩ ?_ ?_
    ·iterate 5 refine go ?_
     obtain ⟨y58, h59, hF⟩ := bs hF
     refine rgp (ix (idxR eLGStmt_map h59) slc_38) ?_
     obtain ⟨u60, h61, hF⟩ := bs hF
     refine rgp (op_yield (row := (fun z : Int × GStmt => ([.int .i64 z.1, .vp (eGStmt z.2)] : List PV)) (a1, y58)) hcx rfl rfl rfl rfl (yck_row (fun z : Int × GStmt => ([.int .i64 z.1, .vp (eGStmt z.2)] : List PV)) h61) (yck_spec h61).2 rfl rfl) ?_
     iterate 2 refine go ?_
     rcases ie hF with ⟨hb62, hF⟩ | ⟨hb62, hF⟩
     ·refine rgo_t hb62 ?_
      iterate 9 refine rgo_t hb62 ?_
      refine rpt hb62 ?_
      refine go ?_
      iterate 10 refine rgo_t rfl ?_
      refine rpt rfl ?_
      cases hF
      exact rcz []
     iterate 2 (refine rgn hb62 (op_move rfl rfl rfl rfl) ?_)
     obtain ⟨y63, h64, hF⟩ := bs hF
     refine rgn hb62 (ix (idxR eLGStmt_map h64) slc_38) ?_
     iterate 5 refine gn hb62 ?_
     obtain ⟨y65, h66, hF⟩ := bs hF
     refine rgn hb62 (op_callY (args := fun l => [.vs 23 (eLGStmt y63.fBody), .int .i64 (w_i64 (a1 + 1)), .yld l]) hcx rfl rfl rfl cal_93 (arena_inner_y_ih _ _ _ _ h66) rfl rfl) ?_
     refine gn hb62 ?_
     refine rpf hb62 ?_
     refine go ?_
     rcases ie hF with ⟨hb67, hF⟩ | ⟨hb67, hF⟩
     ·refine rgo_t hb67 ?_
      iterate 9 refine rgo_t hb67 ?_
      refine rpt hb67 ?_
      cases hF
      exact rcz []
     iterate 2 (refine rgn hb67 (op_move rfl rfl rfl rfl) ?_)
     obtain ⟨y68, h69, hF⟩ := bs hF
     refine rgn hb67 (ix (idxR eLGStmt_map h69) slc_38) ?_
     iterate 5 refine gn hb67 ?_
     obtain ⟨y70, h71, hF⟩ := bs hF
     refine rgn hb67 (op_callY (args := fun l => [.vs 23 (eLGStmt y68.fElse), .int .i64 (w_i64 (a1 + 1)), .yld l]) hcx rfl rfl rfl cal_93 (arena_inner_y_ih _ _ _ _ h71) rfl rfl) ?_
     refine gn hb67 ?_
     refine rpf hb67 ?_
     cases hF
     exact rcz []
    have hF := hK75
    refine go ?_
    refine cnd hF (fun hb76 hF => ?_) fun hb76 hF => ?_
    ·iterate 7 refine go ?_
     refine post_lp_ret ?_
     cases hF
     have hF := elim_stop hK81
     refine go ?_
     cases hF
     exact post_itf hfx hIO rfl rfl (.cons _ _ _ _ (.tmp _ _ rfl) .nil) (.inl rfl)
    iterate 6 refine go ?_
    refine rnr ?_
    exact rnd_back (ih (x72, w_i64 (x26 + 1)) hF) (impz [])
   refine aw_exit ?_
   iterate 2 refine post_then_exit ?_
   cases hF
   exact post_lp_break _ ⟨_, rfl, rfl⟩ (impz [])
  rintro _ ⟨x79, rfl, rfl⟩
  have hF := elim_next hK81
  clear hK81
  iterate 5 refine go ?_
  cases hF
  exact post_itf hfx hIO rfl rfl (.cons _ _ _ _ (.tmp _ _ rfl) .nil) (.inl rfl)
theorem arena_inner_y_ok {rows : List (Int × GStmt)} {sp n : Nat} {k0 : Nat} {a0 : List GStmt} {a1 : Int} {r : Bool × Nat} (hF : arena_inner_y rows sp n k0 a0 a1 = some r) : ItF globs_Tryz Tryz.prog 93 2 (fun l => [.vs 23 (eLGStmt a0), .int .i64 a1, .yld l]) (rows.map (fun z : Int × GStmt => ([.int .i64 z.1, .vp (eGStmt z.2)] : List PV))) sp k0 (r.2) [.bool r.1] := arena_inner_y_ring n k0 a0 a1 r hF
theorem arena_body_1_it {rows : List (Int × GStmt)} {sp : Nat} {c0 : GMethod} (hF : arena_body_1 rows sp c0 = some (min (sp + 1) rows.length)) : It globs_Tryz Tryz.prog 92 2 [.vp (eGMethod c0)] none [] (rows.map (fun z : Int × GStmt => ([.int .i64 z.1, .vp (eGStmt z.2)] : List PV))) sp := by
 unfold arena_body_1 at hF
 refine it_of_body (n := 7) Tryz.func92 rfl rfl rfl ?_
 intro l c hcx
 iterate 4 refine go ?_
 obtain ⟨y1, h2, hF⟩ := bs hF
 refine rgp (op_callY (args := fun l => [.vs 23 (eLGStmt c0.fBody), .int .i64 0, .yld l]) hcx rfl rfl rfl cal_93 (arena_inner_y_ok h2) rfl rfl) ?_
 refine reg_nil ?_
 exact post_it (it_len hF) rfl (.inr rfl)

theorem arena_Stmts_ok {a0 : List GClass} {r : (List GLine_arena)} (hF : arena_Stmts a0 = some r) : FZ 25 [.vs 7 (List.map eGClass a0)] [.own 77 26 (List.map eGLine_arena r)] := by
 unfold arena_Stmts at hF
 refine fn_of_body (n := 42) Tryz.func25 rfl rfl rfl fun w O => ?_
 iterate 4 refine go ?_
 refine rgp (al 0 [.nils] zer_75) ?_
 refine reg_imp (imp_nil_box 0 0 75 77 26 1 rfl rfl rfl) ?_
 iterate 7 refine go ?_
 obtain ⟨x334, hF, hK335⟩ := bs hF
 refine aw_for ((a0.length - 0 : Int).toNat + 1) (fun s1 => s1 = (sX 42 [(3, some (.lp 0 0))] [(0, some (.box 75 [.ls 1])), (1, some (.row 77 26 (List.map eGLine_arena x334)))] 2)) ?_ ?_
 ·refine rnd_loop (α := (List GLine_arena) × Int) (fun q => (sX 42 [(3, some (.lp 0 0)), pf 10 (.vs 7 (List.map eGClass a0)), pf 11 (.int .i64 (a0.length : Int)), pf 12 (.int .i64 q.2)] [(0, some (.box 75 [.ls 1])), (1, some (.row 77 26 (List.map eGLine_arena q.1)))] 2)) (fun k q => arena_Stmts_L1 a0 k q.1 q.2 = some x334) ([], 0) (impz [0, 1]) hF (fun q h => by cases h) ?_
  clear hF
  rintro k ⟨x110, x111⟩ hF ih
  refine rnd_succ ?_
  iterate 3 refine go ?_
  refine aw_seq ?_
  refine cnd hF (fun hb223 hF => ?_) fun hb223 hF => ?_
  ·iterate 2 refine go ?_
   refine aw_seq ?_
   refine aw_block ?_
   iterate 2 refine go ?_
   obtain ⟨y226, h227, hF⟩ := bs hF
   refine rgp (ix (idx_map eGClass h227) slc_22) ?_
   refine rgp (lw (eGClass y226) agg_32) ?_
   refine rgp (al 2 [.int .i64 0] zer_3) ?_
   refine rgp (al 3 (eGClass zGClass) zer_32) ?_
   iterate 9 refine go ?_
   obtain ⟨x330, hF, hK331⟩ := bs hF
   refine aw_for ((y226.fMethods.length - 0 : Int).toNat + 1) (fun s1 => s1 = (sX 42 [(3, some (.lp 0 0)), pf 10 (.vs 7 (List.map eGClass a0)), pf 11 (.int .i64 (a0.length : Int)), pf 12 (.int .i64 x111)] [(0, some (.box 75 [.ls 1])), (1, some (.row 77 26 (List.map eGLine_arena x330)))] 2)) ?_ ?_
   ·refine rnd_loop (α := (List GLine_arena) × Int) (fun q => (sX 42 [(3, some (.lp 0 0)), (4, some (.lp 2 0)), pf 10 (.vs 7 (List.map eGClass a0)), pf 11 (.int .i64 (a0.length : Int)), pf 12 (.int .i64 x111), pf 18 (.vs 17 (List.map eGMethod y226.fMethods)), pf 19 (.int .i64 (y226.fMethods.length : Int)), pf 20 (.int .i64 q.2)] [(0, some (.box 75 [.ls 1])), (1, some (.row 77 26 (List.map eGLine_arena q.1))), (2, some (.box 3 [.pv (.int .i64 x111)]))] 3)) (fun k q => arena_Stmts_L2 x111 y226 k q.1 q.2 = some x330) (x110, 0) (impz [0, 1, 2]) hF (fun q h => by cases h) ?_
    clear hF
    rintro k ⟨x260, x261⟩ hF ih
    refine rnd_succ ?_
    iterate 3 refine go ?_
    refine aw_seq ?_
    refine cnd hF (fun hb296 hF => ?_) fun hb296 hF => ?_
    ·iterate 2 refine go ?_
     refine aw_seq ?_
     refine aw_block ?_
     iterate 2 refine go ?_
     obtain ⟨y299, h300, hF⟩ := bs hF
     refine rgp (ix (idx_map eGMethod h300) slc_30) ?_
     refine rgp (lw (eGMethod y299) agg_40) ?_
     refine rgp (al 3 [.int .i64 0] zer_3) ?_
     refine rgp (al 4 (eGMethod zGMethod) zer_40) ?_
     iterate 4 refine go ?_
     refine rgp (la (eGMethod y299) agg_40) ?_
     obtain ⟨y303, h304, hF⟩ := bs hF
     refine rgp (cl 5 [.agg (eGMethod y299)] [.p (.fn 92 [.vp (eGMethod y303)])] (arena_body_ok h304)) ?_
     refine go ?_
     refine aw_block ?_
     refine aw_imp (s' := (sX 42 [(3, some (.lp 0 0)), (4, some (.lp 2 0)), (6, some (.lp 3 0)), pf 10 (.vs 7 (List.map eGClass a0)), pf 11 (.int .i64 (a0.length : Int)), pf 12 (.int .i64 x111), pf 18 (.vs 17 (List.map eGMethod y226.fMethods)), pf 19 (.int .i64 (y226.fMethods.length : Int)), pf 20 (.int .i64 x261), pf 26 (.fn 92 [.vp (eGMethod y303)])] [(0, some (.box 75 [.ls 1])), (1, some (.row 77 26 (List.map eGLine_arena x260))), (2, some (.box 3 [.pv (.int .i64 x111)])), (3, some (.box 3 [.pv (.int .i64 x261)]))] 4)) (impz [0, 1, 2, 3]) ?_
     obtain ⟨rows320, hR321, hF⟩ := bs hF
     obtain ⟨lr322, hL323, hF⟩ := bs hF
     refine aw_rangeFunc (X := (Int × GStmt)) (Q := (List GLine_arena)) (E := Unit) (pre := [.vp (eGMethod y303)]) (bx := none) (post := []) (kt := [3, 4, 6, 10, 11, 12, 18, 19, 20]) (psl := [27, 28]) none (fun z : Int × GStmt => ([.int .i64 z.1, .vp (eGStmt z.2)] : List PV)) rows320 (arena_Stmts_B3 x111 x261) x260 lr322 hL323 (fun q => (sX 42 [(3, some (.lp 0 0)), (4, some (.lp 2 0)), (6, some (.lp 3 0)), pf 10 (.vs 7 (List.map eGClass a0)), pf 11 (.int .i64 (a0.length : Int)), pf 12 (.int .i64 x111), pf 18 (.vs 17 (List.map eGMethod y226.fMethods)), pf 19 (.int .i64 (y226.fMethods.length : Int)), pf 20 (.int .i64 x261)] [(0, some (.box 75 [.ls 1])), (1, some (.row 77 26 (List.map eGLine_arena q))), (2, some (.box 3 [.pv (.int .i64 x111)])), (3, some (.box 3 [.pv (.int .i64 x261)]))] 4)) (fun _ => (.ret, (sX 42 [] [] 0))) ⟨rfl, rfl⟩ cal_92 (fun sp => arena_body_1_it (itR_stmts_ok hR321 sp)) (fun _ => rfl) rfl rfl (by decide) rfl (fun x q => ⟨42, [(3, some (.lp 0 0)), (4, some (.lp 2 0)), (6, some (.lp 3 0)), (8, some (.pv (.int .i64 x.1))), (9, some (.pv (.vp (eGStmt x.2)))), (10, some (.pv (.vs 7 (List.map eGClass a0)))), (11, some (.pv (.int .i64 (a0.length : Int)))), (12, some (.pv (.int .i64 x111))), (18, some (.pv (.vs 17 (List.map eGMethod y226.fMethods)))), (19, some (.pv (.int .i64 (y226.fMethods.length : Int)))), (20, some (.pv (.int .i64 x261))), (28, some (.pv (.vp (eGStmt x.2))))], [(0, some (.box 75 [.ls 1])), (1, some (.row 77 26 (List.map eGLine_arena q))), (2, some (.box 3 [.pv (.int .i64 x111)])), (3, some (.box 3 [.pv (.int .i64 x261)]))], 4, [], [], 0, [3, 4, 6, 10, 11, 12, 18, 19, 20]⟩) (fun q => ⟨rfl, rfl, rfl, rfl⟩) (fun z => ⟨rfl, rfl, rfl, rfl⟩) (fun z => rfl) rfl rfl ⟨rfl, rfl, rfl, rfl, rfl, rfl, rfl, rfl, rfl, trivial⟩ ⟨⟨rfl, rfl, rfl⟩, ⟨rfl, rfl, rfl⟩, ⟨rfl, rfl, rfl⟩, ⟨rfl, rfl, rfl⟩, trivial⟩ ?_ ?_ ?_ ?_
     ·rintro l324 c325 ⟨x315, x316⟩ x309 hc326
      iterate 5 refine go ?_
      refine reg_nil ?_
      exact post_cut1 (impz [0, 1, 2, 3])
     ·rintro l324 c325 ⟨x315, x316⟩ x309 r327 hc326 hF
      rw [arena_Stmts_B3] at hF
      refine aw_block ?_
      refine aw_imp (imp_names 1) ?_
      refine dr_start ⟨_, _, _⟩ rfl ?_
      iterate 5 refine dgo ?_
      refine dr_cons { need := [(33, .pv (.vp (eGStmt x316)))], dst := some 34, val := some (.pv (.vp (eGStmt x316))) } (fun m h => step_on (guard_no rfl) (op_nilCheck rfl h.1.1 rfl rfl rfl) rfl) ⟨⟨rfl, trivial⟩, trivial, trivial⟩ ?_
      refine dr_cons { need := [(34, .pv (.vp (eGStmt x316)))], dst := some 35, val := some (.pv (.agg (eGStmt x316))) } (fun m h => step_on (guard_no rfl) (op_load_vp_agg (ps := eGStmt x316) rfl h.1.1 rfl rfl agg_48 rfl rfl) rfl) ⟨⟨rfl, trivial⟩, trivial, trivial⟩ ?_
      refine dr_cons { need := [(35, .pv (.agg (eGStmt x316))), (32, .pv (.int .i64 x315)), (31, .pv (.int .i64 x261)), (30, .pv (.int .i64 x111))], dst := some 36, val := some (.pv (.agg (eGLine_arena ({ fClass := x111, fMethod := x261, fDeep := x315, fS := x316 } : GLine_arena)))) } (fun m h => step_on (guard_no rfl) (op_build (zs := (eGLine_arena zGLine_arena)) (r := eGLine_arena ({ fClass := x111, fMethod := x261, fDeep := x315, fS := x316 } : GLine_arena)) rfl zer_77 (by exact ⟨rfl, rfl, rfl, rfl, rfl, rfl, rfl, rfl, rfl, rfl, rfl, rfl, rfl, rfl, rfl, rfl, rfl, rfl, rfl, rfl, rfl, trivial, trivial, trivial, trivial, rfl, trivial⟩) plc_77 (evs_cons h.1.2.2.2.1 (evs_cons h.1.2.2.1 (evs_cons h.1.2.1 (evs_cons h.1.1 evs_nil)))) rfl rfl rfl) rfl) ⟨⟨rfl, rfl, rfl, rfl, trivial⟩, trivial, trivial⟩ ?_
      refine dr_cons { need := [(36, .pv (.agg (eGLine_arena ({ fClass := x111, fMethod := x261, fDeep := x315, fS := x316 } : GLine_arena))))], dst := some 37, val := some (.pv (.vs 26 (List.map eGLine_arena [({ fClass := x111, fMethod := x261, fDeep := x315, fS := x316 } : GLine_arena)]))) } (fun m h => step_on (guard_no rfl) (op_lit (rows := List.map eGLine_arena ([({ fClass := x111, fMethod := x261, fDeep := x315, fS := x316 } : GLine_arena)] : List GLine_arena)) (zs := (eGLine_arena zGLine_arena)) rfl rfl slc_75 zer_77 (by exact ⟨rfl, rfl, rfl, rfl, rfl, rfl, rfl, rfl, rfl, rfl, rfl, rfl, rfl, rfl, rfl, rfl, rfl, rfl, rfl, rfl, rfl, trivial, trivial, trivial, trivial, rfl, trivial⟩) rfl rfl rfl (evs_cons h.1.1 evs_nil) rfl rfl rfl rfl) rfl) ⟨⟨rfl, trivial⟩, trivial, trivial⟩ ?_
      obtain ⟨u317, h318, hF⟩ := bs hF
      refine dr_cons { need := [(29, .ls 1), (37, .pv (.vs 26 (List.map eGLine_arena [({ fClass := x111, fMethod := x261, fDeep := x315, fS := x316 } : GLine_arena)])))], hneed := [(1, .row 77 26 (List.map eGLine_arena x309))], names := [4], dst := some 38, val := some (.ls 4), upd := [(4, some (.row 77 26 (List.map eGLine_arena (x309 ++ [({ fClass := x111, fMethod := x261, fDeep := x315, fS := x316 } : GLine_arena)])))), (1, none)] } (fun m h => step_on (guard_no rfl) (op_append 4 (fresh_free h.2.2.1) rfl h.1.1 h.2.1.1 h.1.2.1 slc_75 elm_77 zer_77 rfl rfl rfl (room_map (f := eGLine_arena) (g := eGLine_arena) h318) (List.map_append (f := eGLine_arena) (l₁ := x309) (l₂ := [({ fClass := x111, fMethod := x261, fDeep := x315, fS := x316 } : GLine_arena)])).symm rfl rfl) rfl) ⟨⟨rfl, rfl, trivial⟩, ⟨rfl, trivial⟩, ⟨rfl, trivial⟩⟩ ?_
      refine dr_cons { need := [(3, .lp 0 0), (38, .ls 4)], hneed := [(0, .box 75 [.ls 1])], upd := [(0, some (.box 75 [.ls 4]))] } (fun m h => step_on (guard_no rfl) (op_store_lp (n := 1) rfl h.1.1 h.1.2.1 rfl h.2.1.1 (or_one one_75) (by rw [one_75]; rfl) rfl rfl rfl) rfl) ⟨⟨rfl, rfl, trivial⟩, ⟨rfl, trivial⟩, trivial⟩ ?_
      refine dr_nil mixed rfl (by kernel_rfl) ?_
      refine piz ⟨42, [(3, some (.lp 0 0)), (4, some (.lp 2 0)), (6, some (.lp 3 0)), (10, some (.pv (.vs 7 (List.map eGClass a0)))), (11, some (.pv (.int .i64 (a0.length : Int)))), (12, some (.pv (.int .i64 x111))), (18, some (.pv (.vs 17 (List.map eGMethod y226.fMethods)))), (19, some (.pv (.int .i64 (y226.fMethods.length : Int)))), (20, some (.pv (.int .i64 x261)))], [(0, some (.box 75 [.ls 1])), (1, some (.row 77 26 (List.map eGLine_arena (x309 ++ [({ fClass := x111, fMethod := x261, fDeep := x315, fS := x316 } : GLine_arena)])))), (2, some (.box 3 [.pv (.int .i64 x111)])), (3, some (.box 3 [.pv (.int .i64 x261)]))], 4, [], [], 0, [3, 4, 6, 10, 11, 12, 18, 19, 20]⟩ [0, 4, 2, 3] ?_
      refine go ?_
      cases hF
      exact post_rnd (x309 ++ [({ fClass := x111, fMethod := x261, fDeep := x315, fS := x316 } : GLine_arena)]) rfl (impz [0, 1, 2, 3])
     ·rintro x309 rfl
      have hF := elim_next hF
      iterate 6 refine go ?_
      refine rnr ?_
      exact rnd_back (ih (x309, w_i64 (x261 + 1)) hF) (impz [0, 1, 2])
     rintro ⟨⟩ rfl
     have hF := elim_stop hF
     cases hF
    refine aw_exit ?_
    iterate 2 refine post_then_exit ?_
    cases hF
    exact post_lp_break _ rfl (impz [0, 1])
   rintro _ rfl
   have hF := hK331
   iterate 5 refine go ?_
   refine rnr ?_
   exact rnd_back (ih (x330, w_i64 (x111 + 1)) hF) (impz [0, 1])
  refine aw_exit ?_
  iterate 2 refine post_then_exit ?_
  cases hF
  exact post_lp_break _ rfl (impz [0, 1])
 rintro _ rfl
 have hF := hK335
 iterate 6 refine go ?_
 cases hF
 exact post_ret rfl rfl (.cons _ _ _ _ _ (.tmp _ _ rfl) (.own _ _ _ _ rfl nolent3) .nil) (.inl rfl)
theorem pure_Changes_ok {a0 : List GClass} {a1 : GClass} {a2 : GMethod} {a3 : GStmt} {r : Bool} (hF : pure_Changes a0 a1 a2 a3 = some r) : FZ 10 [.vs 7 (List.map eGClass a0), .agg (eGClass a1), .agg (eGMethod a2), .agg (eGStmt a3)] [.p (.bool r)] := by
 unfold pure_Changes at hF
 refine fn_of_body (n := 34) Tryz.func10 rfl rfl rfl fun w O => ?_
 refine go ?_
 refine rgp (bo 0) ?_
 refine rgp (bo 1) ?_
 refine rgp (bo 2) ?_
 iterate 7 refine go ?_
 refine aw_block ?_
 iterate 5 refine go ?_
 refine cnd hF (fun hb1 hF => ?_) fun hb1 hF => ?_
 ·iterate 2 refine go ?_
  refine aw_cond_t rfl hb1 ?_
  iterate 6 refine go ?_
  cases hF
  exact prt
 cases hF
theorem pure_Check_ok {a0 : List GClass} {r : GFault} (hF : pure_Check a0 = some r) : FZ 12 [.vs 7 (List.map eGClass a0)] [.p (.agg (eGFault r))] := by
 unfold pure_Check at hF
 refine fn_of_body (n := 41) Tryz.func12 rfl rfl rfl fun w O => ?_
 refine go ?_
 refine rgp (al 0 (eGFault zGFault) zer_55) ?_
 iterate 4 refine go ?_
 obtain ⟨y3, h4, hF⟩ := bs hF
 refine rgp (cl 1 [.vs 7 (List.map eGClass a0)] [.p (.vs 26 (List.map eGLine_arena y3))] (Fn.frozen (arena_Stmts_ok h4))) ?_
 iterate 3 refine go ?_
 obtain ⟨lr65, hF, hK66⟩ := bs hF
 refine aw_for ((y3.length - 0 : Int).toNat + 1) (fun s1 => ∃ q, lr65 = .next q ∧ s1 = (sX 41 [(2, some (.lp 0 0))] [bf 0 55 (eGFault zGFault)] 1)) ?_ ?_
 ·refine rnd_loop (α := Unit) (fun q => (sX 41 [pf 0 (.vs 7 (List.map eGClass a0)), (2, some (.lp 0 0)), pf 8 (.vs 26 (List.map eGLine_arena y3)), pf 9 (.int .i64 (y3.length : Int)), pf 10 (.int .i64 0)] [bf 0 55 (eGFault zGFault)] 1)) (fun k q => pure_Check_L1 a0 y3 k = some lr65) () (impz [0]) hF (fun q h => by cases h) ?_
  clear hF
  rintro k ⟨⟩ hF ih
  refine rnd_succ ?_
  iterate 3 refine go ?_
  refine aw_seq ?_
  refine cnd hF (fun hb45 hF => ?_) fun hb45 hF => ?_
  ·iterate 2 refine go ?_
   refine aw_seq ?_
   refine aw_block ?_
   refine go ?_
   obtain ⟨y48, h49, hF⟩ := bs hF
   refine rgp (ix (idx_map eGLine_arena h49) slc_75) ?_
   refine rgp (lw (eGLine_arena y48) agg_77) ?_
   refine rgp (al 1 (eGLine_arena zGLine_arena) zer_77) ?_
   iterate 6 refine go ?_
   obtain ⟨y52, h53, hF⟩ := bs hF
   refine rgp (ix (idx_map eGClass h53) slc_22) ?_
   refine rgp (lw (eGClass y52) agg_32) ?_
   refine rgp (al 2 (eGClass zGClass) zer_32) ?_
   iterate 7 refine go ?_
   obtain ⟨y56, h57, hF⟩ := bs hF
   refine rgp (ix (idx_map eGMethod h57) slc_30) ?_
   refine rgp (lw (eGMethod y56) agg_40) ?_
   refine rgp (al 3 (eGMethod zGMethod) zer_40) ?_
   iterate 2 refine go ?_
   refine aw_seq ?_
   obtain ⟨x61, hF, hK63⟩ := bs hF
   refine ctx (sX 41 [(2, some (.lp 0 0)), (4, some (.lp 1 0)), pf 34 (.bool x61)] [bf 0 55 (eGFault zGFault), bf 1 77 (eGLine_arena y48)] 2) ?_ ?_
   ·iterate 4 refine go ?_
    rcases ie hF with ⟨hb58, hF⟩ | ⟨hb58, hF⟩
    ·refine gn hb58 ?_
     refine rgn hb58 (la (eGClass y52) agg_32) ?_
     refine rgn hb58 (la (eGMethod y56) agg_40) ?_
     refine gn hb58 ?_
     refine rgn hb58 (la (eGStmt y48.fS) agg_48) ?_
     obtain ⟨y59, h60, hF⟩ := bs hF
     refine rgn hb58 (cl 4 [.vs 7 (List.map eGClass a0), .agg (eGClass y52), .agg (eGMethod y56), .agg (eGStmt y48.fS)] [.p (.bool y59)] (pure_Changes_ok h60)) ?_
     refine rpt hb58 ?_
     cases hF
     exact rcz [0, 1]
    cases hF
   have hF := hK63
   refine go ?_
   refine cnd hF (fun hb64 hF => ?_) fun hb64 hF => ?_
   ·iterate 4 refine go ?_
    refine rgp (bd ((eGFault zGFault)) (eGFault ({ fErr := 20, fAt := y48.fS.fAt } : GFault)) zer_55 plc_55) ?_
    iterate 6 refine go ?_
    refine post_lp_ret ?_
    cases hF
    have hF := elim_stop hK66
    refine go ?_
    cases hF
    exact post_ret rfl rfl (.cons _ _ _ _ _ (.agg _ _ _ _ _ 2 _ _ rfl rfl agg_55 rfl rfl rfl) (.p _) .nil) (.inl rfl)
   cases hF
  refine aw_exit ?_
  iterate 2 refine post_then_exit ?_
  cases hF
  exact post_lp_break _ ⟨_, rfl, rfl⟩ (impz [0])
 rintro _ ⟨⟨⟩, rfl, rfl⟩
 have hF := elim_next hK66
 clear hK66
 iterate 2 refine go ?_
 refine rgp (bd ((eGFault zGFault)) (eGFault ({ fErr := 0, fAt := 0 } : GFault)) zer_55 plc_55) ?_
 iterate 3 refine go ?_
 cases hF
 exact post_ret rfl rfl (.cons _ _ _ _ _ (.agg _ _ _ _ _ 2 _ _ rfl rfl agg_55 rfl rfl rfl) (.p _) .nil) (.inl rfl)
theorem slices_IndexFunc_api_Class_ok {a0 : List GClass} {q1 : GClass → Option Bool} {r : Int} {q1_f : Nat} {q1_c : List PV} (q1_b : callB Tryz.prog q1_f = true) (q1_h : ∀ (x0 : GClass) (r : Bool), q1 x0 = some r → FZ q1_f ([.agg (eGClass x0)] ++ q1_c) [.p (.bool r)]) (hF : slices_IndexFunc_api_Class a0 q1 = some r) : FZ 95 [.vs 7 (List.map eGClass a0), .fn q1_f q1_c] [.p (.int .i64 r)] := by
 unfold slices_IndexFunc_api_Class at hF
 refine fn_of_body (n := 19) Tryz.func95 rfl rfl rfl fun w O => ?_
 iterate 9 refine go ?_
 obtain ⟨lr34, hF, hK35⟩ := bs hF
 refine aw_for ((a0.length - 0 : Int).toNat + 1) (fun s1 => ∃ q, lr34 = .next q ∧ s1 = (sX 19 [] [] 0)) ?_ ?_
 ·refine rnd_loop (α := Int) (fun q => (sX 19 [pf 0 (.vs 7 (List.map eGClass a0)), pf 1 (.fn q1_f q1_c), pf 7 (.int .i64 (a0.length : Int)), pf 8 (.int .i64 q)] [] 0)) (fun k q => slices_IndexFunc_api_Class_L1 a0 q1 k q = some lr34) 0 (impz []) hF (fun q h => by cases h) ?_
  clear hF
  rintro k x11 hF ih
  refine rnd_succ ?_
  iterate 3 refine go ?_
  refine aw_seq ?_
  refine cnd hF (fun hb23 hF => ?_) fun hb23 hF => ?_
  ·iterate 2 refine go ?_
   refine aw_seq ?_
   refine aw_block ?_
   iterate 8 refine go ?_
   obtain ⟨y28, h29, hF⟩ := bs hF
   refine rgp (ix (idx_map eGClass h29) slc_22) ?_
   refine rgp (lw (eGClass y28) agg_32) ?_
   obtain ⟨y30, h31, hF⟩ := bs hF
   refine rgp (op_call 0 rfl (caps := q1_c) (args := [.agg (eGClass y28)]) (rs := [.p (.bool y30)]) rfl rfl rfl q1_b (q1_h y28 _ h31) rfl rfl rfl) ?_
   refine go ?_
   refine cnd hF (fun hb32 hF => ?_) fun hb32 hF => ?_
   ·iterate 8 refine go ?_
    refine post_lp_ret ?_
    cases hF
    have hF := elim_stop hK35
    refine go ?_
    cases hF
    exact prt
   iterate 6 refine go ?_
   refine rnr ?_
   exact rnd_back (ih (w_i64 (x11 + 1)) hF) (impz [])
  refine aw_exit ?_
  iterate 2 refine post_then_exit ?_
  cases hF
  exact post_lp_break _ ⟨_, rfl, rfl⟩ (impz [])
 rintro _ ⟨⟨⟩, rfl, rfl⟩
 have hF := elim_next hK35
 clear hK35
 iterate 5 refine go ?_
 cases hF
 exact prt
theorem table_Find_1_ok {a0 : GClass} {c0 : List UInt8} {r : Bool} (hF : table_Find_1 a0 c0 = some r) : FZ 96 [.agg (eGClass a0), .vp (eS c0)] [.p (.bool r)] := by
 unfold table_Find_1 at hF
 refine fn_of_body (n := 8) Tryz.func96 rfl rfl rfl fun w O => ?_
 refine go ?_
 refine rgp (bo 0) ?_
 iterate 6 refine go ?_
 refine rgp (op_str rfl rfl rfl rfl rfl rfl) ?_
 iterate 3 refine go ?_
 cases hF
 exact prt
theorem table_Find_ok {a0 : List GClass} {a1 : List UInt8} {r : Int} (hF : table_Find a0 a1 = some r) : FZ 51 [.vs 7 (List.map eGClass a0), .str a1] [.p (.int .i64 r)] := by
 unfold table_Find at hF
 refine fn_of_body (n := 8) Tryz.func51 rfl rfl rfl fun w O => ?_
 refine go ?_
 refine rgp (bo 0) ?_
 iterate 4 refine go ?_
 refine rgp (op_makeFunc rfl rfl rfl rfl) ?_
 obtain ⟨y2, h3, hF⟩ := bs hF
 refine rgp (op_callB 1 rfl (caps := []) (args := [.vs 7 (List.map eGClass a0), .fn 96 [.vp (eS a1)]]) [(0, some (.box 9 [.pv (.str a1)]))] rfl rfl rfl (FzH.spec ⟨rfl, trivial⟩) rfl rfl cal_95 (slices_IndexFunc_api_Class_ok (q1_f := 96) (q1_c := [.vp (eS a1)]) (q1_b := cal_96) (q1_h := fun _ r h => (table_Find_1_ok h)) h3) rfl rfl rfl) ?_
 iterate 3 refine go ?_
 cases hF
 exact prt
theorem above_up_ok {a0 : List GClass} {a1 : List UInt8} {r : (List GClass) × (List UInt8)} (hF : above_up a0 a1 = some r) : FZ 94 [.vs 7 (List.map eGClass a0), .str a1] [.clo 136 [.vp ((eL 7 eGClass) r.1)] 9 [.str r.2] []] := by
 unfold above_up at hF
 refine fn_of_body (n := 6) Tryz.func94 rfl rfl rfl fun w O => ?_
 refine go ?_
 refine rgp (bo 0) ?_
 refine rgp (bo 1) ?_
 iterate 3 refine go ?_
 refine rgp (op_makeFunc rfl rfl rfl rfl) ?_
 iterate 3 refine go ?_
 refine post_imp (imp_freeze_cap 4 0 [.pv (.vp ((eL 7 eGClass) a0)), .lp 1 0] rfl rfl rfl rfl ⟨.inr ⟨rfl, rfl⟩, .inl rfl, trivial⟩) ?_
 cases hF
 exact post_ret rfl rfl (.cons _ _ _ _ _ (.tmp _ _ rfl) (.clo 136 [.vp ((eL 7 eGClass) a0)] [] 1 9 [.str a1] rfl nolent3) .nil) (.inl rfl)
theorem above_up_1_it {rows : List (Int)} {sp : Nat} {c0 : List GClass} {c1 : List UInt8} (hF : above_up_1 rows sp c0 c1 = some (min (sp + 1) rows.length)) : It globs_Tryz Tryz.prog 136 1 [.vp ((eL 7 eGClass) c0)] (some (9, [.str c1])) [] (rows.map (fun z : Int => ([.int .i64 z] : List PV))) sp := by
 unfold above_up_1 at hF
 refine it_of_body (n := 29) Tryz.func136 rfl rfl rfl ?_
 intro l c hcx
 iterate 5 refine go ?_
 refine reg_nil ?_
 refine piz (sX 29 [pf 0 (.yld l), pf 1 (.vp ((eL 7 eGClass) c0)), (2, some (.lp 0 0)), pf 7 (.int .i64 (w_i64 ((c0.length : Int) + 1))), pf 8 (.int .i64 0)] [(0, some (.box 9 [.pv (.str c1)]))] 1) [0] ?_
 refine go ?_
 obtain ⟨lr65, hF, hK66⟩ := bs hF
 refine aw_for ((((w_i64 ((c0.length : Int) + 1)) : Int) - (0)).toNat + 1) (fun s1 => ∃ q, lr65 = .next q ∧ s1 = ⟨29, [], [], 0, [], [], q, []⟩) ?_ ?_
 ·refine rnd_loop (α := Nat × (List UInt8) × Int) (fun q => ⟨29, [(0, some (.pv (.yld l))), (1, some (.pv (.vp ((eL 7 eGClass) c0)))), (2, some (.lp 0 0)), (7, some (.pv (.int .i64 (w_i64 ((c0.length : Int) + 1))))), (8, some (.pv (.int .i64 q.2.2)))], [(0, some (.box 9 [.pv (.str q.2.1)]))], 1, [], [], q.1, []⟩) (fun k q => above_up_1_L1 c0 sp rows k q.1 q.2.1 q.2.2 = some lr65) (0, c1, 0) (impz [0]) hF (fun q h => by cases h) ?_
  clear hF
  rintro k ⟨x19, x20, x21⟩ hF ih
  refine rnd_succ ?_
  iterate 2 refine go ?_
  refine reg_nil ?_
  refine piz ⟨29, [(0, some (.pv (.yld l))), (1, some (.pv (.vp ((eL 7 eGClass) c0)))), (2, some (.lp 0 0)), (7, some (.pv (.int .i64 (w_i64 ((c0.length : Int) + 1))))), (8, some (.pv (.int .i64 x21))), (9, some (.pv (.bool (decide (x21 < (w_i64 ((c0.length : Int) + 1)))))))], [(0, some (.box 9 [.pv (.str x20)]))], 1, [], [], x19, []⟩ [0] ?_
  refine go ?_
  refine aw_seq ?_
  refine cnd hF (fun hb43 hF => ?_) fun hb43 hF => ?_
  ·iterate 2 refine go ?_
   refine aw_seq ?_
   refine aw_block ?_
   iterate 3 refine go ?_
   obtain ⟨y46, h47, hF⟩ := bs hF
   refine rgp (cl 1 [.vs 7 (List.map eGClass c0), .str x20] [.p (.int .i64 y46)] (table_Find_ok h47)) ?_
   refine go ?_
   refine reg_nil ?_
   refine piz ⟨29, [(0, some (.pv (.yld l))), (1, some (.pv (.vp ((eL 7 eGClass) c0)))), (2, some (.lp 0 0)), (4, some (.pv (.int .i64 y46))), (7, some (.pv (.int .i64 (w_i64 ((c0.length : Int) + 1))))), (8, some (.pv (.int .i64 x21)))], [(0, some (.box 9 [.pv (.str x20)]))], 1, [], [], x19, []⟩ [0] ?_
   refine go ?_
   refine aw_seq ?_
   refine aw_seq ?_
   obtain ⟨p53, hF, hK54⟩ := bs hF
   obtain ⟨x51, x52⟩ := p53
   refine ctx ⟨29, [(0, some (.pv (.yld l))), (1, some (.pv (.vp ((eL 7 eGClass) c0)))), (2, some (.lp 0 0)), (4, some (.pv (.int .i64 y46))), (7, some (.pv (.int .i64 (w_i64 ((c0.length : Int) + 1))))), (8, some (.pv (.int .i64 x21))), (20, some (.pv (.bool x52)))], [(0, some (.box 9 [.pv (.str x20)]))], 1, [], [], x51, []⟩ ?_ ?_
   ·iterate 4 refine go ?_
    rcases ie hF with ⟨hb48, hF⟩ | ⟨hb48, hF⟩
    ·refine rgo_t hb48 ?_
     iterate 3 refine rgo_t hb48 ?_
     refine rpt hb48 ?_
     cases hF
     exact rcz [0]
    iterate 2 (refine rgn hb48 (op_move rfl rfl rfl rfl) ?_)
    obtain ⟨u49, h50, hF⟩ := bs hF
    refine rgn hb48 (op_yield (row := (fun z : Int => ([.int .i64 z] : List PV)) y46) hcx rfl rfl rfl rfl (yck_row (fun z : Int => ([.int .i64 z] : List PV)) h50) (yck_spec h50).2 rfl rfl) ?_
    refine gn hb48 ?_
    refine rpf hb48 ?_
    cases hF
    exact rcz [0]
   have hF := hK54
   refine go ?_
   refine cnd hF (fun hb55 hF => ?_) fun hb55 hF => ?_
   ·iterate 5 refine go ?_
    refine post_lp_ret ?_
    cases hF
    have hF := elim_stop hK66
    exact post_it (it_len hF) rfl (.inl rfl)
   iterate 5 refine go ?_
   obtain ⟨y58, h59, hF⟩ := bs hF
   refine rgp (ix (idx_map eGClass h59) slc_22) ?_
   iterate 3 refine go ?_
   refine reg_nil ?_
   refine piz ⟨29, [(0, some (.pv (.yld l))), (1, some (.pv (.vp ((eL 7 eGClass) c0)))), (2, some (.lp 0 0)), (7, some (.pv (.int .i64 (w_i64 ((c0.length : Int) + 1))))), (8, some (.pv (.int .i64 x21)))], [(0, some (.box 9 [.pv (.str y58.fSuper)]))], 1, [], [], x51, []⟩ [0] ?_
   iterate 3 refine go ?_
   refine rgp (op_str rfl rfl rfl rfl rfl rfl) ?_
   refine reg_nil ?_
   refine piz ⟨29, [(0, some (.pv (.yld l))), (1, some (.pv (.vp ((eL 7 eGClass) c0)))), (2, some (.lp 0 0)), (7, some (.pv (.int .i64 (w_i64 ((c0.length : Int) + 1))))), (8, some (.pv (.int .i64 x21))), (27, some (.pv (.bool (y58.fSuper == []))))], [(0, some (.box 9 [.pv (.str y58.fSuper)]))], 1, [], [], x51, []⟩ [0] ?_
   refine go ?_
   refine cnd hF (fun hb60 hF => ?_) fun hb60 hF => ?_
   ·iterate 4 refine go ?_
    refine post_lp_ret ?_
    cases hF
    have hF := elim_stop hK66
    exact post_it (it_len hF) rfl (.inl rfl)
   iterate 6 refine go ?_
   refine rnr ?_
   exact rnd_back (ih (x51, y58.fSuper, w_i64 (x21 + 1)) hF) (impz [0])
  refine aw_exit ?_
  iterate 2 refine post_then_exit ?_
  cases hF
  exact post_lp_break _ ⟨_, rfl, rfl⟩ (impz [])
 rintro _ ⟨x64, rfl, rfl⟩
 have hF := elim_next hK66
 clear hK66
 exact post_it (it_len hF) rfl (.inr rfl)

theorem above_Below_ok {a0 : List GClass} {a1 : List UInt8} {a2 : List UInt8} {r : Bool} (hF : above_Below a0 a1 a2 = some r) : FZ 50 [.vs 7 (List.map eGClass a0), .str a1, .str a2] [.p (.bool r)] := by
 unfold above_Below at hF
 refine fn_of_body (n := 19) Tryz.func50 rfl rfl rfl fun w O => ?_
 refine go ?_
 refine rgp (al 0 [.bool false] zer_4) ?_
 iterate 4 refine go ?_
 obtain ⟨y3, h4, hF⟩ := bs hF
 refine rgp (cl 1 [.vs 7 (List.map eGClass a0), .str a2] [.p (.int .i64 y3)] (table_Find_ok h4)) ?_
 refine rgp (al 1 [.int .i64 0] zer_3) ?_
 iterate 6 refine go ?_
 obtain ⟨y7, h8, hF⟩ := bs hF
 refine rgp (cl 2 [.vs 7 (List.map eGClass a0), .str a1] [.clo 136 [.vp ((eL 7 eGClass) y7.1)] 9 [.str y7.2] []] (above_up_ok h8)) ?_
 refine go ?_
 refine aw_block ?_
 refine aw_imp (s' := (sX 19 [(6, some (.lp 0 0)), (7, some (.lp 1 0)), (14, some (.fn 136 [.pv (.vp ((eL 7 eGClass) y7.1)), .lp 2 0]))] [(0, some (.box 4 [.pv (.bool false)])), (1, some (.box 3 [.pv (.int .i64 y3)])), (2, some (.box 9 [.pv (.str y7.2)]))] 3)) (impz [0, 1, 2]) ?_
 obtain ⟨rows15, hR16, hF⟩ := bs hF
 obtain ⟨lr17, hL18, hF⟩ := bs hF
 refine aw_rangeFunc (X := Int) (Q := Unit) (E := Unit) (pre := [.vp ((eL 7 eGClass) y7.1)]) (bx := (some (9, [.str y7.2]))) (post := []) (kt := [6, 7]) (psl := [15]) (some 2) (fun z : Int => ([.int .i64 z] : List PV)) rows15 (above_Below_B1 y3) () lr17 hL18 (fun q => (sX 19 [(6, some (.lp 0 0)), (7, some (.lp 1 0))] [(0, some (.box 4 [.pv (.bool false)])), (1, some (.box 3 [.pv (.int .i64 y3)]))] 3)) (fun z => (.ret, (sX 19 [(6, some (.lp 0 0))] [(0, some (.box 4 [.pv (.bool true)]))] 1))) ⟨_, _, rfl, rfl, rfl⟩ cal_136 (fun sp => above_up_1_it (itR_up_ok hR16 sp)) (fun _ => rfl) rfl rfl (by decide) rfl (fun x q => ⟨19, [(6, some (.lp 0 0)), (7, some (.lp 1 0)), (8, some (.pv (.int .i64 x))), (15, some (.pv (.int .i64 x)))], [(0, some (.box 4 [.pv (.bool false)])), (1, some (.box 3 [.pv (.int .i64 y3)]))], 3, [], [], 0, [6, 7]⟩) (fun q => ⟨rfl, rfl, rfl, rfl⟩) (fun z => ⟨rfl, rfl, rfl, rfl⟩) (fun z => rfl) rfl rfl ⟨rfl, rfl, trivial⟩ ⟨⟨rfl, rfl, rfl⟩, ⟨rfl, rfl, rfl⟩, trivial⟩ ?_ ?_ ?_ ?_
 ·rintro l19 c20 x13 ⟨⟩ hc21
  iterate 2 refine go ?_
  refine reg_nil ?_
  exact post_cut1 (impz [0, 1, 2])
 ·rintro l19 c20 x13 ⟨⟩ r22 hc21 hF
  refine aw_block ?_
  iterate 5 refine go ?_
  refine cnd hF (fun hb14 hF => ?_) fun hb14 hF => ?_
  ·iterate 5 refine go ?_
   cases hF
   exact post_rnd_ret () rfl rfl (impz [0])
  iterate 2 refine go ?_
  cases hF
  exact post_rnd () rfl (impz [0, 1, 1000000])
 ·rintro ⟨⟩ rfl
  have hF := elim_next hF
  iterate 6 refine go ?_
  cases hF
  exact post_ret rfl rfl (.cons _ _ _ _ _ (.one _ _ _ _ _ _ _ rfl rfl one_4 rfl) (.p _) .nil) (.inl rfl)
 rintro ⟨⟩ rfl
 have hF := elim_stop hF
 show Post _ _ .ret _
 iterate 2 refine go ?_
 cases hF
 exact post_ret rfl rfl (.cons _ _ _ _ _ (.one _ _ _ _ _ _ _ rfl rfl one_4 rfl) (.p _) .nil) (.inl rfl)
theorem slices_Index_int_ok {a0 : List Int} {a1 : Int} {r : Int} (hF : slices_Index_int a0 a1 = some r) : FZ 168 [.vs 1 (List.map eI a0), .int .i64 a1] [.p (.int .i64 r)] := by
 unfold slices_Index_int at hF
 refine fn_of_body (n := 19) Tryz.func168 rfl rfl rfl fun w O => ?_
 iterate 9 refine go ?_
 obtain ⟨lr22, hF, hK23⟩ := bs hF
 refine aw_for ((a0.length - 0 : Int).toNat + 1) (fun s1 => ∃ q, lr22 = .next q ∧ s1 = (sX 19 [] [] 0)) ?_ ?_
 ·refine rnd_loop (α := Int) (fun q => (sX 19 [pf 0 (.vs 1 (List.map eI a0)), pf 1 (.int .i64 a1), pf 7 (.int .i64 (a0.length : Int)), pf 8 (.int .i64 q)] [] 0)) (fun k q => slices_Index_int_L1 a0 a1 k q = some lr22) 0 (impz []) hF (fun q h => by cases h) ?_
  clear hF
  rintro k x7 hF ih
  refine rnd_succ ?_
  iterate 3 refine go ?_
  refine aw_seq ?_
  refine cnd hF (fun hb15 hF => ?_) fun hb15 hF => ?_
  ·iterate 2 refine go ?_
   refine aw_seq ?_
   refine aw_block ?_
   iterate 8 refine go ?_
   obtain ⟨y18, h19, hF⟩ := bs hF
   refine rgp (ix (idx_map eI h19) slc_96) ?_
   iterate 3 refine go ?_
   refine cnd hF (fun hb20 hF => ?_) fun hb20 hF => ?_
   ·iterate 8 refine go ?_
    refine post_lp_ret ?_
    cases hF
    have hF := elim_stop hK23
    refine go ?_
    cases hF
    exact prt
   iterate 6 refine go ?_
   refine rnr ?_
   exact rnd_back (ih (w_i64 (x7 + 1)) hF) (impz [])
  refine aw_exit ?_
  iterate 2 refine post_then_exit ?_
  cases hF
  exact post_lp_break _ ⟨_, rfl, rfl⟩ (impz [])
 rintro _ ⟨⟨⟩, rfl, rfl⟩
 have hF := elim_next hK23
 clear hK23
 iterate 5 refine go ?_
 cases hF
 exact prt
theorem slices_Contains_int_ok {a0 : List Int} {a1 : Int} {r : Bool} (hF : slices_Contains_int a0 a1 = some r) : FZ 135 [.vs 1 (List.map eI a0), .int .i64 a1] [.p (.bool r)] := by
 unfold slices_Contains_int at hF
 refine fn_of_body (n := 9) Tryz.func135 rfl rfl rfl fun w O => ?_
 iterate 6 refine go ?_
 obtain ⟨y1, h2, hF⟩ := bs hF
 refine rgp (cl 0 [.vs 1 (List.map eI a0), .int .i64 a1] [.p (.int .i64 y1)] (slices_Index_int_ok h2)) ?_
 iterate 4 refine go ?_
 cases hF
 exact prt
theorem above_Chain_ok {a0 : List GClass} {a1 : List UInt8} {r : (List Int)} (hF : above_Chain a0 a1 = some r) : FZ 91 [.vs 7 (List.map eGClass a0), .str a1] [.own 3 1 (List.map eI r)] := by
 unfold above_Chain at hF
 refine fn_of_body (n := 19) Tryz.func91 rfl rfl rfl fun w O => ?_
 iterate 4 refine go ?_
 refine rgp (al 0 [.nils] zer_96) ?_
 refine reg_imp (imp_nil_box 0 0 96 3 1 1 rfl rfl rfl) ?_
 iterate 5 refine go ?_
 obtain ⟨y3, h4, hF⟩ := bs hF
 refine rgp (cl 2 [.vs 7 (List.map eGClass a0), .str a1] [.clo 136 [.vp ((eL 7 eGClass) y3.1)] 9 [.str y3.2] []] (above_up_ok h4)) ?_
 refine go ?_
 refine aw_block ?_
 refine aw_imp (s' := (sX 19 [(5, some (.lp 0 0)), (9, some (.fn 136 [.pv (.vp ((eL 7 eGClass) y3.1)), .lp 2 0]))] [(0, some (.box 96 [.ls 1])), (1, some (.row 3 1 (List.map eI []))), (2, some (.box 9 [.pv (.str y3.2)]))] 3)) (impz [0, 1, 2]) ?_
 obtain ⟨rows33, hR34, hF⟩ := bs hF
 obtain ⟨lr35, hL36, hF⟩ := bs hF
 refine aw_rangeFunc (X := Int) (Q := (List Int)) (E := (List Int)) (pre := [.vp ((eL 7 eGClass) y3.1)]) (bx := (some (9, [.str y3.2]))) (post := []) (kt := [5]) (psl := [10]) (some 2) (fun z : Int => ([.int .i64 z] : List PV)) rows33 above_Chain_B1 [] lr35 hL36 (fun q => (sX 19 [(5, some (.lp 0 0))] [(0, some (.box 96 [.ls 1])), (1, some (.row 3 1 (List.map eI q)))] 3)) (fun z => ((.exit 0), (sX 19 [(5, some (.lp 0 0))] [(0, some (.box 96 [.ls 1])), (1, some (.row 3 1 (List.map eI z)))] 2))) ⟨_, _, rfl, rfl, rfl⟩ cal_136 (fun sp => above_up_1_it (itR_up_ok hR34 sp)) (fun _ => rfl) rfl rfl (by decide) rfl (fun x q => ⟨19, [(5, some (.lp 0 0)), (6, some (.pv (.int .i64 x))), (10, some (.pv (.int .i64 x)))], [(0, some (.box 96 [.ls 1])), (1, some (.row 3 1 (List.map eI q)))], 3, [], [], 0, [5]⟩) (fun q => ⟨rfl, rfl, rfl, rfl⟩) (fun z => ⟨rfl, rfl, rfl, rfl⟩) (fun z => rfl) rfl rfl ⟨rfl, trivial⟩ ⟨⟨rfl, rfl, rfl⟩, ⟨rfl, rfl, rfl⟩, trivial⟩ ?_ ?_ ?_ ?_
 ·rintro l37 c38 x23 x13 hc39
  iterate 2 refine go ?_
  refine reg_nil ?_
  exact post_cut1 (impz [0, 1, 2])
 ·rintro l37 c38 x23 x13 r40 hc39 hF
  refine aw_block ?_
  iterate 4 refine go ?_
  obtain ⟨y26, h27, hF⟩ := bs hF
  refine rgp (op_callB 3 rfl (caps := []) (args := [.vs 1 (List.map eI x13), .int .i64 x23]) [(1, some (.row 3 1 (List.map eI x13)))] rfl rfl rfl (FzH.spec ⟨rfl, trivial⟩) rfl rfl cal_135 (slices_Contains_int_ok h27) rfl rfl rfl) ?_
  refine go ?_
  refine cnd hF (fun hb28 hF => ?_) fun hb28 hF => ?_
  ·refine aw_exit ?_
   refine post_then_exit ?_
   refine post_block_other rfl ?_
   cases hF
   exact post_rnd_exit x13 rfl rfl (impz [0, 1])
  iterate 5 refine go ?_
  refine rgp (op_lit (rows := List.map eI ([x23] : List Int)) (zs := [.int .i64 0]) rfl rfl slc_96 zer_3 (by exact ⟨rfl, trivial⟩) rfl rfl rfl rfl rfl rfl rfl rfl) ?_
  obtain ⟨u29, h30, hF⟩ := bs hF
  refine rgp (op_append 3 rfl rfl rfl rfl rfl slc_96 elm_3 zer_3 rfl rfl rfl (room_map (f := eI) (g := eI) h30) (List.map_append (f := eI) (l₁ := x13) (l₂ := [x23])).symm rfl rfl) ?_
  refine go ?_
  refine reg_nil ?_
  refine piz ⟨19, [(5, some (.lp 0 0))], [(0, some (.box 96 [.ls 1])), (1, some (.row 3 1 (List.map eI (x13 ++ [x23]))))], 2, [], [], 0, [5]⟩ [0, 3] ?_
  refine go ?_
  cases hF
  exact post_rnd (x13 ++ [x23]) rfl (impz [0, 1, 1000000])
 ·rintro x13 rfl
  have hF := elim_next hF
  iterate 7 refine go ?_
  cases hF
  exact post_ret rfl rfl (.cons _ _ _ _ _ (.tmp _ _ rfl) (.own _ _ _ _ rfl nolent3) .nil) (.inl rfl)
 rintro x32 rfl
 have hF := elim_stop hF
 show Post _ _ (.exit 0) _
 refine post_block_exit ?_
 iterate 6 refine go ?_
 cases hF
 exact post_ret rfl rfl (.cons _ _ _ _ _ (.tmp _ _ rfl) (.own _ _ _ _ rfl nolent3) .nil) (.inl rfl)
theorem method_first_1_w_ok {a0 : Gheld_method} {b0 : List UInt8} {b1 : List GClass} {b2 : GFound_method} {b3 : Bool} {r : Bool × GFound_method × Bool} (hF : method_first_1_w a0 b0 b1 b2 b3 = some r) : Abs.FnW globs_Tryz Tryz.prog 134 [.pv (.agg (eGheld_method a0)), .lp 0 0, .lp 1 0, .lp 2 0, .lp 3 0] [(0, some (.box 9 [.pv (.str b0)])), (1, some (.box 22 [.pv (.vs 7 (List.map eGClass b1))])), (2, some (.box 71 (bxv (eGFound_method b2)))), (3, some (.box 4 [.pv (.bool b3)]))] 4 [(0, 0), (1, 1), (2, 2), (3, 3)] [.pv (.bool r.1)] [(0, some (.box 9 [.pv (.str b0)])), (1, some (.box 22 [.pv (.vs 7 (List.map eGClass b1))])), (2, some (.box 71 (bxv (eGFound_method r.2.1)))), (3, some (.box 4 [.pv (.bool r.2.2)]))] 4 := by
 unfold method_first_1_w at hF
 refine fnW_of_body (n := 24) (m := 4) [1, 2, 3, 4] Tryz.func134 rfl rfl rfl ?_
 intro c w O θ hcx
 refine go ?_
 refine rgp (bo 4) ?_
 iterate 8 refine go ?_
 refine rgp (op_str rfl rfl rfl rfl rfl rfl) ?_
 refine go ?_
 refine cnd hF (fun hb1 hF => ?_) fun hb1 hF => ?_
 ·refine dr_start ⟨_, _, _⟩ rfl ?_
  iterate 3 refine dgo ?_
  obtain ⟨y2, h3, hF⟩ := bs hF
  refine dr_cons { need := [(12, .pv (.vs 7 (List.map eGClass b1))), (14, .pv (.int .i64 a0.fclass))], dst := some 15, val := some (.pv (.vp (eGClass y2))) } (fun m h => step_on (guard_no rfl) (op_index_vs (k := .i64) rfl h.1.1 h.1.2.1 (idx_map eGClass h3) slc_22 rfl rfl) rfl) ⟨⟨rfl, rfl, trivial⟩, trivial, trivial⟩ ?_
  refine dr_cons { need := [(15, .pv (.vp (eGClass y2)))], dst := some 16, val := some (.pv (.vp (List.drop 0 (eGClass y2)))) } (fun m h => step_on (guard_no rfl) (op_field_vp rfl h.1.1 fld_32_0 rfl rfl) rfl) ⟨⟨rfl, trivial⟩, trivial, trivial⟩ ?_
  refine dr_cons { need := [(16, .pv (.vp (List.drop 0 (eGClass y2))))], dst := some 17, val := some (.pv (.str y2.fName)) } (fun m h => step_on (guard_no rfl) (op_load_vp (p := .str y2.fName) rfl h.1.1 rfl one_9 rfl rfl) rfl) ⟨⟨rfl, trivial⟩, trivial, trivial⟩ ?_
  refine dgo ?_
  refine dr_cons { need := [(18, .lp 4 0)], hneed := [(4, .box 192 (bxv (eGheld_method a0)))], dst := some 19, val := some (.pv (.agg (eGMethod a0.fMethod))) } (fun m h => step_on (guard_no rfl) (op_load_lp_agg (ps := eGMethod a0.fMethod) rfl h.1.1 h.2.1.1 rfl rfl rfl agg_40 rfl rfl) rfl) ⟨⟨rfl, trivial⟩, ⟨rfl, trivial⟩, trivial⟩ ?_
  refine dr_cons { need := [(3, .lp 2 0)], hneed := [(2, .box 71 (bxv (eGFound_method b2)))], upd := [(2, some (.box 71 (bxv (eGFound_method zGFound_method))))] } (fun m h => step_on (guard_no rfl) (op_store_zc (n := 18) (ps := (eGFound_method zGFound_method)) rfl h.1.1 (by exact ⟨rfl, rfl, rfl, rfl, rfl, rfl, rfl, rfl, rfl, rfl, rfl, rfl, rfl, rfl, trivial, trivial, trivial, rfl, trivial⟩) h.2.1.1 (or_agg agg_71) (by rw [non_71]; rfl) rfl rfl rfl) rfl) ⟨⟨rfl, trivial⟩, ⟨rfl, trivial⟩, trivial⟩ ?_
  refine dgo ?_
  refine dr_cons { need := [(20, .lp 2 0), (17, .pv (.str y2.fName))], hneed := [(2, .box 71 (bxv (eGFound_method zGFound_method)))], upd := [(2, some (.box 71 (bxv (eGFound_method ({ zGFound_method with fClass := y2.fName } : GFound_method)))))] } (fun m h => step_on (guard_no rfl) (op_store_lp (n := 1) rfl h.1.1 h.1.2.1 rfl h.2.1.1 (or_one one_9) (by rw [one_9]; rfl) rfl rfl rfl) rfl) ⟨⟨rfl, rfl, trivial⟩, ⟨rfl, trivial⟩, trivial⟩ ?_
  refine dgo ?_
  refine dr_cons { need := [(21, .lp 2 1), (19, .pv (.agg (eGMethod a0.fMethod)))], hneed := [(2, .box 71 (bxv (eGFound_method ({ zGFound_method with fClass := y2.fName } : GFound_method))))], upd := [(2, some (.box 71 (bxv (eGFound_method ({ ({ zGFound_method with fClass := y2.fName } : GFound_method) with fMethod := a0.fMethod } : GFound_method)))))] } (fun m h => step_on (guard_no rfl) (op_store_lp (n := 17) rfl h.1.1 h.1.2.1 rfl h.2.1.1 (or_agg agg_40) (by rw [non_40]; rfl) rfl rfl rfl) rfl) ⟨⟨rfl, rfl, trivial⟩, ⟨rfl, trivial⟩, trivial⟩ ?_
  refine dr_cons { need := [(4, .lp 3 0)], hneed := [(3, .box 4 [.pv (.bool b3)])], upd := [(3, some (.box 4 [.pv (.bool true)]))] } (fun m h => step_on (guard_no rfl) (op_store_lp (n := 1) rfl h.1.1 rfl rfl h.2.1.1 (or_one one_4) (by rw [one_4]; rfl) rfl rfl rfl) rfl) ⟨⟨rfl, trivial⟩, ⟨rfl, trivial⟩, trivial⟩ ?_
  refine dr_nil mixed rfl (by kernel_rfl) ?_
  refine piz ⟨24, [(1, some (.lp 0 0)), (2, some (.lp 1 0)), (3, some (.lp 2 0)), (4, some (.lp 3 0))], [(0, some (.box 9 [.pv (.str b0)])), (1, some (.box 22 [.pv (.vs 7 (List.map eGClass b1))])), (2, some (.box 71 (bxv (eGFound_method ({ ({ zGFound_method with fClass := y2.fName } : GFound_method) with fMethod := a0.fMethod } : GFound_method))))), (3, some (.box 4 [.pv (.bool true)]))], 4, [], [], 0, [1, 2, 3, 4]⟩ [0, 1, 2, 3] ?_
  iterate 7 refine go ?_
  refine piz ⟨24, [(1, some (.lp 0 0)), (2, some (.lp 1 0)), (3, some (.lp 2 0)), (4, some (.lp 3 0)), (6, some (.pv (.bool (!true))))], [(0, some (.box 9 [.pv (.str b0)])), (1, some (.box 22 [.pv (.vs 7 (List.map eGClass b1))])), (2, some (.box 71 (bxv (eGFound_method ({ ({ zGFound_method with fClass := y2.fName } : GFound_method) with fMethod := a0.fMethod } : GFound_method))))), (3, some (.box 4 [.pv (.bool true)]))], 4, [], [], 0, [1, 2, 3, 4]⟩ [0, 1, 2, 3] ?_
  cases hF
  exact post_retW hcx rfl (.cons _ _ _ _ (.tmp _ _ rfl) .nil) rfl (.inl rfl)
 iterate 8 refine go ?_
 refine piz ⟨24, [(1, some (.lp 0 0)), (2, some (.lp 1 0)), (3, some (.lp 2 0)), (4, some (.lp 3 0)), (6, some (.pv (.bool (!b3))))], [(0, some (.box 9 [.pv (.str b0)])), (1, some (.box 22 [.pv (.vs 7 (List.map eGClass b1))])), (2, some (.box 71 (bxv (eGFound_method b2)))), (3, some (.box 4 [.pv (.bool b3)]))], 4, [], [], 0, [1, 2, 3, 4]⟩ [0, 1, 2, 3] ?_
 cases hF
 exact post_retW hcx rfl (.cons _ _ _ _ (.tmp _ _ rfl) .nil) rfl (.inl rfl)
theorem method_walk_w_ok {a0 : List GClass} {a1 : List Int} {b0 : List UInt8} {b1 : List GClass} {b2 : GFound_method} {b3 : Bool} {r : GFound_method × Bool} (hF : method_walk_w a0 a1 b0 b1 b2 b3 = some r) : Abs.FnW globs_Tryz Tryz.prog 133 [.pv (.vs 7 (List.map eGClass a0)), .pv (.vs 1 (List.map eI a1)), .fn 134 [.lp 0 0, .lp 1 0, .lp 2 0, .lp 3 0]] [(0, some (.box 9 [.pv (.str b0)])), (1, some (.box 22 [.pv (.vs 7 (List.map eGClass b1))])), (2, some (.box 71 (bxv (eGFound_method b2)))), (3, some (.box 4 [.pv (.bool b3)]))] 4 [(0, 0), (1, 1), (2, 2), (3, 3)] [] [(0, some (.box 9 [.pv (.str b0)])), (1, some (.box 22 [.pv (.vs 7 (List.map eGClass b1))])), (2, some (.box 71 (bxv (eGFound_method r.1)))), (3, some (.box 4 [.pv (.bool r.2)]))] 4 := by
 unfold method_walk_w at hF
 refine fnW_of_body (n := 34) (m := 4) [2] Tryz.func133 rfl rfl rfl ?_
 intro c w O θ hcx
 iterate 5 refine go ?_
 obtain ⟨lr168, hF, hK169⟩ := bs hF
 refine aw_for ((a1.length - 0 : Int).toNat + 1) (fun s1 => ∃ q, lr168 = .next q ∧ s1 = ⟨34, [(2, some (.fn 134 [.lp 0 0, .lp 1 0, .lp 2 0, .lp 3 0]))], [(0, some (.box 9 [.pv (.str b0)])), (1, some (.box 22 [.pv (.vs 7 (List.map eGClass b1))])), (2, some (.box 71 (bxv (eGFound_method q.1)))), (3, some (.box 4 [.pv (.bool q.2)]))], 4, [], [], 0, [2]⟩) ?_ ?_
 ·refine rnd_loop (α := GFound_method × Bool × Int) (fun q => ⟨34, [(0, some (.pv (.vs 7 (List.map eGClass a0)))), (2, some (.fn 134 [.lp 0 0, .lp 1 0, .lp 2 0, .lp 3 0])), (10, some (.pv (.vs 1 (List.map eI a1)))), (11, some (.pv (.int .i64 (a1.length : Int)))), (12, some (.pv (.int .i64 q.2.2)))], [(0, some (.box 9 [.pv (.str b0)])), (1, some (.box 22 [.pv (.vs 7 (List.map eGClass b1))])), (2, some (.box 71 (bxv (eGFound_method q.1)))), (3, some (.box 4 [.pv (.bool q.2.1)]))], 4, [], [], 0, [2]⟩) (fun k q => method_walk_w_L1 a0 a1 b0 b1 k q.1 q.2.1 q.2.2 = some lr168) (b2, b3, 0) (impz [0, 1, 2, 3]) hF (fun q h => by cases h) ?_
  clear hF
  rintro k ⟨x53, x54, x55⟩ hF ih
  refine rnd_succ ?_
  iterate 3 refine go ?_
  refine aw_seq ?_
  refine cnd hF (fun hb111 hF => ?_) fun hb111 hF => ?_
  ·iterate 2 refine go ?_
   refine aw_seq ?_
   refine aw_block ?_
   refine go ?_
   obtain ⟨y114, h115, hF⟩ := bs hF
   refine rgp (ix (idx_map eI h115) slc_96) ?_
   iterate 6 refine go ?_
   obtain ⟨y118, h119, hF⟩ := bs hF
   refine rgp (ix (idx_map eGClass h119) slc_22) ?_
   iterate 5 refine go ?_
   obtain ⟨lr161, hF, hK162⟩ := bs hF
   refine aw_for ((y118.fMethods.length - 0 : Int).toNat + 1) (fun s1 => ∃ q, lr161 = .next q ∧ s1 = ⟨34, [(0, some (.pv (.vs 7 (List.map eGClass a0)))), (2, some (.fn 134 [.lp 0 0, .lp 1 0, .lp 2 0, .lp 3 0])), (10, some (.pv (.vs 1 (List.map eI a1)))), (11, some (.pv (.int .i64 (a1.length : Int)))), (12, some (.pv (.int .i64 x55)))], [(0, some (.box 9 [.pv (.str b0)])), (1, some (.box 22 [.pv (.vs 7 (List.map eGClass b1))])), (2, some (.box 71 (bxv (eGFound_method q.1)))), (3, some (.box 4 [.pv (.bool q.2)]))], 4, [], [], 0, [2]⟩) ?_ ?_
   ·refine rnd_loop (α := GFound_method × Bool × Int) (fun q => ⟨34, [(0, some (.pv (.vs 7 (List.map eGClass a0)))), (2, some (.fn 134 [.lp 0 0, .lp 1 0, .lp 2 0, .lp 3 0])), (7, some (.pv (.int .i64 y114))), (10, some (.pv (.vs 1 (List.map eI a1)))), (11, some (.pv (.int .i64 (a1.length : Int)))), (12, some (.pv (.int .i64 x55))), (20, some (.pv (.vs 17 (List.map eGMethod y118.fMethods)))), (21, some (.pv (.int .i64 (y118.fMethods.length : Int)))), (22, some (.pv (.int .i64 q.2.2)))], [(0, some (.box 9 [.pv (.str b0)])), (1, some (.box 22 [.pv (.vs 7 (List.map eGClass b1))])), (2, some (.box 71 (bxv (eGFound_method q.1)))), (3, some (.box 4 [.pv (.bool q.2.1)]))], 4, [], [], 0, [2]⟩) (fun k q => method_walk_w_L2 b0 b1 y114 y118 k q.1 q.2.1 q.2.2 = some lr161) (x53, x54, 0) (impz [0, 1, 2, 3]) hF (fun q h => by cases h) ?_
    clear hF
    rintro k ⟨x130, x131, x132⟩ hF ih
    refine rnd_succ ?_
    iterate 3 refine go ?_
    refine aw_seq ?_
    refine cnd hF (fun hb146 hF => ?_) fun hb146 hF => ?_
    ·iterate 2 refine go ?_
     refine aw_seq ?_
     refine aw_block ?_
     refine go ?_
     obtain ⟨y149, h150, hF⟩ := bs hF
     refine rgp (ix (idx_map eGMethod h150) slc_30) ?_
     refine rgp (lw (eGMethod y149) agg_40) ?_
     refine rgp (al 4 (eGMethod zGMethod) zer_40) ?_
     iterate 4 refine go ?_
     refine rgp (la (eGMethod y149) agg_40) ?_
     refine go ?_
     refine rgp (bd ((eGheld_method zGheld_method)) (eGheld_method ({ fMethod := y149, fclass := y114 } : Gheld_method)) zer_192 plc_192) ?_
     obtain ⟨y153, h154, hF⟩ := bs hF
     refine rgp (op_callW (args := [.pv (.agg (eGheld_method ({ fMethod := y149, fclass := y114 } : Gheld_method))), .lp 0 0, .lp 1 0, .lp 2 0, .lp 3 0]) [0, 1, 2, 3] [0, 1, 2, 3] [] 5 rfl rfl rfl rfl rfl cal_134 (method_first_1_w_ok h154) rfl (by decide) ⟨rfl, rfl, rfl, rfl, trivial⟩ rfl (by decide) ⟨.inl rfl, .inl rfl, .inl rfl, .inl rfl, trivial⟩ (by kernel_rfl) (by kernel_rfl) rfl rfl rfl rfl) ?_
     iterate 2 refine go ?_
     refine cnd hF (fun hb155 hF => ?_) fun hb155 hF => ?_
     ·iterate 4 refine go ?_
      refine post_lp_ret ?_
      cases hF
      have hF := elim_stop hK162
      iterate 3 refine go ?_
      refine post_lp_ret ?_
      cases hF
      have hF := elim_stop hK169
      refine piz ⟨34, [(2, some (.fn 134 [.lp 0 0, .lp 1 0, .lp 2 0, .lp 3 0]))], [(0, some (.box 9 [.pv (.str b0)])), (1, some (.box 22 [.pv (.vs 7 (List.map eGClass b1))])), (2, some (.box 71 (bxv (eGFound_method y153.2.1)))), (3, some (.box 4 [.pv (.bool y153.2.2)]))], 4, [], [], 0, [2]⟩ [0, 1, 2, 3] ?_
      cases hF
      exact post_retW hcx rfl .nil rfl (.inl rfl)
     iterate 6 refine go ?_
     refine rnr ?_
     exact rnd_back (ih (y153.2.1, y153.2.2, w_i64 (x132 + 1)) hF) (impz [0, 1, 2, 3])
    refine aw_exit ?_
    iterate 2 refine post_then_exit ?_
    cases hF
    exact post_lp_break _ ⟨_, rfl, rfl⟩ (impz [0, 1, 2, 3])
   rintro _ ⟨⟨x159, x160⟩, rfl, rfl⟩
   have hF := elim_next hK162
   clear hK162
   iterate 5 refine go ?_
   refine rnr ?_
   exact rnd_back (ih (x159, x160, w_i64 (x55 + 1)) hF) (impz [0, 1, 2, 3])
  refine aw_exit ?_
  iterate 2 refine post_then_exit ?_
  cases hF
  exact post_lp_break _ ⟨_, rfl, rfl⟩ (impz [0, 1, 2, 3])
 rintro _ ⟨⟨x166, x167⟩, rfl, rfl⟩
 have hF := elim_next hK169
 clear hK169
 refine piz ⟨34, [(2, some (.fn 134 [.lp 0 0, .lp 1 0, .lp 2 0, .lp 3 0]))], [(0, some (.box 9 [.pv (.str b0)])), (1, some (.box 22 [.pv (.vs 7 (List.map eGClass b1))])), (2, some (.box 71 (bxv (eGFound_method x166)))), (3, some (.box 4 [.pv (.bool x167)]))], 4, [], [], 0, [2]⟩ [0, 1, 2, 3] ?_
 cases hF
 exact post_retW hcx rfl .nil rfl (.inr rfl)
theorem method_first_ok {a0 : List GClass} {a1 : List Int} {a2 : List UInt8} {r : GFound_method × Bool} (hF : method_first a0 a1 a2 = some r) : FZ 90 [.vs 7 (List.map eGClass a0), .vs 1 (List.map eI a1), .str a2] [.p (.agg (eGFound_method r.1)), .p (.bool r.2)] := by
 unfold method_first at hF
 refine fn_of_body (n := 17) Tryz.func90 rfl rfl rfl fun w O => ?_
 refine go ?_
 refine rgp (bo 0) ?_
 refine rgp (bo 1) ?_
 refine rgp (al 2 (eGFound_method zGFound_method) zer_71) ?_
 iterate 3 refine go ?_
 refine rgp (bd ((eGFound_method zGFound_method)) (eGFound_method ({ fClass := [], fMethod := zGMethod } : GFound_method)) zer_71 plc_71) ?_
 refine rgp (al 3 (eGFound_method zGFound_method) zer_71) ?_
 refine rgp (al 4 [.bool false] zer_4) ?_
 iterate 6 refine go ?_
 refine rgp (op_makeFunc rfl rfl rfl rfl) ?_
 obtain ⟨y3, h4, hF⟩ := bs hF
 refine rgp (op_callW (args := [.pv (.vs 7 (List.map eGClass a0)), .pv (.vs 1 (List.map eI a1)), .fn 134 [.lp 0 0, .lp 1 0, .lp 2 0, .lp 3 0]]) [1, 0, 3, 4] [1, 0, 3, 4] [] 5 rfl rfl rfl rfl rfl cal_133 (method_walk_w_ok h4) rfl (by decide) ⟨rfl, rfl, rfl, rfl, trivial⟩ rfl (by decide) ⟨.inl rfl, .inl rfl, .inl rfl, .inl rfl, trivial⟩ (by kernel_rfl) (by kernel_rfl) rfl rfl rfl rfl) ?_
 refine go ?_
 refine aw_seq ?_
 refine dr_start ⟨_, _, _⟩ rfl ?_
 refine dr_cons { need := [(8, .lp 3 0)], hneed := [(3, .box 71 (bxv (eGFound_method y3.1)))], dst := some 15, val := some (.pv (.agg (eGFound_method y3.1))) } (fun m h => step_on (guard_no rfl) (op_load_lp_agg (ps := eGFound_method y3.1) rfl h.1.1 h.2.1.1 rfl rfl rfl agg_71 rfl rfl) rfl) ⟨⟨rfl, trivial⟩, ⟨rfl, trivial⟩, trivial⟩ ?_
 refine dgo ?_
 refine dr_cons { need := [(6, .lp 2 0), (15, .pv (.agg (eGFound_method y3.1)))], hneed := [(2, .box 71 (bxv (eGFound_method zGFound_method)))], upd := [(2, some (.box 71 (bxv (eGFound_method y3.1))))] } (fun m h => step_on (guard_no rfl) (op_store_lp (n := 18) rfl h.1.1 h.1.2.1 rfl h.2.1.1 (or_agg agg_71) (by rw [non_71]; rfl) rfl rfl rfl) rfl) ⟨⟨rfl, rfl, trivial⟩, ⟨rfl, trivial⟩, trivial⟩ ?_
 refine dr_cons { need := [(16, .pv (.bool y3.2))], dst := some 7, val := some (.pv (.bool y3.2)) } (fun m h => step_on (guard_no rfl) (op_assign rfl h.1.1 rfl rfl) rfl) ⟨⟨rfl, trivial⟩, trivial, trivial⟩ ?_
 refine dr_nil mixed rfl (by kernel_rfl) ?_
 refine piz (sX 17 [(6, some (.lp 0 0)), pf 7 (.bool y3.2)] [bf 0 71 (eGFound_method y3.1)] 1) [2] ?_
 iterate 2 refine go ?_
 cases hF
 exact post_ret rfl rfl (.cons _ _ _ _ _ (.agg _ _ _ _ _ 18 _ _ rfl rfl agg_71 rfl rfl rfl) (.p _) (.cons _ _ _ _ _ (.tmp _ _ rfl) (.p _) .nil)) (.inl rfl)
theorem method_Find_ok {a0 : List GClass} {a1 : List UInt8} {a2 : List UInt8} {r : GFound_method × Bool} (hF : method_Find a0 a1 a2 = some r) : FZ 47 [.vs 7 (List.map eGClass a0), .str a1, .str a2] [.p (.agg (eGFound_method r.1)), .p (.bool r.2)] := by
 unfold method_Find at hF
 refine fn_of_body (n := 16) Tryz.func47 rfl rfl rfl fun w O => ?_
 refine go ?_
 refine rgp (al 0 (eGFound_method zGFound_method) zer_71) ?_
 iterate 6 refine go ?_
 obtain ⟨y1, h2, hF⟩ := bs hF
 refine rgp (cl 1 [.vs 7 (List.map eGClass a0), .str a1] [.p (.vs 1 (List.map eI y1))] (Fn.frozen (above_Chain_ok h2))) ?_
 refine go ?_
 obtain ⟨y3, h4, hF⟩ := bs hF
 refine rgp (cl 1 [.vs 7 (List.map eGClass a0), .vs 1 (List.map eI y1), .str a2] [.p (.agg (eGFound_method y3.1)), .p (.bool y3.2)] (method_first_ok h4)) ?_
 iterate 2 (refine rgp (op_extract rfl rfl rfl rfl rfl) ?_)
 iterate 4 refine go ?_
 cases hF
 exact post_ret rfl rfl (.cons _ _ _ _ _ (.agg _ _ _ _ _ 18 _ _ rfl rfl agg_71 rfl rfl rfl) (.p _) (.cons _ _ _ _ _ (.tmp _ _ rfl) (.p _) .nil)) (.inl rfl)
theorem slices_IndexFunc_api_Method_ok {a0 : List GMethod} {q1 : GMethod → Option Bool} {r : Int} {q1_f : Nat} {q1_c : List PV} (q1_b : callB Tryz.prog q1_f = true) (q1_h : ∀ (x0 : GMethod) (r : Bool), q1 x0 = some r → FZ q1_f ([.agg (eGMethod x0)] ++ q1_c) [.p (.bool r)]) (hF : slices_IndexFunc_api_Method a0 q1 = some r) : FZ 52 [.vs 17 (List.map eGMethod a0), .fn q1_f q1_c] [.p (.int .i64 r)] := by
 unfold slices_IndexFunc_api_Method at hF
 refine fn_of_body (n := 19) Tryz.func52 rfl rfl rfl fun w O => ?_
 iterate 9 refine go ?_
 obtain ⟨lr34, hF, hK35⟩ := bs hF
 refine aw_for ((a0.length - 0 : Int).toNat + 1) (fun s1 => ∃ q, lr34 = .next q ∧ s1 = (sX 19 [] [] 0)) ?_ ?_
 ·refine rnd_loop (α := Int) (fun q => (sX 19 [pf 0 (.vs 17 (List.map eGMethod a0)), pf 1 (.fn q1_f q1_c), pf 7 (.int .i64 (a0.length : Int)), pf 8 (.int .i64 q)] [] 0)) (fun k q => slices_IndexFunc_api_Method_L1 a0 q1 k q = some lr34) 0 (impz []) hF (fun q h => by cases h) ?_
  clear hF
  rintro k x11 hF ih
  refine rnd_succ ?_
  iterate 3 refine go ?_
  refine aw_seq ?_
  refine cnd hF (fun hb23 hF => ?_) fun hb23 hF => ?_
  ·iterate 2 refine go ?_
   refine aw_seq ?_
   refine aw_block ?_
   iterate 8 refine go ?_
   obtain ⟨y28, h29, hF⟩ := bs hF
   refine rgp (ix (idx_map eGMethod h29) slc_30) ?_
   refine rgp (lw (eGMethod y28) agg_40) ?_
   obtain ⟨y30, h31, hF⟩ := bs hF
   refine rgp (op_call 0 rfl (caps := q1_c) (args := [.agg (eGMethod y28)]) (rs := [.p (.bool y30)]) rfl rfl rfl q1_b (q1_h y28 _ h31) rfl rfl rfl) ?_
   refine go ?_
   refine cnd hF (fun hb32 hF => ?_) fun hb32 hF => ?_
   ·iterate 8 refine go ?_
    refine post_lp_ret ?_
    cases hF
    have hF := elim_stop hK35
    refine go ?_
    cases hF
    exact prt
   iterate 6 refine go ?_
   refine rnr ?_
   exact rnd_back (ih (w_i64 (x11 + 1)) hF) (impz [])
  refine aw_exit ?_
  iterate 2 refine post_then_exit ?_
  cases hF
  exact post_lp_break _ ⟨_, rfl, rfl⟩ (impz [])
 rintro _ ⟨⟨⟩, rfl, rfl⟩
 have hF := elim_next hK35
 clear hK35
 iterate 5 refine go ?_
 cases hF
 exact prt
theorem __pure_walker__call_1_ok {a0 : GMethod} {c0 : List UInt8} {r : Bool} (hF : __pure_walker__call_1 a0 c0 = some r) : FZ 53 [.agg (eGMethod a0), .vp (eS c0)] [.p (.bool r)] := by
 unfold __pure_walker__call_1 at hF
 refine fn_of_body (n := 8) Tryz.func53 rfl rfl rfl fun w O => ?_
 refine go ?_
 refine rgp (bo 0) ?_
 iterate 6 refine go ?_
 refine rgp (op_str rfl rfl rfl rfl rfl rfl) ?_
 iterate 3 refine go ?_
 cases hF
 exact prt
theorem __pure_walker__call_w_ok {a1 : List UInt8} {a2 : List UInt8} {b0_0 : List GClass} {b1 : Nat × (List UInt8 → Option Int)} {b2 : List (A2 Int)} {r : (Nat × (List UInt8 → Option Int)) × (List (A2 Int))} (hF : __pure_walker__call_w a1 a2 b0_0 b1 b2 = some r) : Abs.FnW globs_Tryz Tryz.prog 26 [.lp 0 0, .pv (.str a1), .pv (.str a2)] [(0, some (.box 81 [.pv (.vs 7 (List.map eGClass b0_0)), .ls 1, .ls 2])), (1, some (.dict Tryz.prog 79 b1.1 b1.2)), (2, some (.row 59 2 (List.map (eA2 eI) b2)))] 3 [(0, 0)] [] [(0, some (.box 81 [.pv (.vs 7 (List.map eGClass b0_0)), .ls 1, .ls 2])), (1, some (.dict Tryz.prog 79 r.1.1 r.1.2)), (2, some (.row 59 2 (List.map (eA2 eI) r.2)))] 3 := by
 unfold __pure_walker__call_w at hF
 refine fnW_of_body (n := 89) (m := 3) [0] Tryz.func26 rfl rfl rfl ?_
 intro c w O θ hcx
 refine go ?_
 refine rgp (bo 3) ?_
 iterate 3 refine go ?_
 refine rgp (op_nilCheck rfl rfl rfl rfl rfl) ?_
 iterate 5 refine go ?_
 obtain ⟨lr175, hF, hK176⟩ := bs hF
 refine aw_for ((b0_0.length - 0 : Int).toNat + 1) (fun s1 => s1 = ⟨89, [(0, some (.lp 0 0))], [(0, some (.box 81 [.pv (.vs 7 (List.map eGClass b0_0)), .ls 1, .ls 2])), (1, some (.dict Tryz.prog 79 lr175.1 lr175.2.1)), (2, some (.row 59 2 (List.map (eA2 eI) lr175.2.2)))], 3, [], [], 0, [0]⟩) ?_ ?_
 ·refine rnd_loop (α := Nat × (List UInt8 → Option Int) × (List (A2 Int)) × Int) (fun q => ⟨89, [(0, some (.lp 0 0)), (1, some (.pv (.str a1))), (5, some (.lp 3 0)), (15, some (.pv (.vs 7 (List.map eGClass b0_0)))), (16, some (.pv (.int .i64 (b0_0.length : Int)))), (17, some (.pv (.int .i64 q.2.2.2)))], [(0, some (.box 81 [.pv (.vs 7 (List.map eGClass b0_0)), .ls 1, .ls 2])), (1, some (.dict Tryz.prog 79 q.1 q.2.1)), (2, some (.row 59 2 (List.map (eA2 eI) q.2.2.1))), (3, some (.box 9 [.pv (.str a2)]))], 4, [], [], 0, [0]⟩) (fun k q => __pure_walker__call_w_L1 a1 a2 b0_0 k q.1 q.2.1 q.2.2.1 q.2.2.2 = some lr175) (b1.1, b1.2, b2, 0) (impz [0, 1, 2, 3]) hF (fun q h => by cases h) ?_
  clear hF
  rintro k ⟨x54, x55, x56, x57⟩ hF ih
  refine rnd_succ ?_
  iterate 3 refine go ?_
  refine aw_seq ?_
  refine cnd hF (fun hb115 hF => ?_) fun hb115 hF => ?_
  ·iterate 2 refine go ?_
   refine aw_seq ?_
   obtain ⟨p166, hF, hK167⟩ := bs hF
   obtain ⟨x163, x164, x165⟩ := p166
   refine ctx ⟨89, [(0, some (.lp 0 0)), (1, some (.pv (.str a1))), (5, some (.lp 3 0)), (15, some (.pv (.vs 7 (List.map eGClass b0_0)))), (16, some (.pv (.int .i64 (b0_0.length : Int)))), (17, some (.pv (.int .i64 x57)))], [(0, some (.box 81 [.pv (.vs 7 (List.map eGClass b0_0)), .ls 1, .ls 2])), (1, some (.dict Tryz.prog 79 x163 x164)), (2, some (.row 59 2 (List.map (eA2 eI) x165))), (3, some (.box 9 [.pv (.str a2)]))], 4, [], [], 0, [0]⟩ ?_ ?_
   ·refine aw_block ?_
    refine go ?_
    obtain ⟨y118, h119, hF⟩ := bs hF
    refine rgp (ix (idx_map eGClass h119) slc_22) ?_
    refine rgp (lw (eGClass y118) agg_32) ?_
    refine rgp (al 4 (eGClass zGClass) zer_32) ?_
    iterate 2 refine go ?_
    refine aw_seq ?_
    refine aw_seq ?_
    refine dr_start ⟨_, _, _⟩ rfl ?_
    refine dgo ?_
    refine dr_cons { need := [(21, .lp 0 0)], dst := some 22, val := some (.lp 0 0) } (fun m h => step_on (guard_no rfl) (op_nilCheck rfl h.1.1 rfl rfl rfl) rfl) ⟨⟨rfl, trivial⟩, trivial, trivial⟩ ?_
    iterate 5 refine dgo ?_
    obtain ⟨y122, h123, hF⟩ := bs hF
    refine dr_cons { need := [(27, .pv (.str a1)), (26, .pv (.str y118.fName)), (24, .pv (.vs 7 (List.map eGClass b0_0)))], dst := some 28, val := some (.pv (.bool y122)) } (fun m h => step_on (guard_no rfl) (op_call 5 rfl (caps := []) (args := [.vs 7 (List.map eGClass b0_0), .str y118.fName, .str a1]) (rs := [.p (.bool y122)]) rfl rfl (evl_cons h.1.2.2.1 (evl_cons h.1.2.1 (evl_cons h.1.1 evl_nil))) cal_50 (above_Below_ok h123) rfl rfl rfl) rfl) ⟨⟨rfl, rfl, rfl, trivial⟩, trivial, trivial⟩ ?_
    refine dr_cons { need := [(28, .pv (.bool y122))], dst := some 29, val := some (.pv (.bool (!y122))) } (fun m h => step_on (guard_no rfl) (op_not rfl h.1.1 rfl rfl) rfl) ⟨⟨rfl, trivial⟩, trivial, trivial⟩ ?_
    refine dr_nil mixed rfl (by kernel_rfl) ?_
    refine piz ⟨89, [(0, some (.lp 0 0)), (1, some (.pv (.str a1))), (5, some (.lp 3 0)), (7, some (.lp 4 0)), (15, some (.pv (.vs 7 (List.map eGClass b0_0)))), (16, some (.pv (.int .i64 (b0_0.length : Int)))), (17, some (.pv (.int .i64 x57))), (29, some (.pv (.bool (!y122))))], [(0, some (.box 81 [.pv (.vs 7 (List.map eGClass b0_0)), .ls 1, .ls 2])), (1, some (.dict Tryz.prog 79 x54 x55)), (2, some (.row 59 2 (List.map (eA2 eI) x56))), (3, some (.box 9 [.pv (.str a2)])), (4, some (.box 32 (bxv (eGClass y118))))], 5, [], [], 0, [0]⟩ [0, 1, 2, 3, 4] ?_
    refine go ?_
    refine cnd hF (fun hb124 hF => ?_) fun hb124 hF => ?_
    ·refine aw_exit ?_
     refine post_then_exit ?_
     refine post_block_exit ?_
     cases hF
     exact pcz [0, 1, 2, 3]
    iterate 2 refine go ?_
    refine aw_seq ?_
    refine aw_imp (imp_names 1) ?_
    refine dr_start ⟨_, _, _⟩ rfl ?_
    refine dgo ?_
    refine dr_cons { need := [(31, .lp 0 0)], dst := some 32, val := some (.lp 0 0) } (fun m h => step_on (guard_no rfl) (op_nilCheck rfl h.1.1 rfl rfl rfl) rfl) ⟨⟨rfl, trivial⟩, trivial, trivial⟩ ?_
    iterate 5 refine dgo ?_
    obtain ⟨y127, h128, hF⟩ := bs hF
    refine dr_cons { need := [(37, .pv (.str a2)), (36, .pv (.str y118.fName)), (34, .pv (.vs 7 (List.map eGClass b0_0)))], dst := some 38, val := some (.tup [.pv (.agg (eGFound_method y127.1)), .pv (.bool y127.2)]) } (fun m h => step_on (guard_no rfl) (op_call 6 rfl (caps := []) (args := [.vs 7 (List.map eGClass b0_0), .str y118.fName, .str a2]) (rs := [.p (.agg (eGFound_method y127.1)), .p (.bool y127.2)]) rfl rfl (evl_cons h.1.2.2.1 (evl_cons h.1.2.1 (evl_cons h.1.1 evl_nil))) cal_47 (method_Find_ok h128) rfl rfl rfl) rfl) ⟨⟨rfl, rfl, rfl, trivial⟩, trivial, trivial⟩ ?_
    refine dgo ?_
    refine dr_cons { need := [(30, .tup [.pv (.agg (eGFound_method y127.1)), .pv (.bool y127.2)])], dst := some 39, val := some (.pv (.agg (eGFound_method y127.1))) } (fun m h => step_on (guard_no rfl) (op_extract rfl h.1.1 rfl rfl rfl) rfl) ⟨⟨rfl, trivial⟩, trivial, trivial⟩ ?_
    refine dr_cons { need := [(30, .tup [.pv (.agg (eGFound_method y127.1)), .pv (.bool y127.2)])], dst := some 40, val := some (.pv (.bool y127.2)) } (fun m h => step_on (guard_no rfl) (op_extract rfl h.1.1 rfl rfl rfl) rfl) ⟨⟨rfl, trivial⟩, trivial, trivial⟩ ?_
    refine dr_cons { names := [5], dst := some 8, val := some (.lp 5 0), upd := [(5, some (.box 71 (bxv (eGFound_method zGFound_method))))] } (fun m h => step_on (guard_no rfl) (op_alloc 5 (fresh_free h.2.2.1) (ps := (eGFound_method zGFound_method)) rfl zer_71 (by exact ⟨rfl, rfl, rfl, rfl, rfl, rfl, rfl, rfl, rfl, rfl, rfl, rfl, rfl, rfl, trivial, trivial, trivial, rfl, trivial⟩) rfl rfl) rfl) ⟨trivial, trivial, ⟨rfl, trivial⟩⟩ ?_
    refine dr_cons { need := [(8, .lp 5 0), (39, .pv (.agg (eGFound_method y127.1)))], hneed := [(5, .box 71 (bxv (eGFound_method zGFound_method)))], upd := [(5, some (.box 71 (bxv (eGFound_method y127.1))))] } (fun m h => step_on (guard_no rfl) (op_store_lp (n := 18) rfl h.1.1 h.1.2.1 rfl h.2.1.1 (or_agg agg_71) (by rw [non_71]; rfl) rfl rfl rfl) rfl) ⟨⟨rfl, rfl, trivial⟩, ⟨rfl, trivial⟩, trivial⟩ ?_
    refine dr_cons { need := [(40, .pv (.bool y127.2))], dst := some 9, val := some (.pv (.bool y127.2)) } (fun m h => step_on (guard_no rfl) (op_assign rfl h.1.1 rfl rfl) rfl) ⟨⟨rfl, trivial⟩, trivial, trivial⟩ ?_
    refine dr_nil mixed rfl (by kernel_rfl) ?_
    refine piz ⟨89, [(0, some (.lp 0 0)), (1, some (.pv (.str a1))), (5, some (.lp 3 0)), (8, some (.lp 4 0)), (9, some (.pv (.bool y127.2))), (15, some (.pv (.vs 7 (List.map eGClass b0_0)))), (16, some (.pv (.int .i64 (b0_0.length : Int)))), (17, some (.pv (.int .i64 x57)))], [(0, some (.box 81 [.pv (.vs 7 (List.map eGClass b0_0)), .ls 1, .ls 2])), (1, some (.dict Tryz.prog 79 x54 x55)), (2, some (.row 59 2 (List.map (eA2 eI) x56))), (3, some (.box 9 [.pv (.str a2)])), (4, some (.box 71 (bxv (eGFound_method y127.1))))], 5, [], [], 0, [0]⟩ [0, 1, 2, 3, 5] ?_
    iterate 6 refine go ?_
    refine cnd hF (fun hb129 hF => ?_) fun hb129 hF => ?_
    ·refine aw_exit ?_
     refine post_then_exit ?_
     refine post_block_exit ?_
     cases hF
     exact pcz [0, 1, 2, 3]
    iterate 2 refine go ?_
    refine aw_seq ?_
    refine dr_start ⟨_, _, _⟩ rfl ?_
    refine dgo ?_
    refine dr_cons { need := [(43, .lp 0 0)], dst := some 44, val := some (.lp 0 0) } (fun m h => step_on (guard_no rfl) (op_nilCheck rfl h.1.1 rfl rfl rfl) rfl) ⟨⟨rfl, trivial⟩, trivial, trivial⟩ ?_
    iterate 4 refine dgo ?_
    obtain ⟨y132, h133, hF⟩ := bs hF
    refine dr_cons { need := [(48, .pv (.str y127.1.fClass)), (46, .pv (.vs 7 (List.map eGClass b0_0)))], dst := some 49, val := some (.pv (.int .i64 y132)) } (fun m h => step_on (guard_no rfl) (op_call 5 rfl (caps := []) (args := [.vs 7 (List.map eGClass b0_0), .str y127.1.fClass]) (rs := [.p (.int .i64 y132)]) rfl rfl (evl_cons h.1.2.1 (evl_cons h.1.1 evl_nil)) cal_51 (table_Find_ok h133) rfl rfl rfl) rfl) ⟨⟨rfl, rfl, trivial⟩, trivial, trivial⟩ ?_
    refine dr_cons { need := [(49, .pv (.int .i64 y132))], dst := some 10, val := some (.pv (.int .i64 y132)) } (fun m h => step_on (guard_no rfl) (op_assign rfl h.1.1 rfl rfl) rfl) ⟨⟨rfl, trivial⟩, trivial, trivial⟩ ?_
    refine dr_nil mixed rfl (by kernel_rfl) ?_
    refine piz ⟨89, [(0, some (.lp 0 0)), (1, some (.pv (.str a1))), (5, some (.lp 3 0)), (10, some (.pv (.int .i64 y132))), (15, some (.pv (.vs 7 (List.map eGClass b0_0)))), (16, some (.pv (.int .i64 (b0_0.length : Int)))), (17, some (.pv (.int .i64 x57)))], [(0, some (.box 81 [.pv (.vs 7 (List.map eGClass b0_0)), .ls 1, .ls 2])), (1, some (.dict Tryz.prog 79 x54 x55)), (2, some (.row 59 2 (List.map (eA2 eI) x56))), (3, some (.box 9 [.pv (.str a2)]))], 4, [], [], 0, [0]⟩ [0, 1, 2, 3] ?_
    iterate 4 refine go ?_
    refine rgp (op_nilCheck rfl rfl rfl rfl rfl) ?_
    iterate 3 refine go ?_
    obtain ⟨y139, h140, hF⟩ := bs hF
    refine rgp (ix (idx_map eGClass h140) slc_22) ?_
    iterate 2 refine go ?_
    refine rgp (op_makeFunc rfl rfl rfl rfl) ?_
    obtain ⟨y142, h143, hF⟩ := bs hF
    refine rgp (op_callB 4 rfl (caps := []) (args := [.vs 17 (List.map eGMethod y139.fMethods), .fn 53 [.vp (eS a2)]]) [(3, some (.box 9 [.pv (.str a2)]))] rfl rfl rfl (FzH.spec ⟨rfl, trivial⟩) rfl rfl cal_52 (slices_IndexFunc_api_Method_ok (q1_f := 53) (q1_c := [.vp (eS a2)]) (q1_b := cal_53) (q1_h := fun _ r h => (__pure_walker__call_1_ok h)) h143) rfl rfl rfl) ?_
    refine rgp (op_buildArr (zs := ((eA2 eI) (⟨0, 0⟩ : A2 Int))) (r := (eA2 eI) (⟨y132, y142⟩ : A2 Int)) rfl zer_59 (by exact ⟨rfl, rfl, trivial⟩) arr_59 rfl rfl rfl rfl) ?_
    refine rgp (al 4 ((eA2 eI) (⟨0, 0⟩ : A2 Int)) zer_59) ?_
    iterate 2 refine go ?_
    refine aw_seq ?_
    refine aw_imp (imp_names 1) ?_
    refine dr_start ⟨_, _, _⟩ rfl ?_
    refine dgo ?_
    refine dr_cons { need := [(62, .lp 0 0)], dst := some 63, val := some (.lp 0 0) } (fun m h => step_on (guard_no rfl) (op_nilCheck rfl h.1.1 rfl rfl rfl) rfl) ⟨⟨rfl, trivial⟩, trivial, trivial⟩ ?_
    iterate 2 refine dgo ?_
    refine dr_cons { need := [(11, .lp 4 0)], hneed := [(4, .box 59 (bxv ((eA2 eI) (⟨y132, y142⟩ : A2 Int))))], dst := some 66, val := some (.pv (.agg ((eA2 eI) (⟨y132, y142⟩ : A2 Int)))) } (fun m h => step_on (guard_no rfl) (op_load_lp_agg (ps := (eA2 eI) (⟨y132, y142⟩ : A2 Int)) rfl h.1.1 h.2.1.1 rfl rfl rfl agg_59 rfl rfl) rfl) ⟨⟨rfl, trivial⟩, ⟨rfl, trivial⟩, trivial⟩ ?_
    obtain ⟨y150, h151, hF⟩ := bs hF
    refine dr_cons { need := [(65, .ls 1), (66, .pv (.agg ((eA2 eI) (⟨y132, y142⟩ : A2 Int))))], hneed := [(1, .dict Tryz.prog 79 x54 x55)], dst := some 67, val := some (.pv (.int .i64 y150)) } (fun m h => step_on (guard_no rfl) (op_lookup2 rfl h.1.1 h.2.1.1 h.1.2.1 Tryz_map2_79 zer_3 h151 rfl rfl) rfl) ⟨⟨rfl, rfl, trivial⟩, ⟨rfl, trivial⟩, trivial⟩ ?_
    refine dgo ?_
    obtain ⟨u152, h153, hF⟩ := bs hF
    refine dr_cons { need := [(65, .ls 1), (66, .pv (.agg ((eA2 eI) (⟨y132, y142⟩ : A2 Int))))], hneed := [(1, .dict Tryz.prog 79 x54 x55)], names := [5], dst := some 69, val := some (.tup [.any, .ls 5]), upd := [(1, some (.dictE Tryz.prog 79 x54 x55 (kb2 ((⟨y132, y142⟩ : A2 Int).a0) ((⟨y132, y142⟩ : A2 Int).a1)) 5)), (5, none)] } (fun m h => step_on (guard_no rfl) (op_mapEntry2 5 (fresh_free h.2.2.1) rfl h.1.1 h.2.1.1 h.1.2.1 Tryz_map2_79 zer_3 (ment_spec h153) rfl rfl) rfl) ⟨⟨rfl, rfl, trivial⟩, ⟨rfl, trivial⟩, ⟨rfl, trivial⟩⟩ ?_
    refine dr_cons { need := [(69, .tup [.any, .ls 5])], dst := some 70, val := some (.ls 5) } (fun m h => step_on (guard_no rfl) (op_extract rfl h.1.1 rfl rfl rfl) rfl) ⟨⟨rfl, trivial⟩, trivial, trivial⟩ ?_
    obtain ⟨u154, h155, hF⟩ := bs hF
    refine dr_cons { need := [(65, .ls 1), (70, .ls 5), (68, .pv (.int .i64 (w_i64 (y150 + 1))))], hneed := [(1, .dictE Tryz.prog 79 x54 x55 (kb2 ((⟨y132, y142⟩ : A2 Int).a0) ((⟨y132, y142⟩ : A2 Int).a1)) 5)], upd := [(1, some (.dict Tryz.prog 79 (x54 + 1) (mset2 x55 (kb2 ((⟨y132, y142⟩ : A2 Int).a0) ((⟨y132, y142⟩ : A2 Int).a1)) (w_i64 (y150 + 1)))))] } (fun m h => step_on (guard_no rfl) (op_entryStore rfl h.1.1 h.2.1.1 h.1.2.1 h.1.2.2.1 (chk64_spec h155) rfl) rfl) ⟨⟨rfl, rfl, rfl, trivial⟩, ⟨rfl, trivial⟩, trivial⟩ ?_
    refine dr_nil2 5 7 1 (.dictE Tryz.prog 79 x54 x55 (kb2 ((⟨y132, y142⟩ : A2 Int).a0) ((⟨y132, y142⟩ : A2 Int).a1)) 5) mixed rfl rfl rfl rfl rfl rfl rfl (fun m h => step_on (guard_no rfl) (op_lookup2E rfl h.1.1 h.2.1.1 h.1.2.1 Tryz_map2_79 zer_3 h151 rfl rfl) rfl) (by kernel_rfl) ?_
    refine piz ⟨89, [(0, some (.lp 0 0)), (1, some (.pv (.str a1))), (5, some (.lp 3 0)), (11, some (.lp 4 0)), (15, some (.pv (.vs 7 (List.map eGClass b0_0)))), (16, some (.pv (.int .i64 (b0_0.length : Int)))), (17, some (.pv (.int .i64 x57)))], [(0, some (.box 81 [.pv (.vs 7 (List.map eGClass b0_0)), .ls 1, .ls 2])), (1, some (.dict Tryz.prog 79 (x54 + 1) (mset2 x55 (kb2 ((⟨y132, y142⟩ : A2 Int).a0) ((⟨y132, y142⟩ : A2 Int).a1)) (w_i64 (y150 + 1))))), (2, some (.row 59 2 (List.map (eA2 eI) x56))), (3, some (.box 9 [.pv (.str a2)])), (4, some (.box 59 (bxv ((eA2 eI) (⟨y132, y142⟩ : A2 Int)))))], 5, [], [], 0, [0]⟩ [0, 1, 2, 3, 4] ?_
    refine go ?_
    refine aw_seq ?_
    refine dr_start ⟨_, _, _⟩ rfl ?_
    refine dgo ?_
    refine dr_cons { need := [(71, .lp 0 0)], dst := some 72, val := some (.lp 0 0) } (fun m h => step_on (guard_no rfl) (op_nilCheck rfl h.1.1 rfl rfl rfl) rfl) ⟨⟨rfl, trivial⟩, trivial, trivial⟩ ?_
    iterate 2 refine dgo ?_
    refine dr_cons { need := [(11, .lp 4 0)], hneed := [(4, .box 59 (bxv ((eA2 eI) (⟨y132, y142⟩ : A2 Int))))], dst := some 75, val := some (.pv (.agg ((eA2 eI) (⟨y132, y142⟩ : A2 Int)))) } (fun m h => step_on (guard_no rfl) (op_load_lp_agg (ps := (eA2 eI) (⟨y132, y142⟩ : A2 Int)) rfl h.1.1 h.2.1.1 rfl rfl rfl agg_59 rfl rfl) rfl) ⟨⟨rfl, trivial⟩, ⟨rfl, trivial⟩, trivial⟩ ?_
    obtain ⟨y158, h159, hF⟩ := bs hF
    refine dr_cons { need := [(74, .ls 1), (75, .pv (.agg ((eA2 eI) (⟨y132, y142⟩ : A2 Int))))], hneed := [(1, .dict Tryz.prog 79 (x54 + 1) (mset2 x55 (kb2 ((⟨y132, y142⟩ : A2 Int).a0) ((⟨y132, y142⟩ : A2 Int).a1)) (w_i64 (y150 + 1))))], dst := some 76, val := some (.pv (.int .i64 y158)) } (fun m h => step_on (guard_no rfl) (op_lookup2 rfl h.1.1 h.2.1.1 h.1.2.1 Tryz_map2_79 zer_3 h159 rfl rfl) rfl) ⟨⟨rfl, rfl, trivial⟩, ⟨rfl, trivial⟩, trivial⟩ ?_
    refine dgo ?_
    refine dr_nil mixed rfl (by kernel_rfl) ?_
    refine piz ⟨89, [(0, some (.lp 0 0)), (1, some (.pv (.str a1))), (5, some (.lp 3 0)), (11, some (.lp 4 0)), (15, some (.pv (.vs 7 (List.map eGClass b0_0)))), (16, some (.pv (.int .i64 (b0_0.length : Int)))), (17, some (.pv (.int .i64 x57))), (77, some (.pv (.bool (y158 == 1))))], [(0, some (.box 81 [.pv (.vs 7 (List.map eGClass b0_0)), .ls 1, .ls 2])), (1, some (.dict Tryz.prog 79 (x54 + 1) (mset2 x55 (kb2 ((⟨y132, y142⟩ : A2 Int).a0) ((⟨y132, y142⟩ : A2 Int).a1)) (w_i64 (y150 + 1))))), (2, some (.row 59 2 (List.map (eA2 eI) x56))), (3, some (.box 9 [.pv (.str a2)])), (4, some (.box 59 (bxv ((eA2 eI) (⟨y132, y142⟩ : A2 Int)))))], 5, [], [], 0, [0]⟩ [0, 1, 2, 3, 4] ?_
    refine go ?_
    refine cnd hF (fun hb160 hF => ?_) fun hb160 hF => ?_
    ·refine aw_imp (imp_names 1) ?_
     refine dr_start ⟨_, _, _⟩ rfl ?_
     iterate 2 refine dgo ?_
     refine dr_cons { need := [(79, .lp 0 0)], dst := some 80, val := some (.lp 0 0) } (fun m h => step_on (guard_no rfl) (op_nilCheck rfl h.1.1 rfl rfl rfl) rfl) ⟨⟨rfl, trivial⟩, trivial, trivial⟩ ?_
     iterate 2 refine dgo ?_
     refine dr_cons { need := [(11, .lp 4 0)], hneed := [(4, .box 59 (bxv ((eA2 eI) (⟨y132, y142⟩ : A2 Int))))], dst := some 83, val := some (.pv (.agg ((eA2 eI) (⟨y132, y142⟩ : A2 Int)))) } (fun m h => step_on (guard_no rfl) (op_load_lp_agg (ps := (eA2 eI) (⟨y132, y142⟩ : A2 Int)) rfl h.1.1 h.2.1.1 rfl rfl rfl agg_59 rfl rfl) rfl) ⟨⟨rfl, trivial⟩, ⟨rfl, trivial⟩, trivial⟩ ?_
     refine dr_cons { need := [(83, .pv (.agg ((eA2 eI) (⟨y132, y142⟩ : A2 Int))))], dst := some 84, val := some (.pv (.vs 2 (List.map (eA2 eI) [(⟨y132, y142⟩ : A2 Int)]))) } (fun m h => step_on (guard_no rfl) (op_lit (rows := List.map (eA2 eI) ([(⟨y132, y142⟩ : A2 Int)] : List (A2 Int))) (zs := ((eA2 eI) (⟨0, 0⟩ : A2 Int))) rfl rfl slc_57 zer_59 (by exact ⟨rfl, rfl, trivial⟩) rfl rfl rfl (evs_cons h.1.1 evs_nil) rfl rfl rfl rfl) rfl) ⟨⟨rfl, trivial⟩, trivial, trivial⟩ ?_
     obtain ⟨u161, h162, hF⟩ := bs hF
     refine dr_cons { need := [(82, .ls 2), (84, .pv (.vs 2 (List.map (eA2 eI) [(⟨y132, y142⟩ : A2 Int)])))], hneed := [(2, .row 59 2 (List.map (eA2 eI) x56))], names := [5], dst := some 85, val := some (.ls 5), upd := [(5, some (.row 59 2 (List.map (eA2 eI) (x56 ++ [(⟨y132, y142⟩ : A2 Int)])))), (2, none)] } (fun m h => step_on (guard_no rfl) (op_append 5 (fresh_free h.2.2.1) rfl h.1.1 h.2.1.1 h.1.2.1 slc_57 elm_59 zer_59 rfl rfl rfl (room_map (f := (eA2 eI)) (g := (eA2 eI)) h162) (List.map_append (f := (eA2 eI)) (l₁ := x56) (l₂ := [(⟨y132, y142⟩ : A2 Int)])).symm rfl rfl) rfl) ⟨⟨rfl, rfl, trivial⟩, ⟨rfl, trivial⟩, ⟨rfl, trivial⟩⟩ ?_
     refine dr_cons { need := [(78, .lp 0 0)], dst := some 86, val := some (.lp 0 0) } (fun m h => step_on (guard_no rfl) (op_nilCheck rfl h.1.1 rfl rfl rfl) rfl) ⟨⟨rfl, trivial⟩, trivial, trivial⟩ ?_
     refine dgo ?_
     refine dr_cons { need := [(87, .lp 0 2), (85, .ls 5)], hneed := [(0, .box 81 [.pv (.vs 7 (List.map eGClass b0_0)), .ls 1, .ls 2])], upd := [(0, some (.box 81 [.pv (.vs 7 (List.map eGClass b0_0)), .ls 1, .ls 5]))] } (fun m h => step_on (guard_no rfl) (op_store_lp (n := 1) rfl h.1.1 h.1.2.1 rfl h.2.1.1 (or_one one_57) (by rw [one_57]; rfl) rfl rfl rfl) rfl) ⟨⟨rfl, rfl, trivial⟩, ⟨rfl, trivial⟩, trivial⟩ ?_
     refine dr_nil mixed rfl (by kernel_rfl) ?_
     refine piz ⟨89, [(0, some (.lp 0 0)), (1, some (.pv (.str a1))), (5, some (.lp 3 0)), (15, some (.pv (.vs 7 (List.map eGClass b0_0)))), (16, some (.pv (.int .i64 (b0_0.length : Int)))), (17, some (.pv (.int .i64 x57)))], [(0, some (.box 81 [.pv (.vs 7 (List.map eGClass b0_0)), .ls 1, .ls 2])), (1, some (.dict Tryz.prog 79 (x54 + 1) (mset2 x55 (kb2 ((⟨y132, y142⟩ : A2 Int).a0) ((⟨y132, y142⟩ : A2 Int).a1)) (w_i64 (y150 + 1))))), (2, some (.row 59 2 (List.map (eA2 eI) (x56 ++ [(⟨y132, y142⟩ : A2 Int)])))), (3, some (.box 9 [.pv (.str a2)]))], 4, [], [], 0, [0]⟩ [0, 1, 5, 3] ?_
     refine go ?_
     cases hF
     exact pcz [0, 1, 2, 3]
    iterate 2 refine go ?_
    cases hF
    exact pcz [0, 1, 2, 3]
   have hF := hK167
   iterate 4 refine go ?_
   refine rnr ?_
   exact rnd_back (ih (x163, x164, x165, w_i64 (x57 + 1)) hF) (impz [0, 1, 2, 3])
  refine aw_exit ?_
  iterate 2 refine post_then_exit ?_
  cases hF
  exact post_lp_break _ rfl (impz [0, 1, 2])
 rintro _ rfl
 have hF := hK176
 obtain ⟨x172, x173, x174⟩ := lr175
 refine piz ⟨89, [(0, some (.lp 0 0))], [(0, some (.box 81 [.pv (.vs 7 (List.map eGClass b0_0)), .ls 1, .ls 2])), (1, some (.dict Tryz.prog 79 x172 x173)), (2, some (.row 59 2 (List.map (eA2 eI) x174)))], 3, [], [], 0, [0]⟩ [0, 1, 2] ?_
 cases hF
 exact post_retW hcx rfl .nil rfl (.inr rfl)
theorem raise_This_ok {a0 : GClass} {r : (List GOwner)} (hF : raise_This a0 = some r) : FZ 137 [.agg (eGClass a0)] [.own 34 2 (List.map eGOwner r)] := by
 unfold raise_This at hF
 refine fn_of_body (n := 25) Tryz.func137 rfl rfl rfl fun w O => ?_
 refine go ?_
 refine rgp (bo 0) ?_
 iterate 7 refine go ?_
 obtain ⟨u3, h4, hF⟩ := bs hF
 refine rgp (op_make 1 rfl (k := .i64) (k' := .i64) (n := w_i64 ((a0.fParams.length : Int) + 1)) (m := w_i64 ((a0.fParams.length : Int) + 1)) (zs := eGOwner zGOwner) rfl rfl rfl (mkOk_spec h4).1 (mkOk_spec h4).2.1 (mkOk_spec h4).2.2 slc_28 elm_34 rfl zer_34 (by exact ⟨rfl, rfl, trivial⟩) rfl rfl (map_rep eGOwner _ _) rfl rfl) ?_
 iterate 5 refine go ?_
 refine rgp (op_len_ls (n := (List.replicate (w_i64 ((a0.fParams.length : Int) + 1) : Int).toNat zGOwner).length) rfl rfl rfl (List.length_map ..) slc_28 rfl rfl) ?_
 iterate 2 refine go ?_
 obtain ⟨x26, hF, hK27⟩ := bs hF
 refine aw_for (((((List.replicate (w_i64 ((a0.fParams.length : Int) + 1) : Int).toNat zGOwner).length : Int) : Int) - (0)).toNat + 1) (fun s1 => s1 = (sX 25 [(3, some (.ls 0))] [(0, some (.row 34 2 (List.map eGOwner x26)))] 1)) ?_ ?_
 ·refine rnd_loop (α := (List GOwner) × Int) (fun q => (sX 25 [(3, some (.ls 0)), pf 11 (.int .i64 ((List.replicate (w_i64 ((a0.fParams.length : Int) + 1) : Int).toNat zGOwner).length : Int)), pf 12 (.int .i64 q.2)] [(0, some (.row 34 2 (List.map eGOwner q.1)))] 1)) (fun k q => raise_This_L1 a0 k q.1 q.2 = some x26) ((List.replicate (w_i64 ((a0.fParams.length : Int) + 1) : Int).toNat zGOwner), 0) (impz [1]) hF (fun q h => by cases h) ?_
  clear hF
  rintro k ⟨x10, x11⟩ hF ih
  refine rnd_succ ?_
  iterate 3 refine go ?_
  refine aw_seq ?_
  refine cnd hF (fun hb19 hF => ?_) fun hb19 hF => ?_
  ·iterate 2 refine go ?_
   refine aw_seq ?_
   refine aw_block ?_
   iterate 8 refine go ?_
   refine rgp (bd ((eGOwner zGOwner)) (eGOwner ({ fKind := 3, fN := x11 } : GOwner)) zer_34 plc_34) ?_
   obtain ⟨y22, h23, hF⟩ := bs hF
   refine rgp (op_index_ls (k := .i64) rfl rfl rfl rfl (idx_map eGOwner h23) slc_28 rfl rfl) ?_
   refine rgp (op_store_le (n := 2) rfl rfl rfl rfl rfl (map_get eGOwner h23) (or_agg agg_34) (by rw [non_34]; rfl) rfl (map_set' eGOwner x10 _ ({ fKind := 3, fN := x11 } : GOwner)) rfl rfl) ?_
   refine reg_nil ?_
   refine piz (sX 25 [(3, some (.ls 0)), pf 11 (.int .i64 ((List.replicate (w_i64 ((a0.fParams.length : Int) + 1) : Int).toNat zGOwner).length : Int)), pf 12 (.int .i64 x11)] [(0, some (.row 34 2 (List.map eGOwner (x10.set (x11 : Int).toNat ({ fKind := 3, fN := x11 } : GOwner)))))] 1) [0] ?_
   iterate 5 refine go ?_
   refine rnr ?_
   exact rnd_back (ih ((x10.set (x11 : Int).toNat ({ fKind := 3, fN := x11 } : GOwner)), w_i64 (x11 + 1)) hF) (impz [0])
  refine aw_exit ?_
  iterate 2 refine post_then_exit ?_
  cases hF
  exact post_lp_break _ rfl (impz [0])
 rintro _ rfl
 have hF := hK27
 iterate 3 refine go ?_
 refine rgp (bd ((eGOwner zGOwner)) (eGOwner ({ fKind := 2, fN := 0 } : GOwner)) zer_34 plc_34) ?_
 obtain ⟨y28, h29, hF⟩ := bs hF
 refine rgp (op_index_ls (k := .i64) rfl rfl rfl rfl (idx_map eGOwner h29) slc_28 rfl rfl) ?_
 refine rgp (op_store_le (n := 2) rfl rfl rfl rfl rfl (map_get eGOwner h29) (or_agg agg_34) (by rw [non_34]; rfl) rfl (map_set' eGOwner x26 _ ({ fKind := 2, fN := 0 } : GOwner)) rfl rfl) ?_
 iterate 6 refine go ?_
 cases hF
 exact post_ret rfl rfl (.cons _ _ _ _ _ (.tmp _ _ rfl) (.own _ _ _ _ rfl nolent3) .nil) (.inl rfl)
theorem scope_This_ok {a0 : GClass} {r : GType} (hF : scope_This a0 = some r) : FZ 97 [.agg (eGClass a0)] [.p (.agg (eGType r))] := by
 unfold scope_This at hF
 refine fn_of_body (n := 15) Tryz.func97 rfl rfl rfl fun w O => ?_
 refine go ?_
 refine rgp (bo 0) ?_
 refine rgp (al 1 (eGType zGType) zer_37) ?_
 iterate 4 refine go ?_
 refine rgp (bd ((eGType zGType)) (eGType ({ fKind := 2, fClass := a0.fName, fN := 0, fOwn := (⟨zGOwner, zGOwner, zGOwner, zGOwner⟩ : A4 GOwner) } : GType)) zer_37 plc_37) ?_
 refine rgp (al 2 (eGType zGType) zer_37) ?_
 iterate 2 refine go ?_
 refine aw_seq ?_
 refine dr_start ⟨_, _, _⟩ rfl ?_
 refine dgo ?_
 refine dr_cons { need := [(7, .lp 2 3)], dst := some 8, val := some (.aw 2 3 4) } (fun m h => step_on (guard_no rfl) (op_slice_aw rfl h.1.1 arr_35 rfl rfl) rfl) ⟨⟨rfl, trivial⟩, trivial, trivial⟩ ?_
 refine dr_cons { need := [(1, .lp 0 0)], hneed := [(0, .box 32 (bxv (eGClass a0)))], dst := some 9, val := some (.pv (.agg (eGClass a0))) } (fun m h => step_on (guard_no rfl) (op_load_lp_agg (ps := eGClass a0) rfl h.1.1 h.2.1.1 rfl rfl rfl agg_32 rfl rfl) rfl) ⟨⟨rfl, trivial⟩, ⟨rfl, trivial⟩, trivial⟩ ?_
 obtain ⟨y1, h2, hF⟩ := bs hF
 refine dr_cons { need := [(9, .pv (.agg (eGClass a0)))], dst := some 10, val := some (.pv (.vs 2 (List.map eGOwner y1))) } (fun m h => step_on (guard_no rfl) (op_call 3 rfl (caps := []) (args := [.agg (eGClass a0)]) (rs := [.p (.vs 2 (List.map eGOwner y1))]) rfl rfl (evl_cons h.1.1 evl_nil) cal_137 (Fn.frozen (raise_This_ok h2)) rfl rfl rfl) rfl) ⟨⟨rfl, trivial⟩, trivial, trivial⟩ ?_
 refine dr_cons { need := [(8, .aw 2 3 4), (10, .pv (.vs 2 (List.map eGOwner y1)))], hneed := [(2, .box 37 (bxv (eGType ({ fKind := 2, fClass := a0.fName, fN := 0, fOwn := (⟨zGOwner, zGOwner, zGOwner, zGOwner⟩ : A4 GOwner) } : GType))))], dst := some 11, val := some (.pv (.int .i64 (Nat.min (List.map eGOwner y1).length 4 : Nat))), upd := [(2, some (.box 37 (bxv (eGType ({ ({ fKind := 2, fClass := a0.fName, fN := 0, fOwn := (⟨zGOwner, zGOwner, zGOwner, zGOwner⟩ : A4 GOwner) } : GType) with fOwn := (A4.cp (({ fKind := 2, fClass := a0.fName, fN := 0, fOwn := (⟨zGOwner, zGOwner, zGOwner, zGOwner⟩ : A4 GOwner) } : GType).fOwn) y1) } : GType)))))] } (fun m h => step_on (guard_no rfl) (op_copy_aw (news := List.map eGOwner y1) (cells' := bxv (eGType ({ ({ fKind := 2, fClass := a0.fName, fN := 0, fOwn := (⟨zGOwner, zGOwner, zGOwner, zGOwner⟩ : A4 GOwner) } : GType) with fOwn := (A4.cp (({ fKind := 2, fClass := a0.fName, fN := 0, fOwn := (⟨zGOwner, zGOwner, zGOwner, zGOwner⟩ : A4 GOwner) } : GType).fOwn) y1) } : GType))) rfl h.1.1 h.2.1.1 h.1.2.1 slc_28 rfl (cp4 (fun l => splice (bxv (eGType ({ fKind := 2, fClass := a0.fName, fN := 0, fOwn := (⟨zGOwner, zGOwner, zGOwner, zGOwner⟩ : A4 GOwner) } : GType))) 3 (((List.map eGOwner l).take 4).flatten.map .pv) = bxv (eGType ({ ({ fKind := 2, fClass := a0.fName, fN := 0, fOwn := (⟨zGOwner, zGOwner, zGOwner, zGOwner⟩ : A4 GOwner) } : GType) with fOwn := (A4.cp (({ fKind := 2, fClass := a0.fName, fN := 0, fOwn := (⟨zGOwner, zGOwner, zGOwner, zGOwner⟩ : A4 GOwner) } : GType).fOwn) l) } : GType))) y1 ⟨rfl, fun _ => rfl, fun _ _ => rfl, fun _ _ _ => rfl, fun _ _ _ _ _ => rfl⟩) rfl rfl) rfl) ⟨⟨rfl, rfl, trivial⟩, ⟨rfl, trivial⟩, trivial⟩ ?_
 iterate 2 refine dgo ?_
 refine dr_cons { need := [(13, .lp 2 2), (12, .pv (.int .i64 (w_i64 ((Nat.min (List.map eGOwner y1).length 4 : Nat) - 1))))], hneed := [(2, .box 37 (bxv (eGType ({ ({ fKind := 2, fClass := a0.fName, fN := 0, fOwn := (⟨zGOwner, zGOwner, zGOwner, zGOwner⟩ : A4 GOwner) } : GType) with fOwn := (A4.cp (({ fKind := 2, fClass := a0.fName, fN := 0, fOwn := (⟨zGOwner, zGOwner, zGOwner, zGOwner⟩ : A4 GOwner) } : GType).fOwn) y1) } : GType))))], upd := [(2, some (.box 37 (bxv (eGType ({ ({ ({ fKind := 2, fClass := a0.fName, fN := 0, fOwn := (⟨zGOwner, zGOwner, zGOwner, zGOwner⟩ : A4 GOwner) } : GType) with fOwn := (A4.cp (({ fKind := 2, fClass := a0.fName, fN := 0, fOwn := (⟨zGOwner, zGOwner, zGOwner, zGOwner⟩ : A4 GOwner) } : GType).fOwn) y1) } : GType) with fN := w_i64 ((Nat.min (List.map eGOwner y1).length 4 : Nat) - 1) } : GType)))))] } (fun m h => step_on (guard_no rfl) (op_store_lp (n := 1) rfl h.1.1 h.1.2.1 rfl h.2.1.1 (or_one one_3) (by rw [one_3]; rfl) rfl rfl rfl) rfl) ⟨⟨rfl, rfl, trivial⟩, ⟨rfl, trivial⟩, trivial⟩ ?_
 refine dr_nil mixed rfl (by kernel_rfl) ?_
 refine piz (sX 15 [(2, some (.lp 0 0)), (3, some (.lp 1 0))] [bf 0 37 (eGType zGType), bf 1 37 (eGType ({ ({ ({ fKind := 2, fClass := a0.fName, fN := 0, fOwn := (⟨zGOwner, zGOwner, zGOwner, zGOwner⟩ : A4 GOwner) } : GType) with fOwn := (A4.cp (({ fKind := 2, fClass := a0.fName, fN := 0, fOwn := (⟨zGOwner, zGOwner, zGOwner, zGOwner⟩ : A4 GOwner) } : GType).fOwn) y1) } : GType) with fN := w_i64 ((Nat.min (List.map eGOwner y1).length 4 : Nat) - 1) } : GType))] 2) [1, 2] ?_
 iterate 2 refine go ?_
 refine rgp (la (eGType ({ ({ ({ fKind := 2, fClass := a0.fName, fN := 0, fOwn := (⟨zGOwner, zGOwner, zGOwner, zGOwner⟩ : A4 GOwner) } : GType) with fOwn := (A4.cp (({ fKind := 2, fClass := a0.fName, fN := 0, fOwn := (⟨zGOwner, zGOwner, zGOwner, zGOwner⟩ : A4 GOwner) } : GType).fOwn) y1) } : GType) with fN := w_i64 ((Nat.min (List.map eGOwner y1).length 4 : Nat) - 1) } : GType)) agg_37) ?_
 iterate 3 refine go ?_
 cases hF
 exact post_ret rfl rfl (.cons _ _ _ _ _ (.agg _ _ _ _ _ 11 _ _ rfl rfl agg_37 rfl rfl rfl) (.p _) .nil) (.inl rfl)
theorem slices_IndexFunc_api_Var_ok {a0 : List GVar} {q1 : GVar → Option Bool} {r : Int} {q1_f : Nat} {q1_c : List PV} (q1_b : callB Tryz.prog q1_f = true) (q1_h : ∀ (x0 : GVar) (r : Bool), q1 x0 = some r → FZ q1_f ([.agg (eGVar x0)] ++ q1_c) [.p (.bool r)]) (hF : slices_IndexFunc_api_Var a0 q1 = some r) : FZ 139 [.vs 13 (List.map eGVar a0), .fn q1_f q1_c] [.p (.int .i64 r)] := by
 unfold slices_IndexFunc_api_Var at hF
 refine fn_of_body (n := 19) Tryz.func139 rfl rfl rfl fun w O => ?_
 iterate 9 refine go ?_
 obtain ⟨lr34, hF, hK35⟩ := bs hF
 refine aw_for ((a0.length - 0 : Int).toNat + 1) (fun s1 => ∃ q, lr34 = .next q ∧ s1 = (sX 19 [] [] 0)) ?_ ?_
 ·refine rnd_loop (α := Int) (fun q => (sX 19 [pf 0 (.vs 13 (List.map eGVar a0)), pf 1 (.fn q1_f q1_c), pf 7 (.int .i64 (a0.length : Int)), pf 8 (.int .i64 q)] [] 0)) (fun k q => slices_IndexFunc_api_Var_L1 a0 q1 k q = some lr34) 0 (impz []) hF (fun q h => by cases h) ?_
  clear hF
  rintro k x11 hF ih
  refine rnd_succ ?_
  iterate 3 refine go ?_
  refine aw_seq ?_
  refine cnd hF (fun hb23 hF => ?_) fun hb23 hF => ?_
  ·iterate 2 refine go ?_
   refine aw_seq ?_
   refine aw_block ?_
   iterate 8 refine go ?_
   obtain ⟨y28, h29, hF⟩ := bs hF
   refine rgp (ix (idx_map eGVar h29) slc_29) ?_
   refine rgp (lw (eGVar y28) agg_99) ?_
   obtain ⟨y30, h31, hF⟩ := bs hF
   refine rgp (op_call 0 rfl (caps := q1_c) (args := [.agg (eGVar y28)]) (rs := [.p (.bool y30)]) rfl rfl rfl q1_b (q1_h y28 _ h31) rfl rfl rfl) ?_
   refine go ?_
   refine cnd hF (fun hb32 hF => ?_) fun hb32 hF => ?_
   ·iterate 8 refine go ?_
    refine post_lp_ret ?_
    cases hF
    have hF := elim_stop hK35
    refine go ?_
    cases hF
    exact prt
   iterate 6 refine go ?_
   refine rnr ?_
   exact rnd_back (ih (w_i64 (x11 + 1)) hF) (impz [])
  refine aw_exit ?_
  iterate 2 refine post_then_exit ?_
  cases hF
  exact post_lp_break _ ⟨_, rfl, rfl⟩ (impz [])
 rintro _ ⟨⟨⟩, rfl, rfl⟩
 have hF := elim_next hK35
 clear hK35
 iterate 5 refine go ?_
 cases hF
 exact prt
theorem scope_Place_1_ok {a0 : GVar} {c0 : List UInt8} {r : Bool} (hF : scope_Place_1 a0 c0 = some r) : FZ 138 [.agg (eGVar a0), .vp (eS c0)] [.p (.bool r)] := by
 unfold scope_Place_1 at hF
 refine fn_of_body (n := 8) Tryz.func138 rfl rfl rfl fun w O => ?_
 refine go ?_
 refine rgp (bo 0) ?_
 iterate 6 refine go ?_
 refine rgp (op_str rfl rfl rfl rfl rfl rfl) ?_
 iterate 3 refine go ?_
 cases hF
 exact prt
theorem scope_Place_ok {a0 : GMethod} {a1 : List UInt8} {r : Int} (hF : scope_Place a0 a1 = some r) : FZ 98 [.agg (eGMethod a0), .str a1] [.p (.int .i64 r)] := by
 unfold scope_Place at hF
 refine fn_of_body (n := 27) Tryz.func98 rfl rfl rfl fun w O => ?_
 refine go ?_
 refine rgp (bo 0) ?_
 refine rgp (bo 1) ?_
 iterate 3 refine go ?_
 refine rgp (op_makeFunc rfl rfl rfl rfl) ?_
 iterate 7 refine go ?_
 obtain ⟨y5, h6, hF⟩ := bs hF
 refine rgp (op_callB 2 rfl (caps := []) (args := [.vs 13 (List.map eGVar a0.fParams), .fn 138 [.vp (eS a1)]]) [(1, some (.box 9 [.pv (.str a1)]))] rfl rfl rfl (FzH.spec ⟨rfl, trivial⟩) rfl rfl cal_139 (slices_IndexFunc_api_Var_ok (q1_f := 138) (q1_c := [.vp (eS a1)]) (q1_b := cal_138) (q1_h := fun _ r h => (scope_Place_1_ok h)) h6) rfl rfl rfl) ?_
 iterate 6 refine go ?_
 refine cnd hF (fun hb7 hF => ?_) fun hb7 hF => ?_
 ·iterate 6 refine go ?_
  cases hF
  exact prt
 iterate 6 refine go ?_
 obtain ⟨y12, h13, hF⟩ := bs hF
 refine rgp (op_callB 2 rfl (caps := []) (args := [.vs 13 (List.map eGVar a0.fLocals), .fn 138 [.vp (eS a1)]]) [(1, some (.box 9 [.pv (.str a1)]))] rfl rfl rfl (FzH.spec ⟨rfl, trivial⟩) rfl rfl cal_139 (slices_IndexFunc_api_Var_ok (q1_f := 138) (q1_c := [.vp (eS a1)]) (q1_b := cal_138) (q1_h := fun _ r h => (scope_Place_1_ok h)) h13) rfl rfl rfl) ?_
 iterate 7 refine go ?_
 refine cnd hF (fun hb14 hF => ?_) fun hb14 hF => ?_
 ·iterate 5 refine go ?_
  cases hF
  exact prt
 iterate 11 refine go ?_
 cases hF
 exact prt
theorem slices_Grow_api_Var_ok {a1 : Int} {r : (List GVar)} (hF : slices_Grow_api_Var a1 = some r) : FZ 169 [.nils, .int .i64 a1] [.own 99 13 (List.map eGVar r)] := by
 unfold slices_Grow_api_Var at hF
 refine fn_of_body (n := 27) Tryz.func169 rfl rfl rfl fun w O => ?_
 iterate 2 refine go ?_
 refine reg_imp (imp_nil_own 4 99 13 0 rfl rfl) ?_
 iterate 6 refine go ?_
 refine cnd hF (fun hb1 hF => ?_) fun hb1 hF => ?_
 ·cases hF
 iterate 6 refine go ?_
 refine rgp (op_cap_nils rfl rfl slc_29 rfl rfl) ?_
 refine go ?_
 refine rgp (op_len_nils rfl rfl slc_29 rfl rfl) ?_
 iterate 8 refine go ?_
 refine cnd hF (fun hb2 hF => ?_) fun hb2 hF => ?_
 ·iterate 3 refine go ?_
  refine rgp (op_cap_nils rfl rfl slc_29 rfl rfl) ?_
  refine rgp (op_slice_nils rfl rfl rfl slc_29 rfl rfl) ?_
  refine go ?_
  obtain ⟨u3, h4, hF⟩ := bs hF
  refine rgp (op_append_zeros 1 rfl (k := .i64) (n := w_i64 (a1 - (w_i64 (0 - 0)))) (zs := eGVar zGVar) rfl rfl rfl (zerOk_spec h4).1 (zerOk_spec h4).2 slc_29 und_3 elm_99 rfl zer_99 (by exact ⟨rfl, rfl, rfl, rfl, rfl, rfl, rfl, rfl, rfl, rfl, rfl, rfl, rfl, trivial⟩) rfl rfl (map_rep eGVar _ _) rfl rfl) ?_
  refine go ?_
  refine rgp (op_len_nils rfl rfl slc_29 rfl rfl) ?_
  obtain ⟨y5, h6, hF⟩ := bs hF
  refine rgp (op_slice_own 2 rfl rfl rfl rfl rfl slc_29 (cutL_map eGVar h6) rfl rfl) ?_
  iterate 7 refine go ?_
  cases hF
  exact post_ret rfl rfl (.cons _ _ _ _ _ (.tmp _ _ rfl) (.own _ _ _ _ rfl nolent3) .nil) (.inl rfl)
 iterate 4 refine go ?_
 refine reg_imp (imp_nil_own 26 99 13 1 rfl rfl) ?_
 iterate 3 refine go ?_
 cases hF
 exact post_ret rfl rfl (.cons _ _ _ _ _ (.tmp _ _ rfl) (.own _ _ _ _ rfl nolent3) .nil) (.inl rfl)
theorem slices_Concat_api_Var_ok {a0 : List (List GVar)} {r : (List GVar)} (hF : slices_Concat_api_Var a0 = some r) : FZ 140 [.vs 1 (List.map (eL 13 eGVar) a0)] [.own 99 13 (List.map eGVar r)] := by
 unfold slices_Concat_api_Var at hF
 refine fn_of_body (n := 36) Tryz.func140 rfl rfl rfl fun w O => ?_
 iterate 12 refine go ?_
 obtain ⟨x25, hF, hK26⟩ := bs hF
 refine aw_for ((a0.length - 0 : Int).toNat + 1) (fun s1 => s1 = (sX 36 [pf 0 (.vs 1 (List.map (eL 13 eGVar) a0)), pf 3 (.int .i64 x25)] [] 0)) ?_ ?_
 ·refine rnd_loop (α := Int × Int) (fun q => (sX 36 [pf 0 (.vs 1 (List.map (eL 13 eGVar) a0)), pf 3 (.int .i64 q.1), pf 9 (.vs 1 (List.map (eL 13 eGVar) a0)), pf 10 (.int .i64 (a0.length : Int)), pf 11 (.int .i64 q.2)] [] 0)) (fun k q => slices_Concat_api_Var_L1 a0 k q.1 q.2 = some x25) (0, 0) (impz []) hF (fun q h => by cases h) ?_
  clear hF
  rintro k ⟨x7, x8⟩ hF ih
  refine rnd_succ ?_
  iterate 3 refine go ?_
  refine aw_seq ?_
  refine cnd hF (fun hb17 hF => ?_) fun hb17 hF => ?_
  ·iterate 2 refine go ?_
   refine aw_seq ?_
   refine aw_block ?_
   refine go ?_
   obtain ⟨y20, h21, hF⟩ := bs hF
   refine rgp (ix (idx_map (eL 13 eGVar) h21) slc_223) ?_
   iterate 14 refine go ?_
   refine cnd hF (fun hb22 hF => ?_) fun hb22 hF => ?_
   ·cases hF
   iterate 6 refine go ?_
   refine rnr ?_
   exact rnd_back (ih (w_i64 (x7 + (y20.length : Int)), w_i64 (x8 + 1)) hF) (impz [])
  refine aw_exit ?_
  iterate 2 refine post_then_exit ?_
  cases hF
  exact post_lp_break _ rfl (impz [])
 rintro _ rfl
 have hF := hK26
 iterate 3 refine go ?_
 obtain ⟨y29, h30, hF⟩ := bs hF
 refine rgp (cl 0 [.nils, .int .i64 x25] [.own 99 13 (List.map eGVar y29)] (slices_Grow_api_Var_ok h30)) ?_
 iterate 8 refine go ?_
 obtain ⟨x64, hF, hK65⟩ := bs hF
 refine aw_for ((a0.length - 0 : Int).toNat + 1) (fun s1 => s1 = (sX 36 [(6, some (.ls 0))] [(0, some (.row 99 13 (List.map eGVar x64)))] 1)) ?_ ?_
 ·refine rnd_loop (α := (List GVar) × Int) (fun q => (sX 36 [(6, some (.ls 0)), pf 25 (.vs 1 (List.map (eL 13 eGVar) a0)), pf 26 (.int .i64 (a0.length : Int)), pf 27 (.int .i64 q.2)] [(0, some (.row 99 13 (List.map eGVar q.1)))] 1)) (fun k q => slices_Concat_api_Var_L2 a0 k q.1 q.2 = some x64) (y29, 0) (impz [0]) hF (fun q h => by cases h) ?_
  clear hF
  rintro k ⟨x40, x41⟩ hF ih
  refine rnd_succ ?_
  iterate 3 refine go ?_
  refine aw_seq ?_
  refine cnd hF (fun hb53 hF => ?_) fun hb53 hF => ?_
  ·iterate 2 refine go ?_
   refine aw_seq ?_
   refine aw_block ?_
   refine go ?_
   obtain ⟨y56, h57, hF⟩ := bs hF
   refine rgp (ix (idx_map (eL 13 eGVar) h57) slc_223) ?_
   iterate 6 refine go ?_
   obtain ⟨u60, h61, hF⟩ := bs hF
   refine rgp (op_append 1 rfl rfl rfl rfl rfl slc_29 elm_99 zer_99 rfl rfl rfl (room_map (f := eGVar) (g := eGVar) h61) (List.map_append (f := eGVar) (l₁ := x40) (l₂ := y56)).symm rfl rfl) ?_
   refine go ?_
   refine reg_nil ?_
   refine piz (sX 36 [(6, some (.ls 0)), pf 25 (.vs 1 (List.map (eL 13 eGVar) a0)), pf 26 (.int .i64 (a0.length : Int)), pf 27 (.int .i64 x41)] [(0, some (.row 99 13 (List.map eGVar (x40 ++ y56))))] 1) [1] ?_
   iterate 5 refine go ?_
   refine rnr ?_
   exact rnd_back (ih ((x40 ++ y56), w_i64 (x41 + 1)) hF) (impz [0])
  refine aw_exit ?_
  iterate 2 refine post_then_exit ?_
  cases hF
  exact post_lp_break _ rfl (impz [0])
 rintro _ rfl
 have hF := hK65
 iterate 6 refine go ?_
 cases hF
 exact post_ret rfl rfl (.cons _ _ _ _ _ (.tmp _ _ rfl) (.own _ _ _ _ rfl nolent3) .nil) (.inl rfl)
theorem arena_Vars_ok {a0 : GMethod} {r : (List GVar)} (hF : arena_Vars a0 = some r) : FZ 99 [.agg (eGMethod a0)] [.p (.vs 13 (List.map eGVar r))] := by
 unfold arena_Vars at hF
 refine fn_of_body (n := 9) Tryz.func99 rfl rfl rfl fun w O => ?_
 refine go ?_
 refine rgp (bo 0) ?_
 iterate 7 refine go ?_
 refine rgp (op_lit (rows := List.map (eL 13 eGVar) ([a0.fParams, a0.fLocals] : List (List GVar))) (zs := [.vs 13 (List.map eGVar [])]) rfl rfl slc_223 zer_29 (by exact ⟨trivial, trivial⟩) rfl rfl rfl rfl rfl rfl rfl rfl) ?_
 obtain ⟨y1, h2, hF⟩ := bs hF
 refine rgp (cl 1 [.vs 1 (List.map (eL 13 eGVar) [a0.fParams, a0.fLocals])] [.p (.vs 13 (List.map eGVar y1))] (Fn.frozen (slices_Concat_api_Var_ok h2))) ?_
 iterate 3 refine go ?_
 cases hF
 exact prt
end Go.Proofs.YtiefoagopfeibaaGreat
