/- A part of the proof that the law ShapeMore gives true for every input. -/
import Derived.Test.YtkmaieldmcjbfaaDoorShapeMoreT
import Derived.Test.YtkmaieldmcjbfaaDoorShapeMoreX
import Derived.Test.YtkmaieldmcjbfaaDoorShapeMoreI
import Derived.Test.YtkmaieldmcjbfaaDoorShapeMoreW0
/- Each Go function computes its plain function. -/
namespace Go.Proofs.YtkmaieldmcjbfaaDoor
open Go.RowKit Go.Abs
set_option maxRecDepth 100000
set_option maxHeartbeats 4000000
theorem law19_ShapeMore_ok {a0 : GMethod} {a1 : GExpr} {a2 : GVar} {r : Bool} (hF : law19_ShapeMore a0 a1 a2 = some r) : Abs.Fn globs_Tryd Tryd.prog 6 [.agg (eGMethod a0), .agg (eGExpr a1), .agg (eGVar a2)] [.p (.bool r)] := by
  unfold law19_ShapeMore at hF
  refine fn_of_body (n := 78) Tryd.func6 rfl rfl rfl ?_
  intro w O
  refine aw_seq ?_
  refine aw_region ?_
  refine rgp (op_box 0 rfl rfl rfl rfl rfl rfl) ?_
  refine rgp (op_box 1 rfl rfl rfl rfl rfl rfl) ?_
  refine rgp (op_box 2 rfl rfl rfl rfl rfl rfl) ?_
  refine ras ?_
  refine reg_nil ?_
  refine post_imp (s' := ⟨78, [(3, some (.lp 0 0)), (4, some (.lp 1 0)), (5, some (.lp 2 0))], [(0, some (.box 42 (bxv (eGMethod a0)))), (1, some (.box 45 (bxv (eGExpr a1)))), (2, some (.box 52 (bxv (eGVar a2))))], 3, [], [], 0, []⟩) (imps [0, 1, 2] ⟨by kernel_rfl, by kernel_rfl, by kernel_rfl, trivial⟩ ⟨by kernel_rfl, by kernel_rfl, by kernel_rfl, trivial⟩) ?_
  refine post_next ?_
  iterate 2 (refine aw_seq ?_)
  obtain ⟨x5, hF, hK7⟩ := bind_some hF
  refine aw_cut (fun s1 => s1 = ⟨78, [(3, some (.lp 0 0)), (4, some (.lp 1 0)), (5, some (.lp 2 0)), (26, some (.pv (.bool x5)))], [(0, some (.box 42 (bxv (eGMethod a0)))), (1, some (.box 45 (bxv (eGExpr a1)))), (2, some (.box 52 (bxv (eGVar a2))))], 3, [], [], 0, []⟩) ?_ ?_
  · refine aw_region ?_
    refine rgp (op_field_lp rfl rfl Tryd_fld_42_3 rfl rfl) ?_
    refine rgp (op_load_lp (v := .pv (.vs 13 (List.map eGVar a0.fParams))) rfl rfl rfl rfl Tryd_one_36 rfl rfl) ?_
    refine rgp (op_len_vs (n := a0.fParams.length) rfl rfl (List.length_map ..) Tryd_slc_36 rfl rfl) ?_
    refine rgp (op_int (k := .i64) (m := (a0.fParams.length : Int)) (n := 60) rfl rfl rfl rfl rfl rfl) ?_
    refine rmv ?_
    rcases ite_some hF with ⟨hb1, hF⟩ | ⟨hb1, hF⟩
    · refine rgo_t hb1 ?_
      iterate 3 (refine rgo_t hb1 ?_)
      refine rpt hb1 ?_
      refine rmv ?_
      iterate 3 (refine rgo_t rfl ?_)
      refine rpt rfl ?_
      refine reg_nil ?_
      cases hF
      exact post_cut _ rfl (imps [0, 1, 2] ⟨by kernel_rfl, by kernel_rfl, by kernel_rfl, by kernel_rfl, trivial⟩ ⟨by kernel_rfl, by kernel_rfl, by kernel_rfl, trivial⟩)
    refine rgn hb1 (op_field_lp rfl rfl Tryd_fld_42_4 rfl rfl) ?_
    refine rgn hb1 (op_load_lp (v := .pv (.vs 13 (List.map eGVar a0.fLocals))) rfl rfl rfl rfl Tryd_one_36 rfl rfl) ?_
    refine rgn hb1 (op_len_vs (n := a0.fLocals.length) rfl rfl (List.length_map ..) Tryd_slc_36 rfl rfl) ?_
    refine rgn hb1 (op_int (k := .i64) (m := (a0.fLocals.length : Int)) (n := 60) rfl rfl rfl rfl rfl rfl) ?_
    refine rpf hb1 ?_
    refine rmv ?_
    rcases ite_some hF with ⟨hb2, hF⟩ | ⟨hb2, hF⟩
    · refine rgo_t hb2 ?_
      iterate 2 (refine rgo_t hb2 ?_)
      refine rpt hb2 ?_
      refine reg_nil ?_
      cases hF
      exact post_cut _ rfl (imps [0, 1, 2] ⟨by kernel_rfl, by kernel_rfl, by kernel_rfl, by kernel_rfl, trivial⟩ ⟨by kernel_rfl, by kernel_rfl, by kernel_rfl, trivial⟩)
    refine rgn hb2 (op_load_lp_agg (ps := eGExpr a1) rfl rfl rfl rfl rfl rfl Tryd_agg_45 rfl rfl) ?_
    obtain ⟨y3, h4, hF⟩ := bind_some hF
    refine rgn hb2 (op_call 3 rfl (caps := []) (args := [.agg (eGExpr a1)]) (rs := [.p (.int .i64 y3)]) rfl rfl rfl Tryd_cal_17 (ref06_Size_ok h4) rfl rfl rfl) ?_
    refine rgn hb2 (op_int (k := .i64) (m := y3) (n := 200) rfl rfl rfl rfl rfl rfl) ?_
    refine rpf hb2 ?_
    refine reg_nil ?_
    cases hF
    exact post_cut _ rfl (imps [0, 1, 2] ⟨by kernel_rfl, by kernel_rfl, by kernel_rfl, by kernel_rfl, trivial⟩ ⟨by kernel_rfl, by kernel_rfl, by kernel_rfl, trivial⟩)
  rintro _ rfl
  have hF := hK7
  clear hK7
  refine post_next ?_
  rcases ite_some hF with ⟨hb8, hF⟩ | ⟨hb8, hF⟩
  · refine aw_cond_t rfl hb8 ?_
    refine aw_seq ?_
    refine aw_region ?_
    obtain ⟨y9, h10, hF⟩ := bind_some hF
    refine rgp (op_call 3 rfl (caps := []) (args := []) (rs := [.p (.bool y9)]) rfl rfl rfl Tryd_cal_18 (law19_awake_ok h10) rfl rfl rfl) ?_
    refine ras ?_
    refine reg_nil ?_
    refine post_imp (s' := ⟨78, [(6, some (.pv (.bool y9)))], [], 0, [], [], 0, []⟩) (imps [] ⟨by kernel_rfl, trivial⟩ trivial) ?_
    refine post_next ?_
    refine aw_ret ?_
    refine post_then_ret ?_
    obtain rfl := Option.some.inj hF
    exact prt
  refine aw_cond_f rfl hb8 ?_
  refine aw_skip ?_
  refine post_next ?_
  refine aw_seq ?_
  refine aw_region ?_
  refine rgp (op_build (zs := (eGClass zGClass)) (r := eGClass ({ fName := [65], fParams := [], fSuper := [], fAbove := [], fFields := [], fMethods := [], fAt := 0 } : GClass)) rfl Tryd_zer_39 (by exact ⟨rfl, trivial, rfl, trivial, trivial, trivial, rfl, trivial⟩) Tryd_plc_39 rfl rfl rfl rfl) ?_
  refine rgp (op_alloc 3 rfl (ps := (eGClass zGClass)) rfl Tryd_zer_39 (by exact ⟨rfl, trivial, rfl, trivial, trivial, trivial, rfl, trivial⟩) rfl rfl) ?_
  refine rgp (op_store_lp (n := 7) rfl rfl rfl rfl rfl (or_agg Tryd_agg_39) (by rw [Tryd_non_39]; rfl) rfl rfl rfl) ?_
  refine reg_nil ?_
  refine post_imp (s' := ⟨78, [(3, some (.lp 0 0)), (4, some (.lp 1 0)), (5, some (.lp 2 0)), (7, some (.lp 3 0))], [(0, some (.box 42 (bxv (eGMethod a0)))), (1, some (.box 45 (bxv (eGExpr a1)))), (2, some (.box 52 (bxv (eGVar a2)))), (3, some (.box 39 (bxv (eGClass ({ fName := [65], fParams := [], fSuper := [], fAbove := [], fFields := [], fMethods := [], fAt := 0 } : GClass)))))], 4, [], [], 0, []⟩) (imps [0, 1, 2, 3] ⟨by kernel_rfl, by kernel_rfl, by kernel_rfl, by kernel_rfl, trivial⟩ ⟨by kernel_rfl, by kernel_rfl, by kernel_rfl, by kernel_rfl, trivial⟩) ?_
  refine post_next ?_
  refine aw_seq ?_
  refine aw_region ?_
  refine rgp (op_load_lp_agg (ps := eGClass ({ fName := [65], fParams := [], fSuper := [], fAbove := [], fFields := [], fMethods := [], fAt := 0 } : GClass)) rfl rfl rfl rfl rfl rfl Tryd_agg_39 rfl rfl) ?_
  refine rgp (op_load_lp_agg (ps := eGMethod a0) rfl rfl rfl rfl rfl rfl Tryd_agg_42 rfl rfl) ?_
  refine rgp (op_load_lp_agg (ps := eGExpr a1) rfl rfl rfl rfl rfl rfl Tryd_agg_45 rfl rfl) ?_
  obtain ⟨y13, h14, hF⟩ := bind_some hF
  refine rgp (op_call 4 rfl (caps := []) (args := [.agg (eGClass ({ fName := [65], fParams := [], fSuper := [], fAbove := [], fFields := [], fMethods := [], fAt := 0 } : GClass)), .agg (eGMethod a0), .agg (eGExpr a1)]) (rs := [.p (.agg (eGType y13.1)), .p (.int .i64 y13.2)]) rfl rfl rfl Tryd_cal_19 (shape_Of_ok h14) rfl rfl rfl) ?_
  refine rmv ?_
  iterate 2 (refine rgp (op_extract rfl rfl rfl rfl rfl) ?_)
  refine rgp (op_alloc 4 rfl (ps := (eGType zGType)) rfl Tryd_zer_26 (by exact ⟨rfl, rfl, rfl, rfl, rfl, rfl, rfl, rfl, rfl, rfl, rfl, trivial⟩) rfl rfl) ?_
  refine rgp (op_store_lp (n := 11) rfl rfl rfl rfl rfl (or_agg Tryd_agg_26) (by rw [Tryd_non_26]; rfl) rfl rfl rfl) ?_
  refine ras ?_
  refine reg_nil ?_
  refine post_imp (s' := ⟨78, [(3, some (.lp 0 0)), (4, some (.lp 1 0)), (5, some (.lp 2 0)), (7, some (.lp 3 0)), (8, some (.lp 4 0)), (9, some (.pv (.int .i64 y13.2)))], [(0, some (.box 42 (bxv (eGMethod a0)))), (1, some (.box 45 (bxv (eGExpr a1)))), (2, some (.box 52 (bxv (eGVar a2)))), (3, some (.box 39 (bxv (eGClass ({ fName := [65], fParams := [], fSuper := [], fAbove := [], fFields := [], fMethods := [], fAt := 0 } : GClass))))), (4, some (.box 26 (bxv (eGType y13.1))))], 5, [], [], 0, []⟩) (imps [0, 1, 2, 3, 4] ⟨by kernel_rfl, by kernel_rfl, by kernel_rfl, by kernel_rfl, by kernel_rfl, by kernel_rfl, trivial⟩ ⟨by kernel_rfl, by kernel_rfl, by kernel_rfl, by kernel_rfl, by kernel_rfl, trivial⟩) ?_
  refine post_next ?_
  refine aw_seq ?_
  refine aw_imp (imp_names 3) ?_
  refine dr_start ⟨_, _, _⟩ rfl ?_
  refine dr_cons { names := [5], dst := some 36, val := some (.ls 5), upd := [(5, some (.row 52 13 (List.map eGVar ([] : List GVar))))] } (fun m h => step_on (guard_no rfl) (op_litOwn 5 (fresh_free h.2.2.1) (rows := List.map eGVar ([] : List GVar)) (zs := (eGVar zGVar)) rfl rfl Tryd_slc_36 Tryd_zer_52 (by exact ⟨rfl, rfl, rfl, rfl, rfl, rfl, rfl, rfl, rfl, rfl, rfl, rfl, rfl, trivial⟩) rfl rfl rfl evs_nil rfl rfl rfl rfl) rfl) ⟨trivial, trivial, ⟨rfl, trivial⟩⟩ ?_
  refine dr_cons { need := [(3, .lp 0 0)], dst := some 37, val := some (.lp 0 14) } (fun m h => step_on (guard_no rfl) (op_field_lp rfl h.1.1 Tryd_fld_42_4 rfl rfl) rfl) ⟨⟨rfl, trivial⟩, trivial, trivial⟩ ?_
  refine dr_cons { need := [(37, .lp 0 14)], hneed := [(0, .box 42 (bxv (eGMethod a0)))], dst := some 38, val := some (.pv (.vs 13 (List.map eGVar a0.fLocals))) } (fun m h => step_on (guard_no rfl) (op_load_lp (v := .pv (.vs 13 (List.map eGVar a0.fLocals))) rfl h.1.1 h.2.1.1 rfl Tryd_one_36 rfl rfl) rfl) ⟨⟨rfl, trivial⟩, ⟨rfl, trivial⟩, trivial⟩ ?_
  obtain ⟨u19, h20, hF⟩ := bind_some hF
  refine dr_cons { need := [(36, .ls 5), (38, .pv (.vs 13 (List.map eGVar a0.fLocals)))], hneed := [(5, .row 52 13 (List.map eGVar ([] : List GVar)))], names := [6], dst := some 39, val := some (.ls 6), upd := [(6, some (.row 52 13 (List.map eGVar (([] : List GVar) ++ a0.fLocals)))), (5, none)] } (fun m h => step_on (guard_no rfl) (op_append 6 (fresh_free h.2.2.1) rfl h.1.1 h.2.1.1 h.1.2.1 Tryd_slc_36 Tryd_elm_52 Tryd_zer_52 rfl rfl rfl (room_map (f := eGVar) (g := eGVar) h20) (List.map_append (f := eGVar) (l₁ := ([] : List GVar)) (l₂ := a0.fLocals)).symm rfl rfl) rfl) ⟨⟨rfl, rfl, trivial⟩, ⟨rfl, trivial⟩, ⟨rfl, trivial⟩⟩ ?_
  refine dr_cons { need := [(5, .lp 2 0)], hneed := [(2, .box 52 (bxv (eGVar a2)))], dst := some 40, val := some (.pv (.agg (eGVar a2))) } (fun m h => step_on (guard_no rfl) (op_load_lp_agg (ps := eGVar a2) rfl h.1.1 h.2.1.1 rfl rfl rfl Tryd_agg_52 rfl rfl) rfl) ⟨⟨rfl, trivial⟩, ⟨rfl, trivial⟩, trivial⟩ ?_
  refine dr_cons { need := [(40, .pv (.agg (eGVar a2)))], dst := some 41, val := some (.pv (.vs 13 (List.map eGVar [a2]))) } (fun m h => step_on (guard_no rfl) (op_lit (rows := List.map eGVar ([a2] : List GVar)) (zs := (eGVar zGVar)) rfl rfl Tryd_slc_36 Tryd_zer_52 (by exact ⟨rfl, rfl, rfl, rfl, rfl, rfl, rfl, rfl, rfl, rfl, rfl, rfl, rfl, trivial⟩) rfl rfl rfl (evs_cons h.1.1 evs_nil) rfl rfl rfl rfl) rfl) ⟨⟨rfl, trivial⟩, trivial, trivial⟩ ?_
  obtain ⟨u21, h22, hF⟩ := bind_some hF
  refine dr_cons { need := [(39, .ls 6), (41, .pv (.vs 13 (List.map eGVar [a2])))], hneed := [(6, .row 52 13 (List.map eGVar (([] : List GVar) ++ a0.fLocals)))], names := [7], dst := some 42, val := some (.ls 7), upd := [(7, some (.row 52 13 (List.map eGVar ((([] : List GVar) ++ a0.fLocals) ++ [a2])))), (6, none)] } (fun m h => step_on (guard_no rfl) (op_append 7 (fresh_free h.2.2.1) rfl h.1.1 h.2.1.1 h.1.2.1 Tryd_slc_36 Tryd_elm_52 Tryd_zer_52 rfl rfl rfl (room_map (f := eGVar) (g := eGVar) h22) (List.map_append (f := eGVar) (l₁ := (([] : List GVar) ++ a0.fLocals)) (l₂ := [a2])).symm rfl rfl) rfl) ⟨⟨rfl, rfl, trivial⟩, ⟨rfl, trivial⟩, ⟨rfl, trivial⟩⟩ ?_
  refine dr_cons { need := [(3, .lp 0 0)], dst := some 43, val := some (.lp 0 14) } (fun m h => step_on (guard_no rfl) (op_field_lp rfl h.1.1 Tryd_fld_42_4 rfl rfl) rfl) ⟨⟨rfl, trivial⟩, trivial, trivial⟩ ?_
  refine dr_cons { need := [(43, .lp 0 14), (42, .ls 7)], hneed := [(0, .box 42 (bxv (eGMethod a0)))], upd := [(0, some (.box 42 [.pv (.str a0.fName), .pv (.bool a0.fPure), .pv (.int .i64 a0.fRet.fKind), .pv (.str a0.fRet.fClass), .pv (.int .i64 a0.fRet.fN), .pv (.int .i64 a0.fRet.fOwn.a0.fKind), .pv (.int .i64 a0.fRet.fOwn.a0.fN), .pv (.int .i64 a0.fRet.fOwn.a1.fKind), .pv (.int .i64 a0.fRet.fOwn.a1.fN), .pv (.int .i64 a0.fRet.fOwn.a2.fKind), .pv (.int .i64 a0.fRet.fOwn.a2.fN), .pv (.int .i64 a0.fRet.fOwn.a3.fKind), .pv (.int .i64 a0.fRet.fOwn.a3.fN), .pv (.vs 13 (List.map eGVar a0.fParams)), .ls 7, .pv (.vs 23 (eLGStmt a0.fBody)), .pv (.int .i64 a0.fAt)]))] } (fun m h => step_on (guard_no rfl) (op_store_lp (n := 1) rfl h.1.1 h.1.2.1 rfl h.2.1.1 (or_one Tryd_one_36) (by rw [Tryd_one_36]; rfl) rfl rfl rfl) rfl) ⟨⟨rfl, rfl, trivial⟩, ⟨rfl, trivial⟩, trivial⟩ ?_
  refine dr_nil Tryd_mixed rfl (by kernel_rfl) ?_
  refine post_imp (s' := ⟨78, [(3, some (.lp 0 0)), (4, some (.lp 2 0)), (7, some (.lp 3 0)), (8, some (.lp 4 0)), (9, some (.pv (.int .i64 y13.2)))], [(0, some (.box 42 [.pv (.str a0.fName), .pv (.bool a0.fPure), .pv (.int .i64 a0.fRet.fKind), .pv (.str a0.fRet.fClass), .pv (.int .i64 a0.fRet.fN), .pv (.int .i64 a0.fRet.fOwn.a0.fKind), .pv (.int .i64 a0.fRet.fOwn.a0.fN), .pv (.int .i64 a0.fRet.fOwn.a1.fKind), .pv (.int .i64 a0.fRet.fOwn.a1.fN), .pv (.int .i64 a0.fRet.fOwn.a2.fKind), .pv (.int .i64 a0.fRet.fOwn.a2.fN), .pv (.int .i64 a0.fRet.fOwn.a3.fKind), .pv (.int .i64 a0.fRet.fOwn.a3.fN), .pv (.vs 13 (List.map eGVar a0.fParams)), .ls 1, .pv (.vs 23 (eLGStmt a0.fBody)), .pv (.int .i64 a0.fAt)])), (1, some (.row 52 13 (List.map eGVar ((([] : List GVar) ++ a0.fLocals) ++ [a2])))), (2, some (.box 45 (bxv (eGExpr a1)))), (3, some (.box 39 (bxv (eGClass ({ fName := [65], fParams := [], fSuper := [], fAbove := [], fFields := [], fMethods := [], fAt := 0 } : GClass))))), (4, some (.box 26 (bxv (eGType y13.1))))], 5, [], [], 0, []⟩) (imps [0, 7, 1, 3, 4] ⟨by kernel_rfl, by kernel_rfl, by kernel_rfl, by kernel_rfl, by kernel_rfl, trivial⟩ ⟨by kernel_rfl, by kernel_rfl, by kernel_rfl, by kernel_rfl, by kernel_rfl, trivial⟩) ?_
  refine post_next ?_
  refine aw_seq ?_
  refine aw_region ?_
  refine rgp (op_load_lp_agg (ps := eGClass ({ fName := [65], fParams := [], fSuper := [], fAbove := [], fFields := [], fMethods := [], fAt := 0 } : GClass)) rfl rfl rfl rfl rfl rfl Tryd_agg_39 rfl rfl) ?_
  refine reg_imp (imp_freeze_in [(1, some (.row 52 13 (List.map eGVar ((([] : List GVar) ++ a0.fLocals) ++ [a2]))))] [] 0 14 1 (FzH.spec ⟨rfl, trivial⟩) trivial rfl rfl rfl) ?_
  refine rgp (op_load_lp_agg (ps := eGMethod ({ fName := a0.fName, fPure := a0.fPure, fRet := ({ fKind := a0.fRet.fKind, fClass := a0.fRet.fClass, fN := a0.fRet.fN, fOwn := (⟨({ fKind := a0.fRet.fOwn.a0.fKind, fN := a0.fRet.fOwn.a0.fN } : GOwner), ({ fKind := a0.fRet.fOwn.a1.fKind, fN := a0.fRet.fOwn.a1.fN } : GOwner), ({ fKind := a0.fRet.fOwn.a2.fKind, fN := a0.fRet.fOwn.a2.fN } : GOwner), ({ fKind := a0.fRet.fOwn.a3.fKind, fN := a0.fRet.fOwn.a3.fN } : GOwner)⟩ : A4 GOwner) } : GType), fParams := a0.fParams, fLocals := ((([] : List GVar) ++ a0.fLocals) ++ [a2]), fBody := a0.fBody, fAt := a0.fAt } : GMethod)) rfl rfl rfl rfl rfl rfl Tryd_agg_42 rfl rfl) ?_
  refine rgp (op_load_lp_agg (ps := eGExpr a1) rfl rfl rfl rfl rfl rfl Tryd_agg_45 rfl rfl) ?_
  obtain ⟨y25, h26, hF⟩ := bind_some hF
  refine rgp (op_call 5 rfl (caps := []) (args := [.agg (eGClass ({ fName := [65], fParams := [], fSuper := [], fAbove := [], fFields := [], fMethods := [], fAt := 0 } : GClass)), .agg (eGMethod ({ fName := a0.fName, fPure := a0.fPure, fRet := ({ fKind := a0.fRet.fKind, fClass := a0.fRet.fClass, fN := a0.fRet.fN, fOwn := (⟨({ fKind := a0.fRet.fOwn.a0.fKind, fN := a0.fRet.fOwn.a0.fN } : GOwner), ({ fKind := a0.fRet.fOwn.a1.fKind, fN := a0.fRet.fOwn.a1.fN } : GOwner), ({ fKind := a0.fRet.fOwn.a2.fKind, fN := a0.fRet.fOwn.a2.fN } : GOwner), ({ fKind := a0.fRet.fOwn.a3.fKind, fN := a0.fRet.fOwn.a3.fN } : GOwner)⟩ : A4 GOwner) } : GType), fParams := a0.fParams, fLocals := ((([] : List GVar) ++ a0.fLocals) ++ [a2]), fBody := a0.fBody, fAt := a0.fAt } : GMethod)), .agg (eGExpr a1)]) (rs := [.p (.agg (eGType y25.1)), .p (.int .i64 y25.2)]) rfl rfl rfl Tryd_cal_19 (shape_Of_ok h26) rfl rfl rfl) ?_
  refine rmv ?_
  iterate 2 (refine rgp (op_extract rfl rfl rfl rfl rfl) ?_)
  refine rgp (op_alloc 5 rfl (ps := (eGType zGType)) rfl Tryd_zer_26 (by exact ⟨rfl, rfl, rfl, rfl, rfl, rfl, rfl, rfl, rfl, rfl, rfl, trivial⟩) rfl rfl) ?_
  refine rgp (op_store_lp (n := 11) rfl rfl rfl rfl rfl (or_agg Tryd_agg_26) (by rw [Tryd_non_26]; rfl) rfl rfl rfl) ?_
  refine ras ?_
  refine reg_nil ?_
  refine post_imp (s' := ⟨78, [(8, some (.lp 0 0)), (9, some (.pv (.int .i64 y13.2))), (10, some (.lp 1 0)), (11, some (.pv (.int .i64 y25.2)))], [(0, some (.box 26 (bxv (eGType y13.1)))), (1, some (.box 26 (bxv (eGType y25.1))))], 2, [], [], 0, []⟩) (imps [4, 5] ⟨by kernel_rfl, by kernel_rfl, by kernel_rfl, by kernel_rfl, trivial⟩ ⟨by kernel_rfl, by kernel_rfl, trivial⟩) ?_
  refine post_next ?_
  iterate 2 (refine aw_seq ?_)
  refine aw_region ?_
  refine rmv ?_
  refine rgp (op_int (k := .i64) (m := y13.2) (n := 0) rfl rfl rfl rfl rfl rfl) ?_
  refine reg_nil ?_
  refine post_imp (s' := ⟨78, [(8, some (.lp 0 0)), (9, some (.pv (.int .i64 y13.2))), (10, some (.lp 1 0)), (11, some (.pv (.int .i64 y25.2))), (52, some (.pv (.bool (y13.2 != 0))))], [(0, some (.box 26 (bxv (eGType y13.1)))), (1, some (.box 26 (bxv (eGType y25.1))))], 2, [], [], 0, []⟩) (imps [0, 1] ⟨by kernel_rfl, by kernel_rfl, by kernel_rfl, by kernel_rfl, by kernel_rfl, trivial⟩ ⟨by kernel_rfl, by kernel_rfl, trivial⟩) ?_
  refine post_next ?_
  rcases ite_some hF with ⟨hb27, hF⟩ | ⟨hb27, hF⟩
  · refine aw_cond_t rfl hb27 ?_
    refine aw_seq ?_
    refine aw_region ?_
    refine rgp (op_load_lp_agg (ps := eGType y13.1) rfl rfl rfl rfl rfl rfl Tryd_agg_26 rfl rfl) ?_
    refine rgp (op_build (zs := (eGType zGType)) (r := eGType ({ fKind := 0, fClass := [], fN := 0, fOwn := (⟨zGOwner, zGOwner, zGOwner, zGOwner⟩ : A4 GOwner) } : GType)) rfl Tryd_zer_26 (by exact ⟨rfl, rfl, rfl, rfl, rfl, rfl, rfl, rfl, rfl, rfl, rfl, trivial⟩) Tryd_plc_26 rfl rfl rfl rfl) ?_
    refine rgp (op_eqAgg_eql (r := bGType y13.1 ({ fKind := 0, fClass := [], fN := 0, fOwn := (⟨zGOwner, zGOwner, zGOwner, zGOwner⟩ : A4 GOwner) } : GType)) rfl rfl rfl Tryd_eqt_26 rfl rfl rfl rfl rfl) ?_
    refine rmv ?_
    rcases ite_some hF with ⟨hb28, hF⟩ | ⟨hb28, hF⟩
    · refine rgn hb28 (op_move rfl rfl rfl rfl) ?_
      refine rgn hb28 (op_int (k := .i64) (m := y13.2) (n := 13) rfl rfl rfl rfl rfl rfl) ?_
      refine rgn hb28 (op_move rfl rfl rfl rfl) ?_
      rcases ite_some hF with ⟨hb29, hF⟩ | ⟨hb29, hF⟩
      · refine rgo_t hb29 ?_
        iterate 2 (refine rgo_t hb29 ?_)
        refine rgn hb28 (op_pick_t rfl rfl hb29 rfl rfl rfl) ?_
        refine rpt hb28 ?_
        refine rmv ?_
        obtain ⟨y30, h31, hF⟩ := bind_some hF
        refine rgn rfl (op_call 2 rfl (caps := []) (args := []) (rs := [.p (.bool y30)]) rfl rfl rfl Tryd_cal_18 (law19_awake_ok h31) rfl rfl rfl) ?_
        refine rpt rfl ?_
        refine ras ?_
        refine reg_nil ?_
        refine post_imp (s' := ⟨78, [(6, some (.pv (.bool y30)))], [], 0, [], [], 0, []⟩) (imps [] ⟨by kernel_rfl, trivial⟩ trivial) ?_
        refine post_next ?_
        refine aw_ret ?_
        refine post_then_ret ?_
        obtain rfl := Option.some.inj hF
        exact prt
      iterate 2 (refine rgn hb29 (op_move rfl rfl rfl rfl) ?_)
      refine rgn hb29 (op_int (k := .i64) (m := y25.2) (n := y13.2) rfl rfl rfl rfl rfl rfl) ?_
      refine rgn hb28 (op_pick_f rfl rfl hb29 rfl rfl rfl) ?_
      refine rpt hb28 ?_
      refine rmv ?_
      rcases ite_some hF with ⟨hb32, hF⟩ | ⟨hb32, hF⟩
      · obtain ⟨y33, h34, hF⟩ := bind_some hF
        refine rgn hb32 (op_call 2 rfl (caps := []) (args := []) (rs := [.p (.bool y33)]) rfl rfl rfl Tryd_cal_18 (law19_awake_ok h34) rfl rfl rfl) ?_
        refine rpt hb32 ?_
        refine ras ?_
        refine reg_nil ?_
        refine post_imp (s' := ⟨78, [(6, some (.pv (.bool y33)))], [], 0, [], [], 0, []⟩) (imps [] ⟨by kernel_rfl, trivial⟩ trivial) ?_
        refine post_next ?_
        refine aw_ret ?_
        refine post_then_ret ?_
        obtain rfl := Option.some.inj hF
        exact prt
      refine rgo_f hb32 ?_
      refine rpf hb32 ?_
      refine ras ?_
      refine reg_nil ?_
      refine post_imp (s' := ⟨78, [(6, some (.pv (.bool false)))], [], 0, [], [], 0, []⟩) (imps [] ⟨by kernel_rfl, trivial⟩ trivial) ?_
      refine post_next ?_
      refine aw_ret ?_
      refine post_then_ret ?_
      obtain rfl := Option.some.inj hF
      exact prt
    iterate 3 (refine rgo_f hb28 ?_)
    iterate 3 (refine rgu ?_)
    refine rgo_f hb28 ?_
    refine rpf hb28 ?_
    refine rmv ?_
    refine rgo_f rfl ?_
    refine rpf rfl ?_
    refine ras ?_
    refine reg_nil ?_
    refine post_imp (s' := ⟨78, [(6, some (.pv (.bool false)))], [], 0, [], [], 0, []⟩) (imps [] ⟨by kernel_rfl, trivial⟩ trivial) ?_
    refine post_next ?_
    refine aw_ret ?_
    refine post_then_ret ?_
    obtain rfl := Option.some.inj hF
    exact prt
  refine aw_cond_f rfl hb27 ?_
  refine aw_skip ?_
  refine post_next ?_
  refine aw_seq ?_
  refine aw_region ?_
  refine rgp (op_load_lp_agg (ps := eGType y13.1) rfl rfl rfl rfl rfl rfl Tryd_agg_26 rfl rfl) ?_
  refine rgp (op_load_lp_agg (ps := eGType y25.1) rfl rfl rfl rfl rfl rfl Tryd_agg_26 rfl rfl) ?_
  refine rgp (op_eqAgg_eql (r := bGType y13.1 y25.1) rfl rfl rfl Tryd_eqt_26 rfl rfl rfl rfl rfl) ?_
  refine rmv ?_
  rcases ite_some hF with ⟨hb35, hF⟩ | ⟨hb35, hF⟩
  · refine rgn hb35 (op_move rfl rfl rfl rfl) ?_
    refine rgn hb35 (op_int (k := .i64) (m := y25.2) (n := 0) rfl rfl rfl rfl rfl rfl) ?_
    refine rpt hb35 ?_
    refine rmv ?_
    rcases ite_some hF with ⟨hb36, hF⟩ | ⟨hb36, hF⟩
    · obtain ⟨y37, h38, hF⟩ := bind_some hF
      refine rgn hb36 (op_call 2 rfl (caps := []) (args := []) (rs := [.p (.bool y37)]) rfl rfl rfl Tryd_cal_18 (law19_awake_ok h38) rfl rfl rfl) ?_
      refine rpt hb36 ?_
      refine ras ?_
      refine reg_nil ?_
      refine post_imp (s' := ⟨78, [(6, some (.pv (.bool y37)))], [], 0, [], [], 0, []⟩) (imps [] ⟨by kernel_rfl, trivial⟩ trivial) ?_
      refine post_next ?_
      refine aw_ret ?_
      obtain rfl := Option.some.inj hF
      exact prt
    refine rgo_f hb36 ?_
    refine rpf hb36 ?_
    refine ras ?_
    refine reg_nil ?_
    refine post_imp (s' := ⟨78, [(6, some (.pv (.bool false)))], [], 0, [], [], 0, []⟩) (imps [] ⟨by kernel_rfl, trivial⟩ trivial) ?_
    refine post_next ?_
    refine aw_ret ?_
    obtain rfl := Option.some.inj hF
    exact prt
  iterate 2 (refine rgo_f hb35 ?_)
  refine rpf hb35 ?_
  refine rmv ?_
  refine rgo_f rfl ?_
  refine rpf rfl ?_
  refine ras ?_
  refine reg_nil ?_
  refine post_imp (s' := ⟨78, [(6, some (.pv (.bool false)))], [], 0, [], [], 0, []⟩) (imps [] ⟨by kernel_rfl, trivial⟩ trivial) ?_
  refine post_next ?_
  refine aw_ret ?_
  obtain rfl := Option.some.inj hF
  exact prt
theorem ref06_kids_ok {a0 : Int} {r : Int} (hF : ref06_kids a0 = some r) : Abs.Fn globs_Tryd Tryd.prog 92 [.int .i64 a0] [.p (.int .i64 r)] := by
  unfold ref06_kids at hF
  refine fn_of_body (n := 19) Tryd.func92 rfl rfl rfl ?_
  intro w O
  refine aw_seq ?_
  refine aw_region ?_
  refine ras ?_
  refine reg_nil ?_
  refine post_imp (s' := ⟨19, [(0, some (.pv (.int .i64 a0)))], [], 0, [], [], 0, []⟩) (imps [] ⟨by kernel_rfl, trivial⟩ trivial) ?_
  refine post_next ?_
  iterate 2 (refine aw_seq ?_)
  obtain ⟨x3, hF, hK5⟩ := bind_some hF
  refine aw_cut (fun s1 => s1 = ⟨19, [(0, some (.pv (.int .i64 a0))), (12, some (.pv (.bool x3)))], [], 0, [], [], 0, []⟩) ?_ ?_
  · refine aw_region ?_
    refine rmv ?_
    refine rgp (op_int (k := .i64) (m := a0) (n := 6) rfl rfl rfl rfl rfl rfl) ?_
    refine rmv ?_
    rcases ite_some hF with ⟨hb1, hF⟩ | ⟨hb1, hF⟩
    · refine rgn hb1 (op_move rfl rfl rfl rfl) ?_
      refine rgn hb1 (op_int (k := .i64) (m := a0) (n := 11) rfl rfl rfl rfl rfl rfl) ?_
      refine rpt hb1 ?_
      refine rmv ?_
      rcases ite_some hF with ⟨hb2, hF⟩ | ⟨hb2, hF⟩
      · refine rgo_t hb2 ?_
        refine rgo_t hb2 ?_
        refine rpt hb2 ?_
        refine reg_nil ?_
        cases hF
        exact post_cut _ rfl (imps [] ⟨by kernel_rfl, by kernel_rfl, trivial⟩ trivial)
      refine rgn hb2 (op_move rfl rfl rfl rfl) ?_
      refine rgn hb2 (op_int (k := .i64) (m := a0) (n := 14) rfl rfl rfl rfl rfl rfl) ?_
      refine rpf hb2 ?_
      refine reg_nil ?_
      cases hF
      exact post_cut _ rfl (imps [] ⟨by kernel_rfl, by kernel_rfl, trivial⟩ trivial)
    iterate 2 (refine rgo_f hb1 ?_)
    refine rpf hb1 ?_
    refine rmv ?_
    refine rgn rfl (op_move rfl rfl rfl rfl) ?_
    refine rgn rfl (op_int (k := .i64) (m := a0) (n := 14) rfl rfl rfl rfl rfl rfl) ?_
    refine rpf rfl ?_
    refine reg_nil ?_
    cases hF
    exact post_cut _ rfl (imps [] ⟨by kernel_rfl, by kernel_rfl, trivial⟩ trivial)
  rintro _ rfl
  have hF := hK5
  clear hK5
  refine post_next ?_
  rcases ite_some hF with ⟨hb6, hF⟩ | ⟨hb6, hF⟩
  · refine aw_cond_t rfl hb6 ?_
    refine aw_seq ?_
    refine aw_region ?_
    refine ras ?_
    refine reg_nil ?_
    refine post_imp (s' := ⟨19, [(2, some (.pv (.int .i64 2)))], [], 0, [], [], 0, []⟩) (imps [] ⟨by kernel_rfl, trivial⟩ trivial) ?_
    refine post_next ?_
    refine aw_ret ?_
    refine post_then_ret ?_
    obtain rfl := Option.some.inj hF
    exact prt
  refine aw_cond_f rfl hb6 ?_
  refine aw_skip ?_
  refine post_next ?_
  iterate 2 (refine aw_seq ?_)
  obtain ⟨x8, hF, hK10⟩ := bind_some hF
  refine aw_cut (fun s1 => s1 = ⟨19, [(18, some (.pv (.bool x8)))], [], 0, [], [], 0, []⟩) ?_ ?_
  · refine aw_region ?_
    refine rmv ?_
    refine rgp (op_int (k := .i64) (m := a0) (n := 12) rfl rfl rfl rfl rfl rfl) ?_
    refine rmv ?_
    rcases ite_some hF with ⟨hb7, hF⟩ | ⟨hb7, hF⟩
    · refine rgo_t hb7 ?_
      refine rgo_t hb7 ?_
      refine rpt hb7 ?_
      refine reg_nil ?_
      cases hF
      exact post_cut _ rfl (imps [] ⟨by kernel_rfl, trivial⟩ trivial)
    refine rgn hb7 (op_move rfl rfl rfl rfl) ?_
    refine rgn hb7 (op_int (k := .i64) (m := a0) (n := 13) rfl rfl rfl rfl rfl rfl) ?_
    refine rpf hb7 ?_
    refine reg_nil ?_
    cases hF
    exact post_cut _ rfl (imps [] ⟨by kernel_rfl, trivial⟩ trivial)
  rintro _ rfl
  have hF := hK10
  clear hK10
  refine post_next ?_
  rcases ite_some hF with ⟨hb11, hF⟩ | ⟨hb11, hF⟩
  · refine aw_cond_t rfl hb11 ?_
    refine aw_seq ?_
    refine aw_region ?_
    refine ras ?_
    refine reg_nil ?_
    refine post_imp (s' := ⟨19, [(2, some (.pv (.int .i64 1)))], [], 0, [], [], 0, []⟩) (imps [] ⟨by kernel_rfl, trivial⟩ trivial) ?_
    refine post_next ?_
    refine aw_ret ?_
    refine post_then_ret ?_
    obtain rfl := Option.some.inj hF
    exact prt
  refine aw_cond_f rfl hb11 ?_
  refine aw_skip ?_
  refine post_next ?_
  refine aw_seq ?_
  refine aw_region ?_
  refine ras ?_
  refine reg_nil ?_
  refine post_imp (s' := ⟨19, [(2, some (.pv (.int .i64 0)))], [], 0, [], [], 0, []⟩) (imps [] ⟨by kernel_rfl, trivial⟩ trivial) ?_
  refine post_next ?_
  refine aw_ret ?_
  obtain rfl := Option.some.inj hF
  exact prt
theorem ref02_Letter_ok {a0 : Int} {r : Bool} (hF : ref02_Letter a0 = some r) : Abs.Fn globs_Tryd Tryd.prog 39 [.int .u8 a0] [.p (.bool r)] := by
  unfold ref02_Letter at hF
  refine fn_of_body (n := 17) Tryd.func39 rfl rfl rfl ?_
  intro w O
  refine aw_seq ?_
  refine aw_region ?_
  refine ras ?_
  refine reg_nil ?_
  refine post_imp (s' := ⟨17, [(0, some (.pv (.int .u8 a0)))], [], 0, [], [], 0, []⟩) (imps [] ⟨by kernel_rfl, trivial⟩ trivial) ?_
  refine post_next ?_
  refine aw_seq ?_
  refine aw_region ?_
  refine rmv ?_
  refine rgp (op_int (k := .u8) (m := a0) (n := 97) rfl rfl rfl rfl rfl rfl) ?_
  refine rmv ?_
  rcases ite_some hF with ⟨hb1, hF⟩ | ⟨hb1, hF⟩
  · refine rgn hb1 (op_move rfl rfl rfl rfl) ?_
    refine rgn hb1 (op_int (k := .u8) (m := a0) (n := 122) rfl rfl rfl rfl rfl rfl) ?_
    refine rpt hb1 ?_
    refine rmv ?_
    rcases ite_some hF with ⟨hb2, hF⟩ | ⟨hb2, hF⟩
    · refine rgo_t hb2 ?_
      iterate 2 (refine rgo_t hb2 ?_)
      iterate 2 (refine rgu ?_)
      refine rgo_t hb2 ?_
      refine rpt hb2 ?_
      refine ras ?_
      refine reg_nil ?_
      refine post_imp (s' := ⟨17, [(2, some (.pv (.bool true)))], [], 0, [], [], 0, []⟩) (imps [] ⟨by kernel_rfl, trivial⟩ trivial) ?_
      refine post_next ?_
      refine aw_ret ?_
      obtain rfl := Option.some.inj hF
      exact prt
    refine rgn hb2 (op_move rfl rfl rfl rfl) ?_
    refine rgn hb2 (op_int (k := .u8) (m := a0) (n := 65) rfl rfl rfl rfl rfl rfl) ?_
    refine rgn hb2 (op_move rfl rfl rfl rfl) ?_
    rcases ite_some hF with ⟨hb3, hF⟩ | ⟨hb3, hF⟩
    · refine rgn hb3 (op_move rfl rfl rfl rfl) ?_
      refine rgn hb3 (op_int (k := .u8) (m := a0) (n := 90) rfl rfl rfl rfl rfl rfl) ?_
      refine rgn hb2 (op_pick_t rfl rfl hb3 rfl rfl rfl) ?_
      refine rpf hb2 ?_
      refine ras ?_
      refine reg_nil ?_
      refine post_imp (s' := ⟨17, [(2, some (.pv (.bool (decide (a0 ≤ 90)))))], [], 0, [], [], 0, []⟩) (imps [] ⟨by kernel_rfl, trivial⟩ trivial) ?_
      refine post_next ?_
      refine aw_ret ?_
      obtain rfl := Option.some.inj hF
      exact prt
    iterate 2 (refine rgo_f hb3 ?_)
    refine rgn hb2 (op_pick_f rfl rfl hb3 rfl rfl rfl) ?_
    refine rpf hb2 ?_
    refine ras ?_
    refine reg_nil ?_
    refine post_imp (s' := ⟨17, [(2, some (.pv (.bool false)))], [], 0, [], [], 0, []⟩) (imps [] ⟨by kernel_rfl, trivial⟩ trivial) ?_
    refine post_next ?_
    refine aw_ret ?_
    obtain rfl := Option.some.inj hF
    exact prt
  iterate 2 (refine rgo_f hb1 ?_)
  refine rpf hb1 ?_
  refine rmv ?_
  refine rgn rfl (op_move rfl rfl rfl rfl) ?_
  refine rgn rfl (op_int (k := .u8) (m := a0) (n := 65) rfl rfl rfl rfl rfl rfl) ?_
  refine rgn rfl (op_move rfl rfl rfl rfl) ?_
  rcases ite_some hF with ⟨hb4, hF⟩ | ⟨hb4, hF⟩
  · refine rgn hb4 (op_move rfl rfl rfl rfl) ?_
    refine rgn hb4 (op_int (k := .u8) (m := a0) (n := 90) rfl rfl rfl rfl rfl rfl) ?_
    refine rgn rfl (op_pick_t rfl rfl hb4 rfl rfl rfl) ?_
    refine rpf rfl ?_
    refine ras ?_
    refine reg_nil ?_
    refine post_imp (s' := ⟨17, [(2, some (.pv (.bool (decide (a0 ≤ 90)))))], [], 0, [], [], 0, []⟩) (imps [] ⟨by kernel_rfl, trivial⟩ trivial) ?_
    refine post_next ?_
    refine aw_ret ?_
    obtain rfl := Option.some.inj hF
    exact prt
  iterate 2 (refine rgo_f hb4 ?_)
  refine rgn rfl (op_pick_f rfl rfl hb4 rfl rfl rfl) ?_
  refine rpf rfl ?_
  refine ras ?_
  refine reg_nil ?_
  refine post_imp (s' := ⟨17, [(2, some (.pv (.bool false)))], [], 0, [], [], 0, []⟩) (imps [] ⟨by kernel_rfl, trivial⟩ trivial) ?_
  refine post_next ?_
  refine aw_ret ?_
  obtain rfl := Option.some.inj hF
  exact prt
theorem ref02_Words_ok  {r : (List (List UInt8))} (hF : ref02_Words = some r) : Abs.Fn globs_Tryd Tryd.prog 61 [] [.p (.vs 1 (List.map eS r))] := by
  unfold ref02_Words at hF
  refine fn_of_body (n := 2) Tryd.func61 rfl rfl rfl ?_
  intro w O
  refine aw_seq ?_
  refine aw_region ?_
  refine ras ?_
  refine reg_nil ?_
  refine post_imp (s' := ⟨2, [], [], 0, [], [], 0, []⟩) (imps [] trivial trivial) ?_
  refine post_next ?_
  refine aw_seq ?_
  refine aw_region ?_
  refine rgp (op_lit (rows := List.map eS ([[99, 108, 97, 115, 115], [101, 120, 116, 101, 110, 100, 115], [114, 101, 112], [112, 101, 101, 114], [119, 111, 114, 108, 100], [97, 110, 121], [117, 110, 105, 113, 117, 101], [112, 117, 114, 101], [118, 111, 105, 100], [105, 110, 116], [105, 102], [101, 108, 115, 101], [119, 104, 105, 108, 101], [114, 101, 116, 117, 114, 110], [110, 101, 119], [109, 111, 118, 101], [100, 101, 108, 101, 116, 101], [116, 104, 105, 115], [110, 117, 108, 108], [105, 110, 112, 117, 116], [110, 105, 108], [115, 97, 109, 101], [99, 97, 115, 116]] : List (List UInt8))) (zs := [.str []]) rfl rfl Tryd_slc_27 Tryd_zer_9 (by exact ⟨rfl, trivial⟩) rfl rfl rfl rfl rfl rfl rfl rfl) ?_
  refine ras ?_
  refine reg_nil ?_
  refine post_imp (s' := ⟨2, [(0, some (.pv (.vs 1 (List.map eS [[99, 108, 97, 115, 115], [101, 120, 116, 101, 110, 100, 115], [114, 101, 112], [112, 101, 101, 114], [119, 111, 114, 108, 100], [97, 110, 121], [117, 110, 105, 113, 117, 101], [112, 117, 114, 101], [118, 111, 105, 100], [105, 110, 116], [105, 102], [101, 108, 115, 101], [119, 104, 105, 108, 101], [114, 101, 116, 117, 114, 110], [110, 101, 119], [109, 111, 118, 101], [100, 101, 108, 101, 116, 101], [116, 104, 105, 115], [110, 117, 108, 108], [105, 110, 112, 117, 116], [110, 105, 108], [115, 97, 109, 101], [99, 97, 115, 116]]))))], [], 0, [], [], 0, []⟩) (imps [] ⟨by kernel_rfl, trivial⟩ trivial) ?_
  refine post_next ?_
  refine aw_ret ?_
  obtain rfl := Option.some.inj hF
  exact prt
theorem ref02_Find_ok {a0 : List UInt8} {r : Int} (hF : ref02_Find a0 = some r) : Abs.Fn globs_Tryd Tryd.prog 40 [.str a0] [.p (.int .i64 r)] := by
  unfold ref02_Find at hF
  refine fn_of_body (n := 20) Tryd.func40 rfl rfl rfl ?_
  intro w O
  refine aw_seq ?_
  refine aw_region ?_
  refine ras ?_
  refine reg_nil ?_
  refine post_imp (s' := ⟨20, [(0, some (.pv (.str a0)))], [], 0, [], [], 0, []⟩) (imps [] ⟨by kernel_rfl, trivial⟩ trivial) ?_
  refine post_next ?_
  refine aw_seq ?_
  refine aw_region ?_
  obtain ⟨y3, h4, hF⟩ := bind_some hF
  refine rgp (op_call 0 rfl (caps := []) (args := []) (rs := [.p (.vs 1 (List.map eS y3))]) rfl rfl rfl Tryd_cal_61 (ref02_Words_ok h4) rfl rfl rfl) ?_
  refine ras ?_
  refine reg_nil ?_
  refine post_imp (s' := ⟨20, [(0, some (.pv (.str a0))), (3, some (.pv (.vs 1 (List.map eS y3))))], [], 0, [], [], 0, []⟩) (imps [] ⟨by kernel_rfl, by kernel_rfl, trivial⟩ trivial) ?_
  refine post_next ?_
  iterate 2 (refine aw_seq ?_)
  refine aw_region ?_
  refine ras ?_
  refine reg_nil ?_
  refine post_imp (s' := ⟨20, [(0, some (.pv (.str a0))), (3, some (.pv (.vs 1 (List.map eS y3)))), (4, some (.pv (.int .i64 0)))], [], 0, [], [], 0, []⟩) (imps [] ⟨by kernel_rfl, by kernel_rfl, by kernel_rfl, trivial⟩ trivial) ?_
  refine post_next ?_
  obtain ⟨lr26, hF, hK27⟩ := bind_some hF
  refine aw_for ((((y3.length : Int) : Int) - (0)).toNat + 1) (fun s1 => ∃ q, lr26 = .next q ∧ s1 = ⟨20, [], [], 0, [], [], 0, []⟩) ?_ ?_
  · refine rnd_loop (α := Int) (fun q => ⟨20, [(0, some (.pv (.str a0))), (3, some (.pv (.vs 1 (List.map eS y3)))), (4, some (.pv (.int .i64 q)))], [], 0, [], [], 0, []⟩) (fun k q => ref02_Find_L1 a0 y3 k q = some lr26) 0 (imps [] ⟨by kernel_rfl, by kernel_rfl, by kernel_rfl, trivial⟩ trivial) hF (fun q h => by cases h) ?_
    clear hF
    rintro k x11 hF ih
    refine rnd_succ ?_
    iterate 2 (refine aw_seq ?_)
    refine aw_region ?_
    iterate 2 (refine rmv ?_)
    refine rgp (op_len_vs (n := y3.length) rfl rfl (List.length_map ..) Tryd_slc_27 rfl rfl) ?_
    refine rgp (op_int (k := .i64) (m := x11) (n := (y3.length : Int)) rfl rfl rfl rfl rfl rfl) ?_
    refine reg_nil ?_
    refine post_imp (s' := ⟨20, [(0, some (.pv (.str a0))), (3, some (.pv (.vs 1 (List.map eS y3)))), (4, some (.pv (.int .i64 x11))), (9, some (.pv (.bool (decide (x11 < (y3.length : Int))))))], [], 0, [], [], 0, []⟩) (imps [] ⟨by kernel_rfl, by kernel_rfl, by kernel_rfl, by kernel_rfl, trivial⟩ trivial) ?_
    refine post_next ?_
    rcases ite_some hF with ⟨hb19, hF⟩ | ⟨hb19, hF⟩
    · refine aw_cond_t rfl hb19 ?_
      refine aw_skip ?_
      refine post_next ?_
      refine aw_seq ?_
      refine aw_block ?_
      refine aw_seq ?_
      refine aw_region ?_
      iterate 2 (refine rmv ?_)
      obtain ⟨y22, h23, hF⟩ := bind_some hF
      refine rgp (op_index_vs (k := .i64) rfl rfl rfl (idx_map eS h23) Tryd_slc_27 rfl rfl) ?_
      refine rgp (op_load_vp (p := .str y22) rfl rfl rfl Tryd_one_9 rfl rfl) ?_
      refine rmv ?_
      refine rgp (op_str rfl rfl rfl rfl rfl rfl) ?_
      refine reg_nil ?_
      refine post_imp (s' := ⟨20, [(0, some (.pv (.str a0))), (3, some (.pv (.vs 1 (List.map eS y3)))), (4, some (.pv (.int .i64 x11))), (17, some (.pv (.bool (y22 == a0))))], [], 0, [], [], 0, []⟩) (imps [] ⟨by kernel_rfl, by kernel_rfl, by kernel_rfl, by kernel_rfl, trivial⟩ trivial) ?_
      refine post_next ?_
      rcases ite_some hF with ⟨hb24, hF⟩ | ⟨hb24, hF⟩
      · refine aw_cond_t rfl hb24 ?_
        refine aw_seq ?_
        refine aw_region ?_
        refine rmv ?_
        refine rgp (op_int (k := .i64) (m := x11) (n := 1) rfl rfl rfl rfl rfl rfl) ?_
        refine ras ?_
        refine reg_nil ?_
        refine post_imp (s' := ⟨20, [(2, some (.pv (.int .i64 (w_i64 (x11 + 1)))))], [], 0, [], [], 0, []⟩) (imps [] ⟨by kernel_rfl, trivial⟩ trivial) ?_
        refine post_next ?_
        refine aw_ret ?_
        refine post_block_ret ?_
        iterate 2 (refine post_then_ret ?_)
        refine post_lp_ret ?_
        obtain rfl := Option.some.inj hF
        have hF := elim_stop hK27
        refine post_then_ret ?_
        obtain rfl := Option.some.inj hF
        exact prt
      refine aw_cond_f rfl hb24 ?_
      refine aw_skip ?_
      refine post_block_normal ?_
      refine post_next ?_
      refine aw_region ?_
      refine rmv ?_
      refine rgp (op_int (k := .i64) (m := x11) (n := 1) rfl rfl rfl rfl rfl rfl) ?_
      refine ras ?_
      refine reg_nil ?_
      refine post_round ?_
      exact rnd_back (ih (w_i64 (x11 + 1)) hF) (imps [] ⟨by kernel_rfl, by kernel_rfl, by kernel_rfl, trivial⟩ trivial)
    refine aw_cond_f rfl hb19 ?_
    refine aw_exit ?_
    iterate 2 (refine post_then_exit ?_)
    obtain rfl := Option.some.inj hF
    exact post_lp_break _ ⟨_, rfl, rfl⟩ (imps [] trivial trivial)
  rintro _ ⟨⟨⟩, rfl, rfl⟩
  have hF := elim_next hK27
  clear hK27
  refine post_next ?_
  refine aw_seq ?_
  refine aw_region ?_
  refine ras ?_
  refine reg_nil ?_
  refine post_imp (s' := ⟨20, [(2, some (.pv (.int .i64 0)))], [], 0, [], [], 0, []⟩) (imps [] ⟨by kernel_rfl, trivial⟩ trivial) ?_
  refine post_next ?_
  refine aw_ret ?_
  obtain rfl := Option.some.inj hF
  exact prt
theorem ref02_Digit_ok {a0 : Int} {r : Bool} (hF : ref02_Digit a0 = some r) : Abs.Fn globs_Tryd Tryd.prog 41 [.int .u8 a0] [.p (.bool r)] := by
  unfold ref02_Digit at hF
  refine fn_of_body (n := 9) Tryd.func41 rfl rfl rfl ?_
  intro w O
  refine aw_seq ?_
  refine aw_region ?_
  refine ras ?_
  refine reg_nil ?_
  refine post_imp (s' := ⟨9, [(0, some (.pv (.int .u8 a0)))], [], 0, [], [], 0, []⟩) (imps [] ⟨by kernel_rfl, trivial⟩ trivial) ?_
  refine post_next ?_
  refine aw_seq ?_
  refine aw_region ?_
  refine rmv ?_
  refine rgp (op_int (k := .u8) (m := a0) (n := 48) rfl rfl rfl rfl rfl rfl) ?_
  refine rmv ?_
  rcases ite_some hF with ⟨hb1, hF⟩ | ⟨hb1, hF⟩
  · refine rgn hb1 (op_move rfl rfl rfl rfl) ?_
    refine rgn hb1 (op_int (k := .u8) (m := a0) (n := 57) rfl rfl rfl rfl rfl rfl) ?_
    refine rpt hb1 ?_
    refine ras ?_
    refine reg_nil ?_
    refine post_imp (s' := ⟨9, [(2, some (.pv (.bool (decide (a0 ≤ 57)))))], [], 0, [], [], 0, []⟩) (imps [] ⟨by kernel_rfl, trivial⟩ trivial) ?_
    refine post_next ?_
    refine aw_ret ?_
    obtain rfl := Option.some.inj hF
    exact prt
  iterate 2 (refine rgo_f hb1 ?_)
  refine rpf hb1 ?_
  refine ras ?_
  refine reg_nil ?_
  refine post_imp (s' := ⟨9, [(2, some (.pv (.bool false)))], [], 0, [], [], 0, []⟩) (imps [] ⟨by kernel_rfl, trivial⟩ trivial) ?_
  refine post_next ?_
  refine aw_ret ?_
  obtain rfl := Option.some.inj hF
  exact prt
theorem ref02_Name_ok {a0 : List UInt8} {r : Bool} (hF : ref02_Name a0 = some r) : Abs.Fn globs_Tryd Tryd.prog 16 [.str a0] [.p (.bool r)] := by
  unfold ref02_Name at hF
  refine fn_of_body (n := 41) Tryd.func16 rfl rfl rfl ?_
  intro w O
  refine aw_seq ?_
  refine aw_region ?_
  refine ras ?_
  refine reg_nil ?_
  refine post_imp (s' := ⟨41, [(0, some (.pv (.str a0)))], [], 0, [], [], 0, []⟩) (imps [] ⟨by kernel_rfl, trivial⟩ trivial) ?_
  refine post_next ?_
  iterate 2 (refine aw_seq ?_)
  obtain ⟨x10, hF, hK12⟩ := bind_some hF
  refine aw_cut (fun s1 => s1 = ⟨41, [(0, some (.pv (.str a0))), (22, some (.pv (.bool x10)))], [], 0, [], [], 0, []⟩) ?_ ?_
  · refine aw_region ?_
    refine rmv ?_
    refine rgp (op_len_str rfl rfl Tryd_und_9 rfl rfl) ?_
    refine rgp (op_int (k := .i64) (m := (a0.length : Int)) (n := 1) rfl rfl rfl rfl rfl rfl) ?_
    refine rmv ?_
    rcases ite_some hF with ⟨hb1, hF⟩ | ⟨hb1, hF⟩
    · refine rgo_t hb1 ?_
      iterate 2 (refine rgo_t hb1 ?_)
      refine rpt hb1 ?_
      refine rmv ?_
      iterate 4 (refine rgo_t rfl ?_)
      refine rpt rfl ?_
      refine rmv ?_
      iterate 3 (refine rgo_t rfl ?_)
      refine rpt rfl ?_
      refine reg_nil ?_
      cases hF
      exact post_cut _ rfl (imps [] ⟨by kernel_rfl, by kernel_rfl, trivial⟩ trivial)
    refine rgn hb1 (op_move rfl rfl rfl rfl) ?_
    refine rgn hb1 (op_len_str rfl rfl Tryd_und_9 rfl rfl) ?_
    refine rgn hb1 (op_int (k := .i64) (m := (a0.length : Int)) (n := 20) rfl rfl rfl rfl rfl rfl) ?_
    refine rpf hb1 ?_
    refine rmv ?_
    rcases ite_some hF with ⟨hb2, hF⟩ | ⟨hb2, hF⟩
    · refine rgo_t hb2 ?_
      iterate 3 (refine rgo_t hb2 ?_)
      refine rpt hb2 ?_
      refine rmv ?_
      iterate 3 (refine rgo_t rfl ?_)
      refine rpt rfl ?_
      refine reg_nil ?_
      cases hF
      exact post_cut _ rfl (imps [] ⟨by kernel_rfl, by kernel_rfl, trivial⟩ trivial)
    refine rgn hb2 (op_move rfl rfl rfl rfl) ?_
    obtain ⟨y3, h4, hF⟩ := bind_some hF
    refine rgn hb2 (op_index_str (k := .i64) rfl rfl rfl h4 Tryd_und_9 rfl rfl) ?_
    obtain ⟨y5, h6, hF⟩ := bind_some hF
    refine rgn hb2 (op_call 0 rfl (caps := []) (args := [.int .u8 (y3.toNat : Int)]) (rs := [.p (.bool y5)]) rfl rfl rfl Tryd_cal_39 (ref02_Letter_ok h6) rfl rfl rfl) ?_
    refine rgn hb2 (op_not rfl rfl rfl rfl) ?_
    refine rpf hb2 ?_
    refine rmv ?_
    rcases ite_some hF with ⟨hb7, hF⟩ | ⟨hb7, hF⟩
    · refine rgo_t hb7 ?_
      iterate 2 (refine rgo_t hb7 ?_)
      refine rpt hb7 ?_
      refine reg_nil ?_
      cases hF
      exact post_cut _ rfl (imps [] ⟨by kernel_rfl, by kernel_rfl, trivial⟩ trivial)
    refine rgn hb7 (op_move rfl rfl rfl rfl) ?_
    obtain ⟨y8, h9, hF⟩ := bind_some hF
    refine rgn hb7 (op_call 0 rfl (caps := []) (args := [.str a0]) (rs := [.p (.int .i64 y8)]) rfl rfl rfl Tryd_cal_40 (ref02_Find_ok h9) rfl rfl rfl) ?_
    refine rgn hb7 (op_int (k := .i64) (m := y8) (n := 0) rfl rfl rfl rfl rfl rfl) ?_
    refine rpf hb7 ?_
    refine reg_nil ?_
    cases hF
    exact post_cut _ rfl (imps [] ⟨by kernel_rfl, by kernel_rfl, trivial⟩ trivial)
  rintro _ rfl
  have hF := hK12
  clear hK12
  refine post_next ?_
  rcases ite_some hF with ⟨hb13, hF⟩ | ⟨hb13, hF⟩
  · refine aw_cond_t rfl hb13 ?_
    refine aw_seq ?_
    refine aw_region ?_
    refine ras ?_
    refine reg_nil ?_
    refine post_imp (s' := ⟨41, [(2, some (.pv (.bool false)))], [], 0, [], [], 0, []⟩) (imps [] ⟨by kernel_rfl, trivial⟩ trivial) ?_
    refine post_next ?_
    refine aw_ret ?_
    refine post_then_ret ?_
    obtain rfl := Option.some.inj hF
    exact prt
  refine aw_cond_f rfl hb13 ?_
  refine aw_skip ?_
  refine post_next ?_
  iterate 2 (refine aw_seq ?_)
  refine aw_region ?_
  refine ras ?_
  refine reg_nil ?_
  refine post_imp (s' := ⟨41, [(0, some (.pv (.str a0))), (3, some (.pv (.int .i64 0)))], [], 0, [], [], 0, []⟩) (imps [] ⟨by kernel_rfl, by kernel_rfl, trivial⟩ trivial) ?_
  refine post_next ?_
  obtain ⟨lr71, hF, hK72⟩ := bind_some hF
  refine aw_for ((((a0.length : Int) : Int) - (0)).toNat + 1) (fun s1 => ∃ q, lr71 = .next q ∧ s1 = ⟨41, [], [], 0, [], [], 0, []⟩) ?_ ?_
  · refine rnd_loop (α := Int) (fun q => ⟨41, [(0, some (.pv (.str a0))), (3, some (.pv (.int .i64 q)))], [], 0, [], [], 0, []⟩) (fun k q => ref02_Name_L1 a0 k q = some lr71) 0 (imps [] ⟨by kernel_rfl, by kernel_rfl, trivial⟩ trivial) hF (fun q h => by cases h) ?_
    clear hF
    rintro k x32 hF ih
    refine rnd_succ ?_
    iterate 2 (refine aw_seq ?_)
    refine aw_region ?_
    iterate 2 (refine rmv ?_)
    refine rgp (op_len_str rfl rfl Tryd_und_9 rfl rfl) ?_
    refine rgp (op_int (k := .i64) (m := x32) (n := (a0.length : Int)) rfl rfl rfl rfl rfl rfl) ?_
    refine reg_nil ?_
    refine post_imp (s' := ⟨41, [(0, some (.pv (.str a0))), (3, some (.pv (.int .i64 x32))), (26, some (.pv (.bool (decide (x32 < (a0.length : Int))))))], [], 0, [], [], 0, []⟩) (imps [] ⟨by kernel_rfl, by kernel_rfl, by kernel_rfl, trivial⟩ trivial) ?_
    refine post_next ?_
    rcases ite_some hF with ⟨hb52, hF⟩ | ⟨hb52, hF⟩
    · refine aw_cond_t rfl hb52 ?_
      refine aw_skip ?_
      refine post_next ?_
      refine aw_seq ?_
      refine aw_block ?_
      refine aw_seq ?_
      obtain ⟨x66, hF, hK68⟩ := bind_some hF
      refine aw_cut (fun s1 => s1 = ⟨41, [(0, some (.pv (.str a0))), (3, some (.pv (.int .i64 x32))), (40, some (.pv (.bool x66)))], [], 0, [], [], 0, []⟩) ?_ ?_
      · refine aw_region ?_
        iterate 2 (refine rmv ?_)
        obtain ⟨y57, h58, hF⟩ := bind_some hF
        refine rgp (op_index_str (k := .i64) rfl rfl rfl h58 Tryd_und_9 rfl rfl) ?_
        obtain ⟨y59, h60, hF⟩ := bind_some hF
        refine rgp (op_call 0 rfl (caps := []) (args := [.int .u8 (y57.toNat : Int)]) (rs := [.p (.bool y59)]) rfl rfl rfl Tryd_cal_39 (ref02_Letter_ok h60) rfl rfl rfl) ?_
        refine rgp (op_not rfl rfl rfl rfl) ?_
        refine rmv ?_
        rcases ite_some hF with ⟨hb61, hF⟩ | ⟨hb61, hF⟩
        · refine rgn hb61 (op_move rfl rfl rfl rfl) ?_
          refine rgn hb61 (op_move rfl rfl rfl rfl) ?_
          obtain ⟨y62, h63, hF⟩ := bind_some hF
          refine rgn hb61 (op_index_str (k := .i64) rfl rfl rfl h63 Tryd_und_9 rfl rfl) ?_
          obtain ⟨y64, h65, hF⟩ := bind_some hF
          refine rgn hb61 (op_call 0 rfl (caps := []) (args := [.int .u8 (y62.toNat : Int)]) (rs := [.p (.bool y64)]) rfl rfl rfl Tryd_cal_41 (ref02_Digit_ok h65) rfl rfl rfl) ?_
          refine rgn hb61 (op_not rfl rfl rfl rfl) ?_
          refine rpt hb61 ?_
          refine reg_nil ?_
          cases hF
          exact post_cut _ rfl (imps [] ⟨by kernel_rfl, by kernel_rfl, by kernel_rfl, trivial⟩ trivial)
        iterate 5 (refine rgo_f hb61 ?_)
        refine rpf hb61 ?_
        refine reg_nil ?_
        cases hF
        exact post_cut _ rfl (imps [] ⟨by kernel_rfl, by kernel_rfl, by kernel_rfl, trivial⟩ trivial)
      rintro _ rfl
      have hF := hK68
      clear hK68
      refine post_next ?_
      rcases ite_some hF with ⟨hb69, hF⟩ | ⟨hb69, hF⟩
      · refine aw_cond_t rfl hb69 ?_
        refine aw_seq ?_
        refine aw_region ?_
        refine ras ?_
        refine reg_nil ?_
        refine post_imp (s' := ⟨41, [(2, some (.pv (.bool false)))], [], 0, [], [], 0, []⟩) (imps [] ⟨by kernel_rfl, trivial⟩ trivial) ?_
        refine post_next ?_
        refine aw_ret ?_
        refine post_block_ret ?_
        iterate 2 (refine post_then_ret ?_)
        refine post_lp_ret ?_
        obtain rfl := Option.some.inj hF
        have hF := elim_stop hK72
        refine post_then_ret ?_
        obtain rfl := Option.some.inj hF
        exact prt
      refine aw_cond_f rfl hb69 ?_
      refine aw_skip ?_
      refine post_block_normal ?_
      refine post_next ?_
      refine aw_region ?_
      refine rmv ?_
      refine rgp (op_int (k := .i64) (m := x32) (n := 1) rfl rfl rfl rfl rfl rfl) ?_
      refine ras ?_
      refine reg_nil ?_
      refine post_round ?_
      exact rnd_back (ih (w_i64 (x32 + 1)) hF) (imps [] ⟨by kernel_rfl, by kernel_rfl, trivial⟩ trivial)
    refine aw_cond_f rfl hb52 ?_
    refine aw_exit ?_
    iterate 2 (refine post_then_exit ?_)
    obtain rfl := Option.some.inj hF
    exact post_lp_break _ ⟨_, rfl, rfl⟩ (imps [] trivial trivial)
  rintro _ ⟨⟨⟩, rfl, rfl⟩
  have hF := elim_next hK72
  clear hK72
  refine post_next ?_
  refine aw_seq ?_
  refine aw_region ?_
  refine ras ?_
  refine reg_nil ?_
  refine post_imp (s' := ⟨41, [(2, some (.pv (.bool true)))], [], 0, [], [], 0, []⟩) (imps [] ⟨by kernel_rfl, trivial⟩ trivial) ?_
  refine post_next ?_
  refine aw_ret ?_
  obtain rfl := Option.some.inj hF
  exact prt
abbrev ref06_form_e127 (a0 : GExpr) : Eff := { need := [(36, .pv (.bool (a0.fKind != 2))), (37, .lp 0 2)], hneed := [(0, .box 45 (bxv (eGExpr a0)))], dst := some 38, val := some (.pv (.str a0.fName)) }
abbrev ref06_form_e128 (a0 : GExpr) : Eff := { need := [(36, .pv (.bool (a0.fKind != 2))), (38, .pv (.str a0.fName))], dst := some 39, val := some (.pv (.bool (!(a0.fName == [])))) }
abbrev ref06_form_e132 (a0 : GExpr) : Eff := { need := [(42, .pv (.bool (!(a0.fName == [])))), (43, .lp 0 1)], hneed := [(0, .box 45 (bxv (eGExpr a0)))], dst := some 44, val := some (.pv (.int .i64 a0.fNum)) }
abbrev ref06_form_e133 (a0 : GExpr) : Eff := { need := [(42, .pv (.bool (!(a0.fName == [])))), (44, .pv (.int .i64 a0.fNum))], dst := some 45, val := some (.pv (.bool (decide (a0.fNum < 0)))) }
abbrev ref06_form_e134 (a0 : GExpr) : Eff := { need := [(42, .pv (.bool (!(a0.fName == [])))), (45, .pv (.bool (decide (a0.fNum < 0))))], dst := some 46, val := some (.pv (.bool (decide (a0.fNum < 0)))) }
abbrev ref06_form_e135 (a0 : GExpr) : Eff := { need := [(47, .pv (.bool (decide (a0.fNum < 0)))), (1, .lp 0 0)], dst := some 48, val := some (.lp 0 1) }
abbrev ref06_form_e136 (a0 : GExpr) : Eff := { need := [(47, .pv (.bool (decide (a0.fNum < 0)))), (48, .lp 0 1)], hneed := [(0, .box 45 (bxv (eGExpr a0)))], dst := some 49, val := some (.pv (.int .i64 a0.fNum)) }
abbrev ref06_form_e137 (a0 : GExpr) : Eff := { need := [(47, .pv (.bool (decide (a0.fNum < 0)))), (49, .pv (.int .i64 a0.fNum))], dst := some 50, val := some (.pv (.bool (decide (a0.fNum > 999999999)))) }
abbrev ref06_form_e138 (a0 : GExpr) : Eff := { need := [(47, .pv (.bool (decide (a0.fNum < 0)))), (50, .pv (.bool (decide (a0.fNum > 999999999))))], dst := some 51, val := some (.pv (.bool (decide (a0.fNum > 999999999)))) }
abbrev ref06_form_e139 (a0 : GExpr) : Eff := { need := [(52, .pv (.bool (decide (a0.fNum > 999999999)))), (1, .lp 0 0)], dst := some 53, val := some (.lp 0 0) }
abbrev ref06_form_e140 (a0 : GExpr) : Eff := { need := [(52, .pv (.bool (decide (a0.fNum > 999999999)))), (53, .lp 0 0)], hneed := [(0, .box 45 (bxv (eGExpr a0)))], dst := some 54, val := some (.pv (.int .i64 a0.fKind)) }
abbrev ref06_form_e141 (a0 : GExpr) : Eff := { need := [(52, .pv (.bool (decide (a0.fNum > 999999999)))), (54, .pv (.int .i64 a0.fKind))], dst := some 55, val := some (.pv (.bool (a0.fKind == 2))) }
abbrev ref06_form_e142 (a0 : GExpr) : Eff := { need := [(52, .pv (.bool (decide (a0.fNum > 999999999)))), (55, .pv (.bool (a0.fKind == 2)))], dst := some 56, val := some (.pv (.bool (a0.fKind == 2))) }
abbrev ref06_form_e143 (a0 : GExpr) : Eff := { need := [(56, .pv (.bool (a0.fKind == 2))), (1, .lp 0 0)], dst := some 57, val := some (.lp 0 2) }
abbrev ref06_form_e144 (a0 : GExpr) : Eff := { need := [(56, .pv (.bool (a0.fKind == 2))), (57, .lp 0 2)], hneed := [(0, .box 45 (bxv (eGExpr a0)))], dst := some 58, val := some (.pv (.str a0.fName)) }
abbrev ref06_form_e149 (a0 : GExpr) : Eff := { need := [(52, .pv (.bool (decide (a0.fNum > 999999999)))), (56, .pv (.bool (a0.fKind == 2)))], dst := some 61, val := some (.pv (.bool false)) }
abbrev ref06_form_e150 (a0 : GExpr) : Eff := { need := [(52, .pv (.bool (decide (a0.fNum > 999999999)))), (61, .pv (.bool false))], dst := some 62, val := some (.pv (.bool false)) }
abbrev ref06_form_e154 (a0 : GExpr) : Eff := { need := [(42, .pv (.bool false)), (43, .lp 0 1)], hneed := [(0, .box 45 (bxv (eGExpr a0)))], dst := some 44, val := some (.pv (.int .i64 a0.fNum)) }
abbrev ref06_form_e155 (a0 : GExpr) : Eff := { need := [(42, .pv (.bool false)), (44, .pv (.int .i64 a0.fNum))], dst := some 45, val := some (.pv (.bool (decide (a0.fNum < 0)))) }
abbrev ref06_form_e156 (a0 : GExpr) : Eff := { need := [(42, .pv (.bool false)), (45, .pv (.bool (decide (a0.fNum < 0))))], dst := some 46, val := some (.pv (.bool (decide (a0.fNum < 0)))) }
theorem ref06_form_ring : ∀ n : Nat, (∀ (a0 : GExpr) (r : Bool), ref06_form n a0 = some r → Abs.Fn globs_Tryd Tryd.prog 68 [.agg (eGExpr a0)] [.p (.bool r)]) := by
  intro n
  induction n with
  | zero => exact (fun _ _ h => by simp [ref06_form] at h)
  | succ n ih =>
    have ref06_form_ih := ih
    clear ih
    intro a0 r hF
    unfold ref06_form at hF
    revert hF ref06_form_ih
    generalize ref06_form n = ref06_form_rec
    intro ref06_form_ih hF
    refine fn_of_body (n := 113) Tryd.func68 rfl rfl rfl ?_
    intro w O
    refine aw_seq ?_
    refine aw_region ?_
    refine rgp (op_box 0 rfl rfl rfl rfl rfl rfl) ?_
    refine ras ?_
    refine reg_nil ?_
    refine post_imp (s' := ⟨113, [(1, some (.lp 0 0))], [(0, some (.box 45 (bxv (eGExpr a0))))], 1, [], [], 0, []⟩) (imps [0] ⟨by kernel_rfl, trivial⟩ ⟨by kernel_rfl, trivial⟩) ?_
    refine post_next ?_
    iterate 2 (refine aw_seq ?_)
    obtain ⟨x32, hF, hK34⟩ := bind_some hF
    refine aw_cut (fun s1 => s1 = ⟨113, [(1, some (.lp 0 0)), (62, some (.pv (.bool x32)))], [(0, some (.box 45 (bxv (eGExpr a0))))], 1, [], [], 0, []⟩) ?_ ?_
    · refine dr_start ⟨_, _, _⟩ rfl ?_
      refine dr_cons { need := [(1, .lp 0 0)], dst := some 5, val := some (.lp 0 0) } (fun m h => step_on (guard_no rfl) (op_field_lp rfl h.1.1 Tryd_fld_45_0 rfl rfl) rfl) ⟨⟨rfl, trivial⟩, trivial, trivial⟩ ?_
      refine dr_cons { need := [(5, .lp 0 0)], hneed := [(0, .box 45 (bxv (eGExpr a0)))], dst := some 6, val := some (.pv (.int .i64 a0.fKind)) } (fun m h => step_on (guard_no rfl) (op_load_lp (v := .pv (.int .i64 a0.fKind)) rfl h.1.1 h.2.1.1 rfl Tryd_one_3 rfl rfl) rfl) ⟨⟨rfl, trivial⟩, ⟨rfl, trivial⟩, trivial⟩ ?_
      refine dr_cons { need := [(6, .pv (.int .i64 a0.fKind))], dst := some 7, val := some (.pv (.bool (decide (a0.fKind < 1)))) } (fun m h => step_on (guard_no rfl) (op_int (k := .i64) (m := a0.fKind) (n := 1) rfl h.1.1 rfl rfl rfl rfl) rfl) ⟨⟨rfl, trivial⟩, trivial, trivial⟩ ?_
      refine drm ?_
      rcases ite_some hF with ⟨hb1, hF⟩ | ⟨hb1, hF⟩
      · refine dro_t hb1 ?_
        iterate 2 (refine dro_t hb1 ?_)
        refine drpt hb1 ?_
        refine drm ?_
        iterate 7 (refine dro_t rfl ?_)
        refine drpt rfl ?_
        refine drm ?_
        iterate 4 (refine dro_t rfl ?_)
        iterate 3 (refine dru ?_)
        refine dro_t rfl ?_
        refine drpt rfl ?_
        refine drm ?_
        iterate 4 (refine dro_t rfl ?_)
        iterate 3 (refine dru ?_)
        refine dro_t rfl ?_
        refine drpt rfl ?_
        refine drm ?_
        iterate 3 (refine dro_t rfl ?_)
        refine drpt rfl ?_
        refine drm ?_
        iterate 3 (refine dro_t rfl ?_)
        refine drpt rfl ?_
        refine drm ?_
        iterate 4 (refine dro_t rfl ?_)
        iterate 4 (refine dru ?_)
        refine dro_t rfl ?_
        refine drpt rfl ?_
        refine dr_nil Tryd_mixed rfl (by kernel_rfl) ?_
        refine post_imp (s' := ⟨113, [(1, some (.lp 0 0)), (62, some (.pv (.bool true)))], [(0, some (.box 45 (bxv (eGExpr a0))))], 1, [], [], 0, []⟩) (imps [0] ⟨by kernel_rfl, by kernel_rfl, trivial⟩ ⟨by kernel_rfl, trivial⟩) ?_
        cases hF
        exact post_cut _ rfl (imps [0] ⟨by kernel_rfl, by kernel_rfl, trivial⟩ ⟨by kernel_rfl, trivial⟩)
      refine dr_cons { need := [(8, .pv (.bool (decide (a0.fKind < 1)))), (1, .lp 0 0)], dst := some 9, val := some (.lp 0 0) } (fun m h => step_on (guard_on rfl rfl rfl h.1.1 hb1) (op_field_lp rfl h.1.2.1 Tryd_fld_45_0 rfl rfl) rfl) ⟨⟨rfl, rfl, trivial⟩, trivial, trivial⟩ ?_
      refine dr_cons { need := [(8, .pv (.bool (decide (a0.fKind < 1)))), (9, .lp 0 0)], hneed := [(0, .box 45 (bxv (eGExpr a0)))], dst := some 10, val := some (.pv (.int .i64 a0.fKind)) } (fun m h => step_on (guard_on rfl rfl rfl h.1.1 hb1) (op_load_lp (v := .pv (.int .i64 a0.fKind)) rfl h.1.2.1 h.2.1.1 rfl Tryd_one_3 rfl rfl) rfl) ⟨⟨rfl, rfl, trivial⟩, ⟨rfl, trivial⟩, trivial⟩ ?_
      refine dr_cons { need := [(8, .pv (.bool (decide (a0.fKind < 1)))), (10, .pv (.int .i64 a0.fKind))], dst := some 11, val := some (.pv (.bool (decide (a0.fKind > 14)))) } (fun m h => step_on (guard_on rfl rfl rfl h.1.1 hb1) (op_int (k := .i64) (m := a0.fKind) (n := 14) rfl h.1.2.1 rfl rfl rfl rfl) rfl) ⟨⟨rfl, rfl, trivial⟩, trivial, trivial⟩ ?_
      refine dr_cons { need := [(8, .pv (.bool (decide (a0.fKind < 1)))), (11, .pv (.bool (decide (a0.fKind > 14))))], dst := some 12, val := some (.pv (.bool (decide (a0.fKind > 14)))) } (fun m h => step_on (guard_no rfl) (op_pick_f rfl h.1.1 hb1 h.1.2.1 rfl rfl) rfl) ⟨⟨rfl, rfl, trivial⟩, trivial, trivial⟩ ?_
      refine drm ?_
      rcases ite_some hF with ⟨hb2, hF⟩ | ⟨hb2, hF⟩
      · refine dro_t hb2 ?_
        iterate 6 (refine dro_t hb2 ?_)
        refine drpt hb2 ?_
        refine drm ?_
        iterate 4 (refine dro_t rfl ?_)
        iterate 3 (refine dru ?_)
        refine dro_t rfl ?_
        refine drpt rfl ?_
        refine drm ?_
        iterate 4 (refine dro_t rfl ?_)
        iterate 3 (refine dru ?_)
        refine dro_t rfl ?_
        refine drpt rfl ?_
        refine drm ?_
        iterate 3 (refine dro_t rfl ?_)
        refine drpt rfl ?_
        refine drm ?_
        iterate 3 (refine dro_t rfl ?_)
        refine drpt rfl ?_
        refine drm ?_
        iterate 4 (refine dro_t rfl ?_)
        iterate 4 (refine dru ?_)
        refine dro_t rfl ?_
        refine drpt rfl ?_
        refine dr_nil Tryd_mixed rfl (by kernel_rfl) ?_
        refine post_imp (s' := ⟨113, [(1, some (.lp 0 0)), (62, some (.pv (.bool true)))], [(0, some (.box 45 (bxv (eGExpr a0))))], 1, [], [], 0, []⟩) (imps [0] ⟨by kernel_rfl, by kernel_rfl, trivial⟩ ⟨by kernel_rfl, trivial⟩) ?_
        cases hF
        exact post_cut _ rfl (imps [0] ⟨by kernel_rfl, by kernel_rfl, trivial⟩ ⟨by kernel_rfl, trivial⟩)
      refine dr_cons { need := [(13, .pv (.bool (decide (a0.fKind > 14)))), (1, .lp 0 0)], dst := some 14, val := some (.lp 0 3) } (fun m h => step_on (guard_on rfl rfl rfl h.1.1 hb2) (op_field_lp rfl h.1.2.1 Tryd_fld_45_3 rfl rfl) rfl) ⟨⟨rfl, rfl, trivial⟩, trivial, trivial⟩ ?_
      refine dr_cons { need := [(13, .pv (.bool (decide (a0.fKind > 14)))), (14, .lp 0 3)], hneed := [(0, .box 45 (bxv (eGExpr a0)))], dst := some 15, val := some (.pv (.vs 4 (eLGExpr a0.fKids))) } (fun m h => step_on (guard_on rfl rfl rfl h.1.1 hb2) (op_load_lp (v := .pv (.vs 4 (eLGExpr a0.fKids))) rfl h.1.2.1 h.2.1.1 rfl Tryd_one_43 rfl rfl) rfl) ⟨⟨rfl, rfl, trivial⟩, ⟨rfl, trivial⟩, trivial⟩ ?_
      refine dr_cons { need := [(13, .pv (.bool (decide (a0.fKind > 14)))), (15, .pv (.vs 4 (eLGExpr a0.fKids)))], dst := some 16, val := some (.pv (.int .i64 (a0.fKids.length : Int))) } (fun m h => step_on (guard_on rfl rfl rfl h.1.1 hb2) (op_len_vs (n := a0.fKids.length) rfl h.1.2.1 (lenR eLGExpr_map) Tryd_slc_43 rfl rfl) rfl) ⟨⟨rfl, rfl, trivial⟩, trivial, trivial⟩ ?_
      refine dr_cons { need := [(13, .pv (.bool (decide (a0.fKind > 14)))), (1, .lp 0 0)], dst := some 17, val := some (.lp 0 0) } (fun m h => step_on (guard_on rfl rfl rfl h.1.1 hb2) (op_field_lp rfl h.1.2.1 Tryd_fld_45_0 rfl rfl) rfl) ⟨⟨rfl, rfl, trivial⟩, trivial, trivial⟩ ?_
      refine dr_cons { need := [(13, .pv (.bool (decide (a0.fKind > 14)))), (17, .lp 0 0)], hneed := [(0, .box 45 (bxv (eGExpr a0)))], dst := some 18, val := some (.pv (.int .i64 a0.fKind)) } (fun m h => step_on (guard_on rfl rfl rfl h.1.1 hb2) (op_load_lp (v := .pv (.int .i64 a0.fKind)) rfl h.1.2.1 h.2.1.1 rfl Tryd_one_3 rfl rfl) rfl) ⟨⟨rfl, rfl, trivial⟩, ⟨rfl, trivial⟩, trivial⟩ ?_
      obtain ⟨y3, h4, hF⟩ := bind_some hF
      refine dr_cons { need := [(13, .pv (.bool (decide (a0.fKind > 14)))), (18, .pv (.int .i64 a0.fKind))], dst := some 19, val := some (.pv (.int .i64 y3)) } (fun m h => step_on (guard_on rfl rfl rfl h.1.1 hb2) (op_call 1 rfl (caps := []) (args := [.int .i64 a0.fKind]) (rs := [.p (.int .i64 y3)]) rfl rfl (evl_cons h.1.2.1 evl_nil) Tryd_cal_92 (ref06_kids_ok h4) rfl rfl rfl) rfl) ⟨⟨rfl, rfl, trivial⟩, trivial, trivial⟩ ?_
      refine dr_cons { need := [(13, .pv (.bool (decide (a0.fKind > 14)))), (16, .pv (.int .i64 (a0.fKids.length : Int))), (19, .pv (.int .i64 y3))], dst := some 20, val := some (.pv (.bool ((a0.fKids.length : Int) != y3))) } (fun m h => step_on (guard_on rfl rfl rfl h.1.1 hb2) (op_int (k := .i64) (m := (a0.fKids.length : Int)) (n := y3) rfl h.1.2.1 h.1.2.2.1 rfl rfl rfl) rfl) ⟨⟨rfl, rfl, rfl, trivial⟩, trivial, trivial⟩ ?_
      refine dr_cons { need := [(13, .pv (.bool (decide (a0.fKind > 14)))), (20, .pv (.bool ((a0.fKids.length : Int) != y3)))], dst := some 21, val := some (.pv (.bool ((a0.fKids.length : Int) != y3))) } (fun m h => step_on (guard_no rfl) (op_pick_f rfl h.1.1 hb2 h.1.2.1 rfl rfl) rfl) ⟨⟨rfl, rfl, trivial⟩, trivial, trivial⟩ ?_
      refine drm ?_
      rcases ite_some hF with ⟨hb5, hF⟩ | ⟨hb5, hF⟩
      · refine dro_t hb5 ?_
        iterate 3 (refine dro_t hb5 ?_)
        iterate 3 (refine dru ?_)
        refine dro_t hb5 ?_
        refine drpt hb5 ?_
        refine drm ?_
        iterate 4 (refine dro_t rfl ?_)
        iterate 3 (refine dru ?_)
        refine dro_t rfl ?_
        refine drpt rfl ?_
        refine drm ?_
        iterate 3 (refine dro_t rfl ?_)
        refine drpt rfl ?_
        refine drm ?_
        iterate 3 (refine dro_t rfl ?_)
        refine drpt rfl ?_
        refine drm ?_
        iterate 4 (refine dro_t rfl ?_)
        iterate 4 (refine dru ?_)
        refine dro_t rfl ?_
        refine drpt rfl ?_
        refine dr_nil Tryd_mixed rfl (by kernel_rfl) ?_
        refine post_imp (s' := ⟨113, [(1, some (.lp 0 0)), (62, some (.pv (.bool true)))], [(0, some (.box 45 (bxv (eGExpr a0))))], 1, [], [], 0, []⟩) (imps [0] ⟨by kernel_rfl, by kernel_rfl, trivial⟩ ⟨by kernel_rfl, trivial⟩) ?_
        cases hF
        exact post_cut _ rfl (imps [0] ⟨by kernel_rfl, by kernel_rfl, trivial⟩ ⟨by kernel_rfl, trivial⟩)
      refine dr_cons { need := [(22, .pv (.bool ((a0.fKids.length : Int) != y3))), (1, .lp 0 0)], dst := some 23, val := some (.lp 0 0) } (fun m h => step_on (guard_on rfl rfl rfl h.1.1 hb5) (op_field_lp rfl h.1.2.1 Tryd_fld_45_0 rfl rfl) rfl) ⟨⟨rfl, rfl, trivial⟩, trivial, trivial⟩ ?_
      refine dr_cons { need := [(22, .pv (.bool ((a0.fKids.length : Int) != y3))), (23, .lp 0 0)], hneed := [(0, .box 45 (bxv (eGExpr a0)))], dst := some 24, val := some (.pv (.int .i64 a0.fKind)) } (fun m h => step_on (guard_on rfl rfl rfl h.1.1 hb5) (op_load_lp (v := .pv (.int .i64 a0.fKind)) rfl h.1.2.1 h.2.1.1 rfl Tryd_one_3 rfl rfl) rfl) ⟨⟨rfl, rfl, trivial⟩, ⟨rfl, trivial⟩, trivial⟩ ?_
      refine dr_cons { need := [(22, .pv (.bool ((a0.fKids.length : Int) != y3))), (24, .pv (.int .i64 a0.fKind))], dst := some 25, val := some (.pv (.bool (a0.fKind != 1))) } (fun m h => step_on (guard_on rfl rfl rfl h.1.1 hb5) (op_int (k := .i64) (m := a0.fKind) (n := 1) rfl h.1.2.1 rfl rfl rfl rfl) rfl) ⟨⟨rfl, rfl, trivial⟩, trivial, trivial⟩ ?_
      refine dr_cons { need := [(22, .pv (.bool ((a0.fKids.length : Int) != y3))), (25, .pv (.bool (a0.fKind != 1)))], dst := some 26, val := some (.pv (.bool (a0.fKind != 1))) } (fun m h => step_on (guard_on rfl rfl rfl h.1.1 hb5) (op_move rfl h.1.2.1 rfl rfl) rfl) ⟨⟨rfl, rfl, trivial⟩, trivial, trivial⟩ ?_
      rcases ite_some hF with ⟨hb6, hF⟩ | ⟨hb6, hF⟩
      · refine dr_cons { need := [(26, .pv (.bool (a0.fKind != 1))), (1, .lp 0 0)], dst := some 27, val := some (.lp 0 1) } (fun m h => step_on (guard_on rfl rfl rfl h.1.1 hb6) (op_field_lp rfl h.1.2.1 Tryd_fld_45_1 rfl rfl) rfl) ⟨⟨rfl, rfl, trivial⟩, trivial, trivial⟩ ?_
        refine dr_cons { need := [(26, .pv (.bool (a0.fKind != 1))), (27, .lp 0 1)], hneed := [(0, .box 45 (bxv (eGExpr a0)))], dst := some 28, val := some (.pv (.int .i64 a0.fNum)) } (fun m h => step_on (guard_on rfl rfl rfl h.1.1 hb6) (op_load_lp (v := .pv (.int .i64 a0.fNum)) rfl h.1.2.1 h.2.1.1 rfl Tryd_one_3 rfl rfl) rfl) ⟨⟨rfl, rfl, trivial⟩, ⟨rfl, trivial⟩, trivial⟩ ?_
        refine dr_cons { need := [(26, .pv (.bool (a0.fKind != 1))), (28, .pv (.int .i64 a0.fNum))], dst := some 29, val := some (.pv (.bool (a0.fNum != 0))) } (fun m h => step_on (guard_on rfl rfl rfl h.1.1 hb6) (op_int (k := .i64) (m := a0.fNum) (n := 0) rfl h.1.2.1 rfl rfl rfl rfl) rfl) ⟨⟨rfl, rfl, trivial⟩, trivial, trivial⟩ ?_
        refine dr_cons { need := [(22, .pv (.bool ((a0.fKids.length : Int) != y3))), (26, .pv (.bool (a0.fKind != 1))), (29, .pv (.bool (a0.fNum != 0)))], dst := some 30, val := some (.pv (.bool (a0.fNum != 0))) } (fun m h => step_on (guard_on rfl rfl rfl h.1.1 hb5) (op_pick_t rfl h.1.2.1 hb6 h.1.2.2.1 rfl rfl) rfl) ⟨⟨rfl, rfl, rfl, trivial⟩, trivial, trivial⟩ ?_
        refine dr_cons { need := [(22, .pv (.bool ((a0.fKids.length : Int) != y3))), (30, .pv (.bool (a0.fNum != 0)))], dst := some 31, val := some (.pv (.bool (a0.fNum != 0))) } (fun m h => step_on (guard_no rfl) (op_pick_f rfl h.1.1 hb5 h.1.2.1 rfl rfl) rfl) ⟨⟨rfl, rfl, trivial⟩, trivial, trivial⟩ ?_
        refine drm ?_
        rcases ite_some hF with ⟨hb7, hF⟩ | ⟨hb7, hF⟩
        · refine dro_t hb7 ?_
          iterate 3 (refine dro_t hb7 ?_)
          iterate 3 (refine dru ?_)
          refine dro_t hb7 ?_
          refine drpt hb7 ?_
          refine drm ?_
          iterate 3 (refine dro_t rfl ?_)
          refine drpt rfl ?_
          refine drm ?_
          iterate 3 (refine dro_t rfl ?_)
          refine drpt rfl ?_
          refine drm ?_
          iterate 4 (refine dro_t rfl ?_)
          iterate 4 (refine dru ?_)
          refine dro_t rfl ?_
          refine drpt rfl ?_
          refine dr_nil Tryd_mixed rfl (by kernel_rfl) ?_
          refine post_imp (s' := ⟨113, [(1, some (.lp 0 0)), (62, some (.pv (.bool true)))], [(0, some (.box 45 (bxv (eGExpr a0))))], 1, [], [], 0, []⟩) (imps [0] ⟨by kernel_rfl, by kernel_rfl, trivial⟩ ⟨by kernel_rfl, trivial⟩) ?_
          cases hF
          exact post_cut _ rfl (imps [0] ⟨by kernel_rfl, by kernel_rfl, trivial⟩ ⟨by kernel_rfl, trivial⟩)
        refine dr_cons { need := [(32, .pv (.bool (a0.fNum != 0))), (1, .lp 0 0)], dst := some 33, val := some (.lp 0 0) } (fun m h => step_on (guard_on rfl rfl rfl h.1.1 hb7) (op_field_lp rfl h.1.2.1 Tryd_fld_45_0 rfl rfl) rfl) ⟨⟨rfl, rfl, trivial⟩, trivial, trivial⟩ ?_
        refine dr_cons { need := [(32, .pv (.bool (a0.fNum != 0))), (33, .lp 0 0)], hneed := [(0, .box 45 (bxv (eGExpr a0)))], dst := some 34, val := some (.pv (.int .i64 a0.fKind)) } (fun m h => step_on (guard_on rfl rfl rfl h.1.1 hb7) (op_load_lp (v := .pv (.int .i64 a0.fKind)) rfl h.1.2.1 h.2.1.1 rfl Tryd_one_3 rfl rfl) rfl) ⟨⟨rfl, rfl, trivial⟩, ⟨rfl, trivial⟩, trivial⟩ ?_
        refine dr_cons { need := [(32, .pv (.bool (a0.fNum != 0))), (34, .pv (.int .i64 a0.fKind))], dst := some 35, val := some (.pv (.bool (a0.fKind != 2))) } (fun m h => step_on (guard_on rfl rfl rfl h.1.1 hb7) (op_int (k := .i64) (m := a0.fKind) (n := 2) rfl h.1.2.1 rfl rfl rfl rfl) rfl) ⟨⟨rfl, rfl, trivial⟩, trivial, trivial⟩ ?_
        refine dr_cons { need := [(32, .pv (.bool (a0.fNum != 0))), (35, .pv (.bool (a0.fKind != 2)))], dst := some 36, val := some (.pv (.bool (a0.fKind != 2))) } (fun m h => step_on (guard_on rfl rfl rfl h.1.1 hb7) (op_move rfl h.1.2.1 rfl rfl) rfl) ⟨⟨rfl, rfl, trivial⟩, trivial, trivial⟩ ?_
        rcases ite_some hF with ⟨hb8, hF⟩ | ⟨hb8, hF⟩
        · refine dr_cons { need := [(36, .pv (.bool (a0.fKind != 2))), (1, .lp 0 0)], dst := some 37, val := some (.lp 0 2) } (fun m h => step_on (guard_on rfl rfl rfl h.1.1 hb8) (op_field_lp rfl h.1.2.1 Tryd_fld_45_2 rfl rfl) rfl) ⟨⟨rfl, rfl, trivial⟩, trivial, trivial⟩ ?_
          refine dr_cons (ref06_form_e127 a0) (fun m h => step_on (guard_on rfl rfl rfl h.1.1 hb8) (op_load_lp (v := .pv (.str a0.fName)) rfl h.1.2.1 h.2.1.1 rfl Tryd_one_9 rfl rfl) rfl) ⟨⟨rfl, rfl, trivial⟩, ⟨rfl, trivial⟩, trivial⟩ ?_
          refine dr_cons (ref06_form_e128 a0) (fun m h => step_on (guard_on rfl rfl rfl h.1.1 hb8) (op_str rfl h.1.2.1 rfl rfl rfl rfl) rfl) ⟨⟨rfl, rfl, trivial⟩, trivial, trivial⟩ ?_
          refine dr_cons { need := [(32, .pv (.bool (a0.fNum != 0))), (36, .pv (.bool (a0.fKind != 2))), (39, .pv (.bool (!(a0.fName == []))))], dst := some 40, val := some (.pv (.bool (!(a0.fName == [])))) } (fun m h => step_on (guard_on rfl rfl rfl h.1.1 hb7) (op_pick_t rfl h.1.2.1 hb8 h.1.2.2.1 rfl rfl) rfl) ⟨⟨rfl, rfl, rfl, trivial⟩, trivial, trivial⟩ ?_
          refine dr_cons { need := [(32, .pv (.bool (a0.fNum != 0))), (40, .pv (.bool (!(a0.fName == []))))], dst := some 41, val := some (.pv (.bool (!(a0.fName == [])))) } (fun m h => step_on (guard_no rfl) (op_pick_f rfl h.1.1 hb7 h.1.2.1 rfl rfl) rfl) ⟨⟨rfl, rfl, trivial⟩, trivial, trivial⟩ ?_
          refine drm ?_
          rcases ite_some hF with ⟨hb9, hF⟩ | ⟨hb9, hF⟩
          · refine dro_t hb9 ?_
            iterate 2 (refine dro_t hb9 ?_)
            refine drpt hb9 ?_
            refine drm ?_
            iterate 3 (refine dro_t rfl ?_)
            refine drpt rfl ?_
            refine drm ?_
            iterate 4 (refine dro_t rfl ?_)
            iterate 4 (refine dru ?_)
            refine dro_t rfl ?_
            refine drpt rfl ?_
            refine dr_nil Tryd_mixed rfl (by kernel_rfl) ?_
            refine post_imp (s' := ⟨113, [(1, some (.lp 0 0)), (62, some (.pv (.bool true)))], [(0, some (.box 45 (bxv (eGExpr a0))))], 1, [], [], 0, []⟩) (imps [0] ⟨by kernel_rfl, by kernel_rfl, trivial⟩ ⟨by kernel_rfl, trivial⟩) ?_
            cases hF
            exact post_cut _ rfl (imps [0] ⟨by kernel_rfl, by kernel_rfl, trivial⟩ ⟨by kernel_rfl, trivial⟩)
          refine dr_cons { need := [(42, .pv (.bool (!(a0.fName == [])))), (1, .lp 0 0)], dst := some 43, val := some (.lp 0 1) } (fun m h => step_on (guard_on rfl rfl rfl h.1.1 hb9) (op_field_lp rfl h.1.2.1 Tryd_fld_45_1 rfl rfl) rfl) ⟨⟨rfl, rfl, trivial⟩, trivial, trivial⟩ ?_
          refine dr_cons (ref06_form_e132 a0) (fun m h => step_on (guard_on rfl rfl rfl h.1.1 hb9) (op_load_lp (v := .pv (.int .i64 a0.fNum)) rfl h.1.2.1 h.2.1.1 rfl Tryd_one_3 rfl rfl) rfl) ⟨⟨rfl, rfl, trivial⟩, ⟨rfl, trivial⟩, trivial⟩ ?_
          refine dr_cons (ref06_form_e133 a0) (fun m h => step_on (guard_on rfl rfl rfl h.1.1 hb9) (op_int (k := .i64) (m := a0.fNum) (n := 0) rfl h.1.2.1 rfl rfl rfl rfl) rfl) ⟨⟨rfl, rfl, trivial⟩, trivial, trivial⟩ ?_
          refine dr_cons (ref06_form_e134 a0) (fun m h => step_on (guard_no rfl) (op_pick_f rfl h.1.1 hb9 h.1.2.1 rfl rfl) rfl) ⟨⟨rfl, rfl, trivial⟩, trivial, trivial⟩ ?_
          refine drm ?_
          rcases ite_some hF with ⟨hb10, hF⟩ | ⟨hb10, hF⟩
          · refine dro_t hb10 ?_
            iterate 2 (refine dro_t hb10 ?_)
            refine drpt hb10 ?_
            refine drm ?_
            iterate 4 (refine dro_t rfl ?_)
            iterate 4 (refine dru ?_)
            refine dro_t rfl ?_
            refine drpt rfl ?_
            refine dr_nil Tryd_mixed rfl (by kernel_rfl) ?_
            refine post_imp (s' := ⟨113, [(1, some (.lp 0 0)), (62, some (.pv (.bool true)))], [(0, some (.box 45 (bxv (eGExpr a0))))], 1, [], [], 0, []⟩) (imps [0] ⟨by kernel_rfl, by kernel_rfl, trivial⟩ ⟨by kernel_rfl, trivial⟩) ?_
            cases hF
            exact post_cut _ rfl (imps [0] ⟨by kernel_rfl, by kernel_rfl, trivial⟩ ⟨by kernel_rfl, trivial⟩)
          refine dr_cons (ref06_form_e135 a0) (fun m h => step_on (guard_on rfl rfl rfl h.1.1 hb10) (op_field_lp rfl h.1.2.1 Tryd_fld_45_1 rfl rfl) rfl) ⟨⟨rfl, rfl, trivial⟩, trivial, trivial⟩ ?_
          refine dr_cons (ref06_form_e136 a0) (fun m h => step_on (guard_on rfl rfl rfl h.1.1 hb10) (op_load_lp (v := .pv (.int .i64 a0.fNum)) rfl h.1.2.1 h.2.1.1 rfl Tryd_one_3 rfl rfl) rfl) ⟨⟨rfl, rfl, trivial⟩, ⟨rfl, trivial⟩, trivial⟩ ?_
          refine dr_cons (ref06_form_e137 a0) (fun m h => step_on (guard_on rfl rfl rfl h.1.1 hb10) (op_int (k := .i64) (m := a0.fNum) (n := 999999999) rfl h.1.2.1 rfl rfl rfl rfl) rfl) ⟨⟨rfl, rfl, trivial⟩, trivial, trivial⟩ ?_
          refine dr_cons (ref06_form_e138 a0) (fun m h => step_on (guard_no rfl) (op_pick_f rfl h.1.1 hb10 h.1.2.1 rfl rfl) rfl) ⟨⟨rfl, rfl, trivial⟩, trivial, trivial⟩ ?_
          refine drm ?_
          rcases ite_some hF with ⟨hb11, hF⟩ | ⟨hb11, hF⟩
          · refine dro_t hb11 ?_
            iterate 3 (refine dro_t hb11 ?_)
            iterate 4 (refine dru ?_)
            refine dro_t hb11 ?_
            refine drpt hb11 ?_
            refine dr_nil Tryd_mixed rfl (by kernel_rfl) ?_
            refine post_imp (s' := ⟨113, [(1, some (.lp 0 0)), (62, some (.pv (.bool true)))], [(0, some (.box 45 (bxv (eGExpr a0))))], 1, [], [], 0, []⟩) (imps [0] ⟨by kernel_rfl, by kernel_rfl, trivial⟩ ⟨by kernel_rfl, trivial⟩) ?_
            cases hF
            exact post_cut _ rfl (imps [0] ⟨by kernel_rfl, by kernel_rfl, trivial⟩ ⟨by kernel_rfl, trivial⟩)
          refine dr_cons (ref06_form_e139 a0) (fun m h => step_on (guard_on rfl rfl rfl h.1.1 hb11) (op_field_lp rfl h.1.2.1 Tryd_fld_45_0 rfl rfl) rfl) ⟨⟨rfl, rfl, trivial⟩, trivial, trivial⟩ ?_
          refine dr_cons (ref06_form_e140 a0) (fun m h => step_on (guard_on rfl rfl rfl h.1.1 hb11) (op_load_lp (v := .pv (.int .i64 a0.fKind)) rfl h.1.2.1 h.2.1.1 rfl Tryd_one_3 rfl rfl) rfl) ⟨⟨rfl, rfl, trivial⟩, ⟨rfl, trivial⟩, trivial⟩ ?_
          refine dr_cons (ref06_form_e141 a0) (fun m h => step_on (guard_on rfl rfl rfl h.1.1 hb11) (op_int (k := .i64) (m := a0.fKind) (n := 2) rfl h.1.2.1 rfl rfl rfl rfl) rfl) ⟨⟨rfl, rfl, trivial⟩, trivial, trivial⟩ ?_
          refine dr_cons (ref06_form_e142 a0) (fun m h => step_on (guard_on rfl rfl rfl h.1.1 hb11) (op_move rfl h.1.2.1 rfl rfl) rfl) ⟨⟨rfl, rfl, trivial⟩, trivial, trivial⟩ ?_
          rcases ite_some hF with ⟨hb12, hF⟩ | ⟨hb12, hF⟩
          · refine dr_cons (ref06_form_e143 a0) (fun m h => step_on (guard_on rfl rfl rfl h.1.1 hb12) (op_field_lp rfl h.1.2.1 Tryd_fld_45_2 rfl rfl) rfl) ⟨⟨rfl, rfl, trivial⟩, trivial, trivial⟩ ?_
            refine dr_cons (ref06_form_e144 a0) (fun m h => step_on (guard_on rfl rfl rfl h.1.1 hb12) (op_load_lp (v := .pv (.str a0.fName)) rfl h.1.2.1 h.2.1.1 rfl Tryd_one_9 rfl rfl) rfl) ⟨⟨rfl, rfl, trivial⟩, ⟨rfl, trivial⟩, trivial⟩ ?_
            obtain ⟨y13, h14, hF⟩ := bind_some hF
            refine dr_cons { need := [(56, .pv (.bool (a0.fKind == 2))), (58, .pv (.str a0.fName))], dst := some 59, val := some (.pv (.bool y13)) } (fun m h => step_on (guard_on rfl rfl rfl h.1.1 hb12) (op_call 1 rfl (caps := []) (args := [.str a0.fName]) (rs := [.p (.bool y13)]) rfl rfl (evl_cons h.1.2.1 evl_nil) Tryd_cal_16 (ref02_Name_ok h14) rfl rfl rfl) rfl) ⟨⟨rfl, rfl, trivial⟩, trivial, trivial⟩ ?_
            refine dr_cons { need := [(56, .pv (.bool (a0.fKind == 2))), (59, .pv (.bool y13))], dst := some 60, val := some (.pv (.bool (!y13))) } (fun m h => step_on (guard_on rfl rfl rfl h.1.1 hb12) (op_not rfl h.1.2.1 rfl rfl) rfl) ⟨⟨rfl, rfl, trivial⟩, trivial, trivial⟩ ?_
            refine dr_cons { need := [(52, .pv (.bool (decide (a0.fNum > 999999999)))), (56, .pv (.bool (a0.fKind == 2))), (60, .pv (.bool (!y13)))], dst := some 61, val := some (.pv (.bool (!y13))) } (fun m h => step_on (guard_on rfl rfl rfl h.1.1 hb11) (op_pick_t rfl h.1.2.1 hb12 h.1.2.2.1 rfl rfl) rfl) ⟨⟨rfl, rfl, rfl, trivial⟩, trivial, trivial⟩ ?_
            refine dr_cons { need := [(52, .pv (.bool (decide (a0.fNum > 999999999)))), (61, .pv (.bool (!y13)))], dst := some 62, val := some (.pv (.bool (!y13))) } (fun m h => step_on (guard_no rfl) (op_pick_f rfl h.1.1 hb11 h.1.2.1 rfl rfl) rfl) ⟨⟨rfl, rfl, trivial⟩, trivial, trivial⟩ ?_
            refine dr_nil Tryd_mixed rfl (by kernel_rfl) ?_
            refine post_imp (s' := ⟨113, [(1, some (.lp 0 0)), (62, some (.pv (.bool (!y13))))], [(0, some (.box 45 (bxv (eGExpr a0))))], 1, [], [], 0, []⟩) (imps [0] ⟨by kernel_rfl, by kernel_rfl, trivial⟩ ⟨by kernel_rfl, trivial⟩) ?_
            cases hF
            exact post_cut _ rfl (imps [0] ⟨by kernel_rfl, by kernel_rfl, trivial⟩ ⟨by kernel_rfl, trivial⟩)
          iterate 4 (refine dro_f hb12 ?_)
          refine dr_cons (ref06_form_e149 a0) (fun m h => step_on (guard_on rfl rfl rfl h.1.1 hb11) (op_pick_f rfl h.1.2.1 hb12 rfl rfl rfl) rfl) ⟨⟨rfl, rfl, trivial⟩, trivial, trivial⟩ ?_
          refine dr_cons (ref06_form_e150 a0) (fun m h => step_on (guard_no rfl) (op_pick_f rfl h.1.1 hb11 h.1.2.1 rfl rfl) rfl) ⟨⟨rfl, rfl, trivial⟩, trivial, trivial⟩ ?_
          refine dr_nil Tryd_mixed rfl (by kernel_rfl) ?_
          refine post_imp (s' := ⟨113, [(1, some (.lp 0 0)), (62, some (.pv (.bool false)))], [(0, some (.box 45 (bxv (eGExpr a0))))], 1, [], [], 0, []⟩) (imps [0] ⟨by kernel_rfl, by kernel_rfl, trivial⟩ ⟨by kernel_rfl, trivial⟩) ?_
          cases hF
          exact post_cut _ rfl (imps [0] ⟨by kernel_rfl, by kernel_rfl, trivial⟩ ⟨by kernel_rfl, trivial⟩)
        iterate 3 (refine dro_f hb8 ?_)
        refine dr_cons { need := [(32, .pv (.bool (a0.fNum != 0))), (36, .pv (.bool (a0.fKind != 2)))], dst := some 40, val := some (.pv (.bool false)) } (fun m h => step_on (guard_on rfl rfl rfl h.1.1 hb7) (op_pick_f rfl h.1.2.1 hb8 rfl rfl rfl) rfl) ⟨⟨rfl, rfl, trivial⟩, trivial, trivial⟩ ?_
        refine dr_cons { need := [(32, .pv (.bool (a0.fNum != 0))), (40, .pv (.bool false))], dst := some 41, val := some (.pv (.bool false)) } (fun m h => step_on (guard_no rfl) (op_pick_f rfl h.1.1 hb7 h.1.2.1 rfl rfl) rfl) ⟨⟨rfl, rfl, trivial⟩, trivial, trivial⟩ ?_
        refine drm ?_
        refine dr_cons { need := [(42, .pv (.bool false)), (1, .lp 0 0)], dst := some 43, val := some (.lp 0 1) } (fun m h => step_on (guard_on rfl rfl rfl h.1.1 rfl) (op_field_lp rfl h.1.2.1 Tryd_fld_45_1 rfl rfl) rfl) ⟨⟨rfl, rfl, trivial⟩, trivial, trivial⟩ ?_
        refine dr_cons (ref06_form_e154 a0) (fun m h => step_on (guard_on rfl rfl rfl h.1.1 rfl) (op_load_lp (v := .pv (.int .i64 a0.fNum)) rfl h.1.2.1 h.2.1.1 rfl Tryd_one_3 rfl rfl) rfl) ⟨⟨rfl, rfl, trivial⟩, ⟨rfl, trivial⟩, trivial⟩ ?_
        refine dr_cons (ref06_form_e155 a0) (fun m h => step_on (guard_on rfl rfl rfl h.1.1 rfl) (op_int (k := .i64) (m := a0.fNum) (n := 0) rfl h.1.2.1 rfl rfl rfl rfl) rfl) ⟨⟨rfl, rfl, trivial⟩, trivial, trivial⟩ ?_
        refine dr_cons (ref06_form_e156 a0) (fun m h => step_on (guard_no rfl) (op_pick_f rfl h.1.1 rfl h.1.2.1 rfl rfl) rfl) ⟨⟨rfl, rfl, trivial⟩, trivial, trivial⟩ ?_
        refine drm ?_
        rcases ite_some hF with ⟨hb15, hF⟩ | ⟨hb15, hF⟩
        · refine dro_t hb15 ?_
          iterate 2 (refine dro_t hb15 ?_)
          refine drpt hb15 ?_
          refine drm ?_
          iterate 4 (refine dro_t rfl ?_)
          iterate 4 (refine dru ?_)
          refine dro_t rfl ?_
          refine drpt rfl ?_
          refine dr_nil Tryd_mixed rfl (by kernel_rfl) ?_
          refine post_imp (s' := ⟨113, [(1, some (.lp 0 0)), (62, some (.pv (.bool true)))], [(0, some (.box 45 (bxv (eGExpr a0))))], 1, [], [], 0, []⟩) (imps [0] ⟨by kernel_rfl, by kernel_rfl, trivial⟩ ⟨by kernel_rfl, trivial⟩) ?_
          cases hF
          exact post_cut _ rfl (imps [0] ⟨by kernel_rfl, by kernel_rfl, trivial⟩ ⟨by kernel_rfl, trivial⟩)
        refine dr_cons (ref06_form_e135 a0) (fun m h => step_on (guard_on rfl rfl rfl h.1.1 hb15) (op_field_lp rfl h.1.2.1 Tryd_fld_45_1 rfl rfl) rfl) ⟨⟨rfl, rfl, trivial⟩, trivial, trivial⟩ ?_
        refine dr_cons (ref06_form_e136 a0) (fun m h => step_on (guard_on rfl rfl rfl h.1.1 hb15) (op_load_lp (v := .pv (.int .i64 a0.fNum)) rfl h.1.2.1 h.2.1.1 rfl Tryd_one_3 rfl rfl) rfl) ⟨⟨rfl, rfl, trivial⟩, ⟨rfl, trivial⟩, trivial⟩ ?_
        refine dr_cons (ref06_form_e137 a0) (fun m h => step_on (guard_on rfl rfl rfl h.1.1 hb15) (op_int (k := .i64) (m := a0.fNum) (n := 999999999) rfl h.1.2.1 rfl rfl rfl rfl) rfl) ⟨⟨rfl, rfl, trivial⟩, trivial, trivial⟩ ?_
        refine dr_cons (ref06_form_e138 a0) (fun m h => step_on (guard_no rfl) (op_pick_f rfl h.1.1 hb15 h.1.2.1 rfl rfl) rfl) ⟨⟨rfl, rfl, trivial⟩, trivial, trivial⟩ ?_
        refine drm ?_
        rcases ite_some hF with ⟨hb16, hF⟩ | ⟨hb16, hF⟩
        · refine dro_t hb16 ?_
          iterate 3 (refine dro_t hb16 ?_)
          iterate 4 (refine dru ?_)
          refine dro_t hb16 ?_
          refine drpt hb16 ?_
          refine dr_nil Tryd_mixed rfl (by kernel_rfl) ?_
          refine post_imp (s' := ⟨113, [(1, some (.lp 0 0)), (62, some (.pv (.bool true)))], [(0, some (.box 45 (bxv (eGExpr a0))))], 1, [], [], 0, []⟩) (imps [0] ⟨by kernel_rfl, by kernel_rfl, trivial⟩ ⟨by kernel_rfl, trivial⟩) ?_
          cases hF
          exact post_cut _ rfl (imps [0] ⟨by kernel_rfl, by kernel_rfl, trivial⟩ ⟨by kernel_rfl, trivial⟩)
        refine dr_cons (ref06_form_e139 a0) (fun m h => step_on (guard_on rfl rfl rfl h.1.1 hb16) (op_field_lp rfl h.1.2.1 Tryd_fld_45_0 rfl rfl) rfl) ⟨⟨rfl, rfl, trivial⟩, trivial, trivial⟩ ?_
        refine dr_cons (ref06_form_e140 a0) (fun m h => step_on (guard_on rfl rfl rfl h.1.1 hb16) (op_load_lp (v := .pv (.int .i64 a0.fKind)) rfl h.1.2.1 h.2.1.1 rfl Tryd_one_3 rfl rfl) rfl) ⟨⟨rfl, rfl, trivial⟩, ⟨rfl, trivial⟩, trivial⟩ ?_
        refine dr_cons (ref06_form_e141 a0) (fun m h => step_on (guard_on rfl rfl rfl h.1.1 hb16) (op_int (k := .i64) (m := a0.fKind) (n := 2) rfl h.1.2.1 rfl rfl rfl rfl) rfl) ⟨⟨rfl, rfl, trivial⟩, trivial, trivial⟩ ?_
        refine dr_cons (ref06_form_e142 a0) (fun m h => step_on (guard_on rfl rfl rfl h.1.1 hb16) (op_move rfl h.1.2.1 rfl rfl) rfl) ⟨⟨rfl, rfl, trivial⟩, trivial, trivial⟩ ?_
        rcases ite_some hF with ⟨hb17, hF⟩ | ⟨hb17, hF⟩
        · refine dr_cons (ref06_form_e143 a0) (fun m h => step_on (guard_on rfl rfl rfl h.1.1 hb17) (op_field_lp rfl h.1.2.1 Tryd_fld_45_2 rfl rfl) rfl) ⟨⟨rfl, rfl, trivial⟩, trivial, trivial⟩ ?_
          refine dr_cons (ref06_form_e144 a0) (fun m h => step_on (guard_on rfl rfl rfl h.1.1 hb17) (op_load_lp (v := .pv (.str a0.fName)) rfl h.1.2.1 h.2.1.1 rfl Tryd_one_9 rfl rfl) rfl) ⟨⟨rfl, rfl, trivial⟩, ⟨rfl, trivial⟩, trivial⟩ ?_
          obtain ⟨y18, h19, hF⟩ := bind_some hF
          refine dr_cons { need := [(56, .pv (.bool (a0.fKind == 2))), (58, .pv (.str a0.fName))], dst := some 59, val := some (.pv (.bool y18)) } (fun m h => step_on (guard_on rfl rfl rfl h.1.1 hb17) (op_call 1 rfl (caps := []) (args := [.str a0.fName]) (rs := [.p (.bool y18)]) rfl rfl (evl_cons h.1.2.1 evl_nil) Tryd_cal_16 (ref02_Name_ok h19) rfl rfl rfl) rfl) ⟨⟨rfl, rfl, trivial⟩, trivial, trivial⟩ ?_
          refine dr_cons { need := [(56, .pv (.bool (a0.fKind == 2))), (59, .pv (.bool y18))], dst := some 60, val := some (.pv (.bool (!y18))) } (fun m h => step_on (guard_on rfl rfl rfl h.1.1 hb17) (op_not rfl h.1.2.1 rfl rfl) rfl) ⟨⟨rfl, rfl, trivial⟩, trivial, trivial⟩ ?_
          refine dr_cons { need := [(52, .pv (.bool (decide (a0.fNum > 999999999)))), (56, .pv (.bool (a0.fKind == 2))), (60, .pv (.bool (!y18)))], dst := some 61, val := some (.pv (.bool (!y18))) } (fun m h => step_on (guard_on rfl rfl rfl h.1.1 hb16) (op_pick_t rfl h.1.2.1 hb17 h.1.2.2.1 rfl rfl) rfl) ⟨⟨rfl, rfl, rfl, trivial⟩, trivial, trivial⟩ ?_
          refine dr_cons { need := [(52, .pv (.bool (decide (a0.fNum > 999999999)))), (61, .pv (.bool (!y18)))], dst := some 62, val := some (.pv (.bool (!y18))) } (fun m h => step_on (guard_no rfl) (op_pick_f rfl h.1.1 hb16 h.1.2.1 rfl rfl) rfl) ⟨⟨rfl, rfl, trivial⟩, trivial, trivial⟩ ?_
          refine dr_nil Tryd_mixed rfl (by kernel_rfl) ?_
          refine post_imp (s' := ⟨113, [(1, some (.lp 0 0)), (62, some (.pv (.bool (!y18))))], [(0, some (.box 45 (bxv (eGExpr a0))))], 1, [], [], 0, []⟩) (imps [0] ⟨by kernel_rfl, by kernel_rfl, trivial⟩ ⟨by kernel_rfl, trivial⟩) ?_
          cases hF
          exact post_cut _ rfl (imps [0] ⟨by kernel_rfl, by kernel_rfl, trivial⟩ ⟨by kernel_rfl, trivial⟩)
        iterate 4 (refine dro_f hb17 ?_)
        refine dr_cons (ref06_form_e149 a0) (fun m h => step_on (guard_on rfl rfl rfl h.1.1 hb16) (op_pick_f rfl h.1.2.1 hb17 rfl rfl rfl) rfl) ⟨⟨rfl, rfl, trivial⟩, trivial, trivial⟩ ?_
        refine dr_cons (ref06_form_e150 a0) (fun m h => step_on (guard_no rfl) (op_pick_f rfl h.1.1 hb16 h.1.2.1 rfl rfl) rfl) ⟨⟨rfl, rfl, trivial⟩, trivial, trivial⟩ ?_
        refine dr_nil Tryd_mixed rfl (by kernel_rfl) ?_
        refine post_imp (s' := ⟨113, [(1, some (.lp 0 0)), (62, some (.pv (.bool false)))], [(0, some (.box 45 (bxv (eGExpr a0))))], 1, [], [], 0, []⟩) (imps [0] ⟨by kernel_rfl, by kernel_rfl, trivial⟩ ⟨by kernel_rfl, trivial⟩) ?_
        cases hF
        exact post_cut _ rfl (imps [0] ⟨by kernel_rfl, by kernel_rfl, trivial⟩ ⟨by kernel_rfl, trivial⟩)
      iterate 3 (refine dro_f hb6 ?_)
      refine dr_cons { need := [(22, .pv (.bool ((a0.fKids.length : Int) != y3))), (26, .pv (.bool (a0.fKind != 1)))], dst := some 30, val := some (.pv (.bool false)) } (fun m h => step_on (guard_on rfl rfl rfl h.1.1 hb5) (op_pick_f rfl h.1.2.1 hb6 rfl rfl rfl) rfl) ⟨⟨rfl, rfl, trivial⟩, trivial, trivial⟩ ?_
      refine dr_cons { need := [(22, .pv (.bool ((a0.fKids.length : Int) != y3))), (30, .pv (.bool false))], dst := some 31, val := some (.pv (.bool false)) } (fun m h => step_on (guard_no rfl) (op_pick_f rfl h.1.1 hb5 h.1.2.1 rfl rfl) rfl) ⟨⟨rfl, rfl, trivial⟩, trivial, trivial⟩ ?_
      refine drm ?_
      refine dr_cons { need := [(32, .pv (.bool false)), (1, .lp 0 0)], dst := some 33, val := some (.lp 0 0) } (fun m h => step_on (guard_on rfl rfl rfl h.1.1 rfl) (op_field_lp rfl h.1.2.1 Tryd_fld_45_0 rfl rfl) rfl) ⟨⟨rfl, rfl, trivial⟩, trivial, trivial⟩ ?_
      refine dr_cons { need := [(32, .pv (.bool false)), (33, .lp 0 0)], hneed := [(0, .box 45 (bxv (eGExpr a0)))], dst := some 34, val := some (.pv (.int .i64 a0.fKind)) } (fun m h => step_on (guard_on rfl rfl rfl h.1.1 rfl) (op_load_lp (v := .pv (.int .i64 a0.fKind)) rfl h.1.2.1 h.2.1.1 rfl Tryd_one_3 rfl rfl) rfl) ⟨⟨rfl, rfl, trivial⟩, ⟨rfl, trivial⟩, trivial⟩ ?_
      refine dr_cons { need := [(32, .pv (.bool false)), (34, .pv (.int .i64 a0.fKind))], dst := some 35, val := some (.pv (.bool (a0.fKind != 2))) } (fun m h => step_on (guard_on rfl rfl rfl h.1.1 rfl) (op_int (k := .i64) (m := a0.fKind) (n := 2) rfl h.1.2.1 rfl rfl rfl rfl) rfl) ⟨⟨rfl, rfl, trivial⟩, trivial, trivial⟩ ?_
      refine dr_cons { need := [(32, .pv (.bool false)), (35, .pv (.bool (a0.fKind != 2)))], dst := some 36, val := some (.pv (.bool (a0.fKind != 2))) } (fun m h => step_on (guard_on rfl rfl rfl h.1.1 rfl) (op_move rfl h.1.2.1 rfl rfl) rfl) ⟨⟨rfl, rfl, trivial⟩, trivial, trivial⟩ ?_
      rcases ite_some hF with ⟨hb20, hF⟩ | ⟨hb20, hF⟩
      · refine dr_cons { need := [(36, .pv (.bool (a0.fKind != 2))), (1, .lp 0 0)], dst := some 37, val := some (.lp 0 2) } (fun m h => step_on (guard_on rfl rfl rfl h.1.1 hb20) (op_field_lp rfl h.1.2.1 Tryd_fld_45_2 rfl rfl) rfl) ⟨⟨rfl, rfl, trivial⟩, trivial, trivial⟩ ?_
        refine dr_cons (ref06_form_e127 a0) (fun m h => step_on (guard_on rfl rfl rfl h.1.1 hb20) (op_load_lp (v := .pv (.str a0.fName)) rfl h.1.2.1 h.2.1.1 rfl Tryd_one_9 rfl rfl) rfl) ⟨⟨rfl, rfl, trivial⟩, ⟨rfl, trivial⟩, trivial⟩ ?_
        refine dr_cons (ref06_form_e128 a0) (fun m h => step_on (guard_on rfl rfl rfl h.1.1 hb20) (op_str rfl h.1.2.1 rfl rfl rfl rfl) rfl) ⟨⟨rfl, rfl, trivial⟩, trivial, trivial⟩ ?_
        refine dr_cons { need := [(32, .pv (.bool false)), (36, .pv (.bool (a0.fKind != 2))), (39, .pv (.bool (!(a0.fName == []))))], dst := some 40, val := some (.pv (.bool (!(a0.fName == [])))) } (fun m h => step_on (guard_on rfl rfl rfl h.1.1 rfl) (op_pick_t rfl h.1.2.1 hb20 h.1.2.2.1 rfl rfl) rfl) ⟨⟨rfl, rfl, rfl, trivial⟩, trivial, trivial⟩ ?_
        refine dr_cons { need := [(32, .pv (.bool false)), (40, .pv (.bool (!(a0.fName == []))))], dst := some 41, val := some (.pv (.bool (!(a0.fName == [])))) } (fun m h => step_on (guard_no rfl) (op_pick_f rfl h.1.1 rfl h.1.2.1 rfl rfl) rfl) ⟨⟨rfl, rfl, trivial⟩, trivial, trivial⟩ ?_
        refine drm ?_
        rcases ite_some hF with ⟨hb21, hF⟩ | ⟨hb21, hF⟩
        · refine dro_t hb21 ?_
          iterate 2 (refine dro_t hb21 ?_)
          refine drpt hb21 ?_
          refine drm ?_
          iterate 3 (refine dro_t rfl ?_)
          refine drpt rfl ?_
          refine drm ?_
          iterate 4 (refine dro_t rfl ?_)
          iterate 4 (refine dru ?_)
          refine dro_t rfl ?_
          refine drpt rfl ?_
          refine dr_nil Tryd_mixed rfl (by kernel_rfl) ?_
          refine post_imp (s' := ⟨113, [(1, some (.lp 0 0)), (62, some (.pv (.bool true)))], [(0, some (.box 45 (bxv (eGExpr a0))))], 1, [], [], 0, []⟩) (imps [0] ⟨by kernel_rfl, by kernel_rfl, trivial⟩ ⟨by kernel_rfl, trivial⟩) ?_
          cases hF
          exact post_cut _ rfl (imps [0] ⟨by kernel_rfl, by kernel_rfl, trivial⟩ ⟨by kernel_rfl, trivial⟩)
        refine dr_cons { need := [(42, .pv (.bool (!(a0.fName == [])))), (1, .lp 0 0)], dst := some 43, val := some (.lp 0 1) } (fun m h => step_on (guard_on rfl rfl rfl h.1.1 hb21) (op_field_lp rfl h.1.2.1 Tryd_fld_45_1 rfl rfl) rfl) ⟨⟨rfl, rfl, trivial⟩, trivial, trivial⟩ ?_
        refine dr_cons (ref06_form_e132 a0) (fun m h => step_on (guard_on rfl rfl rfl h.1.1 hb21) (op_load_lp (v := .pv (.int .i64 a0.fNum)) rfl h.1.2.1 h.2.1.1 rfl Tryd_one_3 rfl rfl) rfl) ⟨⟨rfl, rfl, trivial⟩, ⟨rfl, trivial⟩, trivial⟩ ?_
        refine dr_cons (ref06_form_e133 a0) (fun m h => step_on (guard_on rfl rfl rfl h.1.1 hb21) (op_int (k := .i64) (m := a0.fNum) (n := 0) rfl h.1.2.1 rfl rfl rfl rfl) rfl) ⟨⟨rfl, rfl, trivial⟩, trivial, trivial⟩ ?_
        refine dr_cons (ref06_form_e134 a0) (fun m h => step_on (guard_no rfl) (op_pick_f rfl h.1.1 hb21 h.1.2.1 rfl rfl) rfl) ⟨⟨rfl, rfl, trivial⟩, trivial, trivial⟩ ?_
        refine drm ?_
        rcases ite_some hF with ⟨hb22, hF⟩ | ⟨hb22, hF⟩
        · refine dro_t hb22 ?_
          iterate 2 (refine dro_t hb22 ?_)
          refine drpt hb22 ?_
          refine drm ?_
          iterate 4 (refine dro_t rfl ?_)
          iterate 4 (refine dru ?_)
          refine dro_t rfl ?_
          refine drpt rfl ?_
          refine dr_nil Tryd_mixed rfl (by kernel_rfl) ?_
          refine post_imp (s' := ⟨113, [(1, some (.lp 0 0)), (62, some (.pv (.bool true)))], [(0, some (.box 45 (bxv (eGExpr a0))))], 1, [], [], 0, []⟩) (imps [0] ⟨by kernel_rfl, by kernel_rfl, trivial⟩ ⟨by kernel_rfl, trivial⟩) ?_
          cases hF
          exact post_cut _ rfl (imps [0] ⟨by kernel_rfl, by kernel_rfl, trivial⟩ ⟨by kernel_rfl, trivial⟩)
        refine dr_cons (ref06_form_e135 a0) (fun m h => step_on (guard_on rfl rfl rfl h.1.1 hb22) (op_field_lp rfl h.1.2.1 Tryd_fld_45_1 rfl rfl) rfl) ⟨⟨rfl, rfl, trivial⟩, trivial, trivial⟩ ?_
        refine dr_cons (ref06_form_e136 a0) (fun m h => step_on (guard_on rfl rfl rfl h.1.1 hb22) (op_load_lp (v := .pv (.int .i64 a0.fNum)) rfl h.1.2.1 h.2.1.1 rfl Tryd_one_3 rfl rfl) rfl) ⟨⟨rfl, rfl, trivial⟩, ⟨rfl, trivial⟩, trivial⟩ ?_
        refine dr_cons (ref06_form_e137 a0) (fun m h => step_on (guard_on rfl rfl rfl h.1.1 hb22) (op_int (k := .i64) (m := a0.fNum) (n := 999999999) rfl h.1.2.1 rfl rfl rfl rfl) rfl) ⟨⟨rfl, rfl, trivial⟩, trivial, trivial⟩ ?_
        refine dr_cons (ref06_form_e138 a0) (fun m h => step_on (guard_no rfl) (op_pick_f rfl h.1.1 hb22 h.1.2.1 rfl rfl) rfl) ⟨⟨rfl, rfl, trivial⟩, trivial, trivial⟩ ?_
        refine drm ?_
        rcases ite_some hF with ⟨hb23, hF⟩ | ⟨hb23, hF⟩
        · refine dro_t hb23 ?_
          iterate 3 (refine dro_t hb23 ?_)
          iterate 4 (refine dru ?_)
          refine dro_t hb23 ?_
          refine drpt hb23 ?_
          refine dr_nil Tryd_mixed rfl (by kernel_rfl) ?_
          refine post_imp (s' := ⟨113, [(1, some (.lp 0 0)), (62, some (.pv (.bool true)))], [(0, some (.box 45 (bxv (eGExpr a0))))], 1, [], [], 0, []⟩) (imps [0] ⟨by kernel_rfl, by kernel_rfl, trivial⟩ ⟨by kernel_rfl, trivial⟩) ?_
          cases hF
          exact post_cut _ rfl (imps [0] ⟨by kernel_rfl, by kernel_rfl, trivial⟩ ⟨by kernel_rfl, trivial⟩)
        refine dr_cons (ref06_form_e139 a0) (fun m h => step_on (guard_on rfl rfl rfl h.1.1 hb23) (op_field_lp rfl h.1.2.1 Tryd_fld_45_0 rfl rfl) rfl) ⟨⟨rfl, rfl, trivial⟩, trivial, trivial⟩ ?_
        refine dr_cons (ref06_form_e140 a0) (fun m h => step_on (guard_on rfl rfl rfl h.1.1 hb23) (op_load_lp (v := .pv (.int .i64 a0.fKind)) rfl h.1.2.1 h.2.1.1 rfl Tryd_one_3 rfl rfl) rfl) ⟨⟨rfl, rfl, trivial⟩, ⟨rfl, trivial⟩, trivial⟩ ?_
        refine dr_cons (ref06_form_e141 a0) (fun m h => step_on (guard_on rfl rfl rfl h.1.1 hb23) (op_int (k := .i64) (m := a0.fKind) (n := 2) rfl h.1.2.1 rfl rfl rfl rfl) rfl) ⟨⟨rfl, rfl, trivial⟩, trivial, trivial⟩ ?_
        refine dr_cons (ref06_form_e142 a0) (fun m h => step_on (guard_on rfl rfl rfl h.1.1 hb23) (op_move rfl h.1.2.1 rfl rfl) rfl) ⟨⟨rfl, rfl, trivial⟩, trivial, trivial⟩ ?_
        rcases ite_some hF with ⟨hb24, hF⟩ | ⟨hb24, hF⟩
        · refine dr_cons (ref06_form_e143 a0) (fun m h => step_on (guard_on rfl rfl rfl h.1.1 hb24) (op_field_lp rfl h.1.2.1 Tryd_fld_45_2 rfl rfl) rfl) ⟨⟨rfl, rfl, trivial⟩, trivial, trivial⟩ ?_
          refine dr_cons (ref06_form_e144 a0) (fun m h => step_on (guard_on rfl rfl rfl h.1.1 hb24) (op_load_lp (v := .pv (.str a0.fName)) rfl h.1.2.1 h.2.1.1 rfl Tryd_one_9 rfl rfl) rfl) ⟨⟨rfl, rfl, trivial⟩, ⟨rfl, trivial⟩, trivial⟩ ?_
          obtain ⟨y25, h26, hF⟩ := bind_some hF
          refine dr_cons { need := [(56, .pv (.bool (a0.fKind == 2))), (58, .pv (.str a0.fName))], dst := some 59, val := some (.pv (.bool y25)) } (fun m h => step_on (guard_on rfl rfl rfl h.1.1 hb24) (op_call 1 rfl (caps := []) (args := [.str a0.fName]) (rs := [.p (.bool y25)]) rfl rfl (evl_cons h.1.2.1 evl_nil) Tryd_cal_16 (ref02_Name_ok h26) rfl rfl rfl) rfl) ⟨⟨rfl, rfl, trivial⟩, trivial, trivial⟩ ?_
          refine dr_cons { need := [(56, .pv (.bool (a0.fKind == 2))), (59, .pv (.bool y25))], dst := some 60, val := some (.pv (.bool (!y25))) } (fun m h => step_on (guard_on rfl rfl rfl h.1.1 hb24) (op_not rfl h.1.2.1 rfl rfl) rfl) ⟨⟨rfl, rfl, trivial⟩, trivial, trivial⟩ ?_
          refine dr_cons { need := [(52, .pv (.bool (decide (a0.fNum > 999999999)))), (56, .pv (.bool (a0.fKind == 2))), (60, .pv (.bool (!y25)))], dst := some 61, val := some (.pv (.bool (!y25))) } (fun m h => step_on (guard_on rfl rfl rfl h.1.1 hb23) (op_pick_t rfl h.1.2.1 hb24 h.1.2.2.1 rfl rfl) rfl) ⟨⟨rfl, rfl, rfl, trivial⟩, trivial, trivial⟩ ?_
          refine dr_cons { need := [(52, .pv (.bool (decide (a0.fNum > 999999999)))), (61, .pv (.bool (!y25)))], dst := some 62, val := some (.pv (.bool (!y25))) } (fun m h => step_on (guard_no rfl) (op_pick_f rfl h.1.1 hb23 h.1.2.1 rfl rfl) rfl) ⟨⟨rfl, rfl, trivial⟩, trivial, trivial⟩ ?_
          refine dr_nil Tryd_mixed rfl (by kernel_rfl) ?_
          refine post_imp (s' := ⟨113, [(1, some (.lp 0 0)), (62, some (.pv (.bool (!y25))))], [(0, some (.box 45 (bxv (eGExpr a0))))], 1, [], [], 0, []⟩) (imps [0] ⟨by kernel_rfl, by kernel_rfl, trivial⟩ ⟨by kernel_rfl, trivial⟩) ?_
          cases hF
          exact post_cut _ rfl (imps [0] ⟨by kernel_rfl, by kernel_rfl, trivial⟩ ⟨by kernel_rfl, trivial⟩)
        iterate 4 (refine dro_f hb24 ?_)
        refine dr_cons (ref06_form_e149 a0) (fun m h => step_on (guard_on rfl rfl rfl h.1.1 hb23) (op_pick_f rfl h.1.2.1 hb24 rfl rfl rfl) rfl) ⟨⟨rfl, rfl, trivial⟩, trivial, trivial⟩ ?_
        refine dr_cons (ref06_form_e150 a0) (fun m h => step_on (guard_no rfl) (op_pick_f rfl h.1.1 hb23 h.1.2.1 rfl rfl) rfl) ⟨⟨rfl, rfl, trivial⟩, trivial, trivial⟩ ?_
        refine dr_nil Tryd_mixed rfl (by kernel_rfl) ?_
        refine post_imp (s' := ⟨113, [(1, some (.lp 0 0)), (62, some (.pv (.bool false)))], [(0, some (.box 45 (bxv (eGExpr a0))))], 1, [], [], 0, []⟩) (imps [0] ⟨by kernel_rfl, by kernel_rfl, trivial⟩ ⟨by kernel_rfl, trivial⟩) ?_
        cases hF
        exact post_cut _ rfl (imps [0] ⟨by kernel_rfl, by kernel_rfl, trivial⟩ ⟨by kernel_rfl, trivial⟩)
      iterate 3 (refine dro_f hb20 ?_)
      refine dr_cons { need := [(32, .pv (.bool false)), (36, .pv (.bool (a0.fKind != 2)))], dst := some 40, val := some (.pv (.bool false)) } (fun m h => step_on (guard_on rfl rfl rfl h.1.1 rfl) (op_pick_f rfl h.1.2.1 hb20 rfl rfl rfl) rfl) ⟨⟨rfl, rfl, trivial⟩, trivial, trivial⟩ ?_
      refine dr_cons { need := [(32, .pv (.bool false)), (40, .pv (.bool false))], dst := some 41, val := some (.pv (.bool false)) } (fun m h => step_on (guard_no rfl) (op_pick_f rfl h.1.1 rfl h.1.2.1 rfl rfl) rfl) ⟨⟨rfl, rfl, trivial⟩, trivial, trivial⟩ ?_
      refine drm ?_
      refine dr_cons { need := [(42, .pv (.bool false)), (1, .lp 0 0)], dst := some 43, val := some (.lp 0 1) } (fun m h => step_on (guard_on rfl rfl rfl h.1.1 rfl) (op_field_lp rfl h.1.2.1 Tryd_fld_45_1 rfl rfl) rfl) ⟨⟨rfl, rfl, trivial⟩, trivial, trivial⟩ ?_
      refine dr_cons (ref06_form_e154 a0) (fun m h => step_on (guard_on rfl rfl rfl h.1.1 rfl) (op_load_lp (v := .pv (.int .i64 a0.fNum)) rfl h.1.2.1 h.2.1.1 rfl Tryd_one_3 rfl rfl) rfl) ⟨⟨rfl, rfl, trivial⟩, ⟨rfl, trivial⟩, trivial⟩ ?_
      refine dr_cons (ref06_form_e155 a0) (fun m h => step_on (guard_on rfl rfl rfl h.1.1 rfl) (op_int (k := .i64) (m := a0.fNum) (n := 0) rfl h.1.2.1 rfl rfl rfl rfl) rfl) ⟨⟨rfl, rfl, trivial⟩, trivial, trivial⟩ ?_
      refine dr_cons (ref06_form_e156 a0) (fun m h => step_on (guard_no rfl) (op_pick_f rfl h.1.1 rfl h.1.2.1 rfl rfl) rfl) ⟨⟨rfl, rfl, trivial⟩, trivial, trivial⟩ ?_
      refine drm ?_
      rcases ite_some hF with ⟨hb27, hF⟩ | ⟨hb27, hF⟩
      · refine dro_t hb27 ?_
        iterate 2 (refine dro_t hb27 ?_)
        refine drpt hb27 ?_
        refine drm ?_
        iterate 4 (refine dro_t rfl ?_)
        iterate 4 (refine dru ?_)
        refine dro_t rfl ?_
        refine drpt rfl ?_
        refine dr_nil Tryd_mixed rfl (by kernel_rfl) ?_
        refine post_imp (s' := ⟨113, [(1, some (.lp 0 0)), (62, some (.pv (.bool true)))], [(0, some (.box 45 (bxv (eGExpr a0))))], 1, [], [], 0, []⟩) (imps [0] ⟨by kernel_rfl, by kernel_rfl, trivial⟩ ⟨by kernel_rfl, trivial⟩) ?_
        cases hF
        exact post_cut _ rfl (imps [0] ⟨by kernel_rfl, by kernel_rfl, trivial⟩ ⟨by kernel_rfl, trivial⟩)
      refine dr_cons (ref06_form_e135 a0) (fun m h => step_on (guard_on rfl rfl rfl h.1.1 hb27) (op_field_lp rfl h.1.2.1 Tryd_fld_45_1 rfl rfl) rfl) ⟨⟨rfl, rfl, trivial⟩, trivial, trivial⟩ ?_
      refine dr_cons (ref06_form_e136 a0) (fun m h => step_on (guard_on rfl rfl rfl h.1.1 hb27) (op_load_lp (v := .pv (.int .i64 a0.fNum)) rfl h.1.2.1 h.2.1.1 rfl Tryd_one_3 rfl rfl) rfl) ⟨⟨rfl, rfl, trivial⟩, ⟨rfl, trivial⟩, trivial⟩ ?_
      refine dr_cons (ref06_form_e137 a0) (fun m h => step_on (guard_on rfl rfl rfl h.1.1 hb27) (op_int (k := .i64) (m := a0.fNum) (n := 999999999) rfl h.1.2.1 rfl rfl rfl rfl) rfl) ⟨⟨rfl, rfl, trivial⟩, trivial, trivial⟩ ?_
      refine dr_cons (ref06_form_e138 a0) (fun m h => step_on (guard_no rfl) (op_pick_f rfl h.1.1 hb27 h.1.2.1 rfl rfl) rfl) ⟨⟨rfl, rfl, trivial⟩, trivial, trivial⟩ ?_
      refine drm ?_
      rcases ite_some hF with ⟨hb28, hF⟩ | ⟨hb28, hF⟩
      · refine dro_t hb28 ?_
        iterate 3 (refine dro_t hb28 ?_)
        iterate 4 (refine dru ?_)
        refine dro_t hb28 ?_
        refine drpt hb28 ?_
        refine dr_nil Tryd_mixed rfl (by kernel_rfl) ?_
        refine post_imp (s' := ⟨113, [(1, some (.lp 0 0)), (62, some (.pv (.bool true)))], [(0, some (.box 45 (bxv (eGExpr a0))))], 1, [], [], 0, []⟩) (imps [0] ⟨by kernel_rfl, by kernel_rfl, trivial⟩ ⟨by kernel_rfl, trivial⟩) ?_
        cases hF
        exact post_cut _ rfl (imps [0] ⟨by kernel_rfl, by kernel_rfl, trivial⟩ ⟨by kernel_rfl, trivial⟩)
      refine dr_cons (ref06_form_e139 a0) (fun m h => step_on (guard_on rfl rfl rfl h.1.1 hb28) (op_field_lp rfl h.1.2.1 Tryd_fld_45_0 rfl rfl) rfl) ⟨⟨rfl, rfl, trivial⟩, trivial, trivial⟩ ?_
      refine dr_cons (ref06_form_e140 a0) (fun m h => step_on (guard_on rfl rfl rfl h.1.1 hb28) (op_load_lp (v := .pv (.int .i64 a0.fKind)) rfl h.1.2.1 h.2.1.1 rfl Tryd_one_3 rfl rfl) rfl) ⟨⟨rfl, rfl, trivial⟩, ⟨rfl, trivial⟩, trivial⟩ ?_
      refine dr_cons (ref06_form_e141 a0) (fun m h => step_on (guard_on rfl rfl rfl h.1.1 hb28) (op_int (k := .i64) (m := a0.fKind) (n := 2) rfl h.1.2.1 rfl rfl rfl rfl) rfl) ⟨⟨rfl, rfl, trivial⟩, trivial, trivial⟩ ?_
      refine dr_cons (ref06_form_e142 a0) (fun m h => step_on (guard_on rfl rfl rfl h.1.1 hb28) (op_move rfl h.1.2.1 rfl rfl) rfl) ⟨⟨rfl, rfl, trivial⟩, trivial, trivial⟩ ?_
      rcases ite_some hF with ⟨hb29, hF⟩ | ⟨hb29, hF⟩
      · refine dr_cons (ref06_form_e143 a0) (fun m h => step_on (guard_on rfl rfl rfl h.1.1 hb29) (op_field_lp rfl h.1.2.1 Tryd_fld_45_2 rfl rfl) rfl) ⟨⟨rfl, rfl, trivial⟩, trivial, trivial⟩ ?_
        refine dr_cons (ref06_form_e144 a0) (fun m h => step_on (guard_on rfl rfl rfl h.1.1 hb29) (op_load_lp (v := .pv (.str a0.fName)) rfl h.1.2.1 h.2.1.1 rfl Tryd_one_9 rfl rfl) rfl) ⟨⟨rfl, rfl, trivial⟩, ⟨rfl, trivial⟩, trivial⟩ ?_
        obtain ⟨y30, h31, hF⟩ := bind_some hF
        refine dr_cons { need := [(56, .pv (.bool (a0.fKind == 2))), (58, .pv (.str a0.fName))], dst := some 59, val := some (.pv (.bool y30)) } (fun m h => step_on (guard_on rfl rfl rfl h.1.1 hb29) (op_call 1 rfl (caps := []) (args := [.str a0.fName]) (rs := [.p (.bool y30)]) rfl rfl (evl_cons h.1.2.1 evl_nil) Tryd_cal_16 (ref02_Name_ok h31) rfl rfl rfl) rfl) ⟨⟨rfl, rfl, trivial⟩, trivial, trivial⟩ ?_
        refine dr_cons { need := [(56, .pv (.bool (a0.fKind == 2))), (59, .pv (.bool y30))], dst := some 60, val := some (.pv (.bool (!y30))) } (fun m h => step_on (guard_on rfl rfl rfl h.1.1 hb29) (op_not rfl h.1.2.1 rfl rfl) rfl) ⟨⟨rfl, rfl, trivial⟩, trivial, trivial⟩ ?_
        refine dr_cons { need := [(52, .pv (.bool (decide (a0.fNum > 999999999)))), (56, .pv (.bool (a0.fKind == 2))), (60, .pv (.bool (!y30)))], dst := some 61, val := some (.pv (.bool (!y30))) } (fun m h => step_on (guard_on rfl rfl rfl h.1.1 hb28) (op_pick_t rfl h.1.2.1 hb29 h.1.2.2.1 rfl rfl) rfl) ⟨⟨rfl, rfl, rfl, trivial⟩, trivial, trivial⟩ ?_
        refine dr_cons { need := [(52, .pv (.bool (decide (a0.fNum > 999999999)))), (61, .pv (.bool (!y30)))], dst := some 62, val := some (.pv (.bool (!y30))) } (fun m h => step_on (guard_no rfl) (op_pick_f rfl h.1.1 hb28 h.1.2.1 rfl rfl) rfl) ⟨⟨rfl, rfl, trivial⟩, trivial, trivial⟩ ?_
        refine dr_nil Tryd_mixed rfl (by kernel_rfl) ?_
        refine post_imp (s' := ⟨113, [(1, some (.lp 0 0)), (62, some (.pv (.bool (!y30))))], [(0, some (.box 45 (bxv (eGExpr a0))))], 1, [], [], 0, []⟩) (imps [0] ⟨by kernel_rfl, by kernel_rfl, trivial⟩ ⟨by kernel_rfl, trivial⟩) ?_
        cases hF
        exact post_cut _ rfl (imps [0] ⟨by kernel_rfl, by kernel_rfl, trivial⟩ ⟨by kernel_rfl, trivial⟩)
      iterate 4 (refine dro_f hb29 ?_)
      refine dr_cons (ref06_form_e149 a0) (fun m h => step_on (guard_on rfl rfl rfl h.1.1 hb28) (op_pick_f rfl h.1.2.1 hb29 rfl rfl rfl) rfl) ⟨⟨rfl, rfl, trivial⟩, trivial, trivial⟩ ?_
      refine dr_cons (ref06_form_e150 a0) (fun m h => step_on (guard_no rfl) (op_pick_f rfl h.1.1 hb28 h.1.2.1 rfl rfl) rfl) ⟨⟨rfl, rfl, trivial⟩, trivial, trivial⟩ ?_
      refine dr_nil Tryd_mixed rfl (by kernel_rfl) ?_
      refine post_imp (s' := ⟨113, [(1, some (.lp 0 0)), (62, some (.pv (.bool false)))], [(0, some (.box 45 (bxv (eGExpr a0))))], 1, [], [], 0, []⟩) (imps [0] ⟨by kernel_rfl, by kernel_rfl, trivial⟩ ⟨by kernel_rfl, trivial⟩) ?_
      cases hF
      exact post_cut _ rfl (imps [0] ⟨by kernel_rfl, by kernel_rfl, trivial⟩ ⟨by kernel_rfl, trivial⟩)
    rintro _ rfl
    have hF := hK34
    clear hK34
    refine post_next ?_
    rcases ite_some hF with ⟨hb35, hF⟩ | ⟨hb35, hF⟩
    · refine aw_cond_t rfl hb35 ?_
      refine aw_seq ?_
      refine aw_region ?_
      refine ras ?_
      refine reg_nil ?_
      refine post_imp (s' := ⟨113, [(2, some (.pv (.bool false)))], [], 0, [], [], 0, []⟩) (imps [] ⟨by kernel_rfl, trivial⟩ trivial) ?_
      refine post_next ?_
      refine aw_ret ?_
      refine post_then_ret ?_
      obtain rfl := Option.some.inj hF
      exact prt
    refine aw_cond_f rfl hb35 ?_
    refine aw_skip ?_
    refine post_next ?_
    iterate 2 (refine aw_seq ?_)
    refine aw_region ?_
    refine ras ?_
    refine reg_nil ?_
    refine post_imp (s' := ⟨113, [(1, some (.lp 0 0)), (3, some (.pv (.int .i64 0)))], [(0, some (.box 45 (bxv (eGExpr a0))))], 1, [], [], 0, []⟩) (imps [0] ⟨by kernel_rfl, by kernel_rfl, trivial⟩ ⟨by kernel_rfl, trivial⟩) ?_
    refine post_next ?_
    obtain ⟨lr117, hF, hK118⟩ := bind_some hF
    refine aw_for ((((a0.fKids.length : Int) : Int) - (0)).toNat + 1) (fun s1 => ∃ q, lr117 = .next q ∧ s1 = ⟨113, [], [], 0, [], [], 0, []⟩) ?_ ?_
    · refine rnd_loop (α := Int) (fun q => ⟨113, [(1, some (.lp 0 0)), (3, some (.pv (.int .i64 q)))], [(0, some (.box 45 (bxv (eGExpr a0))))], 1, [], [], 0, []⟩) (fun k q => ref06_form_L1 a0 ref06_form_rec k q = some lr117) 0 (imps [0] ⟨by kernel_rfl, by kernel_rfl, trivial⟩ ⟨by kernel_rfl, trivial⟩) hF (fun q h => by cases h) ?_
      clear hF
      rintro k x62 hF ih
      refine rnd_succ ?_
      iterate 2 (refine aw_seq ?_)
      refine aw_region ?_
      refine rmv ?_
      refine rgp (op_field_lp rfl rfl Tryd_fld_45_3 rfl rfl) ?_
      refine rgp (op_load_lp (v := .pv (.vs 4 (eLGExpr a0.fKids))) rfl rfl rfl rfl Tryd_one_43 rfl rfl) ?_
      refine rgp (op_len_vs (n := a0.fKids.length) rfl rfl (lenR eLGExpr_map) Tryd_slc_43 rfl rfl) ?_
      refine rgp (op_int (k := .i64) (m := x62) (n := (a0.fKids.length : Int)) rfl rfl rfl rfl rfl rfl) ?_
      refine reg_nil ?_
      refine post_imp (s' := ⟨113, [(1, some (.lp 0 0)), (3, some (.pv (.int .i64 x62))), (67, some (.pv (.bool (decide (x62 < (a0.fKids.length : Int))))))], [(0, some (.box 45 (bxv (eGExpr a0))))], 1, [], [], 0, []⟩) (imps [0] ⟨by kernel_rfl, by kernel_rfl, by kernel_rfl, trivial⟩ ⟨by kernel_rfl, trivial⟩) ?_
      refine post_next ?_
      rcases ite_some hF with ⟨hb90, hF⟩ | ⟨hb90, hF⟩
      · refine aw_cond_t rfl hb90 ?_
        refine aw_skip ?_
        refine post_next ?_
        refine aw_seq ?_
        refine aw_block ?_
        refine aw_seq ?_
        refine aw_region ?_
        refine rgp (op_field_lp rfl rfl Tryd_fld_45_3 rfl rfl) ?_
        refine rgp (op_load_lp (v := .pv (.vs 4 (eLGExpr a0.fKids))) rfl rfl rfl rfl Tryd_one_43 rfl rfl) ?_
        refine rmv ?_
        obtain ⟨y93, h94, hF⟩ := bind_some hF
        refine rgp (op_index_vs (k := .i64) rfl rfl rfl (idxR eLGExpr_map h94) Tryd_slc_43 rfl rfl) ?_
        refine rgp (op_field_vp rfl rfl Tryd_fld_45_0 rfl rfl) ?_
        refine rgp (op_load_vp (p := .int .i64 y93.fKind) rfl rfl rfl Tryd_one_3 rfl rfl) ?_
        refine ras ?_
        refine reg_nil ?_
        refine post_imp (s' := ⟨113, [(1, some (.lp 0 0)), (3, some (.pv (.int .i64 x62))), (4, some (.pv (.int .i64 y93.fKind)))], [(0, some (.box 45 (bxv (eGExpr a0))))], 1, [], [], 0, []⟩) (imps [0] ⟨by kernel_rfl, by kernel_rfl, by kernel_rfl, trivial⟩ ⟨by kernel_rfl, trivial⟩) ?_
        refine post_next ?_
        refine aw_seq ?_
        obtain ⟨x112, hF, hK114⟩ := bind_some hF
        refine aw_cut (fun s1 => s1 = ⟨113, [(1, some (.lp 0 0)), (3, some (.pv (.int .i64 x62))), (112, some (.pv (.bool x112)))], [(0, some (.box 45 (bxv (eGExpr a0))))], 1, [], [], 0, []⟩) ?_ ?_
        · refine aw_region ?_
          refine rgp (op_field_lp rfl rfl Tryd_fld_45_3 rfl rfl) ?_
          refine rgp (op_load_lp (v := .pv (.vs 4 (eLGExpr a0.fKids))) rfl rfl rfl rfl Tryd_one_43 rfl rfl) ?_
          refine rmv ?_
          obtain ⟨y99, h100, hF⟩ := bind_some hF
          refine rgp (op_index_vs (k := .i64) rfl rfl rfl (idxR eLGExpr_map h100) Tryd_slc_43 rfl rfl) ?_
          refine rgp (op_load_vp_agg (ps := eGExpr y99) rfl rfl rfl rfl Tryd_agg_45 rfl rfl) ?_
          obtain ⟨y101, h102, hF⟩ := bind_some hF
          refine rgp (op_call 1 rfl (caps := []) (args := [.agg (eGExpr y99)]) (rs := [.p (.bool y101)]) rfl rfl rfl Tryd_cal_68 (ref06_form_ih _ _ h102) rfl rfl rfl) ?_
          refine rgp (op_not rfl rfl rfl rfl) ?_
          refine rmv ?_
          rcases ite_some hF with ⟨hb103, hF⟩ | ⟨hb103, hF⟩
          · refine rgo_t hb103 ?_
            iterate 3 (refine rgo_t hb103 ?_)
            iterate 2 (refine rgu ?_)
            iterate 2 (refine rgo_t hb103 ?_)
            iterate 2 (refine rgu ?_)
            refine rgo_t hb103 ?_
            refine rpt hb103 ?_
            refine rmv ?_
            iterate 4 (refine rgo_t rfl ?_)
            iterate 2 (refine rgu ?_)
            iterate 2 (refine rgo_t rfl ?_)
            iterate 2 (refine rgu ?_)
            iterate 2 (refine rgo_t rfl ?_)
            iterate 2 (refine rgu ?_)
            refine rgo_t rfl ?_
            refine rpt rfl ?_
            refine reg_nil ?_
            cases hF
            exact post_cut _ rfl (imps [0] ⟨by kernel_rfl, by kernel_rfl, by kernel_rfl, trivial⟩ ⟨by kernel_rfl, trivial⟩)
          refine rgn hb103 (op_field_lp rfl rfl Tryd_fld_45_0 rfl rfl) ?_
          refine rgn hb103 (op_load_lp (v := .pv (.int .i64 a0.fKind)) rfl rfl rfl rfl Tryd_one_3 rfl rfl) ?_
          refine rgn hb103 (op_int (k := .i64) (m := a0.fKind) (n := 13) rfl rfl rfl rfl rfl rfl) ?_
          refine rgn hb103 (op_move rfl rfl rfl rfl) ?_
          rcases ite_some hF with ⟨hb104, hF⟩ | ⟨hb104, hF⟩
          · refine rgn hb104 (op_move rfl rfl rfl rfl) ?_
            refine rgn hb104 (op_int (k := .i64) (m := y93.fKind) (n := 2) rfl rfl rfl rfl rfl rfl) ?_
            refine rgn hb103 (op_pick_t rfl rfl hb104 rfl rfl rfl) ?_
            refine rgn hb103 (op_move rfl rfl rfl rfl) ?_
            rcases ite_some hF with ⟨hb105, hF⟩ | ⟨hb105, hF⟩
            · refine rgn hb105 (op_move rfl rfl rfl rfl) ?_
              refine rgn hb105 (op_int (k := .i64) (m := y93.fKind) (n := 3) rfl rfl rfl rfl rfl rfl) ?_
              refine rgn hb103 (op_pick_t rfl rfl hb105 rfl rfl rfl) ?_
              refine rpf hb103 ?_
              refine rmv ?_
              rcases ite_some hF with ⟨hb106, hF⟩ | ⟨hb106, hF⟩
              · refine rgo_t hb106 ?_
                iterate 3 (refine rgo_t hb106 ?_)
                iterate 2 (refine rgu ?_)
                iterate 2 (refine rgo_t hb106 ?_)
                iterate 2 (refine rgu ?_)
                iterate 2 (refine rgo_t hb106 ?_)
                iterate 2 (refine rgu ?_)
                refine rgo_t hb106 ?_
                refine rpt hb106 ?_
                refine reg_nil ?_
                cases hF
                exact post_cut _ rfl (imps [0] ⟨by kernel_rfl, by kernel_rfl, by kernel_rfl, trivial⟩ ⟨by kernel_rfl, trivial⟩)
              refine rgn hb106 (op_field_lp rfl rfl Tryd_fld_45_0 rfl rfl) ?_
              refine rgn hb106 (op_load_lp (v := .pv (.int .i64 a0.fKind)) rfl rfl rfl rfl Tryd_one_3 rfl rfl) ?_
              refine rgn hb106 (op_int (k := .i64) (m := a0.fKind) (n := 14) rfl rfl rfl rfl rfl rfl) ?_
              refine rgn hb106 (op_move rfl rfl rfl rfl) ?_
              rcases ite_some hF with ⟨hb107, hF⟩ | ⟨hb107, hF⟩
              · refine rgn hb107 (op_move rfl rfl rfl rfl) ?_
                refine rgn hb107 (op_int (k := .i64) (m := y93.fKind) (n := 2) rfl rfl rfl rfl rfl rfl) ?_
                refine rgn hb106 (op_pick_t rfl rfl hb107 rfl rfl rfl) ?_
                refine rgn hb106 (op_move rfl rfl rfl rfl) ?_
                refine rgn hb105 (op_move rfl rfl rfl rfl) ?_
                refine rgn hb105 (op_int (k := .i64) (m := y93.fKind) (n := 3) rfl rfl rfl rfl rfl rfl) ?_
                refine rgn hb106 (op_pick_t rfl rfl hb105 rfl rfl rfl) ?_
                refine rgn hb106 (op_move rfl rfl rfl rfl) ?_
                iterate 2 (refine rgo_f hb106 ?_)
                refine rgn hb106 (op_pick_f rfl rfl hb106 rfl rfl rfl) ?_
                refine rpf hb106 ?_
                refine reg_nil ?_
                cases hF
                exact post_cut _ rfl (imps [0] ⟨by kernel_rfl, by kernel_rfl, by kernel_rfl, trivial⟩ ⟨by kernel_rfl, trivial⟩)
              iterate 2 (refine rgo_f hb107 ?_)
              refine rgn hb106 (op_pick_f rfl rfl hb107 rfl rfl rfl) ?_
              refine rgn hb106 (op_move rfl rfl rfl rfl) ?_
              iterate 2 (refine rgo_f rfl ?_)
              refine rgn hb106 (op_pick_f rfl rfl rfl rfl rfl rfl) ?_
              refine rgn hb106 (op_move rfl rfl rfl rfl) ?_
              iterate 2 (refine rgo_f rfl ?_)
              refine rgn hb106 (op_pick_f rfl rfl rfl rfl rfl rfl) ?_
              refine rpf hb106 ?_
              refine reg_nil ?_
              cases hF
              exact post_cut _ rfl (imps [0] ⟨by kernel_rfl, by kernel_rfl, by kernel_rfl, trivial⟩ ⟨by kernel_rfl, trivial⟩)
            iterate 2 (refine rgo_f hb105 ?_)
            refine rgn hb103 (op_pick_f rfl rfl hb105 rfl rfl rfl) ?_
            refine rpf hb103 ?_
            refine rmv ?_
            refine rgn rfl (op_field_lp rfl rfl Tryd_fld_45_0 rfl rfl) ?_
            refine rgn rfl (op_load_lp (v := .pv (.int .i64 a0.fKind)) rfl rfl rfl rfl Tryd_one_3 rfl rfl) ?_
            refine rgn rfl (op_int (k := .i64) (m := a0.fKind) (n := 14) rfl rfl rfl rfl rfl rfl) ?_
            refine rgn rfl (op_move rfl rfl rfl rfl) ?_
            rcases ite_some hF with ⟨hb108, hF⟩ | ⟨hb108, hF⟩
            · refine rgn hb108 (op_move rfl rfl rfl rfl) ?_
              refine rgn hb108 (op_int (k := .i64) (m := y93.fKind) (n := 2) rfl rfl rfl rfl rfl rfl) ?_
              refine rgn rfl (op_pick_t rfl rfl hb108 rfl rfl rfl) ?_
              refine rgn rfl (op_move rfl rfl rfl rfl) ?_
              iterate 2 (refine rgo_f hb105 ?_)
              refine rgn rfl (op_pick_f rfl rfl hb105 rfl rfl rfl) ?_
              refine rgn rfl (op_move rfl rfl rfl rfl) ?_
              iterate 2 (refine rgo_f rfl ?_)
              refine rgn rfl (op_pick_f rfl rfl rfl rfl rfl rfl) ?_
              refine rpf rfl ?_
              refine reg_nil ?_
              cases hF
              exact post_cut _ rfl (imps [0] ⟨by kernel_rfl, by kernel_rfl, by kernel_rfl, trivial⟩ ⟨by kernel_rfl, trivial⟩)
            iterate 2 (refine rgo_f hb108 ?_)
            refine rgn rfl (op_pick_f rfl rfl hb108 rfl rfl rfl) ?_
            refine rgn rfl (op_move rfl rfl rfl rfl) ?_
            iterate 2 (refine rgo_f rfl ?_)
            refine rgn rfl (op_pick_f rfl rfl rfl rfl rfl rfl) ?_
            refine rgn rfl (op_move rfl rfl rfl rfl) ?_
            iterate 2 (refine rgo_f rfl ?_)
            refine rgn rfl (op_pick_f rfl rfl rfl rfl rfl rfl) ?_
            refine rpf rfl ?_
            refine reg_nil ?_
            cases hF
            exact post_cut _ rfl (imps [0] ⟨by kernel_rfl, by kernel_rfl, by kernel_rfl, trivial⟩ ⟨by kernel_rfl, trivial⟩)
          iterate 2 (refine rgo_f hb104 ?_)
          refine rgn hb103 (op_pick_f rfl rfl hb104 rfl rfl rfl) ?_
          refine rgn hb103 (op_move rfl rfl rfl rfl) ?_
          iterate 2 (refine rgo_f rfl ?_)
          refine rgn hb103 (op_pick_f rfl rfl rfl rfl rfl rfl) ?_
          refine rpf hb103 ?_
          refine rmv ?_
          refine rgn rfl (op_field_lp rfl rfl Tryd_fld_45_0 rfl rfl) ?_
          refine rgn rfl (op_load_lp (v := .pv (.int .i64 a0.fKind)) rfl rfl rfl rfl Tryd_one_3 rfl rfl) ?_
          refine rgn rfl (op_int (k := .i64) (m := a0.fKind) (n := 14) rfl rfl rfl rfl rfl rfl) ?_
          refine rgn rfl (op_move rfl rfl rfl rfl) ?_
          rcases ite_some hF with ⟨hb109, hF⟩ | ⟨hb109, hF⟩
          · refine rgn hb109 (op_move rfl rfl rfl rfl) ?_
            refine rgn hb109 (op_int (k := .i64) (m := y93.fKind) (n := 2) rfl rfl rfl rfl rfl rfl) ?_
            refine rgn rfl (op_pick_t rfl rfl hb109 rfl rfl rfl) ?_
            refine rgn rfl (op_move rfl rfl rfl rfl) ?_
            rcases ite_some hF with ⟨hb110, hF⟩ | ⟨hb110, hF⟩
            · refine rgn hb110 (op_move rfl rfl rfl rfl) ?_
              refine rgn hb110 (op_int (k := .i64) (m := y93.fKind) (n := 3) rfl rfl rfl rfl rfl rfl) ?_
              refine rgn rfl (op_pick_t rfl rfl hb110 rfl rfl rfl) ?_
              refine rgn rfl (op_move rfl rfl rfl rfl) ?_
              rcases ite_some hF with ⟨hb111, hF⟩ | ⟨hb111, hF⟩
              · refine rgn hb111 (op_move rfl rfl rfl rfl) ?_
                refine rgn hb111 (op_int (k := .i64) (m := y93.fKind) (n := 4) rfl rfl rfl rfl rfl rfl) ?_
                refine rgn rfl (op_pick_t rfl rfl hb111 rfl rfl rfl) ?_
                refine rpf rfl ?_
                refine reg_nil ?_
                cases hF
                exact post_cut _ rfl (imps [0] ⟨by kernel_rfl, by kernel_rfl, by kernel_rfl, trivial⟩ ⟨by kernel_rfl, trivial⟩)
              iterate 2 (refine rgo_f hb111 ?_)
              refine rgn rfl (op_pick_f rfl rfl hb111 rfl rfl rfl) ?_
              refine rpf rfl ?_
              refine reg_nil ?_
              cases hF
              exact post_cut _ rfl (imps [0] ⟨by kernel_rfl, by kernel_rfl, by kernel_rfl, trivial⟩ ⟨by kernel_rfl, trivial⟩)
            iterate 2 (refine rgo_f hb110 ?_)
            refine rgn rfl (op_pick_f rfl rfl hb110 rfl rfl rfl) ?_
            refine rgn rfl (op_move rfl rfl rfl rfl) ?_
            iterate 2 (refine rgo_f rfl ?_)
            refine rgn rfl (op_pick_f rfl rfl rfl rfl rfl rfl) ?_
            refine rpf rfl ?_
            refine reg_nil ?_
            cases hF
            exact post_cut _ rfl (imps [0] ⟨by kernel_rfl, by kernel_rfl, by kernel_rfl, trivial⟩ ⟨by kernel_rfl, trivial⟩)
          iterate 2 (refine rgo_f hb109 ?_)
          refine rgn rfl (op_pick_f rfl rfl hb109 rfl rfl rfl) ?_
          refine rgn rfl (op_move rfl rfl rfl rfl) ?_
          iterate 2 (refine rgo_f rfl ?_)
          refine rgn rfl (op_pick_f rfl rfl rfl rfl rfl rfl) ?_
          refine rgn rfl (op_move rfl rfl rfl rfl) ?_
          iterate 2 (refine rgo_f rfl ?_)
          refine rgn rfl (op_pick_f rfl rfl rfl rfl rfl rfl) ?_
          refine rpf rfl ?_
          refine reg_nil ?_
          cases hF
          exact post_cut _ rfl (imps [0] ⟨by kernel_rfl, by kernel_rfl, by kernel_rfl, trivial⟩ ⟨by kernel_rfl, trivial⟩)
        rintro _ rfl
        have hF := hK114
        clear hK114
        refine post_next ?_
        rcases ite_some hF with ⟨hb115, hF⟩ | ⟨hb115, hF⟩
        · refine aw_cond_t rfl hb115 ?_
          refine aw_seq ?_
          refine aw_region ?_
          refine ras ?_
          refine reg_nil ?_
          refine post_imp (s' := ⟨113, [(2, some (.pv (.bool false)))], [], 0, [], [], 0, []⟩) (imps [] ⟨by kernel_rfl, trivial⟩ trivial) ?_
          refine post_next ?_
          refine aw_ret ?_
          refine post_block_ret ?_
          iterate 2 (refine post_then_ret ?_)
          refine post_lp_ret ?_
          obtain rfl := Option.some.inj hF
          have hF := elim_stop hK118
          refine post_then_ret ?_
          obtain rfl := Option.some.inj hF
          exact prt
        refine aw_cond_f rfl hb115 ?_
        refine aw_skip ?_
        refine post_block_normal ?_
        refine post_next ?_
        refine aw_region ?_
        refine rmv ?_
        refine rgp (op_int (k := .i64) (m := x62) (n := 1) rfl rfl rfl rfl rfl rfl) ?_
        refine ras ?_
        refine reg_nil ?_
        refine post_round ?_
        exact rnd_back (ih (w_i64 (x62 + 1)) hF) (imps [0] ⟨by kernel_rfl, by kernel_rfl, trivial⟩ ⟨by kernel_rfl, trivial⟩)
      refine aw_cond_f rfl hb90 ?_
      refine aw_exit ?_
      iterate 2 (refine post_then_exit ?_)
      obtain rfl := Option.some.inj hF
      exact post_lp_break _ ⟨_, rfl, rfl⟩ (imps [] trivial trivial)
    rintro _ ⟨⟨⟩, rfl, rfl⟩
    have hF := elim_next hK118
    clear hK118
    refine post_next ?_
    refine aw_seq ?_
    refine aw_region ?_
    refine ras ?_
    refine reg_nil ?_
    refine post_imp (s' := ⟨113, [(2, some (.pv (.bool true)))], [], 0, [], [], 0, []⟩) (imps [] ⟨by kernel_rfl, trivial⟩ trivial) ?_
    refine post_next ?_
    refine aw_ret ?_
    obtain rfl := Option.some.inj hF
    exact prt
theorem ref06_form_ok {n : Nat} {a0 : GExpr} {r : Bool} (hF : ref06_form n a0 = some r) : Abs.Fn globs_Tryd Tryd.prog 68 [.agg (eGExpr a0)] [.p (.bool r)] := (ref06_form_ring n) _ _ hF

theorem ref06_Deep_ring : ∀ n : Nat, (∀ (a0 : GExpr) (r : Int), ref06_Deep n a0 = some r → Abs.Fn globs_Tryd Tryd.prog 69 [.agg (eGExpr a0)] [.p (.int .i64 r)]) := by
  intro n
  induction n with
  | zero => exact (fun _ _ h => by simp [ref06_Deep] at h)
  | succ n ih =>
    have ref06_Deep_ih := ih
    clear ih
    intro a0 r hF
    unfold ref06_Deep at hF
    revert hF ref06_Deep_ih
    generalize ref06_Deep n = ref06_Deep_rec
    intro ref06_Deep_ih hF
    refine fn_of_body (n := 22) Tryd.func69 rfl rfl rfl ?_
    intro w O
    refine aw_seq ?_
    refine aw_region ?_
    refine rgp (op_box 0 rfl rfl rfl rfl rfl rfl) ?_
    refine ras ?_
    refine reg_nil ?_
    refine post_imp (s' := ⟨22, [(1, some (.lp 0 0))], [(0, some (.box 45 (bxv (eGExpr a0))))], 1, [], [], 0, []⟩) (imps [0] ⟨by kernel_rfl, trivial⟩ ⟨by kernel_rfl, trivial⟩) ?_
    refine post_next ?_
    refine aw_seq ?_
    refine aw_region ?_
    refine ras ?_
    refine reg_nil ?_
    refine post_imp (s' := ⟨22, [(1, some (.lp 0 0)), (3, some (.pv (.int .i64 0)))], [(0, some (.box 45 (bxv (eGExpr a0))))], 1, [], [], 0, []⟩) (imps [0] ⟨by kernel_rfl, by kernel_rfl, trivial⟩ ⟨by kernel_rfl, trivial⟩) ?_
    refine post_next ?_
    iterate 2 (refine aw_seq ?_)
    refine aw_region ?_
    refine ras ?_
    refine reg_nil ?_
    refine post_imp (s' := ⟨22, [(1, some (.lp 0 0)), (3, some (.pv (.int .i64 0))), (4, some (.pv (.int .i64 0)))], [(0, some (.box 45 (bxv (eGExpr a0))))], 1, [], [], 0, []⟩) (imps [0] ⟨by kernel_rfl, by kernel_rfl, by kernel_rfl, trivial⟩ ⟨by kernel_rfl, trivial⟩) ?_
    refine post_next ?_
    obtain ⟨x34, hF, hK35⟩ := bind_some hF
    refine aw_for ((((a0.fKids.length : Int) : Int) - (0)).toNat + 1) (fun s1 => s1 = ⟨22, [(3, some (.pv (.int .i64 x34)))], [], 0, [], [], 0, []⟩) ?_ ?_
    · refine rnd_loop (α := Int × Int) (fun q => ⟨22, [(1, some (.lp 0 0)), (3, some (.pv (.int .i64 q.1))), (4, some (.pv (.int .i64 q.2)))], [(0, some (.box 45 (bxv (eGExpr a0))))], 1, [], [], 0, []⟩) (fun k q => ref06_Deep_L1 a0 ref06_Deep_rec k q.1 q.2 = some x34) (0, 0) (imps [0] ⟨by kernel_rfl, by kernel_rfl, by kernel_rfl, trivial⟩ ⟨by kernel_rfl, trivial⟩) hF (fun q h => by cases h) ?_
      clear hF
      rintro k ⟨x10, x11⟩ hF ih
      refine rnd_succ ?_
      iterate 2 (refine aw_seq ?_)
      refine aw_region ?_
      refine rmv ?_
      refine rgp (op_field_lp rfl rfl Tryd_fld_45_3 rfl rfl) ?_
      refine rgp (op_load_lp (v := .pv (.vs 4 (eLGExpr a0.fKids))) rfl rfl rfl rfl Tryd_one_43 rfl rfl) ?_
      refine rgp (op_len_vs (n := a0.fKids.length) rfl rfl (lenR eLGExpr_map) Tryd_slc_43 rfl rfl) ?_
      refine rgp (op_int (k := .i64) (m := x11) (n := (a0.fKids.length : Int)) rfl rfl rfl rfl rfl rfl) ?_
      refine reg_nil ?_
      refine post_imp (s' := ⟨22, [(1, some (.lp 0 0)), (3, some (.pv (.int .i64 x10))), (4, some (.pv (.int .i64 x11))), (9, some (.pv (.bool (decide (x11 < (a0.fKids.length : Int))))))], [(0, some (.box 45 (bxv (eGExpr a0))))], 1, [], [], 0, []⟩) (imps [0] ⟨by kernel_rfl, by kernel_rfl, by kernel_rfl, by kernel_rfl, trivial⟩ ⟨by kernel_rfl, trivial⟩) ?_
      refine post_next ?_
      rcases ite_some hF with ⟨hb23, hF⟩ | ⟨hb23, hF⟩
      · refine aw_cond_t rfl hb23 ?_
        refine aw_skip ?_
        refine post_next ?_
        refine aw_seq ?_
        refine aw_block ?_
        refine aw_region ?_
        refine rmv ?_
        refine rgp (op_field_lp rfl rfl Tryd_fld_45_3 rfl rfl) ?_
        refine rgp (op_load_lp (v := .pv (.vs 4 (eLGExpr a0.fKids))) rfl rfl rfl rfl Tryd_one_43 rfl rfl) ?_
        refine rmv ?_
        obtain ⟨y28, h29, hF⟩ := bind_some hF
        refine rgp (op_index_vs (k := .i64) rfl rfl rfl (idxR eLGExpr_map h29) Tryd_slc_43 rfl rfl) ?_
        refine rgp (op_load_vp_agg (ps := eGExpr y28) rfl rfl rfl rfl Tryd_agg_45 rfl rfl) ?_
        obtain ⟨y30, h31, hF⟩ := bind_some hF
        refine rgp (op_call 1 rfl (caps := []) (args := [.agg (eGExpr y28)]) (rs := [.p (.int .i64 y30)]) rfl rfl rfl Tryd_cal_69 (ref06_Deep_ih _ _ h31) rfl rfl rfl) ?_
        refine rgp (op_max2 rfl rfl rfl rfl rfl) ?_
        refine ras ?_
        refine reg_nil ?_
        refine post_imp (s' := ⟨22, [(1, some (.lp 0 0)), (3, some (.pv (.int .i64 (if y30 > x10 then y30 else x10)))), (4, some (.pv (.int .i64 x11)))], [(0, some (.box 45 (bxv (eGExpr a0))))], 1, [], [], 0, []⟩) (imps [0] ⟨by kernel_rfl, by kernel_rfl, by kernel_rfl, trivial⟩ ⟨by kernel_rfl, trivial⟩) ?_
        refine post_block_normal ?_
        refine post_next ?_
        refine aw_region ?_
        refine rmv ?_
        refine rgp (op_int (k := .i64) (m := x11) (n := 1) rfl rfl rfl rfl rfl rfl) ?_
        refine ras ?_
        refine reg_nil ?_
        refine post_round ?_
        exact rnd_back (ih ((if y30 > x10 then y30 else x10), w_i64 (x11 + 1)) hF) (imps [0] ⟨by kernel_rfl, by kernel_rfl, by kernel_rfl, trivial⟩ ⟨by kernel_rfl, trivial⟩)
      refine aw_cond_f rfl hb23 ?_
      refine aw_exit ?_
      iterate 2 (refine post_then_exit ?_)
      obtain rfl := Option.some.inj hF
      exact post_lp_break _ rfl (imps [] ⟨by kernel_rfl, trivial⟩ trivial)
    rintro _ rfl
    have hF := hK35
    clear hK35
    refine post_next ?_
    refine aw_seq ?_
    refine aw_region ?_
    refine rmv ?_
    refine rgp (op_int (k := .i64) (m := x34) (n := 1) rfl rfl rfl rfl rfl rfl) ?_
    refine ras ?_
    refine reg_nil ?_
    refine post_imp (s' := ⟨22, [(2, some (.pv (.int .i64 (w_i64 (x34 + 1)))))], [], 0, [], [], 0, []⟩) (imps [] ⟨by kernel_rfl, trivial⟩ trivial) ?_
    refine post_next ?_
    refine aw_ret ?_
    obtain rfl := Option.some.inj hF
    exact prt
theorem ref06_Deep_ok {n : Nat} {a0 : GExpr} {r : Int} (hF : ref06_Deep n a0 = some r) : Abs.Fn globs_Tryd Tryd.prog 69 [.agg (eGExpr a0)] [.p (.int .i64 r)] := (ref06_Deep_ring n) _ _ hF

theorem ref06_Right_ok {a0 : GExpr} {r : Bool} (hF : ref06_Right a0 = some r) : Abs.Fn globs_Tryd Tryd.prog 47 [.agg (eGExpr a0)] [.p (.bool r)] := by
  unfold ref06_Right at hF
  refine fn_of_body (n := 10) Tryd.func47 rfl rfl rfl ?_
  intro w O
  refine aw_seq ?_
  refine aw_region ?_
  refine rgp (op_box 0 rfl rfl rfl rfl rfl rfl) ?_
  refine ras ?_
  refine reg_nil ?_
  refine post_imp (s' := ⟨10, [(1, some (.lp 0 0))], [(0, some (.box 45 (bxv (eGExpr a0))))], 1, [], [], 0, []⟩) (imps [0] ⟨by kernel_rfl, trivial⟩ ⟨by kernel_rfl, trivial⟩) ?_
  refine post_next ?_
  refine aw_seq ?_
  refine aw_region ?_
  refine rgp (op_load_lp_agg (ps := eGExpr a0) rfl rfl rfl rfl rfl rfl Tryd_agg_45 rfl rfl) ?_
  obtain ⟨y1, h2, hF⟩ := bind_some hF
  refine rgp (op_call 1 rfl (caps := []) (args := [.agg (eGExpr a0)]) (rs := [.p (.bool y1)]) rfl rfl rfl Tryd_cal_68 (ref06_form_ok h2) rfl rfl rfl) ?_
  refine rmv ?_
  rcases ite_some hF with ⟨hb3, hF⟩ | ⟨hb3, hF⟩
  · refine rgn hb3 (op_load_lp_agg (ps := eGExpr a0) rfl rfl rfl rfl rfl rfl Tryd_agg_45 rfl rfl) ?_
    obtain ⟨y4, h5, hF⟩ := bind_some hF
    refine rgn hb3 (op_call 1 rfl (caps := []) (args := [.agg (eGExpr a0)]) (rs := [.p (.int .i64 y4)]) rfl rfl rfl Tryd_cal_69 (ref06_Deep_ok h5) rfl rfl rfl) ?_
    refine rgn hb3 (op_int (k := .i64) (m := y4) (n := 20) rfl rfl rfl rfl rfl rfl) ?_
    refine rpt hb3 ?_
    refine ras ?_
    refine reg_nil ?_
    refine post_imp (s' := ⟨10, [(2, some (.pv (.bool (decide (y4 ≤ 20)))))], [], 0, [], [], 0, []⟩) (imps [] ⟨by kernel_rfl, trivial⟩ trivial) ?_
    refine post_next ?_
    refine aw_ret ?_
    obtain rfl := Option.some.inj hF
    exact prt
  iterate 3 (refine rgo_f hb3 ?_)
  refine rpf hb3 ?_
  refine ras ?_
  refine reg_nil ?_
  refine post_imp (s' := ⟨10, [(2, some (.pv (.bool false)))], [], 0, [], [], 0, []⟩) (imps [] ⟨by kernel_rfl, trivial⟩ trivial) ?_
  refine post_next ?_
  refine aw_ret ?_
  obtain rfl := Option.some.inj hF
  exact prt
theorem ref15_This_ok {a0 : GClass} {r : (List GOwner)} (hF : ref15_This a0 = some r) : Abs.Fn globs_Tryd Tryd.prog 95 [.agg (eGClass a0)] [.own 23 2 (List.map eGOwner r)] := by
  unfold ref15_This at hF
  refine fn_of_body (n := 21) Tryd.func95 rfl rfl rfl ?_
  intro w O
  refine aw_seq ?_
  refine aw_region ?_
  refine rgp (op_box 0 rfl rfl rfl rfl rfl rfl) ?_
  refine ras ?_
  refine reg_nil ?_
  refine post_imp (s' := ⟨21, [(1, some (.lp 0 0))], [(0, some (.box 39 (bxv (eGClass a0))))], 1, [], [], 0, []⟩) (imps [0] ⟨by kernel_rfl, trivial⟩ ⟨by kernel_rfl, trivial⟩) ?_
  refine post_next ?_
  refine aw_seq ?_
  refine aw_region ?_
  refine rgp (op_build (zs := (eGOwner zGOwner)) (r := eGOwner ({ fKind := 2, fN := 0 } : GOwner)) rfl Tryd_zer_23 (by exact ⟨rfl, rfl, trivial⟩) Tryd_plc_23 rfl rfl rfl rfl) ?_
  refine rgp (op_litOwn 1 rfl (rows := List.map eGOwner ([({ fKind := 2, fN := 0 } : GOwner)] : List GOwner)) (zs := (eGOwner zGOwner)) rfl rfl Tryd_slc_35 Tryd_zer_23 (by exact ⟨rfl, rfl, trivial⟩) rfl rfl rfl rfl rfl rfl rfl rfl) ?_
  refine ras ?_
  refine reg_nil ?_
  refine post_imp (s' := ⟨21, [(1, some (.lp 0 0)), (3, some (.ls 1))], [(0, some (.box 39 (bxv (eGClass a0)))), (1, some (.row 23 2 (List.map eGOwner [({ fKind := 2, fN := 0 } : GOwner)])))], 2, [], [], 0, []⟩) (imps [0, 1] ⟨by kernel_rfl, by kernel_rfl, trivial⟩ ⟨by kernel_rfl, by kernel_rfl, trivial⟩) ?_
  refine post_next ?_
  iterate 2 (refine aw_seq ?_)
  refine aw_region ?_
  refine ras ?_
  refine reg_nil ?_
  refine post_imp (s' := ⟨21, [(1, some (.lp 0 0)), (3, some (.ls 1)), (4, some (.pv (.int .i64 0)))], [(0, some (.box 39 (bxv (eGClass a0)))), (1, some (.row 23 2 (List.map eGOwner [({ fKind := 2, fN := 0 } : GOwner)])))], 2, [], [], 0, []⟩) (imps [0, 1] ⟨by kernel_rfl, by kernel_rfl, by kernel_rfl, trivial⟩ ⟨by kernel_rfl, by kernel_rfl, trivial⟩) ?_
  refine post_next ?_
  obtain ⟨x22, hF, hK23⟩ := bind_some hF
  refine aw_for ((((a0.fParams.length : Int) : Int) - (0)).toNat + 1) (fun s1 => s1 = ⟨21, [(3, some (.ls 0))], [(0, some (.row 23 2 (List.map eGOwner x22)))], 1, [], [], 0, []⟩) ?_ ?_
  · refine rnd_loop (α := (List GOwner) × Int) (fun q => ⟨21, [(1, some (.lp 0 0)), (3, some (.ls 1)), (4, some (.pv (.int .i64 q.2)))], [(0, some (.box 39 (bxv (eGClass a0)))), (1, some (.row 23 2 (List.map eGOwner q.1)))], 2, [], [], 0, []⟩) (fun k q => ref15_This_L1 a0 k q.1 q.2 = some x22) ([({ fKind := 2, fN := 0 } : GOwner)], 0) (imps [0, 1] ⟨by kernel_rfl, by kernel_rfl, by kernel_rfl, trivial⟩ ⟨by kernel_rfl, by kernel_rfl, trivial⟩) hF (fun q h => by cases h) ?_
    clear hF
    rintro k ⟨x6, x7⟩ hF ih
    refine rnd_succ ?_
    iterate 2 (refine aw_seq ?_)
    refine aw_region ?_
    refine rmv ?_
    refine rgp (op_field_lp rfl rfl Tryd_fld_39_1 rfl rfl) ?_
    refine rgp (op_load_lp (v := .pv (.vs 1 (List.map eS a0.fParams))) rfl rfl rfl rfl Tryd_one_27 rfl rfl) ?_
    refine rgp (op_len_vs (n := a0.fParams.length) rfl rfl (List.length_map ..) Tryd_slc_27 rfl rfl) ?_
    refine rgp (op_int (k := .i64) (m := x7) (n := (a0.fParams.length : Int)) rfl rfl rfl rfl rfl rfl) ?_
    refine reg_nil ?_
    refine post_imp (s' := ⟨21, [(1, some (.lp 0 0)), (3, some (.ls 1)), (4, some (.pv (.int .i64 x7))), (11, some (.pv (.bool (decide (x7 < (a0.fParams.length : Int))))))], [(0, some (.box 39 (bxv (eGClass a0)))), (1, some (.row 23 2 (List.map eGOwner x6)))], 2, [], [], 0, []⟩) (imps [0, 1] ⟨by kernel_rfl, by kernel_rfl, by kernel_rfl, by kernel_rfl, trivial⟩ ⟨by kernel_rfl, by kernel_rfl, trivial⟩) ?_
    refine post_next ?_
    rcases ite_some hF with ⟨hb15, hF⟩ | ⟨hb15, hF⟩
    · refine aw_cond_t rfl hb15 ?_
      refine aw_skip ?_
      refine post_next ?_
      refine aw_seq ?_
      refine aw_block ?_
      refine aw_region ?_
      iterate 2 (refine rmv ?_)
      refine rgp (op_int (k := .i64) (m := x7) (n := 1) rfl rfl rfl rfl rfl rfl) ?_
      refine rgp (op_build (zs := (eGOwner zGOwner)) (r := eGOwner ({ fKind := 3, fN := w_i64 (x7 + 1) } : GOwner)) rfl Tryd_zer_23 (by exact ⟨rfl, rfl, trivial⟩) Tryd_plc_23 rfl rfl rfl rfl) ?_
      refine rgp (op_lit (rows := List.map eGOwner ([({ fKind := 3, fN := w_i64 (x7 + 1) } : GOwner)] : List GOwner)) (zs := (eGOwner zGOwner)) rfl rfl Tryd_slc_35 Tryd_zer_23 (by exact ⟨rfl, rfl, trivial⟩) rfl rfl rfl rfl rfl rfl rfl rfl) ?_
      obtain ⟨u18, h19, hF⟩ := bind_some hF
      refine rgp (op_append 2 rfl rfl rfl rfl rfl Tryd_slc_35 Tryd_elm_23 Tryd_zer_23 rfl rfl rfl (room_map (f := eGOwner) (g := eGOwner) h19) (List.map_append (f := eGOwner) (l₁ := x6) (l₂ := [({ fKind := 3, fN := w_i64 (x7 + 1) } : GOwner)])).symm rfl rfl) ?_
      refine ras ?_
      refine reg_nil ?_
      refine post_imp (s' := ⟨21, [(1, some (.lp 0 0)), (3, some (.ls 1)), (4, some (.pv (.int .i64 x7)))], [(0, some (.box 39 (bxv (eGClass a0)))), (1, some (.row 23 2 (List.map eGOwner (x6 ++ [({ fKind := 3, fN := w_i64 (x7 + 1) } : GOwner)]))))], 2, [], [], 0, []⟩) (imps [0, 2] ⟨by kernel_rfl, by kernel_rfl, by kernel_rfl, trivial⟩ ⟨by kernel_rfl, by kernel_rfl, trivial⟩) ?_
      refine post_block_normal ?_
      refine post_next ?_
      refine aw_region ?_
      refine rmv ?_
      refine rgp (op_int (k := .i64) (m := x7) (n := 1) rfl rfl rfl rfl rfl rfl) ?_
      refine ras ?_
      refine reg_nil ?_
      refine post_round ?_
      exact rnd_back (ih ((x6 ++ [({ fKind := 3, fN := w_i64 (x7 + 1) } : GOwner)]), w_i64 (x7 + 1)) hF) (imps [0, 1] ⟨by kernel_rfl, by kernel_rfl, by kernel_rfl, trivial⟩ ⟨by kernel_rfl, by kernel_rfl, trivial⟩)
    refine aw_cond_f rfl hb15 ?_
    refine aw_exit ?_
    iterate 2 (refine post_then_exit ?_)
    obtain rfl := Option.some.inj hF
    exact post_lp_break _ rfl (imps [1] ⟨by kernel_rfl, trivial⟩ ⟨by kernel_rfl, trivial⟩)
  rintro _ rfl
  have hF := hK23
  clear hK23
  refine post_next ?_
  refine aw_seq ?_
  refine aw_region ?_
  refine rmv ?_
  refine ras ?_
  refine reg_nil ?_
  refine post_imp (s' := ⟨21, [(2, some (.ls 0))], [(0, some (.row 23 2 (List.map eGOwner x22)))], 1, [], [], 0, []⟩) (imps [0] ⟨by kernel_rfl, trivial⟩ ⟨by kernel_rfl, trivial⟩) ?_
  refine post_next ?_
  refine aw_ret ?_
  obtain rfl := Option.some.inj hF
  exact post_ret rfl rfl (.cons _ _ _ _ _ (.tmp _ _ rfl) (.own _ _ _ _ rfl nolent3) .nil) (.inl rfl)
theorem ref18_This_ok {a0 : GClass} {r : GType} (hF : ref18_This a0 = some r) : Abs.Fn globs_Tryd Tryd.prog 71 [.agg (eGClass a0)] [.p (.agg (eGType r))] := by
  unfold ref18_This at hF
  refine fn_of_body (n := 29) Tryd.func71 rfl rfl rfl ?_
  intro w O
  refine aw_seq ?_
  refine aw_region ?_
  refine rgp (op_box 0 rfl rfl rfl rfl rfl rfl) ?_
  refine rgp (op_alloc 1 rfl (ps := (eGType zGType)) rfl Tryd_zer_26 (by exact ⟨rfl, rfl, rfl, rfl, rfl, rfl, rfl, rfl, rfl, rfl, rfl, trivial⟩) rfl rfl) ?_
  refine reg_nil ?_
  refine post_imp (s' := ⟨29, [(1, some (.lp 0 0)), (2, some (.lp 1 0))], [(0, some (.box 39 (bxv (eGClass a0)))), (1, some (.box 26 (bxv (eGType zGType))))], 2, [], [], 0, []⟩) (imps [0, 1] ⟨by kernel_rfl, by kernel_rfl, trivial⟩ ⟨by kernel_rfl, by kernel_rfl, trivial⟩) ?_
  refine post_next ?_
  refine aw_seq ?_
  refine aw_region ?_
  refine rgp (op_field_lp rfl rfl Tryd_fld_39_0 rfl rfl) ?_
  refine rgp (op_load_lp (v := .pv (.str a0.fName)) rfl rfl rfl rfl Tryd_one_9 rfl rfl) ?_
  refine rgp (op_field_lp rfl rfl Tryd_fld_39_1 rfl rfl) ?_
  refine rgp (op_load_lp (v := .pv (.vs 1 (List.map eS a0.fParams))) rfl rfl rfl rfl Tryd_one_27 rfl rfl) ?_
  refine rgp (op_len_vs (n := a0.fParams.length) rfl rfl (List.length_map ..) Tryd_slc_27 rfl rfl) ?_
  refine rgp (op_min2 rfl rfl rfl rfl rfl) ?_
  refine rgp (op_build (zs := (eGType zGType)) (r := eGType ({ fKind := 2, fClass := a0.fName, fN := (if (a0.fParams.length : Int) < 3 then (a0.fParams.length : Int) else 3), fOwn := (⟨zGOwner, zGOwner, zGOwner, zGOwner⟩ : A4 GOwner) } : GType)) rfl Tryd_zer_26 (by exact ⟨rfl, rfl, rfl, rfl, rfl, rfl, rfl, rfl, rfl, rfl, rfl, trivial⟩) Tryd_plc_26 rfl rfl rfl rfl) ?_
  refine rgp (op_alloc 2 rfl (ps := (eGType zGType)) rfl Tryd_zer_26 (by exact ⟨rfl, rfl, rfl, rfl, rfl, rfl, rfl, rfl, rfl, rfl, rfl, trivial⟩) rfl rfl) ?_
  refine rgp (op_store_lp (n := 11) rfl rfl rfl rfl rfl (or_agg Tryd_agg_26) (by rw [Tryd_non_26]; rfl) rfl rfl rfl) ?_
  refine reg_nil ?_
  refine post_imp (s' := ⟨29, [(1, some (.lp 0 0)), (2, some (.lp 1 0)), (3, some (.lp 2 0))], [(0, some (.box 39 (bxv (eGClass a0)))), (1, some (.box 26 (bxv (eGType zGType)))), (2, some (.box 26 (bxv (eGType ({ fKind := 2, fClass := a0.fName, fN := (if (a0.fParams.length : Int) < 3 then (a0.fParams.length : Int) else 3), fOwn := (⟨zGOwner, zGOwner, zGOwner, zGOwner⟩ : A4 GOwner) } : GType)))))], 3, [], [], 0, []⟩) (imps [0, 1, 2] ⟨by kernel_rfl, by kernel_rfl, by kernel_rfl, trivial⟩ ⟨by kernel_rfl, by kernel_rfl, by kernel_rfl, trivial⟩) ?_
  refine post_next ?_
  refine aw_seq ?_
  refine aw_region ?_
  refine rgp (op_load_lp_agg (ps := eGClass a0) rfl rfl rfl rfl rfl rfl Tryd_agg_39 rfl rfl) ?_
  obtain ⟨y3, h4, hF⟩ := bind_some hF
  refine rgp (op_call 3 rfl (caps := []) (args := [.agg (eGClass a0)]) (rs := [.p (.vs 2 (List.map eGOwner y3))]) rfl rfl rfl Tryd_cal_95 (Fn.frozen (ref15_This_ok h4)) rfl rfl rfl) ?_
  refine ras ?_
  refine reg_nil ?_
  refine post_imp (s' := ⟨29, [(2, some (.lp 0 0)), (3, some (.lp 1 0)), (4, some (.pv (.vs 2 (List.map eGOwner y3))))], [(0, some (.box 26 (bxv (eGType zGType)))), (1, some (.box 26 (bxv (eGType ({ fKind := 2, fClass := a0.fName, fN := (if (a0.fParams.length : Int) < 3 then (a0.fParams.length : Int) else 3), fOwn := (⟨zGOwner, zGOwner, zGOwner, zGOwner⟩ : A4 GOwner) } : GType)))))], 2, [], [], 0, []⟩) (imps [1, 2] ⟨by kernel_rfl, by kernel_rfl, by kernel_rfl, trivial⟩ ⟨by kernel_rfl, by kernel_rfl, trivial⟩) ?_
  refine post_next ?_
  iterate 2 (refine aw_seq ?_)
  refine aw_region ?_
  refine ras ?_
  refine reg_nil ?_
  refine post_imp (s' := ⟨29, [(2, some (.lp 0 0)), (3, some (.lp 1 0)), (4, some (.pv (.vs 2 (List.map eGOwner y3)))), (5, some (.pv (.int .i64 0)))], [(0, some (.box 26 (bxv (eGType zGType)))), (1, some (.box 26 (bxv (eGType ({ fKind := 2, fClass := a0.fName, fN := (if (a0.fParams.length : Int) < 3 then (a0.fParams.length : Int) else 3), fOwn := (⟨zGOwner, zGOwner, zGOwner, zGOwner⟩ : A4 GOwner) } : GType)))))], 2, [], [], 0, []⟩) (imps [0, 1] ⟨by kernel_rfl, by kernel_rfl, by kernel_rfl, by kernel_rfl, trivial⟩ ⟨by kernel_rfl, by kernel_rfl, trivial⟩) ?_
  refine post_next ?_
  obtain ⟨x34, hF, hK35⟩ := bind_some hF
  refine aw_for 5 (fun s1 => s1 = ⟨29, [(2, some (.lp 0 0)), (3, some (.lp 1 0))], [(0, some (.box 26 (bxv (eGType zGType)))), (1, some (.box 26 (bxv (eGType x34))))], 2, [], [], 0, []⟩) ?_ ?_
  · refine rnd_loop (α := GType × Int) (fun q => ⟨29, [(2, some (.lp 0 0)), (3, some (.lp 1 0)), (4, some (.pv (.vs 2 (List.map eGOwner y3)))), (5, some (.pv (.int .i64 q.2)))], [(0, some (.box 26 (bxv (eGType zGType)))), (1, some (.box 26 (bxv (eGType q.1))))], 2, [], [], 0, []⟩) (fun k q => ref18_This_L1 y3 k q.1 q.2 = some x34) (({ fKind := 2, fClass := a0.fName, fN := (if (a0.fParams.length : Int) < 3 then (a0.fParams.length : Int) else 3), fOwn := (⟨zGOwner, zGOwner, zGOwner, zGOwner⟩ : A4 GOwner) } : GType), 0) (imps [0, 1] ⟨by kernel_rfl, by kernel_rfl, by kernel_rfl, by kernel_rfl, trivial⟩ ⟨by kernel_rfl, by kernel_rfl, trivial⟩) hF (fun q h => by cases h) ?_
    clear hF
    rintro k ⟨x10, x11⟩ hF ih
    refine rnd_succ ?_
    iterate 2 (refine aw_seq ?_)
    refine aw_region ?_
    refine rmv ?_
    refine rgp (op_field_lp rfl rfl Tryd_fld_26_2 rfl rfl) ?_
    refine rgp (op_load_lp (v := .pv (.int .i64 x10.fN)) rfl rfl rfl rfl Tryd_one_3 rfl rfl) ?_
    refine rgp (op_int (k := .i64) (m := x11) (n := x10.fN) rfl rfl rfl rfl rfl rfl) ?_
    refine reg_nil ?_
    refine post_imp (s' := ⟨29, [(2, some (.lp 0 0)), (3, some (.lp 1 0)), (4, some (.pv (.vs 2 (List.map eGOwner y3)))), (5, some (.pv (.int .i64 x11))), (18, some (.pv (.bool (decide (x11 ≤ x10.fN)))))], [(0, some (.box 26 (bxv (eGType zGType)))), (1, some (.box 26 (bxv (eGType x10))))], 2, [], [], 0, []⟩) (imps [0, 1] ⟨by kernel_rfl, by kernel_rfl, by kernel_rfl, by kernel_rfl, by kernel_rfl, trivial⟩ ⟨by kernel_rfl, by kernel_rfl, trivial⟩) ?_
    refine post_next ?_
    rcases ite_some hF with ⟨hb23, hF⟩ | ⟨hb23, hF⟩
    · refine aw_cond_t rfl hb23 ?_
      refine aw_skip ?_
      refine post_next ?_
      refine aw_seq ?_
      refine aw_block ?_
      refine aw_region ?_
      iterate 3 (refine rmv ?_)
      obtain ⟨y28, h29, hF⟩ := bind_some hF
      refine rgp (op_index_vs (k := .i64) rfl rfl rfl (idx_map eGOwner h29) Tryd_slc_35 rfl rfl) ?_
      refine rgp (op_load_vp_agg (ps := eGOwner y28) rfl rfl rfl rfl Tryd_agg_23 rfl rfl) ?_
      refine rgp (op_field_lp rfl rfl Tryd_fld_26_3 rfl rfl) ?_
      obtain ⟨y30, h31, hF⟩ := bind_some hF
      refine rgp (op_arr_lpN (l := (x10.fOwn).l) rfl rfl rfl Tryd_arr_24 rfl h31 rfl rfl) ?_
      refine rgp (op_store_lpV (cells' := bxv (eGType ({ x10 with fOwn := (A4.set x10.fOwn (x11 : Int).toNat y28) } : GType))) (n := 2) rfl rfl rfl rfl rfl (or_agg Tryd_agg_23) (by rw [Tryd_non_23]; rfl) (by rcases idx_l4 h31 with e | e | e | e <;> rw [e] <;> exact Nat.le_of_ble_eq_true rfl) (by rcases idx_l4 h31 with e | e | e | e <;> rw [e] <;> rfl) rfl rfl) ?_
      refine reg_nil ?_
      refine post_imp (s' := ⟨29, [(2, some (.lp 0 0)), (3, some (.lp 1 0)), (4, some (.pv (.vs 2 (List.map eGOwner y3)))), (5, some (.pv (.int .i64 x11)))], [(0, some (.box 26 (bxv (eGType zGType)))), (1, some (.box 26 (bxv (eGType ({ x10 with fOwn := (A4.set x10.fOwn (x11 : Int).toNat y28) } : GType)))))], 2, [], [], 0, []⟩) (imps [0, 1] ⟨by kernel_rfl, by kernel_rfl, by kernel_rfl, by kernel_rfl, trivial⟩ ⟨by kernel_rfl, by kernel_rfl, trivial⟩) ?_
      refine post_block_normal ?_
      refine post_next ?_
      refine aw_region ?_
      refine rmv ?_
      refine rgp (op_int (k := .i64) (m := x11) (n := 1) rfl rfl rfl rfl rfl rfl) ?_
      refine ras ?_
      refine reg_nil ?_
      refine post_round ?_
      exact rnd_back (ih (({ x10 with fOwn := (A4.set x10.fOwn (x11 : Int).toNat y28) } : GType), w_i64 (x11 + 1)) hF) (imps [0, 1] ⟨by kernel_rfl, by kernel_rfl, by kernel_rfl, by kernel_rfl, trivial⟩ ⟨by kernel_rfl, by kernel_rfl, trivial⟩)
    refine aw_cond_f rfl hb23 ?_
    refine aw_exit ?_
    iterate 2 (refine post_then_exit ?_)
    obtain rfl := Option.some.inj hF
    exact post_lp_break _ rfl (imps [0, 1] ⟨by kernel_rfl, by kernel_rfl, trivial⟩ ⟨by kernel_rfl, by kernel_rfl, trivial⟩)
  rintro _ rfl
  have hF := hK35
  clear hK35
  refine post_next ?_
  refine aw_seq ?_
  refine aw_region ?_
  refine rgp (op_load_lp_agg (ps := eGType x34) rfl rfl rfl rfl rfl rfl Tryd_agg_26 rfl rfl) ?_
  refine rgp (op_store_lp (n := 11) rfl rfl rfl rfl rfl (or_agg Tryd_agg_26) (by rw [Tryd_non_26]; rfl) rfl rfl rfl) ?_
  refine reg_nil ?_
  refine post_imp (s' := ⟨29, [(2, some (.lp 0 0))], [(0, some (.box 26 (bxv (eGType x34))))], 1, [], [], 0, []⟩) (imps [0] ⟨by kernel_rfl, trivial⟩ ⟨by kernel_rfl, trivial⟩) ?_
  refine post_next ?_
  refine aw_ret ?_
  obtain rfl := Option.some.inj hF
  exact post_ret rfl rfl (.cons _ _ _ _ _ (.agg _ _ _ _ _ 11 _ _ rfl rfl Tryd_agg_26 rfl rfl rfl) (.p _) .nil) (.inl rfl)
theorem ref12_Vars_ok {a0 : GMethod} {r : (List GVar)} (hF : ref12_Vars a0 = some r) : Abs.Fn globs_Tryd Tryd.prog 94 [.agg (eGMethod a0)] [.own 52 13 (List.map eGVar r)] := by
  unfold ref12_Vars at hF
  refine fn_of_body (n := 10) Tryd.func94 rfl rfl rfl ?_
  intro w O
  refine aw_seq ?_
  refine aw_region ?_
  refine rgp (op_box 0 rfl rfl rfl rfl rfl rfl) ?_
  refine ras ?_
  refine reg_nil ?_
  refine post_imp (s' := ⟨10, [(1, some (.lp 0 0))], [(0, some (.box 42 (bxv (eGMethod a0))))], 1, [], [], 0, []⟩) (imps [0] ⟨by kernel_rfl, trivial⟩ ⟨by kernel_rfl, trivial⟩) ?_
  refine post_next ?_
  refine aw_seq ?_
  refine aw_imp (imp_names 3) ?_
  refine dr_start ⟨_, _, _⟩ rfl ?_
  refine dr_cons { names := [1], dst := some 3, val := some (.ls 1), upd := [(1, some (.row 52 13 (List.map eGVar ([] : List GVar))))] } (fun m h => step_on (guard_no rfl) (op_litOwn 1 (fresh_free h.2.2.1) (rows := List.map eGVar ([] : List GVar)) (zs := (eGVar zGVar)) rfl rfl Tryd_slc_36 Tryd_zer_52 (by exact ⟨rfl, rfl, rfl, rfl, rfl, rfl, rfl, rfl, rfl, rfl, rfl, rfl, rfl, trivial⟩) rfl rfl rfl evs_nil rfl rfl rfl rfl) rfl) ⟨trivial, trivial, ⟨rfl, trivial⟩⟩ ?_
  refine dr_cons { need := [(1, .lp 0 0)], dst := some 4, val := some (.lp 0 13) } (fun m h => step_on (guard_no rfl) (op_field_lp rfl h.1.1 Tryd_fld_42_3 rfl rfl) rfl) ⟨⟨rfl, trivial⟩, trivial, trivial⟩ ?_
  refine dr_cons { need := [(4, .lp 0 13)], hneed := [(0, .box 42 (bxv (eGMethod a0)))], dst := some 5, val := some (.pv (.vs 13 (List.map eGVar a0.fParams))) } (fun m h => step_on (guard_no rfl) (op_load_lp (v := .pv (.vs 13 (List.map eGVar a0.fParams))) rfl h.1.1 h.2.1.1 rfl Tryd_one_36 rfl rfl) rfl) ⟨⟨rfl, trivial⟩, ⟨rfl, trivial⟩, trivial⟩ ?_
  obtain ⟨u1, h2, hF⟩ := bind_some hF
  refine dr_cons { need := [(3, .ls 1), (5, .pv (.vs 13 (List.map eGVar a0.fParams)))], hneed := [(1, .row 52 13 (List.map eGVar ([] : List GVar)))], names := [2], dst := some 6, val := some (.ls 2), upd := [(2, some (.row 52 13 (List.map eGVar (([] : List GVar) ++ a0.fParams)))), (1, none)] } (fun m h => step_on (guard_no rfl) (op_append 2 (fresh_free h.2.2.1) rfl h.1.1 h.2.1.1 h.1.2.1 Tryd_slc_36 Tryd_elm_52 Tryd_zer_52 rfl rfl rfl (room_map (f := eGVar) (g := eGVar) h2) (List.map_append (f := eGVar) (l₁ := ([] : List GVar)) (l₂ := a0.fParams)).symm rfl rfl) rfl) ⟨⟨rfl, rfl, trivial⟩, ⟨rfl, trivial⟩, ⟨rfl, trivial⟩⟩ ?_
  refine dr_cons { need := [(1, .lp 0 0)], dst := some 7, val := some (.lp 0 14) } (fun m h => step_on (guard_no rfl) (op_field_lp rfl h.1.1 Tryd_fld_42_4 rfl rfl) rfl) ⟨⟨rfl, trivial⟩, trivial, trivial⟩ ?_
  refine dr_cons { need := [(7, .lp 0 14)], hneed := [(0, .box 42 (bxv (eGMethod a0)))], dst := some 8, val := some (.pv (.vs 13 (List.map eGVar a0.fLocals))) } (fun m h => step_on (guard_no rfl) (op_load_lp (v := .pv (.vs 13 (List.map eGVar a0.fLocals))) rfl h.1.1 h.2.1.1 rfl Tryd_one_36 rfl rfl) rfl) ⟨⟨rfl, trivial⟩, ⟨rfl, trivial⟩, trivial⟩ ?_
  obtain ⟨u3, h4, hF⟩ := bind_some hF
  refine dr_cons { need := [(6, .ls 2), (8, .pv (.vs 13 (List.map eGVar a0.fLocals)))], hneed := [(2, .row 52 13 (List.map eGVar (([] : List GVar) ++ a0.fParams)))], names := [3], dst := some 9, val := some (.ls 3), upd := [(3, some (.row 52 13 (List.map eGVar ((([] : List GVar) ++ a0.fParams) ++ a0.fLocals)))), (2, none)] } (fun m h => step_on (guard_no rfl) (op_append 3 (fresh_free h.2.2.1) rfl h.1.1 h.2.1.1 h.1.2.1 Tryd_slc_36 Tryd_elm_52 Tryd_zer_52 rfl rfl rfl (room_map (f := eGVar) (g := eGVar) h4) (List.map_append (f := eGVar) (l₁ := (([] : List GVar) ++ a0.fParams)) (l₂ := a0.fLocals)).symm rfl rfl) rfl) ⟨⟨rfl, rfl, trivial⟩, ⟨rfl, trivial⟩, ⟨rfl, trivial⟩⟩ ?_
  refine dr_cons { need := [(9, .ls 3)], dst := some 2, val := some (.ls 3) } (fun m h => step_on (guard_no rfl) (op_assign rfl h.1.1 rfl rfl) rfl) ⟨⟨rfl, trivial⟩, trivial, trivial⟩ ?_
  refine dr_nil Tryd_mixed rfl (by kernel_rfl) ?_
  refine post_imp (s' := ⟨10, [(2, some (.ls 0))], [(0, some (.row 52 13 (List.map eGVar ((([] : List GVar) ++ a0.fParams) ++ a0.fLocals))))], 1, [], [], 0, []⟩) (imps [3] ⟨by kernel_rfl, trivial⟩ ⟨by kernel_rfl, trivial⟩) ?_
  refine post_next ?_
  refine aw_ret ?_
  obtain rfl := Option.some.inj hF
  exact post_ret rfl rfl (.cons _ _ _ _ _ (.tmp _ _ rfl) (.own _ _ _ _ rfl nolent3) .nil) (.inl rfl)
theorem ref18_Place_ok {a0 : GMethod} {a1 : List UInt8} {r : Int} (hF : ref18_Place a0 a1 = some r) : Abs.Fn globs_Tryd Tryd.prog 93 [.agg (eGMethod a0), .str a1] [.p (.int .i64 r)] := by
  unfold ref18_Place at hF
  refine fn_of_body (n := 23) Tryd.func93 rfl rfl rfl ?_
  intro w O
  refine aw_seq ?_
  refine aw_region ?_
  refine rgp (op_box 0 rfl rfl rfl rfl rfl rfl) ?_
  refine ras ?_
  refine reg_nil ?_
  refine post_imp (s' := ⟨23, [(1, some (.pv (.str a1))), (2, some (.lp 0 0))], [(0, some (.box 42 (bxv (eGMethod a0))))], 1, [], [], 0, []⟩) (imps [0] ⟨by kernel_rfl, by kernel_rfl, trivial⟩ ⟨by kernel_rfl, trivial⟩) ?_
  refine post_next ?_
  refine aw_seq ?_
  refine aw_region ?_
  refine rgp (op_load_lp_agg (ps := eGMethod a0) rfl rfl rfl rfl rfl rfl Tryd_agg_42 rfl rfl) ?_
  obtain ⟨y3, h4, hF⟩ := bind_some hF
  refine rgp (op_call 1 rfl (caps := []) (args := [.agg (eGMethod a0)]) (rs := [.p (.vs 13 (List.map eGVar y3))]) rfl rfl rfl Tryd_cal_94 (Fn.frozen (ref12_Vars_ok h4)) rfl rfl rfl) ?_
  refine ras ?_
  refine reg_nil ?_
  refine post_imp (s' := ⟨23, [(1, some (.pv (.str a1))), (5, some (.pv (.vs 13 (List.map eGVar y3))))], [], 0, [], [], 0, []⟩) (imps [] ⟨by kernel_rfl, by kernel_rfl, trivial⟩ trivial) ?_
  refine post_next ?_
  iterate 2 (refine aw_seq ?_)
  refine aw_region ?_
  refine ras ?_
  refine reg_nil ?_
  refine post_imp (s' := ⟨23, [(1, some (.pv (.str a1))), (5, some (.pv (.vs 13 (List.map eGVar y3)))), (6, some (.pv (.int .i64 0)))], [], 0, [], [], 0, []⟩) (imps [] ⟨by kernel_rfl, by kernel_rfl, by kernel_rfl, trivial⟩ trivial) ?_
  refine post_next ?_
  obtain ⟨lr26, hF, hK27⟩ := bind_some hF
  refine aw_for ((((y3.length : Int) : Int) - (0)).toNat + 1) (fun s1 => ∃ q, lr26 = .next q ∧ s1 = ⟨23, [], [], 0, [], [], 0, []⟩) ?_ ?_
  · refine rnd_loop (α := Int) (fun q => ⟨23, [(1, some (.pv (.str a1))), (5, some (.pv (.vs 13 (List.map eGVar y3)))), (6, some (.pv (.int .i64 q)))], [], 0, [], [], 0, []⟩) (fun k q => ref18_Place_L1 a1 y3 k q = some lr26) 0 (imps [] ⟨by kernel_rfl, by kernel_rfl, by kernel_rfl, trivial⟩ trivial) hF (fun q h => by cases h) ?_
    clear hF
    rintro k x11 hF ih
    refine rnd_succ ?_
    iterate 2 (refine aw_seq ?_)
    refine aw_region ?_
    iterate 2 (refine rmv ?_)
    refine rgp (op_len_vs (n := y3.length) rfl rfl (List.length_map ..) Tryd_slc_36 rfl rfl) ?_
    refine rgp (op_int (k := .i64) (m := x11) (n := (y3.length : Int)) rfl rfl rfl rfl rfl rfl) ?_
    refine reg_nil ?_
    refine post_imp (s' := ⟨23, [(1, some (.pv (.str a1))), (5, some (.pv (.vs 13 (List.map eGVar y3)))), (6, some (.pv (.int .i64 x11))), (12, some (.pv (.bool (decide (x11 < (y3.length : Int))))))], [], 0, [], [], 0, []⟩) (imps [] ⟨by kernel_rfl, by kernel_rfl, by kernel_rfl, by kernel_rfl, trivial⟩ trivial) ?_
    refine post_next ?_
    rcases ite_some hF with ⟨hb19, hF⟩ | ⟨hb19, hF⟩
    · refine aw_cond_t rfl hb19 ?_
      refine aw_skip ?_
      refine post_next ?_
      refine aw_seq ?_
      refine aw_block ?_
      refine aw_seq ?_
      refine aw_region ?_
      iterate 2 (refine rmv ?_)
      obtain ⟨y22, h23, hF⟩ := bind_some hF
      refine rgp (op_index_vs (k := .i64) rfl rfl rfl (idx_map eGVar h23) Tryd_slc_36 rfl rfl) ?_
      refine rgp (op_field_vp rfl rfl Tryd_fld_52_0 rfl rfl) ?_
      refine rgp (op_load_vp (p := .str y22.fName) rfl rfl rfl Tryd_one_9 rfl rfl) ?_
      refine rmv ?_
      refine rgp (op_str rfl rfl rfl rfl rfl rfl) ?_
      refine reg_nil ?_
      refine post_imp (s' := ⟨23, [(1, some (.pv (.str a1))), (5, some (.pv (.vs 13 (List.map eGVar y3)))), (6, some (.pv (.int .i64 x11))), (21, some (.pv (.bool (y22.fName == a1))))], [], 0, [], [], 0, []⟩) (imps [] ⟨by kernel_rfl, by kernel_rfl, by kernel_rfl, by kernel_rfl, trivial⟩ trivial) ?_
      refine post_next ?_
      rcases ite_some hF with ⟨hb24, hF⟩ | ⟨hb24, hF⟩
      · refine aw_cond_t rfl hb24 ?_
        refine aw_seq ?_
        refine aw_region ?_
        refine rmv ?_
        refine ras ?_
        refine reg_nil ?_
        refine post_imp (s' := ⟨23, [(4, some (.pv (.int .i64 x11)))], [], 0, [], [], 0, []⟩) (imps [] ⟨by kernel_rfl, trivial⟩ trivial) ?_
        refine post_next ?_
        refine aw_ret ?_
        refine post_block_ret ?_
        iterate 2 (refine post_then_ret ?_)
        refine post_lp_ret ?_
        obtain rfl := Option.some.inj hF
        have hF := elim_stop hK27
        refine post_then_ret ?_
        obtain rfl := Option.some.inj hF
        exact prt
      refine aw_cond_f rfl hb24 ?_
      refine aw_skip ?_
      refine post_block_normal ?_
      refine post_next ?_
      refine aw_region ?_
      refine rmv ?_
      refine rgp (op_int (k := .i64) (m := x11) (n := 1) rfl rfl rfl rfl rfl rfl) ?_
      refine ras ?_
      refine reg_nil ?_
      refine post_round ?_
      exact rnd_back (ih (w_i64 (x11 + 1)) hF) (imps [] ⟨by kernel_rfl, by kernel_rfl, by kernel_rfl, trivial⟩ trivial)
    refine aw_cond_f rfl hb19 ?_
    refine aw_exit ?_
    iterate 2 (refine post_then_exit ?_)
    obtain rfl := Option.some.inj hF
    exact post_lp_break _ ⟨_, rfl, rfl⟩ (imps [] trivial trivial)
  rintro _ ⟨⟨⟩, rfl, rfl⟩
  have hF := elim_next hK27
  clear hK27
  refine post_next ?_
  refine aw_seq ?_
  refine aw_region ?_
  refine ras ?_
  refine reg_nil ?_
  refine post_imp (s' := ⟨23, [(4, some (.pv (.int .i64 (-1))))], [], 0, [], [], 0, []⟩) (imps [] ⟨by kernel_rfl, trivial⟩ trivial) ?_
  refine post_next ?_
  refine aw_ret ?_
  obtain rfl := Option.some.inj hF
  exact prt
theorem ref18_Type_ok {a0 : GClass} {a1 : GMethod} {a2 : List UInt8} {r : GType × Bool} (hF : ref18_Type a0 a1 a2 = some r) : Abs.Fn globs_Tryd Tryd.prog 70 [.agg (eGClass a0), .agg (eGMethod a1), .str a2] [.p (.agg (eGType r.1)), .p (.bool r.2)] := by
  unfold ref18_Type at hF
  refine fn_of_body (n := 25) Tryd.func70 rfl rfl rfl ?_
  intro w O
  refine aw_seq ?_
  refine aw_region ?_
  refine rgp (op_box 0 rfl rfl rfl rfl rfl rfl) ?_
  refine rgp (op_box 1 rfl rfl rfl rfl rfl rfl) ?_
  refine rgp (op_alloc 2 rfl (ps := (eGType zGType)) rfl Tryd_zer_26 (by exact ⟨rfl, rfl, rfl, rfl, rfl, rfl, rfl, rfl, rfl, rfl, rfl, trivial⟩) rfl rfl) ?_
  refine ras ?_
  refine reg_nil ?_
  refine post_imp (s' := ⟨25, [(2, some (.pv (.str a2))), (3, some (.lp 0 0)), (4, some (.lp 1 0)), (6, some (.lp 2 0))], [(0, some (.box 39 (bxv (eGClass a0)))), (1, some (.box 42 (bxv (eGMethod a1)))), (2, some (.box 26 (bxv (eGType zGType))))], 3, [], [], 0, []⟩) (imps [0, 1, 2] ⟨by kernel_rfl, by kernel_rfl, by kernel_rfl, by kernel_rfl, trivial⟩ ⟨by kernel_rfl, by kernel_rfl, by kernel_rfl, trivial⟩) ?_
  refine post_next ?_
  iterate 2 (refine aw_seq ?_)
  refine aw_region ?_
  refine rmv ?_
  refine rgp (op_str rfl rfl rfl rfl rfl rfl) ?_
  refine reg_nil ?_
  refine post_imp (s' := ⟨25, [(2, some (.pv (.str a2))), (3, some (.lp 0 0)), (4, some (.lp 1 0)), (6, some (.lp 2 0)), (10, some (.pv (.bool (a2 == [116, 104, 105, 115]))))], [(0, some (.box 39 (bxv (eGClass a0)))), (1, some (.box 42 (bxv (eGMethod a1)))), (2, some (.box 26 (bxv (eGType zGType))))], 3, [], [], 0, []⟩) (imps [0, 1, 2] ⟨by kernel_rfl, by kernel_rfl, by kernel_rfl, by kernel_rfl, by kernel_rfl, trivial⟩ ⟨by kernel_rfl, by kernel_rfl, by kernel_rfl, trivial⟩) ?_
  refine post_next ?_
  rcases ite_some hF with ⟨hb1, hF⟩ | ⟨hb1, hF⟩
  · refine aw_cond_t rfl hb1 ?_
    refine aw_seq ?_
    refine aw_region ?_
    refine rgp (op_load_lp_agg (ps := eGClass a0) rfl rfl rfl rfl rfl rfl Tryd_agg_39 rfl rfl) ?_
    obtain ⟨y2, h3, hF⟩ := bind_some hF
    refine rgp (op_call 3 rfl (caps := []) (args := [.agg (eGClass a0)]) (rs := [.p (.agg (eGType y2))]) rfl rfl rfl Tryd_cal_71 (ref18_This_ok h3) rfl rfl rfl) ?_
    refine rgp (op_store_lp (n := 11) rfl rfl rfl rfl rfl (or_agg Tryd_agg_26) (by rw [Tryd_non_26]; rfl) rfl rfl rfl) ?_
    refine ras ?_
    refine reg_nil ?_
    refine post_imp (s' := ⟨25, [(6, some (.lp 0 0)), (7, some (.pv (.bool true)))], [(0, some (.box 26 (bxv (eGType y2))))], 1, [], [], 0, []⟩) (imps [2] ⟨by kernel_rfl, by kernel_rfl, trivial⟩ ⟨by kernel_rfl, trivial⟩) ?_
    refine post_next ?_
    refine aw_ret ?_
    refine post_then_ret ?_
    obtain rfl := Option.some.inj hF
    exact post_ret rfl rfl (.cons _ _ _ _ _ (.agg _ _ _ _ _ 11 _ _ rfl rfl Tryd_agg_26 rfl rfl rfl) (.p _) (.cons _ _ _ _ _ (.tmp _ _ rfl) (.p _) .nil)) (.inl rfl)
  refine aw_cond_f rfl hb1 ?_
  refine aw_skip ?_
  refine post_next ?_
  refine aw_seq ?_
  refine aw_region ?_
  refine rgp (op_load_lp_agg (ps := eGMethod a1) rfl rfl rfl rfl rfl rfl Tryd_agg_42 rfl rfl) ?_
  refine rmv ?_
  obtain ⟨y6, h7, hF⟩ := bind_some hF
  refine rgp (op_call 3 rfl (caps := []) (args := [.agg (eGMethod a1), .str a2]) (rs := [.p (.int .i64 y6)]) rfl rfl rfl Tryd_cal_93 (ref18_Place_ok h7) rfl rfl rfl) ?_
  refine ras ?_
  refine reg_nil ?_
  refine post_imp (s' := ⟨25, [(4, some (.lp 0 0)), (6, some (.lp 1 0)), (8, some (.pv (.int .i64 y6)))], [(0, some (.box 42 (bxv (eGMethod a1)))), (1, some (.box 26 (bxv (eGType zGType))))], 2, [], [], 0, []⟩) (imps [1, 2] ⟨by kernel_rfl, by kernel_rfl, by kernel_rfl, trivial⟩ ⟨by kernel_rfl, by kernel_rfl, trivial⟩) ?_
  refine post_next ?_
  iterate 2 (refine aw_seq ?_)
  refine aw_region ?_
  refine rmv ?_
  refine rgp (op_int (k := .i64) (m := y6) (n := 0) rfl rfl rfl rfl rfl rfl) ?_
  refine reg_nil ?_
  refine post_imp (s' := ⟨25, [(4, some (.lp 0 0)), (6, some (.lp 1 0)), (8, some (.pv (.int .i64 y6))), (17, some (.pv (.bool (decide (y6 < 0)))))], [(0, some (.box 42 (bxv (eGMethod a1)))), (1, some (.box 26 (bxv (eGType zGType))))], 2, [], [], 0, []⟩) (imps [0, 1] ⟨by kernel_rfl, by kernel_rfl, by kernel_rfl, by kernel_rfl, trivial⟩ ⟨by kernel_rfl, by kernel_rfl, trivial⟩) ?_
  refine post_next ?_
  rcases ite_some hF with ⟨hb8, hF⟩ | ⟨hb8, hF⟩
  · refine aw_cond_t rfl hb8 ?_
    refine aw_seq ?_
    refine aw_region ?_
    refine rgp (op_build (zs := (eGType zGType)) (r := eGType ({ fKind := 0, fClass := [], fN := 0, fOwn := (⟨zGOwner, zGOwner, zGOwner, zGOwner⟩ : A4 GOwner) } : GType)) rfl Tryd_zer_26 (by exact ⟨rfl, rfl, rfl, rfl, rfl, rfl, rfl, rfl, rfl, rfl, rfl, trivial⟩) Tryd_plc_26 rfl rfl rfl rfl) ?_
    refine rgp (op_store_lp (n := 11) rfl rfl rfl rfl rfl (or_agg Tryd_agg_26) (by rw [Tryd_non_26]; rfl) rfl rfl rfl) ?_
    refine ras ?_
    refine reg_nil ?_
    refine post_imp (s' := ⟨25, [(6, some (.lp 0 0)), (7, some (.pv (.bool false)))], [(0, some (.box 26 (bxv (eGType ({ fKind := 0, fClass := [], fN := 0, fOwn := (⟨zGOwner, zGOwner, zGOwner, zGOwner⟩ : A4 GOwner) } : GType)))))], 1, [], [], 0, []⟩) (imps [1] ⟨by kernel_rfl, by kernel_rfl, trivial⟩ ⟨by kernel_rfl, trivial⟩) ?_
    refine post_next ?_
    refine aw_ret ?_
    refine post_then_ret ?_
    obtain rfl := Option.some.inj hF
    exact post_ret rfl rfl (.cons _ _ _ _ _ (.agg _ _ _ _ _ 11 _ _ rfl rfl Tryd_agg_26 rfl rfl rfl) (.p _) (.cons _ _ _ _ _ (.tmp _ _ rfl) (.p _) .nil)) (.inl rfl)
  refine aw_cond_f rfl hb8 ?_
  refine aw_skip ?_
  refine post_next ?_
  refine aw_seq ?_
  refine aw_region ?_
  refine rgp (op_load_lp_agg (ps := eGMethod a1) rfl rfl rfl rfl rfl rfl Tryd_agg_42 rfl rfl) ?_
  obtain ⟨y9, h10, hF⟩ := bind_some hF
  refine rgp (op_call 2 rfl (caps := []) (args := [.agg (eGMethod a1)]) (rs := [.p (.vs 13 (List.map eGVar y9))]) rfl rfl rfl Tryd_cal_94 (Fn.frozen (ref12_Vars_ok h10)) rfl rfl rfl) ?_
  refine rmv ?_
  obtain ⟨y11, h12, hF⟩ := bind_some hF
  refine rgp (op_index_vs (k := .i64) rfl rfl rfl (idx_map eGVar h12) Tryd_slc_36 rfl rfl) ?_
  refine rgp (op_field_vp rfl rfl Tryd_fld_52_1 rfl rfl) ?_
  refine rgp (op_load_vp_agg (ps := eGType y11.fType) rfl rfl rfl rfl Tryd_agg_26 rfl rfl) ?_
  refine rgp (op_store_lp (n := 11) rfl rfl rfl rfl rfl (or_agg Tryd_agg_26) (by rw [Tryd_non_26]; rfl) rfl rfl rfl) ?_
  refine ras ?_
  refine reg_nil ?_
  refine post_imp (s' := ⟨25, [(6, some (.lp 0 0)), (7, some (.pv (.bool true)))], [(0, some (.box 26 (bxv (eGType y11.fType))))], 1, [], [], 0, []⟩) (imps [1] ⟨by kernel_rfl, by kernel_rfl, trivial⟩ ⟨by kernel_rfl, trivial⟩) ?_
  refine post_next ?_
  refine aw_ret ?_
  obtain rfl := Option.some.inj hF
  exact post_ret rfl rfl (.cons _ _ _ _ _ (.agg _ _ _ _ _ 11 _ _ rfl rfl Tryd_agg_26 rfl rfl rfl) (.p _) (.cons _ _ _ _ _ (.tmp _ _ rfl) (.p _) .nil)) (.inl rfl)
theorem ref05_Unique_ok {a0 : GType} {r : Bool} (hF : ref05_Unique a0 = some r) : Abs.Fn globs_Tryd Tryd.prog 25 [.agg (eGType a0)] [.p (.bool r)] := by
  unfold ref05_Unique at hF
  refine fn_of_body (n := 13) Tryd.func25 rfl rfl rfl ?_
  intro w O
  refine aw_seq ?_
  refine aw_region ?_
  refine rgp (op_box 0 rfl rfl rfl rfl rfl rfl) ?_
  refine ras ?_
  refine reg_nil ?_
  refine post_imp (s' := ⟨13, [(1, some (.lp 0 0))], [(0, some (.box 26 (bxv (eGType a0))))], 1, [], [], 0, []⟩) (imps [0] ⟨by kernel_rfl, trivial⟩ ⟨by kernel_rfl, trivial⟩) ?_
  refine post_next ?_
  refine aw_seq ?_
  refine aw_region ?_
  refine rgp (op_field_lp rfl rfl Tryd_fld_26_0 rfl rfl) ?_
  refine rgp (op_load_lp (v := .pv (.int .i64 a0.fKind)) rfl rfl rfl rfl Tryd_one_3 rfl rfl) ?_
  refine rgp (op_int (k := .i64) (m := a0.fKind) (n := 2) rfl rfl rfl rfl rfl rfl) ?_
  refine rmv ?_
  rcases ite_some hF with ⟨hb1, hF⟩ | ⟨hb1, hF⟩
  · refine rgn hb1 (op_field_lp rfl rfl Tryd_fld_26_3 rfl rfl) ?_
    refine rgn hb1 (op_arr_lp (k := .i64) (m := 0) (n := 4) rfl rfl rfl Tryd_arr_24 rfl rfl rfl rfl) ?_
    refine rgn hb1 (op_field_lp rfl rfl Tryd_fld_23_0 rfl rfl) ?_
    refine rgn hb1 (op_load_lp (v := .pv (.int .i64 a0.fOwn.a0.fKind)) rfl rfl rfl rfl Tryd_one_3 rfl rfl) ?_
    refine rgn hb1 (op_int (k := .i64) (m := a0.fOwn.a0.fKind) (n := 6) rfl rfl rfl rfl rfl rfl) ?_
    refine rpt hb1 ?_
    refine ras ?_
    refine reg_nil ?_
    refine post_imp (s' := ⟨13, [(2, some (.pv (.bool (a0.fOwn.a0.fKind == 6))))], [], 0, [], [], 0, []⟩) (imps [] ⟨by kernel_rfl, trivial⟩ trivial) ?_
    refine post_next ?_
    refine aw_ret ?_
    obtain rfl := Option.some.inj hF
    exact prt
  iterate 5 (refine rgo_f hb1 ?_)
  refine rpf hb1 ?_
  refine ras ?_
  refine reg_nil ?_
  refine post_imp (s' := ⟨13, [(2, some (.pv (.bool false)))], [], 0, [], [], 0, []⟩) (imps [] ⟨by kernel_rfl, trivial⟩ trivial) ?_
  refine post_next ?_
  refine aw_ret ?_
  obtain rfl := Option.some.inj hF
  exact prt
theorem ref19_number_ok  {r : GType} (hF : ref19_number = some r) : Abs.Fn globs_Tryd Tryd.prog 72 [] [.p (.agg (eGType r))] := by
  unfold ref19_number at hF
  refine fn_of_body (n := 2) Tryd.func72 rfl rfl rfl ?_
  intro w O
  refine aw_seq ?_
  refine aw_region ?_
  refine rgp (op_alloc 0 rfl (ps := (eGType zGType)) rfl Tryd_zer_26 (by exact ⟨rfl, rfl, rfl, rfl, rfl, rfl, rfl, rfl, rfl, rfl, rfl, trivial⟩) rfl rfl) ?_
  refine reg_nil ?_
  refine post_imp (s' := ⟨2, [(0, some (.lp 0 0))], [(0, some (.box 26 (bxv (eGType zGType))))], 1, [], [], 0, []⟩) (imps [0] ⟨by kernel_rfl, trivial⟩ ⟨by kernel_rfl, trivial⟩) ?_
  refine post_next ?_
  refine aw_seq ?_
  refine aw_region ?_
  refine rgp (op_build (zs := (eGType zGType)) (r := eGType ({ fKind := 1, fClass := [], fN := 0, fOwn := (⟨zGOwner, zGOwner, zGOwner, zGOwner⟩ : A4 GOwner) } : GType)) rfl Tryd_zer_26 (by exact ⟨rfl, rfl, rfl, rfl, rfl, rfl, rfl, rfl, rfl, rfl, rfl, trivial⟩) Tryd_plc_26 rfl rfl rfl rfl) ?_
  refine rgp (op_store_lp (n := 11) rfl rfl rfl rfl rfl (or_agg Tryd_agg_26) (by rw [Tryd_non_26]; rfl) rfl rfl rfl) ?_
  refine reg_nil ?_
  refine post_imp (s' := ⟨2, [(0, some (.lp 0 0))], [(0, some (.box 26 (bxv (eGType ({ fKind := 1, fClass := [], fN := 0, fOwn := (⟨zGOwner, zGOwner, zGOwner, zGOwner⟩ : A4 GOwner) } : GType)))))], 1, [], [], 0, []⟩) (imps [0] ⟨by kernel_rfl, trivial⟩ ⟨by kernel_rfl, trivial⟩) ?_
  refine post_next ?_
  refine aw_ret ?_
  obtain rfl := Option.some.inj hF
  exact post_ret rfl rfl (.cons _ _ _ _ _ (.agg _ _ _ _ _ 11 _ _ rfl rfl Tryd_agg_26 rfl rfl rfl) (.p _) .nil) (.inl rfl)
theorem ref19_of_ring : ∀ n : Nat, (∀ (a0 : GClass) (a1 : GMethod) (a2 : GExpr) (r : GType × Int), ref19_of n a0 a1 a2 = some r → Abs.Fn globs_Tryd Tryd.prog 48 [.agg (eGClass a0), .agg (eGMethod a1), .agg (eGExpr a2)] [.p (.agg (eGType r.1)), .p (.int .i64 r.2)]) := by
  intro n
  induction n with
  | zero => exact (fun _ _ _ _ h => by simp [ref19_of] at h)
  | succ n ih =>
    have ref19_of_ih := ih
    clear ih
    intro a0 a1 a2 r hF
    unfold ref19_of at hF
    revert hF ref19_of_ih
    generalize ref19_of n = ref19_of_rec
    intro ref19_of_ih hF
    refine fn_of_body (n := 97) Tryd.func48 rfl rfl rfl ?_
    intro w O
    refine aw_seq ?_
    refine aw_region ?_
    refine rgp (op_box 0 rfl rfl rfl rfl rfl rfl) ?_
    refine rgp (op_box 1 rfl rfl rfl rfl rfl rfl) ?_
    refine rgp (op_box 2 rfl rfl rfl rfl rfl rfl) ?_
    refine rgp (op_alloc 3 rfl (ps := (eGType zGType)) rfl Tryd_zer_26 (by exact ⟨rfl, rfl, rfl, rfl, rfl, rfl, rfl, rfl, rfl, rfl, rfl, trivial⟩) rfl rfl) ?_
    refine ras ?_
    refine reg_nil ?_
    refine post_imp (s' := ⟨97, [(3, some (.lp 0 0)), (4, some (.lp 1 0)), (5, some (.lp 2 0)), (6, some (.lp 3 0))], [(0, some (.box 39 (bxv (eGClass a0)))), (1, some (.box 42 (bxv (eGMethod a1)))), (2, some (.box 45 (bxv (eGExpr a2)))), (3, some (.box 26 (bxv (eGType zGType))))], 4, [], [], 0, []⟩) (imps [0, 1, 2, 3] ⟨by kernel_rfl, by kernel_rfl, by kernel_rfl, by kernel_rfl, trivial⟩ ⟨by kernel_rfl, by kernel_rfl, by kernel_rfl, by kernel_rfl, trivial⟩) ?_
    refine post_next ?_
    iterate 2 (refine aw_seq ?_)
    refine aw_region ?_
    refine rgp (op_field_lp rfl rfl Tryd_fld_45_0 rfl rfl) ?_
    refine rgp (op_load_lp (v := .pv (.int .i64 a2.fKind)) rfl rfl rfl rfl Tryd_one_3 rfl rfl) ?_
    refine rgp (op_int (k := .i64) (m := a2.fKind) (n := 2) rfl rfl rfl rfl rfl rfl) ?_
    refine reg_nil ?_
    refine post_imp (s' := ⟨97, [(3, some (.lp 0 0)), (4, some (.lp 1 0)), (5, some (.lp 2 0)), (6, some (.lp 3 0)), (17, some (.pv (.bool (a2.fKind == 2))))], [(0, some (.box 39 (bxv (eGClass a0)))), (1, some (.box 42 (bxv (eGMethod a1)))), (2, some (.box 45 (bxv (eGExpr a2)))), (3, some (.box 26 (bxv (eGType zGType))))], 4, [], [], 0, []⟩) (imps [0, 1, 2, 3] ⟨by kernel_rfl, by kernel_rfl, by kernel_rfl, by kernel_rfl, by kernel_rfl, trivial⟩ ⟨by kernel_rfl, by kernel_rfl, by kernel_rfl, by kernel_rfl, trivial⟩) ?_
    refine post_next ?_
    rcases ite_some hF with ⟨hb1, hF⟩ | ⟨hb1, hF⟩
    · refine aw_cond_t rfl hb1 ?_
      refine aw_seq ?_
      refine aw_region ?_
      refine rgp (op_load_lp_agg (ps := eGClass a0) rfl rfl rfl rfl rfl rfl Tryd_agg_39 rfl rfl) ?_
      refine rgp (op_load_lp_agg (ps := eGMethod a1) rfl rfl rfl rfl rfl rfl Tryd_agg_42 rfl rfl) ?_
      refine rgp (op_field_lp rfl rfl Tryd_fld_45_2 rfl rfl) ?_
      refine rgp (op_load_lp (v := .pv (.str a2.fName)) rfl rfl rfl rfl Tryd_one_9 rfl rfl) ?_
      obtain ⟨y4, h5, hF⟩ := bind_some hF
      refine rgp (op_call 4 rfl (caps := []) (args := [.agg (eGClass a0), .agg (eGMethod a1), .str a2.fName]) (rs := [.p (.agg (eGType y4.1)), .p (.bool y4.2)]) rfl rfl rfl Tryd_cal_70 (ref18_Type_ok h5) rfl rfl rfl) ?_
      refine rmv ?_
      iterate 2 (refine rgp (op_extract rfl rfl rfl rfl rfl) ?_)
      refine rgp (op_alloc 4 rfl (ps := (eGType zGType)) rfl Tryd_zer_26 (by exact ⟨rfl, rfl, rfl, rfl, rfl, rfl, rfl, rfl, rfl, rfl, rfl, trivial⟩) rfl rfl) ?_
      refine rgp (op_store_lp (n := 11) rfl rfl rfl rfl rfl (or_agg Tryd_agg_26) (by rw [Tryd_non_26]; rfl) rfl rfl rfl) ?_
      refine ras ?_
      refine reg_nil ?_
      refine post_imp (s' := ⟨97, [(6, some (.lp 0 0)), (8, some (.lp 1 0)), (9, some (.pv (.bool y4.2)))], [(0, some (.box 26 (bxv (eGType zGType)))), (1, some (.box 26 (bxv (eGType y4.1))))], 2, [], [], 0, []⟩) (imps [3, 4] ⟨by kernel_rfl, by kernel_rfl, by kernel_rfl, trivial⟩ ⟨by kernel_rfl, by kernel_rfl, trivial⟩) ?_
      refine post_next ?_
      iterate 2 (refine aw_seq ?_)
      refine aw_region ?_
      refine rmv ?_
      refine rgp (op_not rfl rfl rfl rfl) ?_
      refine reg_nil ?_
      refine post_imp (s' := ⟨97, [(6, some (.lp 0 0)), (8, some (.lp 1 0)), (27, some (.pv (.bool (!y4.2))))], [(0, some (.box 26 (bxv (eGType zGType)))), (1, some (.box 26 (bxv (eGType y4.1))))], 2, [], [], 0, []⟩) (imps [0, 1] ⟨by kernel_rfl, by kernel_rfl, by kernel_rfl, trivial⟩ ⟨by kernel_rfl, by kernel_rfl, trivial⟩) ?_
      refine post_next ?_
      rcases ite_some hF with ⟨hb6, hF⟩ | ⟨hb6, hF⟩
      · refine aw_cond_t rfl hb6 ?_
        refine aw_seq ?_
        refine aw_region ?_
        refine rgp (op_build (zs := (eGType zGType)) (r := eGType ({ fKind := 0, fClass := [], fN := 0, fOwn := (⟨zGOwner, zGOwner, zGOwner, zGOwner⟩ : A4 GOwner) } : GType)) rfl Tryd_zer_26 (by exact ⟨rfl, rfl, rfl, rfl, rfl, rfl, rfl, rfl, rfl, rfl, rfl, trivial⟩) Tryd_plc_26 rfl rfl rfl rfl) ?_
        refine rgp (op_store_lp (n := 11) rfl rfl rfl rfl rfl (or_agg Tryd_agg_26) (by rw [Tryd_non_26]; rfl) rfl rfl rfl) ?_
        refine ras ?_
        refine reg_nil ?_
        refine post_imp (s' := ⟨97, [(6, some (.lp 0 0)), (7, some (.pv (.int .i64 13)))], [(0, some (.box 26 (bxv (eGType ({ fKind := 0, fClass := [], fN := 0, fOwn := (⟨zGOwner, zGOwner, zGOwner, zGOwner⟩ : A4 GOwner) } : GType)))))], 1, [], [], 0, []⟩) (imps [0] ⟨by kernel_rfl, by kernel_rfl, trivial⟩ ⟨by kernel_rfl, trivial⟩) ?_
        refine post_next ?_
        refine aw_ret ?_
        iterate 2 (refine post_then_ret ?_)
        obtain rfl := Option.some.inj hF
        exact post_ret rfl rfl (.cons _ _ _ _ _ (.agg _ _ _ _ _ 11 _ _ rfl rfl Tryd_agg_26 rfl rfl rfl) (.p _) (.cons _ _ _ _ _ (.tmp _ _ rfl) (.p _) .nil)) (.inl rfl)
      refine aw_cond_f rfl hb6 ?_
      refine aw_skip ?_
      refine post_next ?_
      refine aw_seq ?_
      refine aw_region ?_
      refine rgp (op_load_lp_agg (ps := eGType y4.1) rfl rfl rfl rfl rfl rfl Tryd_agg_26 rfl rfl) ?_
      refine rgp (op_store_lp (n := 11) rfl rfl rfl rfl rfl (or_agg Tryd_agg_26) (by rw [Tryd_non_26]; rfl) rfl rfl rfl) ?_
      refine ras ?_
      refine reg_nil ?_
      refine post_imp (s' := ⟨97, [(6, some (.lp 0 0)), (7, some (.pv (.int .i64 0)))], [(0, some (.box 26 (bxv (eGType y4.1))))], 1, [], [], 0, []⟩) (imps [0] ⟨by kernel_rfl, by kernel_rfl, trivial⟩ ⟨by kernel_rfl, trivial⟩) ?_
      refine post_next ?_
      refine aw_ret ?_
      refine post_then_ret ?_
      obtain rfl := Option.some.inj hF
      exact post_ret rfl rfl (.cons _ _ _ _ _ (.agg _ _ _ _ _ 11 _ _ rfl rfl Tryd_agg_26 rfl rfl rfl) (.p _) (.cons _ _ _ _ _ (.tmp _ _ rfl) (.p _) .nil)) (.inl rfl)
    refine aw_cond_f rfl hb1 ?_
    refine aw_skip ?_
    refine post_next ?_
    iterate 2 (refine aw_seq ?_)
    refine aw_region ?_
    refine rgp (op_field_lp rfl rfl Tryd_fld_45_0 rfl rfl) ?_
    refine rgp (op_load_lp (v := .pv (.int .i64 a2.fKind)) rfl rfl rfl rfl Tryd_one_3 rfl rfl) ?_
    refine rgp (op_int (k := .i64) (m := a2.fKind) (n := 3) rfl rfl rfl rfl rfl rfl) ?_
    refine reg_nil ?_
    refine post_imp (s' := ⟨97, [(3, some (.lp 0 0)), (4, some (.lp 1 0)), (5, some (.lp 2 0)), (6, some (.lp 3 0)), (32, some (.pv (.bool (a2.fKind == 3))))], [(0, some (.box 39 (bxv (eGClass a0)))), (1, some (.box 42 (bxv (eGMethod a1)))), (2, some (.box 45 (bxv (eGExpr a2)))), (3, some (.box 26 (bxv (eGType zGType))))], 4, [], [], 0, []⟩) (imps [0, 1, 2, 3] ⟨by kernel_rfl, by kernel_rfl, by kernel_rfl, by kernel_rfl, by kernel_rfl, trivial⟩ ⟨by kernel_rfl, by kernel_rfl, by kernel_rfl, by kernel_rfl, trivial⟩) ?_
    refine post_next ?_
    rcases ite_some hF with ⟨hb7, hF⟩ | ⟨hb7, hF⟩
    · refine aw_cond_t rfl hb7 ?_
      refine aw_seq ?_
      refine aw_region ?_
      refine rgp (op_load_lp_agg (ps := eGClass a0) rfl rfl rfl rfl rfl rfl Tryd_agg_39 rfl rfl) ?_
      obtain ⟨y8, h9, hF⟩ := bind_some hF
      refine rgp (op_call 4 rfl (caps := []) (args := [.agg (eGClass a0)]) (rs := [.p (.agg (eGType y8))]) rfl rfl rfl Tryd_cal_71 (ref18_This_ok h9) rfl rfl rfl) ?_
      refine rgp (op_store_lp (n := 11) rfl rfl rfl rfl rfl (or_agg Tryd_agg_26) (by rw [Tryd_non_26]; rfl) rfl rfl rfl) ?_
      refine ras ?_
      refine reg_nil ?_
      refine post_imp (s' := ⟨97, [(6, some (.lp 0 0)), (7, some (.pv (.int .i64 0)))], [(0, some (.box 26 (bxv (eGType y8))))], 1, [], [], 0, []⟩) (imps [3] ⟨by kernel_rfl, by kernel_rfl, trivial⟩ ⟨by kernel_rfl, trivial⟩) ?_
      refine post_next ?_
      refine aw_ret ?_
      refine post_then_ret ?_
      obtain rfl := Option.some.inj hF
      exact post_ret rfl rfl (.cons _ _ _ _ _ (.agg _ _ _ _ _ 11 _ _ rfl rfl Tryd_agg_26 rfl rfl rfl) (.p _) (.cons _ _ _ _ _ (.tmp _ _ rfl) (.p _) .nil)) (.inl rfl)
    refine aw_cond_f rfl hb7 ?_
    refine aw_skip ?_
    refine post_next ?_
    iterate 2 (refine aw_seq ?_)
    refine aw_region ?_
    refine rgp (op_field_lp rfl rfl Tryd_fld_45_0 rfl rfl) ?_
    refine rgp (op_load_lp (v := .pv (.int .i64 a2.fKind)) rfl rfl rfl rfl Tryd_one_3 rfl rfl) ?_
    refine rgp (op_int (k := .i64) (m := a2.fKind) (n := 4) rfl rfl rfl rfl rfl rfl) ?_
    refine reg_nil ?_
    refine post_imp (s' := ⟨97, [(3, some (.lp 0 0)), (4, some (.lp 1 0)), (5, some (.lp 2 0)), (6, some (.lp 3 0)), (37, some (.pv (.bool (a2.fKind == 4))))], [(0, some (.box 39 (bxv (eGClass a0)))), (1, some (.box 42 (bxv (eGMethod a1)))), (2, some (.box 45 (bxv (eGExpr a2)))), (3, some (.box 26 (bxv (eGType zGType))))], 4, [], [], 0, []⟩) (imps [0, 1, 2, 3] ⟨by kernel_rfl, by kernel_rfl, by kernel_rfl, by kernel_rfl, by kernel_rfl, trivial⟩ ⟨by kernel_rfl, by kernel_rfl, by kernel_rfl, by kernel_rfl, trivial⟩) ?_
    refine post_next ?_
    rcases ite_some hF with ⟨hb10, hF⟩ | ⟨hb10, hF⟩
    · refine aw_cond_t rfl hb10 ?_
      refine aw_seq ?_
      refine aw_region ?_
      refine rgp (op_build (zs := (eGType zGType)) (r := eGType ({ fKind := 3, fClass := [], fN := 0, fOwn := (⟨zGOwner, zGOwner, zGOwner, zGOwner⟩ : A4 GOwner) } : GType)) rfl Tryd_zer_26 (by exact ⟨rfl, rfl, rfl, rfl, rfl, rfl, rfl, rfl, rfl, rfl, rfl, trivial⟩) Tryd_plc_26 rfl rfl rfl rfl) ?_
      refine rgp (op_store_lp (n := 11) rfl rfl rfl rfl rfl (or_agg Tryd_agg_26) (by rw [Tryd_non_26]; rfl) rfl rfl rfl) ?_
      refine ras ?_
      refine reg_nil ?_
      refine post_imp (s' := ⟨97, [(6, some (.lp 0 0)), (7, some (.pv (.int .i64 0)))], [(0, some (.box 26 (bxv (eGType ({ fKind := 3, fClass := [], fN := 0, fOwn := (⟨zGOwner, zGOwner, zGOwner, zGOwner⟩ : A4 GOwner) } : GType)))))], 1, [], [], 0, []⟩) (imps [3] ⟨by kernel_rfl, by kernel_rfl, trivial⟩ ⟨by kernel_rfl, trivial⟩) ?_
      refine post_next ?_
      refine aw_ret ?_
      refine post_then_ret ?_
      obtain rfl := Option.some.inj hF
      exact post_ret rfl rfl (.cons _ _ _ _ _ (.agg _ _ _ _ _ 11 _ _ rfl rfl Tryd_agg_26 rfl rfl rfl) (.p _) (.cons _ _ _ _ _ (.tmp _ _ rfl) (.p _) .nil)) (.inl rfl)
    refine aw_cond_f rfl hb10 ?_
    refine aw_skip ?_
    refine post_next ?_
    refine aw_seq ?_
    refine aw_region ?_
    refine ras ?_
    refine reg_nil ?_
    refine post_imp (s' := ⟨97, [(3, some (.lp 0 0)), (4, some (.lp 1 0)), (5, some (.lp 2 0)), (6, some (.lp 3 0)), (10, some (.pv (.bool false)))], [(0, some (.box 39 (bxv (eGClass a0)))), (1, some (.box 42 (bxv (eGMethod a1)))), (2, some (.box 45 (bxv (eGExpr a2)))), (3, some (.box 26 (bxv (eGType zGType))))], 4, [], [], 0, []⟩) (imps [0, 1, 2, 3] ⟨by kernel_rfl, by kernel_rfl, by kernel_rfl, by kernel_rfl, by kernel_rfl, trivial⟩ ⟨by kernel_rfl, by kernel_rfl, by kernel_rfl, by kernel_rfl, trivial⟩) ?_
    refine post_next ?_
    iterate 2 (refine aw_seq ?_)
    refine aw_region ?_
    refine ras ?_
    refine reg_nil ?_
    refine post_imp (s' := ⟨97, [(3, some (.lp 0 0)), (4, some (.lp 1 0)), (5, some (.lp 2 0)), (6, some (.lp 3 0)), (10, some (.pv (.bool false))), (11, some (.pv (.int .i64 0)))], [(0, some (.box 39 (bxv (eGClass a0)))), (1, some (.box 42 (bxv (eGMethod a1)))), (2, some (.box 45 (bxv (eGExpr a2)))), (3, some (.box 26 (bxv (eGType zGType))))], 4, [], [], 0, []⟩) (imps [0, 1, 2, 3] ⟨by kernel_rfl, by kernel_rfl, by kernel_rfl, by kernel_rfl, by kernel_rfl, by kernel_rfl, trivial⟩ ⟨by kernel_rfl, by kernel_rfl, by kernel_rfl, by kernel_rfl, trivial⟩) ?_
    refine post_next ?_
    obtain ⟨lr98, hF, hK99⟩ := bind_some hF
    refine aw_for ((((a2.fKids.length : Int) : Int) - (0)).toNat + 1) (fun s1 => ∃ q, lr98 = .next q ∧ s1 = ⟨97, [(6, some (.lp 0 0)), (10, some (.pv (.bool q)))], [(0, some (.box 26 (bxv (eGType zGType))))], 1, [], [], 0, []⟩) ?_ ?_
    · refine rnd_loop (α := Bool × Int) (fun q => ⟨97, [(3, some (.lp 0 0)), (4, some (.lp 1 0)), (5, some (.lp 2 0)), (6, some (.lp 3 0)), (10, some (.pv (.bool q.1))), (11, some (.pv (.int .i64 q.2)))], [(0, some (.box 39 (bxv (eGClass a0)))), (1, some (.box 42 (bxv (eGMethod a1)))), (2, some (.box 45 (bxv (eGExpr a2)))), (3, some (.box 26 (bxv (eGType zGType))))], 4, [], [], 0, []⟩) (fun k q => ref19_of_L1 a0 a1 a2 ref19_of_rec k q.1 q.2 = some lr98) (false, 0) (imps [0, 1, 2, 3] ⟨by kernel_rfl, by kernel_rfl, by kernel_rfl, by kernel_rfl, by kernel_rfl, by kernel_rfl, trivial⟩ ⟨by kernel_rfl, by kernel_rfl, by kernel_rfl, by kernel_rfl, trivial⟩) hF (fun q h => by cases h) ?_
      clear hF
      rintro k ⟨x37, x38⟩ hF ih
      refine rnd_succ ?_
      iterate 2 (refine aw_seq ?_)
      refine aw_region ?_
      refine rmv ?_
      refine rgp (op_field_lp rfl rfl Tryd_fld_45_3 rfl rfl) ?_
      refine rgp (op_load_lp (v := .pv (.vs 4 (eLGExpr a2.fKids))) rfl rfl rfl rfl Tryd_one_43 rfl rfl) ?_
      refine rgp (op_len_vs (n := a2.fKids.length) rfl rfl (lenR eLGExpr_map) Tryd_slc_43 rfl rfl) ?_
      refine rgp (op_int (k := .i64) (m := x38) (n := (a2.fKids.length : Int)) rfl rfl rfl rfl rfl rfl) ?_
      refine reg_nil ?_
      refine post_imp (s' := ⟨97, [(3, some (.lp 0 0)), (4, some (.lp 1 0)), (5, some (.lp 2 0)), (6, some (.lp 3 0)), (10, some (.pv (.bool x37))), (11, some (.pv (.int .i64 x38))), (43, some (.pv (.bool (decide (x38 < (a2.fKids.length : Int))))))], [(0, some (.box 39 (bxv (eGClass a0)))), (1, some (.box 42 (bxv (eGMethod a1)))), (2, some (.box 45 (bxv (eGExpr a2)))), (3, some (.box 26 (bxv (eGType zGType))))], 4, [], [], 0, []⟩) (imps [0, 1, 2, 3] ⟨by kernel_rfl, by kernel_rfl, by kernel_rfl, by kernel_rfl, by kernel_rfl, by kernel_rfl, by kernel_rfl, trivial⟩ ⟨by kernel_rfl, by kernel_rfl, by kernel_rfl, by kernel_rfl, trivial⟩) ?_
      refine post_next ?_
      rcases ite_some hF with ⟨hb68, hF⟩ | ⟨hb68, hF⟩
      · refine aw_cond_t rfl hb68 ?_
        refine aw_skip ?_
        refine post_next ?_
        refine aw_seq ?_
        refine aw_block ?_
        refine aw_seq ?_
        refine aw_imp (imp_names 1) ?_
        refine dr_start ⟨_, _, _⟩ rfl ?_
        refine dr_cons { need := [(3, .lp 0 0)], hneed := [(0, .box 39 (bxv (eGClass a0)))], dst := some 47, val := some (.pv (.agg (eGClass a0))) } (fun m h => step_on (guard_no rfl) (op_load_lp_agg (ps := eGClass a0) rfl h.1.1 h.2.1.1 rfl rfl rfl Tryd_agg_39 rfl rfl) rfl) ⟨⟨rfl, trivial⟩, ⟨rfl, trivial⟩, trivial⟩ ?_
        refine dr_cons { need := [(4, .lp 1 0)], hneed := [(1, .box 42 (bxv (eGMethod a1)))], dst := some 48, val := some (.pv (.agg (eGMethod a1))) } (fun m h => step_on (guard_no rfl) (op_load_lp_agg (ps := eGMethod a1) rfl h.1.1 h.2.1.1 rfl rfl rfl Tryd_agg_42 rfl rfl) rfl) ⟨⟨rfl, trivial⟩, ⟨rfl, trivial⟩, trivial⟩ ?_
        refine dr_cons { need := [(5, .lp 2 0)], dst := some 49, val := some (.lp 2 3) } (fun m h => step_on (guard_no rfl) (op_field_lp rfl h.1.1 Tryd_fld_45_3 rfl rfl) rfl) ⟨⟨rfl, trivial⟩, trivial, trivial⟩ ?_
        refine dr_cons { need := [(49, .lp 2 3)], hneed := [(2, .box 45 (bxv (eGExpr a2)))], dst := some 50, val := some (.pv (.vs 4 (eLGExpr a2.fKids))) } (fun m h => step_on (guard_no rfl) (op_load_lp (v := .pv (.vs 4 (eLGExpr a2.fKids))) rfl h.1.1 h.2.1.1 rfl Tryd_one_43 rfl rfl) rfl) ⟨⟨rfl, trivial⟩, ⟨rfl, trivial⟩, trivial⟩ ?_
        refine drm ?_
        obtain ⟨y73, h74, hF⟩ := bind_some hF
        refine dr_cons { need := [(50, .pv (.vs 4 (eLGExpr a2.fKids))), (51, .pv (.int .i64 x38))], dst := some 52, val := some (.pv (.vp (eGExpr y73))) } (fun m h => step_on (guard_no rfl) (op_index_vs (k := .i64) rfl h.1.1 h.1.2.1 (idxR eLGExpr_map h74) Tryd_slc_43 rfl rfl) rfl) ⟨⟨rfl, rfl, trivial⟩, trivial, trivial⟩ ?_
        refine dr_cons { need := [(52, .pv (.vp (eGExpr y73)))], dst := some 53, val := some (.pv (.agg (eGExpr y73))) } (fun m h => step_on (guard_no rfl) (op_load_vp_agg (ps := eGExpr y73) rfl h.1.1 rfl rfl Tryd_agg_45 rfl rfl) rfl) ⟨⟨rfl, trivial⟩, trivial, trivial⟩ ?_
        obtain ⟨y75, h76, hF⟩ := bind_some hF
        refine dr_cons { need := [(53, .pv (.agg (eGExpr y73))), (48, .pv (.agg (eGMethod a1))), (47, .pv (.agg (eGClass a0)))], dst := some 54, val := some (.tup [.pv (.agg (eGType y75.1)), .pv (.int .i64 y75.2)]) } (fun m h => step_on (guard_no rfl) (op_call 5 rfl (caps := []) (args := [.agg (eGClass a0), .agg (eGMethod a1), .agg (eGExpr y73)]) (rs := [.p (.agg (eGType y75.1)), .p (.int .i64 y75.2)]) rfl rfl (evl_cons h.1.2.2.1 (evl_cons h.1.2.1 (evl_cons h.1.1 evl_nil))) Tryd_cal_48 (ref19_of_ih _ _ _ _ h76) rfl rfl rfl) rfl) ⟨⟨rfl, rfl, rfl, trivial⟩, trivial, trivial⟩ ?_
        refine drm ?_
        refine dr_cons { need := [(46, .tup [.pv (.agg (eGType y75.1)), .pv (.int .i64 y75.2)])], dst := some 55, val := some (.pv (.agg (eGType y75.1))) } (fun m h => step_on (guard_no rfl) (op_extract rfl h.1.1 rfl rfl rfl) rfl) ⟨⟨rfl, trivial⟩, trivial, trivial⟩ ?_
        refine dr_cons { need := [(46, .tup [.pv (.agg (eGType y75.1)), .pv (.int .i64 y75.2)])], dst := some 56, val := some (.pv (.int .i64 y75.2)) } (fun m h => step_on (guard_no rfl) (op_extract rfl h.1.1 rfl rfl rfl) rfl) ⟨⟨rfl, trivial⟩, trivial, trivial⟩ ?_
        refine dr_cons { names := [4], dst := some 12, val := some (.lp 4 0), upd := [(4, some (.box 26 (bxv (eGType zGType))))] } (fun m h => step_on (guard_no rfl) (op_alloc 4 (fresh_free h.2.2.1) (ps := (eGType zGType)) rfl Tryd_zer_26 (by exact ⟨rfl, rfl, rfl, rfl, rfl, rfl, rfl, rfl, rfl, rfl, rfl, trivial⟩) rfl rfl) rfl) ⟨trivial, trivial, ⟨rfl, trivial⟩⟩ ?_
        refine dr_cons { need := [(12, .lp 4 0), (55, .pv (.agg (eGType y75.1)))], hneed := [(4, .box 26 (bxv (eGType zGType)))], upd := [(4, some (.box 26 (bxv (eGType y75.1))))] } (fun m h => step_on (guard_no rfl) (op_store_lp (n := 11) rfl h.1.1 h.1.2.1 rfl h.2.1.1 (or_agg Tryd_agg_26) (by rw [Tryd_non_26]; rfl) rfl rfl rfl) rfl) ⟨⟨rfl, rfl, trivial⟩, ⟨rfl, trivial⟩, trivial⟩ ?_
        refine dr_cons { need := [(56, .pv (.int .i64 y75.2))], dst := some 13, val := some (.pv (.int .i64 y75.2)) } (fun m h => step_on (guard_no rfl) (op_assign rfl h.1.1 rfl rfl) rfl) ⟨⟨rfl, trivial⟩, trivial, trivial⟩ ?_
        refine dr_nil Tryd_mixed rfl (by kernel_rfl) ?_
        refine post_imp (s' := ⟨97, [(3, some (.lp 0 0)), (4, some (.lp 1 0)), (5, some (.lp 2 0)), (6, some (.lp 3 0)), (10, some (.pv (.bool x37))), (11, some (.pv (.int .i64 x38))), (12, some (.lp 4 0)), (13, some (.pv (.int .i64 y75.2)))], [(0, some (.box 39 (bxv (eGClass a0)))), (1, some (.box 42 (bxv (eGMethod a1)))), (2, some (.box 45 (bxv (eGExpr a2)))), (3, some (.box 26 (bxv (eGType zGType)))), (4, some (.box 26 (bxv (eGType y75.1))))], 5, [], [], 0, []⟩) (imps [0, 1, 2, 3, 4] ⟨by kernel_rfl, by kernel_rfl, by kernel_rfl, by kernel_rfl, by kernel_rfl, by kernel_rfl, by kernel_rfl, by kernel_rfl, trivial⟩ ⟨by kernel_rfl, by kernel_rfl, by kernel_rfl, by kernel_rfl, by kernel_rfl, trivial⟩) ?_
        refine post_next ?_
        iterate 2 (refine aw_seq ?_)
        refine aw_region ?_
        refine rmv ?_
        refine rgp (op_int (k := .i64) (m := y75.2) (n := 0) rfl rfl rfl rfl rfl rfl) ?_
        refine reg_nil ?_
        refine post_imp (s' := ⟨97, [(3, some (.lp 0 0)), (4, some (.lp 1 0)), (5, some (.lp 2 0)), (6, some (.lp 3 0)), (10, some (.pv (.bool x37))), (11, some (.pv (.int .i64 x38))), (12, some (.lp 4 0)), (13, some (.pv (.int .i64 y75.2))), (58, some (.pv (.bool (y75.2 != 0))))], [(0, some (.box 39 (bxv (eGClass a0)))), (1, some (.box 42 (bxv (eGMethod a1)))), (2, some (.box 45 (bxv (eGExpr a2)))), (3, some (.box 26 (bxv (eGType zGType)))), (4, some (.box 26 (bxv (eGType y75.1))))], 5, [], [], 0, []⟩) (imps [0, 1, 2, 3, 4] ⟨by kernel_rfl, by kernel_rfl, by kernel_rfl, by kernel_rfl, by kernel_rfl, by kernel_rfl, by kernel_rfl, by kernel_rfl, by kernel_rfl, trivial⟩ ⟨by kernel_rfl, by kernel_rfl, by kernel_rfl, by kernel_rfl, by kernel_rfl, trivial⟩) ?_
        refine post_next ?_
        rcases ite_some hF with ⟨hb77, hF⟩ | ⟨hb77, hF⟩
        · refine aw_cond_t rfl hb77 ?_
          refine aw_seq ?_
          refine aw_region ?_
          refine rgp (op_build (zs := (eGType zGType)) (r := eGType ({ fKind := 0, fClass := [], fN := 0, fOwn := (⟨zGOwner, zGOwner, zGOwner, zGOwner⟩ : A4 GOwner) } : GType)) rfl Tryd_zer_26 (by exact ⟨rfl, rfl, rfl, rfl, rfl, rfl, rfl, rfl, rfl, rfl, rfl, trivial⟩) Tryd_plc_26 rfl rfl rfl rfl) ?_
          refine rmv ?_
          refine rgp (op_store_lp (n := 11) rfl rfl rfl rfl rfl (or_agg Tryd_agg_26) (by rw [Tryd_non_26]; rfl) rfl rfl rfl) ?_
          refine ras ?_
          refine reg_nil ?_
          refine post_imp (s' := ⟨97, [(6, some (.lp 0 0)), (7, some (.pv (.int .i64 y75.2)))], [(0, some (.box 26 (bxv (eGType ({ fKind := 0, fClass := [], fN := 0, fOwn := (⟨zGOwner, zGOwner, zGOwner, zGOwner⟩ : A4 GOwner) } : GType)))))], 1, [], [], 0, []⟩) (imps [3] ⟨by kernel_rfl, by kernel_rfl, trivial⟩ ⟨by kernel_rfl, trivial⟩) ?_
          refine post_next ?_
          refine aw_ret ?_
          refine post_then_ret ?_
          refine post_block_ret ?_
          iterate 2 (refine post_then_ret ?_)
          refine post_lp_ret ?_
          obtain rfl := Option.some.inj hF
          have hF := elim_stop hK99
          refine post_then_ret ?_
          obtain rfl := Option.some.inj hF
          exact post_ret rfl rfl (.cons _ _ _ _ _ (.agg _ _ _ _ _ 11 _ _ rfl rfl Tryd_agg_26 rfl rfl rfl) (.p _) (.cons _ _ _ _ _ (.tmp _ _ rfl) (.p _) .nil)) (.inl rfl)
        refine aw_cond_f rfl hb77 ?_
        refine aw_skip ?_
        refine post_next ?_
        refine aw_seq ?_
        refine aw_region ?_
        refine rgp (op_field_lp rfl rfl Tryd_fld_26_0 rfl rfl) ?_
        refine rgp (op_load_lp (v := .pv (.int .i64 y75.1.fKind)) rfl rfl rfl rfl Tryd_one_3 rfl rfl) ?_
        refine rgp (op_int (k := .i64) (m := y75.1.fKind) (n := 1) rfl rfl rfl rfl rfl rfl) ?_
        refine ras ?_
        refine reg_nil ?_
        refine post_imp (s' := ⟨97, [(3, some (.lp 0 0)), (4, some (.lp 1 0)), (5, some (.lp 2 0)), (6, some (.lp 3 0)), (10, some (.pv (.bool x37))), (11, some (.pv (.int .i64 x38))), (12, some (.lp 4 0)), (14, some (.pv (.bool (y75.1.fKind == 1))))], [(0, some (.box 39 (bxv (eGClass a0)))), (1, some (.box 42 (bxv (eGMethod a1)))), (2, some (.box 45 (bxv (eGExpr a2)))), (3, some (.box 26 (bxv (eGType zGType)))), (4, some (.box 26 (bxv (eGType y75.1))))], 5, [], [], 0, []⟩) (imps [0, 1, 2, 3, 4] ⟨by kernel_rfl, by kernel_rfl, by kernel_rfl, by kernel_rfl, by kernel_rfl, by kernel_rfl, by kernel_rfl, by kernel_rfl, trivial⟩ ⟨by kernel_rfl, by kernel_rfl, by kernel_rfl, by kernel_rfl, by kernel_rfl, trivial⟩) ?_
        refine post_next ?_
        refine aw_seq ?_
        obtain ⟨x79, hF, hK81⟩ := bind_some hF
        refine aw_cut (fun s1 => s1 = ⟨97, [(3, some (.lp 0 0)), (4, some (.lp 1 0)), (5, some (.lp 2 0)), (6, some (.lp 3 0)), (10, some (.pv (.bool x37))), (11, some (.pv (.int .i64 x38))), (12, some (.lp 4 0)), (14, some (.pv (.bool x79)))], [(0, some (.box 39 (bxv (eGClass a0)))), (1, some (.box 42 (bxv (eGMethod a1)))), (2, some (.box 45 (bxv (eGExpr a2)))), (3, some (.box 26 (bxv (eGType zGType)))), (4, some (.box 26 (bxv (eGType y75.1))))], 5, [], [], 0, []⟩) ?_ ?_
        · refine aw_seq ?_
          refine aw_region ?_
          refine rgp (op_field_lp rfl rfl Tryd_fld_45_0 rfl rfl) ?_
          refine rgp (op_load_lp (v := .pv (.int .i64 a2.fKind)) rfl rfl rfl rfl Tryd_one_3 rfl rfl) ?_
          refine rgp (op_int (k := .i64) (m := a2.fKind) (n := 13) rfl rfl rfl rfl rfl rfl) ?_
          refine reg_nil ?_
          refine post_imp (s' := ⟨97, [(3, some (.lp 0 0)), (4, some (.lp 1 0)), (5, some (.lp 2 0)), (6, some (.lp 3 0)), (10, some (.pv (.bool x37))), (11, some (.pv (.int .i64 x38))), (12, some (.lp 4 0)), (14, some (.pv (.bool (y75.1.fKind == 1)))), (66, some (.pv (.bool (a2.fKind == 13))))], [(0, some (.box 39 (bxv (eGClass a0)))), (1, some (.box 42 (bxv (eGMethod a1)))), (2, some (.box 45 (bxv (eGExpr a2)))), (3, some (.box 26 (bxv (eGType zGType)))), (4, some (.box 26 (bxv (eGType y75.1))))], 5, [], [], 0, []⟩) (imps [0, 1, 2, 3, 4] ⟨by kernel_rfl, by kernel_rfl, by kernel_rfl, by kernel_rfl, by kernel_rfl, by kernel_rfl, by kernel_rfl, by kernel_rfl, by kernel_rfl, trivial⟩ ⟨by kernel_rfl, by kernel_rfl, by kernel_rfl, by kernel_rfl, by kernel_rfl, trivial⟩) ?_
          refine post_next ?_
          rcases ite_some hF with ⟨hb78, hF⟩ | ⟨hb78, hF⟩
          · refine aw_cond_t rfl hb78 ?_
            refine aw_region ?_
            refine rgp (op_field_lp rfl rfl Tryd_fld_26_0 rfl rfl) ?_
            refine rgp (op_load_lp (v := .pv (.int .i64 y75.1.fKind)) rfl rfl rfl rfl Tryd_one_3 rfl rfl) ?_
            refine rgp (op_int (k := .i64) (m := y75.1.fKind) (n := 2) rfl rfl rfl rfl rfl rfl) ?_
            refine ras ?_
            refine reg_nil ?_
            cases hF
            exact post_cut _ rfl (imps [0, 1, 2, 3, 4] ⟨by kernel_rfl, by kernel_rfl, by kernel_rfl, by kernel_rfl, by kernel_rfl, by kernel_rfl, by kernel_rfl, by kernel_rfl, trivial⟩ ⟨by kernel_rfl, by kernel_rfl, by kernel_rfl, by kernel_rfl, by kernel_rfl, trivial⟩)
          refine aw_cond_f rfl hb78 ?_
          refine aw_skip ?_
          cases hF
          exact post_cut _ rfl (imps [0, 1, 2, 3, 4] ⟨by kernel_rfl, by kernel_rfl, by kernel_rfl, by kernel_rfl, by kernel_rfl, by kernel_rfl, by kernel_rfl, by kernel_rfl, trivial⟩ ⟨by kernel_rfl, by kernel_rfl, by kernel_rfl, by kernel_rfl, by kernel_rfl, trivial⟩)
        rintro _ rfl
        have hF := hK81
        clear hK81
        refine post_next ?_
        refine aw_seq ?_
        obtain ⟨x84, hF, hK86⟩ := bind_some hF
        refine aw_cut (fun s1 => s1 = ⟨97, [(3, some (.lp 0 0)), (4, some (.lp 1 0)), (5, some (.lp 2 0)), (6, some (.lp 3 0)), (10, some (.pv (.bool x37))), (11, some (.pv (.int .i64 x38))), (12, some (.lp 4 0)), (14, some (.pv (.bool x84)))], [(0, some (.box 39 (bxv (eGClass a0)))), (1, some (.box 42 (bxv (eGMethod a1)))), (2, some (.box 45 (bxv (eGExpr a2)))), (3, some (.box 26 (bxv (eGType zGType)))), (4, some (.box 26 (bxv (eGType y75.1))))], 5, [], [], 0, []⟩) ?_ ?_
        · refine aw_seq ?_
          refine aw_region ?_
          refine rgp (op_field_lp rfl rfl Tryd_fld_45_0 rfl rfl) ?_
          refine rgp (op_load_lp (v := .pv (.int .i64 a2.fKind)) rfl rfl rfl rfl Tryd_one_3 rfl rfl) ?_
          refine rgp (op_int (k := .i64) (m := a2.fKind) (n := 14) rfl rfl rfl rfl rfl rfl) ?_
          refine reg_nil ?_
          refine post_imp (s' := ⟨97, [(3, some (.lp 0 0)), (4, some (.lp 1 0)), (5, some (.lp 2 0)), (6, some (.lp 3 0)), (10, some (.pv (.bool x37))), (11, some (.pv (.int .i64 x38))), (12, some (.lp 4 0)), (14, some (.pv (.bool x79))), (72, some (.pv (.bool (a2.fKind == 14))))], [(0, some (.box 39 (bxv (eGClass a0)))), (1, some (.box 42 (bxv (eGMethod a1)))), (2, some (.box 45 (bxv (eGExpr a2)))), (3, some (.box 26 (bxv (eGType zGType)))), (4, some (.box 26 (bxv (eGType y75.1))))], 5, [], [], 0, []⟩) (imps [0, 1, 2, 3, 4] ⟨by kernel_rfl, by kernel_rfl, by kernel_rfl, by kernel_rfl, by kernel_rfl, by kernel_rfl, by kernel_rfl, by kernel_rfl, by kernel_rfl, trivial⟩ ⟨by kernel_rfl, by kernel_rfl, by kernel_rfl, by kernel_rfl, by kernel_rfl, trivial⟩) ?_
          refine post_next ?_
          rcases ite_some hF with ⟨hb82, hF⟩ | ⟨hb82, hF⟩
          · refine aw_cond_t rfl hb82 ?_
            refine aw_region ?_
            refine rgp (op_field_lp rfl rfl Tryd_fld_26_0 rfl rfl) ?_
            refine rgp (op_load_lp (v := .pv (.int .i64 y75.1.fKind)) rfl rfl rfl rfl Tryd_one_3 rfl rfl) ?_
            refine rgp (op_int (k := .i64) (m := y75.1.fKind) (n := 2) rfl rfl rfl rfl rfl rfl) ?_
            refine rmv ?_
            rcases ite_some hF with ⟨hb83, hF⟩ | ⟨hb83, hF⟩
            · refine rgo_t hb83 ?_
              iterate 2 (refine rgo_t hb83 ?_)
              refine rpt hb83 ?_
              refine ras ?_
              refine reg_nil ?_
              cases hF
              exact post_cut _ rfl (imps [0, 1, 2, 3, 4] ⟨by kernel_rfl, by kernel_rfl, by kernel_rfl, by kernel_rfl, by kernel_rfl, by kernel_rfl, by kernel_rfl, by kernel_rfl, trivial⟩ ⟨by kernel_rfl, by kernel_rfl, by kernel_rfl, by kernel_rfl, by kernel_rfl, trivial⟩)
            refine rgn hb83 (op_field_lp rfl rfl Tryd_fld_26_0 rfl rfl) ?_
            refine rgn hb83 (op_load_lp (v := .pv (.int .i64 y75.1.fKind)) rfl rfl rfl rfl Tryd_one_3 rfl rfl) ?_
            refine rgn hb83 (op_int (k := .i64) (m := y75.1.fKind) (n := 3) rfl rfl rfl rfl rfl rfl) ?_
            refine rpf hb83 ?_
            refine ras ?_
            refine reg_nil ?_
            cases hF
            exact post_cut _ rfl (imps [0, 1, 2, 3, 4] ⟨by kernel_rfl, by kernel_rfl, by kernel_rfl, by kernel_rfl, by kernel_rfl, by kernel_rfl, by kernel_rfl, by kernel_rfl, trivial⟩ ⟨by kernel_rfl, by kernel_rfl, by kernel_rfl, by kernel_rfl, by kernel_rfl, trivial⟩)
          refine aw_cond_f rfl hb82 ?_
          refine aw_skip ?_
          cases hF
          exact post_cut _ rfl (imps [0, 1, 2, 3, 4] ⟨by kernel_rfl, by kernel_rfl, by kernel_rfl, by kernel_rfl, by kernel_rfl, by kernel_rfl, by kernel_rfl, by kernel_rfl, trivial⟩ ⟨by kernel_rfl, by kernel_rfl, by kernel_rfl, by kernel_rfl, by kernel_rfl, trivial⟩)
        rintro _ rfl
        have hF := hK86
        clear hK86
        refine post_next ?_
        iterate 2 (refine aw_seq ?_)
        refine aw_region ?_
        refine rmv ?_
        refine rgp (op_not rfl rfl rfl rfl) ?_
        refine reg_nil ?_
        refine post_imp (s' := ⟨97, [(3, some (.lp 0 0)), (4, some (.lp 1 0)), (5, some (.lp 2 0)), (6, some (.lp 3 0)), (10, some (.pv (.bool x37))), (11, some (.pv (.int .i64 x38))), (12, some (.lp 4 0)), (82, some (.pv (.bool (!x84))))], [(0, some (.box 39 (bxv (eGClass a0)))), (1, some (.box 42 (bxv (eGMethod a1)))), (2, some (.box 45 (bxv (eGExpr a2)))), (3, some (.box 26 (bxv (eGType zGType)))), (4, some (.box 26 (bxv (eGType y75.1))))], 5, [], [], 0, []⟩) (imps [0, 1, 2, 3, 4] ⟨by kernel_rfl, by kernel_rfl, by kernel_rfl, by kernel_rfl, by kernel_rfl, by kernel_rfl, by kernel_rfl, by kernel_rfl, trivial⟩ ⟨by kernel_rfl, by kernel_rfl, by kernel_rfl, by kernel_rfl, by kernel_rfl, trivial⟩) ?_
        refine post_next ?_
        rcases ite_some hF with ⟨hb87, hF⟩ | ⟨hb87, hF⟩
        · refine aw_cond_t rfl hb87 ?_
          refine aw_seq ?_
          refine aw_region ?_
          refine rgp (op_build (zs := (eGType zGType)) (r := eGType ({ fKind := 0, fClass := [], fN := 0, fOwn := (⟨zGOwner, zGOwner, zGOwner, zGOwner⟩ : A4 GOwner) } : GType)) rfl Tryd_zer_26 (by exact ⟨rfl, rfl, rfl, rfl, rfl, rfl, rfl, rfl, rfl, rfl, rfl, trivial⟩) Tryd_plc_26 rfl rfl rfl rfl) ?_
          refine rgp (op_store_lp (n := 11) rfl rfl rfl rfl rfl (or_agg Tryd_agg_26) (by rw [Tryd_non_26]; rfl) rfl rfl rfl) ?_
          refine ras ?_
          refine reg_nil ?_
          refine post_imp (s' := ⟨97, [(6, some (.lp 0 0)), (7, some (.pv (.int .i64 14)))], [(0, some (.box 26 (bxv (eGType ({ fKind := 0, fClass := [], fN := 0, fOwn := (⟨zGOwner, zGOwner, zGOwner, zGOwner⟩ : A4 GOwner) } : GType)))))], 1, [], [], 0, []⟩) (imps [3] ⟨by kernel_rfl, by kernel_rfl, trivial⟩ ⟨by kernel_rfl, trivial⟩) ?_
          refine post_next ?_
          refine aw_ret ?_
          refine post_then_ret ?_
          refine post_block_ret ?_
          iterate 2 (refine post_then_ret ?_)
          refine post_lp_ret ?_
          obtain rfl := Option.some.inj hF
          have hF := elim_stop hK99
          refine post_then_ret ?_
          obtain rfl := Option.some.inj hF
          exact post_ret rfl rfl (.cons _ _ _ _ _ (.agg _ _ _ _ _ 11 _ _ rfl rfl Tryd_agg_26 rfl rfl rfl) (.p _) (.cons _ _ _ _ _ (.tmp _ _ rfl) (.p _) .nil)) (.inl rfl)
        refine aw_cond_f rfl hb87 ?_
        refine aw_skip ?_
        refine post_next ?_
        obtain ⟨x92, hF, hK94⟩ := bind_some hF
        refine aw_cut (fun s1 => s1 = ⟨97, [(3, some (.lp 0 0)), (4, some (.lp 1 0)), (5, some (.lp 2 0)), (6, some (.lp 3 0)), (10, some (.pv (.bool x92))), (11, some (.pv (.int .i64 x38)))], [(0, some (.box 39 (bxv (eGClass a0)))), (1, some (.box 42 (bxv (eGMethod a1)))), (2, some (.box 45 (bxv (eGExpr a2)))), (3, some (.box 26 (bxv (eGType zGType))))], 4, [], [], 0, []⟩) ?_ ?_
        · refine aw_region ?_
          iterate 2 (refine rmv ?_)
          rcases ite_some hF with ⟨hb88, hF⟩ | ⟨hb88, hF⟩
          · refine rgo_t hb88 ?_
            iterate 3 (refine rgo_t hb88 ?_)
            iterate 2 (refine rgu ?_)
            refine rgo_t hb88 ?_
            refine rpt hb88 ?_
            refine ras ?_
            refine reg_nil ?_
            cases hF
            exact post_cut _ rfl (imps [0, 1, 2, 3] ⟨by kernel_rfl, by kernel_rfl, by kernel_rfl, by kernel_rfl, by kernel_rfl, by kernel_rfl, trivial⟩ ⟨by kernel_rfl, by kernel_rfl, by kernel_rfl, by kernel_rfl, trivial⟩)
          refine rgn hb88 (op_field_lp rfl rfl Tryd_fld_45_0 rfl rfl) ?_
          refine rgn hb88 (op_load_lp (v := .pv (.int .i64 a2.fKind)) rfl rfl rfl rfl Tryd_one_3 rfl rfl) ?_
          refine rgn hb88 (op_int (k := .i64) (m := a2.fKind) (n := 14) rfl rfl rfl rfl rfl rfl) ?_
          refine rgn hb88 (op_move rfl rfl rfl rfl) ?_
          rcases ite_some hF with ⟨hb89, hF⟩ | ⟨hb89, hF⟩
          · refine rgn hb89 (op_load_lp_agg (ps := eGType y75.1) rfl rfl rfl rfl rfl rfl Tryd_agg_26 rfl rfl) ?_
            obtain ⟨y90, h91, hF⟩ := bind_some hF
            refine rgn hb89 (op_call 5 rfl (caps := []) (args := [.agg (eGType y75.1)]) (rs := [.p (.bool y90)]) rfl rfl rfl Tryd_cal_25 (ref05_Unique_ok h91) rfl rfl rfl) ?_
            refine rgn hb88 (op_pick_t rfl rfl hb89 rfl rfl rfl) ?_
            refine rpf hb88 ?_
            refine ras ?_
            refine reg_nil ?_
            cases hF
            exact post_cut _ rfl (imps [0, 1, 2, 3] ⟨by kernel_rfl, by kernel_rfl, by kernel_rfl, by kernel_rfl, by kernel_rfl, by kernel_rfl, trivial⟩ ⟨by kernel_rfl, by kernel_rfl, by kernel_rfl, by kernel_rfl, trivial⟩)
          iterate 2 (refine rgo_f hb89 ?_)
          refine rgn hb88 (op_pick_f rfl rfl hb89 rfl rfl rfl) ?_
          refine rpf hb88 ?_
          refine ras ?_
          refine reg_nil ?_
          cases hF
          exact post_cut _ rfl (imps [0, 1, 2, 3] ⟨by kernel_rfl, by kernel_rfl, by kernel_rfl, by kernel_rfl, by kernel_rfl, by kernel_rfl, trivial⟩ ⟨by kernel_rfl, by kernel_rfl, by kernel_rfl, by kernel_rfl, trivial⟩)
        rintro _ rfl
        have hF := hK94
        clear hK94
        refine post_block_normal ?_
        refine post_next ?_
        refine aw_region ?_
        refine rmv ?_
        refine rgp (op_int (k := .i64) (m := x38) (n := 1) rfl rfl rfl rfl rfl rfl) ?_
        refine ras ?_
        refine reg_nil ?_
        refine post_round ?_
        exact rnd_back (ih (x92, w_i64 (x38 + 1)) hF) (imps [0, 1, 2, 3] ⟨by kernel_rfl, by kernel_rfl, by kernel_rfl, by kernel_rfl, by kernel_rfl, by kernel_rfl, trivial⟩ ⟨by kernel_rfl, by kernel_rfl, by kernel_rfl, by kernel_rfl, trivial⟩)
      refine aw_cond_f rfl hb68 ?_
      refine aw_exit ?_
      iterate 2 (refine post_then_exit ?_)
      obtain rfl := Option.some.inj hF
      exact post_lp_break _ ⟨_, rfl, rfl⟩ (imps [3] ⟨by kernel_rfl, by kernel_rfl, trivial⟩ ⟨by kernel_rfl, trivial⟩)
    rintro _ ⟨x97, rfl, rfl⟩
    have hF := elim_next hK99
    clear hK99
    refine post_next ?_
    iterate 2 (refine aw_seq ?_)
    refine aw_region ?_
    refine rmv ?_
    refine reg_nil ?_
    refine post_imp (s' := ⟨97, [(6, some (.lp 0 0)), (94, some (.pv (.bool x97)))], [(0, some (.box 26 (bxv (eGType zGType))))], 1, [], [], 0, []⟩) (imps [0] ⟨by kernel_rfl, by kernel_rfl, trivial⟩ ⟨by kernel_rfl, trivial⟩) ?_
    refine post_next ?_
    rcases ite_some hF with ⟨hb100, hF⟩ | ⟨hb100, hF⟩
    · refine aw_cond_t rfl hb100 ?_
      refine aw_seq ?_
      refine aw_region ?_
      refine rgp (op_build (zs := (eGType zGType)) (r := eGType ({ fKind := 0, fClass := [], fN := 0, fOwn := (⟨zGOwner, zGOwner, zGOwner, zGOwner⟩ : A4 GOwner) } : GType)) rfl Tryd_zer_26 (by exact ⟨rfl, rfl, rfl, rfl, rfl, rfl, rfl, rfl, rfl, rfl, rfl, trivial⟩) Tryd_plc_26 rfl rfl rfl rfl) ?_
      refine rgp (op_store_lp (n := 11) rfl rfl rfl rfl rfl (or_agg Tryd_agg_26) (by rw [Tryd_non_26]; rfl) rfl rfl rfl) ?_
      refine ras ?_
      refine reg_nil ?_
      refine post_imp (s' := ⟨97, [(6, some (.lp 0 0)), (7, some (.pv (.int .i64 22)))], [(0, some (.box 26 (bxv (eGType ({ fKind := 0, fClass := [], fN := 0, fOwn := (⟨zGOwner, zGOwner, zGOwner, zGOwner⟩ : A4 GOwner) } : GType)))))], 1, [], [], 0, []⟩) (imps [0] ⟨by kernel_rfl, by kernel_rfl, trivial⟩ ⟨by kernel_rfl, trivial⟩) ?_
      refine post_next ?_
      refine aw_ret ?_
      refine post_then_ret ?_
      obtain rfl := Option.some.inj hF
      exact post_ret rfl rfl (.cons _ _ _ _ _ (.agg _ _ _ _ _ 11 _ _ rfl rfl Tryd_agg_26 rfl rfl rfl) (.p _) (.cons _ _ _ _ _ (.tmp _ _ rfl) (.p _) .nil)) (.inl rfl)
    refine aw_cond_f rfl hb100 ?_
    refine aw_skip ?_
    refine post_next ?_
    refine aw_seq ?_
    refine aw_region ?_
    obtain ⟨y101, h102, hF⟩ := bind_some hF
    refine rgp (op_call 1 rfl (caps := []) (args := []) (rs := [.p (.agg (eGType y101))]) rfl rfl rfl Tryd_cal_72 (ref19_number_ok h102) rfl rfl rfl) ?_
    refine rgp (op_store_lp (n := 11) rfl rfl rfl rfl rfl (or_agg Tryd_agg_26) (by rw [Tryd_non_26]; rfl) rfl rfl rfl) ?_
    refine ras ?_
    refine reg_nil ?_
    refine post_imp (s' := ⟨97, [(6, some (.lp 0 0)), (7, some (.pv (.int .i64 0)))], [(0, some (.box 26 (bxv (eGType y101))))], 1, [], [], 0, []⟩) (imps [0] ⟨by kernel_rfl, by kernel_rfl, trivial⟩ ⟨by kernel_rfl, trivial⟩) ?_
    refine post_next ?_
    refine aw_ret ?_
    obtain rfl := Option.some.inj hF
    exact post_ret rfl rfl (.cons _ _ _ _ _ (.agg _ _ _ _ _ 11 _ _ rfl rfl Tryd_agg_26 rfl rfl rfl) (.p _) (.cons _ _ _ _ _ (.tmp _ _ rfl) (.p _) .nil)) (.inl rfl)
theorem ref19_of_ok {n : Nat} {a0 : GClass} {a1 : GMethod} {a2 : GExpr} {r : GType × Int} (hF : ref19_of n a0 a1 a2 = some r) : Abs.Fn globs_Tryd Tryd.prog 48 [.agg (eGClass a0), .agg (eGMethod a1), .agg (eGExpr a2)] [.p (.agg (eGType r.1)), .p (.int .i64 r.2)] := (ref19_of_ring n) _ _ _ _ hF

theorem ref19_Of_ok {a0 : GClass} {a1 : GMethod} {a2 : GExpr} {r : GType × Int} (hF : ref19_Of a0 a1 a2 = some r) : Abs.Fn globs_Tryd Tryd.prog 20 [.agg (eGClass a0), .agg (eGMethod a1), .agg (eGExpr a2)] [.p (.agg (eGType r.1)), .p (.int .i64 r.2)] := by
  unfold ref19_Of at hF
  refine fn_of_body (n := 18) Tryd.func20 rfl rfl rfl ?_
  intro w O
  refine aw_seq ?_
  refine aw_region ?_
  refine rgp (op_box 0 rfl rfl rfl rfl rfl rfl) ?_
  refine rgp (op_box 1 rfl rfl rfl rfl rfl rfl) ?_
  refine rgp (op_box 2 rfl rfl rfl rfl rfl rfl) ?_
  refine rgp (op_alloc 3 rfl (ps := (eGType zGType)) rfl Tryd_zer_26 (by exact ⟨rfl, rfl, rfl, rfl, rfl, rfl, rfl, rfl, rfl, rfl, rfl, trivial⟩) rfl rfl) ?_
  refine ras ?_
  refine reg_nil ?_
  refine post_imp (s' := ⟨18, [(3, some (.lp 0 0)), (4, some (.lp 1 0)), (5, some (.lp 2 0)), (6, some (.lp 3 0))], [(0, some (.box 39 (bxv (eGClass a0)))), (1, some (.box 42 (bxv (eGMethod a1)))), (2, some (.box 45 (bxv (eGExpr a2)))), (3, some (.box 26 (bxv (eGType zGType))))], 4, [], [], 0, []⟩) (imps [0, 1, 2, 3] ⟨by kernel_rfl, by kernel_rfl, by kernel_rfl, by kernel_rfl, trivial⟩ ⟨by kernel_rfl, by kernel_rfl, by kernel_rfl, by kernel_rfl, trivial⟩) ?_
  refine post_next ?_
  iterate 2 (refine aw_seq ?_)
  refine aw_region ?_
  refine rgp (op_load_lp_agg (ps := eGExpr a2) rfl rfl rfl rfl rfl rfl Tryd_agg_45 rfl rfl) ?_
  obtain ⟨y3, h4, hF⟩ := bind_some hF
  refine rgp (op_call 4 rfl (caps := []) (args := [.agg (eGExpr a2)]) (rs := [.p (.bool y3)]) rfl rfl rfl Tryd_cal_47 (ref06_Right_ok h4) rfl rfl rfl) ?_
  refine rgp (op_not rfl rfl rfl rfl) ?_
  refine reg_nil ?_
  refine post_imp (s' := ⟨18, [(3, some (.lp 0 0)), (4, some (.lp 1 0)), (5, some (.lp 2 0)), (6, some (.lp 3 0)), (10, some (.pv (.bool (!y3))))], [(0, some (.box 39 (bxv (eGClass a0)))), (1, some (.box 42 (bxv (eGMethod a1)))), (2, some (.box 45 (bxv (eGExpr a2)))), (3, some (.box 26 (bxv (eGType zGType))))], 4, [], [], 0, []⟩) (imps [0, 1, 2, 3] ⟨by kernel_rfl, by kernel_rfl, by kernel_rfl, by kernel_rfl, by kernel_rfl, trivial⟩ ⟨by kernel_rfl, by kernel_rfl, by kernel_rfl, by kernel_rfl, trivial⟩) ?_
  refine post_next ?_
  rcases ite_some hF with ⟨hb5, hF⟩ | ⟨hb5, hF⟩
  · refine aw_cond_t rfl hb5 ?_
    refine aw_seq ?_
    refine aw_region ?_
    refine rgp (op_build (zs := (eGType zGType)) (r := eGType ({ fKind := 0, fClass := [], fN := 0, fOwn := (⟨zGOwner, zGOwner, zGOwner, zGOwner⟩ : A4 GOwner) } : GType)) rfl Tryd_zer_26 (by exact ⟨rfl, rfl, rfl, rfl, rfl, rfl, rfl, rfl, rfl, rfl, rfl, trivial⟩) Tryd_plc_26 rfl rfl rfl rfl) ?_
    refine rgp (op_store_lp (n := 11) rfl rfl rfl rfl rfl (or_agg Tryd_agg_26) (by rw [Tryd_non_26]; rfl) rfl rfl rfl) ?_
    refine ras ?_
    refine reg_nil ?_
    refine post_imp (s' := ⟨18, [(6, some (.lp 0 0)), (7, some (.pv (.int .i64 28)))], [(0, some (.box 26 (bxv (eGType ({ fKind := 0, fClass := [], fN := 0, fOwn := (⟨zGOwner, zGOwner, zGOwner, zGOwner⟩ : A4 GOwner) } : GType)))))], 1, [], [], 0, []⟩) (imps [3] ⟨by kernel_rfl, by kernel_rfl, trivial⟩ ⟨by kernel_rfl, trivial⟩) ?_
    refine post_next ?_
    refine aw_ret ?_
    refine post_then_ret ?_
    obtain rfl := Option.some.inj hF
    exact post_ret rfl rfl (.cons _ _ _ _ _ (.agg _ _ _ _ _ 11 _ _ rfl rfl Tryd_agg_26 rfl rfl rfl) (.p _) (.cons _ _ _ _ _ (.tmp _ _ rfl) (.p _) .nil)) (.inl rfl)
  refine aw_cond_f rfl hb5 ?_
  refine aw_skip ?_
  refine post_next ?_
  refine aw_seq ?_
  refine aw_region ?_
  refine rgp (op_load_lp_agg (ps := eGClass a0) rfl rfl rfl rfl rfl rfl Tryd_agg_39 rfl rfl) ?_
  refine rgp (op_load_lp_agg (ps := eGMethod a1) rfl rfl rfl rfl rfl rfl Tryd_agg_42 rfl rfl) ?_
  refine rgp (op_load_lp_agg (ps := eGExpr a2) rfl rfl rfl rfl rfl rfl Tryd_agg_45 rfl rfl) ?_
  obtain ⟨y6, h7, hF⟩ := bind_some hF
  refine rgp (op_call 4 rfl (caps := []) (args := [.agg (eGClass a0), .agg (eGMethod a1), .agg (eGExpr a2)]) (rs := [.p (.agg (eGType y6.1)), .p (.int .i64 y6.2)]) rfl rfl rfl Tryd_cal_48 (ref19_of_ok h7) rfl rfl rfl) ?_
  iterate 2 (refine rgp (op_extract rfl rfl rfl rfl rfl) ?_)
  refine rgp (op_store_lp (n := 11) rfl rfl rfl rfl rfl (or_agg Tryd_agg_26) (by rw [Tryd_non_26]; rfl) rfl rfl rfl) ?_
  refine ras ?_
  refine reg_nil ?_
  refine post_imp (s' := ⟨18, [(6, some (.lp 0 0)), (7, some (.pv (.int .i64 y6.2)))], [(0, some (.box 26 (bxv (eGType y6.1))))], 1, [], [], 0, []⟩) (imps [3] ⟨by kernel_rfl, by kernel_rfl, trivial⟩ ⟨by kernel_rfl, trivial⟩) ?_
  refine post_next ?_
  refine aw_ret ?_
  obtain rfl := Option.some.inj hF
  exact post_ret rfl rfl (.cons _ _ _ _ _ (.agg _ _ _ _ _ 11 _ _ rfl rfl Tryd_agg_26 rfl rfl rfl) (.p _) (.cons _ _ _ _ _ (.tmp _ _ rfl) (.p _) .nil)) (.inl rfl)
theorem law19_ShapeOf_ok {a0 : GClass} {a1 : GMethod} {a2 : GExpr} {r : Bool} (hF : law19_ShapeOf a0 a1 a2 = some r) : Abs.Fn globs_Tryd Tryd.prog 5 [.agg (eGClass a0), .agg (eGMethod a1), .agg (eGExpr a2)] [.p (.bool r)] := by
  unfold law19_ShapeOf at hF
  refine fn_of_body (n := 58) Tryd.func5 rfl rfl rfl ?_
  intro w O
  refine aw_seq ?_
  refine aw_region ?_
  refine rgp (op_box 0 rfl rfl rfl rfl rfl rfl) ?_
  refine rgp (op_box 1 rfl rfl rfl rfl rfl rfl) ?_
  refine rgp (op_box 2 rfl rfl rfl rfl rfl rfl) ?_
  refine ras ?_
  refine reg_nil ?_
  refine post_imp (s' := ⟨58, [(3, some (.lp 0 0)), (4, some (.lp 1 0)), (5, some (.lp 2 0))], [(0, some (.box 39 (bxv (eGClass a0)))), (1, some (.box 42 (bxv (eGMethod a1)))), (2, some (.box 45 (bxv (eGExpr a2))))], 3, [], [], 0, []⟩) (imps [0, 1, 2] ⟨by kernel_rfl, by kernel_rfl, by kernel_rfl, trivial⟩ ⟨by kernel_rfl, by kernel_rfl, by kernel_rfl, trivial⟩) ?_
  refine post_next ?_
  iterate 2 (refine aw_seq ?_)
  obtain ⟨x6, hF, hK8⟩ := bind_some hF
  refine aw_cut (fun s1 => s1 = ⟨58, [(3, some (.lp 0 0)), (4, some (.lp 1 0)), (5, some (.lp 2 0)), (31, some (.pv (.bool x6)))], [(0, some (.box 39 (bxv (eGClass a0)))), (1, some (.box 42 (bxv (eGMethod a1)))), (2, some (.box 45 (bxv (eGExpr a2))))], 3, [], [], 0, []⟩) ?_ ?_
  · refine aw_region ?_
    refine rgp (op_field_lp rfl rfl Tryd_fld_42_3 rfl rfl) ?_
    refine rgp (op_load_lp (v := .pv (.vs 13 (List.map eGVar a1.fParams))) rfl rfl rfl rfl Tryd_one_36 rfl rfl) ?_
    refine rgp (op_len_vs (n := a1.fParams.length) rfl rfl (List.length_map ..) Tryd_slc_36 rfl rfl) ?_
    refine rgp (op_int (k := .i64) (m := (a1.fParams.length : Int)) (n := 60) rfl rfl rfl rfl rfl rfl) ?_
    refine rmv ?_
    rcases ite_some hF with ⟨hb1, hF⟩ | ⟨hb1, hF⟩
    · refine rgo_t hb1 ?_
      iterate 3 (refine rgo_t hb1 ?_)
      refine rpt hb1 ?_
      refine rmv ?_
      iterate 4 (refine rgo_t rfl ?_)
      refine rpt rfl ?_
      refine rmv ?_
      iterate 3 (refine rgo_t rfl ?_)
      refine rpt rfl ?_
      refine reg_nil ?_
      cases hF
      exact post_cut _ rfl (imps [0, 1, 2] ⟨by kernel_rfl, by kernel_rfl, by kernel_rfl, by kernel_rfl, trivial⟩ ⟨by kernel_rfl, by kernel_rfl, by kernel_rfl, trivial⟩)
    refine rgn hb1 (op_field_lp rfl rfl Tryd_fld_42_4 rfl rfl) ?_
    refine rgn hb1 (op_load_lp (v := .pv (.vs 13 (List.map eGVar a1.fLocals))) rfl rfl rfl rfl Tryd_one_36 rfl rfl) ?_
    refine rgn hb1 (op_len_vs (n := a1.fLocals.length) rfl rfl (List.length_map ..) Tryd_slc_36 rfl rfl) ?_
    refine rgn hb1 (op_int (k := .i64) (m := (a1.fLocals.length : Int)) (n := 60) rfl rfl rfl rfl rfl rfl) ?_
    refine rpf hb1 ?_
    refine rmv ?_
    rcases ite_some hF with ⟨hb2, hF⟩ | ⟨hb2, hF⟩
    · refine rgo_t hb2 ?_
      iterate 3 (refine rgo_t hb2 ?_)
      refine rpt hb2 ?_
      refine rmv ?_
      iterate 3 (refine rgo_t rfl ?_)
      refine rpt rfl ?_
      refine reg_nil ?_
      cases hF
      exact post_cut _ rfl (imps [0, 1, 2] ⟨by kernel_rfl, by kernel_rfl, by kernel_rfl, by kernel_rfl, trivial⟩ ⟨by kernel_rfl, by kernel_rfl, by kernel_rfl, trivial⟩)
    refine rgn hb2 (op_field_lp rfl rfl Tryd_fld_39_1 rfl rfl) ?_
    refine rgn hb2 (op_load_lp (v := .pv (.vs 1 (List.map eS a0.fParams))) rfl rfl rfl rfl Tryd_one_27 rfl rfl) ?_
    refine rgn hb2 (op_len_vs (n := a0.fParams.length) rfl rfl (List.length_map ..) Tryd_slc_27 rfl rfl) ?_
    refine rgn hb2 (op_int (k := .i64) (m := (a0.fParams.length : Int)) (n := 60) rfl rfl rfl rfl rfl rfl) ?_
    refine rpf hb2 ?_
    refine rmv ?_
    rcases ite_some hF with ⟨hb3, hF⟩ | ⟨hb3, hF⟩
    · refine rgo_t hb3 ?_
      iterate 2 (refine rgo_t hb3 ?_)
      refine rpt hb3 ?_
      refine reg_nil ?_
      cases hF
      exact post_cut _ rfl (imps [0, 1, 2] ⟨by kernel_rfl, by kernel_rfl, by kernel_rfl, by kernel_rfl, trivial⟩ ⟨by kernel_rfl, by kernel_rfl, by kernel_rfl, trivial⟩)
    refine rgn hb3 (op_load_lp_agg (ps := eGExpr a2) rfl rfl rfl rfl rfl rfl Tryd_agg_45 rfl rfl) ?_
    obtain ⟨y4, h5, hF⟩ := bind_some hF
    refine rgn hb3 (op_call 3 rfl (caps := []) (args := [.agg (eGExpr a2)]) (rs := [.p (.int .i64 y4)]) rfl rfl rfl Tryd_cal_17 (ref06_Size_ok h5) rfl rfl rfl) ?_
    refine rgn hb3 (op_int (k := .i64) (m := y4) (n := 200) rfl rfl rfl rfl rfl rfl) ?_
    refine rpf hb3 ?_
    refine reg_nil ?_
    cases hF
    exact post_cut _ rfl (imps [0, 1, 2] ⟨by kernel_rfl, by kernel_rfl, by kernel_rfl, by kernel_rfl, trivial⟩ ⟨by kernel_rfl, by kernel_rfl, by kernel_rfl, trivial⟩)
  rintro _ rfl
  have hF := hK8
  clear hK8
  refine post_next ?_
  rcases ite_some hF with ⟨hb9, hF⟩ | ⟨hb9, hF⟩
  · refine aw_cond_t rfl hb9 ?_
    refine aw_seq ?_
    refine aw_region ?_
    obtain ⟨y10, h11, hF⟩ := bind_some hF
    refine rgp (op_call 3 rfl (caps := []) (args := []) (rs := [.p (.bool y10)]) rfl rfl rfl Tryd_cal_18 (law19_awake_ok h11) rfl rfl rfl) ?_
    refine ras ?_
    refine reg_nil ?_
    refine post_imp (s' := ⟨58, [(6, some (.pv (.bool y10)))], [], 0, [], [], 0, []⟩) (imps [] ⟨by kernel_rfl, trivial⟩ trivial) ?_
    refine post_next ?_
    refine aw_ret ?_
    refine post_then_ret ?_
    obtain rfl := Option.some.inj hF
    exact prt
  refine aw_cond_f rfl hb9 ?_
  refine aw_skip ?_
  refine post_next ?_
  refine aw_seq ?_
  refine aw_region ?_
  refine rgp (op_load_lp_agg (ps := eGClass a0) rfl rfl rfl rfl rfl rfl Tryd_agg_39 rfl rfl) ?_
  refine rgp (op_load_lp_agg (ps := eGMethod a1) rfl rfl rfl rfl rfl rfl Tryd_agg_42 rfl rfl) ?_
  refine rgp (op_load_lp_agg (ps := eGExpr a2) rfl rfl rfl rfl rfl rfl Tryd_agg_45 rfl rfl) ?_
  obtain ⟨y14, h15, hF⟩ := bind_some hF
  refine rgp (op_call 3 rfl (caps := []) (args := [.agg (eGClass a0), .agg (eGMethod a1), .agg (eGExpr a2)]) (rs := [.p (.agg (eGType y14.1)), .p (.int .i64 y14.2)]) rfl rfl rfl Tryd_cal_19 (shape_Of_ok h15) rfl rfl rfl) ?_
  refine rmv ?_
  iterate 2 (refine rgp (op_extract rfl rfl rfl rfl rfl) ?_)
  refine rgp (op_alloc 3 rfl (ps := (eGType zGType)) rfl Tryd_zer_26 (by exact ⟨rfl, rfl, rfl, rfl, rfl, rfl, rfl, rfl, rfl, rfl, rfl, trivial⟩) rfl rfl) ?_
  refine rgp (op_store_lp (n := 11) rfl rfl rfl rfl rfl (or_agg Tryd_agg_26) (by rw [Tryd_non_26]; rfl) rfl rfl rfl) ?_
  refine ras ?_
  refine reg_nil ?_
  refine post_imp (s' := ⟨58, [(3, some (.lp 0 0)), (4, some (.lp 1 0)), (5, some (.lp 2 0)), (7, some (.lp 3 0)), (8, some (.pv (.int .i64 y14.2)))], [(0, some (.box 39 (bxv (eGClass a0)))), (1, some (.box 42 (bxv (eGMethod a1)))), (2, some (.box 45 (bxv (eGExpr a2)))), (3, some (.box 26 (bxv (eGType y14.1))))], 4, [], [], 0, []⟩) (imps [0, 1, 2, 3] ⟨by kernel_rfl, by kernel_rfl, by kernel_rfl, by kernel_rfl, by kernel_rfl, trivial⟩ ⟨by kernel_rfl, by kernel_rfl, by kernel_rfl, by kernel_rfl, trivial⟩) ?_
  refine post_next ?_
  refine aw_seq ?_
  refine aw_region ?_
  refine rgp (op_load_lp_agg (ps := eGClass a0) rfl rfl rfl rfl rfl rfl Tryd_agg_39 rfl rfl) ?_
  refine rgp (op_load_lp_agg (ps := eGMethod a1) rfl rfl rfl rfl rfl rfl Tryd_agg_42 rfl rfl) ?_
  refine rgp (op_load_lp_agg (ps := eGExpr a2) rfl rfl rfl rfl rfl rfl Tryd_agg_45 rfl rfl) ?_
  obtain ⟨y18, h19, hF⟩ := bind_some hF
  refine rgp (op_call 4 rfl (caps := []) (args := [.agg (eGClass a0), .agg (eGMethod a1), .agg (eGExpr a2)]) (rs := [.p (.agg (eGType y18.1)), .p (.int .i64 y18.2)]) rfl rfl rfl Tryd_cal_20 (ref19_Of_ok h19) rfl rfl rfl) ?_
  refine rmv ?_
  iterate 2 (refine rgp (op_extract rfl rfl rfl rfl rfl) ?_)
  refine rgp (op_alloc 4 rfl (ps := (eGType zGType)) rfl Tryd_zer_26 (by exact ⟨rfl, rfl, rfl, rfl, rfl, rfl, rfl, rfl, rfl, rfl, rfl, trivial⟩) rfl rfl) ?_
  refine rgp (op_store_lp (n := 11) rfl rfl rfl rfl rfl (or_agg Tryd_agg_26) (by rw [Tryd_non_26]; rfl) rfl rfl rfl) ?_
  refine ras ?_
  refine reg_nil ?_
  refine post_imp (s' := ⟨58, [(7, some (.lp 0 0)), (8, some (.pv (.int .i64 y14.2))), (9, some (.lp 1 0)), (10, some (.pv (.int .i64 y18.2)))], [(0, some (.box 26 (bxv (eGType y14.1)))), (1, some (.box 26 (bxv (eGType y18.1))))], 2, [], [], 0, []⟩) (imps [3, 4] ⟨by kernel_rfl, by kernel_rfl, by kernel_rfl, by kernel_rfl, trivial⟩ ⟨by kernel_rfl, by kernel_rfl, trivial⟩) ?_
  refine post_next ?_
  refine aw_seq ?_
  refine aw_region ?_
  refine rgp (op_load_lp_agg (ps := eGType y14.1) rfl rfl rfl rfl rfl rfl Tryd_agg_26 rfl rfl) ?_
  refine rgp (op_load_lp_agg (ps := eGType y18.1) rfl rfl rfl rfl rfl rfl Tryd_agg_26 rfl rfl) ?_
  refine rgp (op_eqAgg_eql (r := bGType y14.1 y18.1) rfl rfl rfl Tryd_eqt_26 rfl rfl rfl rfl rfl) ?_
  refine rmv ?_
  rcases ite_some hF with ⟨hb20, hF⟩ | ⟨hb20, hF⟩
  · refine rgn hb20 (op_move rfl rfl rfl rfl) ?_
    refine rgn hb20 (op_move rfl rfl rfl rfl) ?_
    refine rgn hb20 (op_int (k := .i64) (m := y14.2) (n := y18.2) rfl rfl rfl rfl rfl rfl) ?_
    refine rpt hb20 ?_
    refine rmv ?_
    rcases ite_some hF with ⟨hb21, hF⟩ | ⟨hb21, hF⟩
    · obtain ⟨y22, h23, hF⟩ := bind_some hF
      refine rgn hb21 (op_call 2 rfl (caps := []) (args := []) (rs := [.p (.bool y22)]) rfl rfl rfl Tryd_cal_18 (law19_awake_ok h23) rfl rfl rfl) ?_
      refine rpt hb21 ?_
      refine ras ?_
      refine reg_nil ?_
      refine post_imp (s' := ⟨58, [(6, some (.pv (.bool y22)))], [], 0, [], [], 0, []⟩) (imps [] ⟨by kernel_rfl, trivial⟩ trivial) ?_
      refine post_next ?_
      refine aw_ret ?_
      obtain rfl := Option.some.inj hF
      exact prt
    refine rgo_f hb21 ?_
    refine rpf hb21 ?_
    refine ras ?_
    refine reg_nil ?_
    refine post_imp (s' := ⟨58, [(6, some (.pv (.bool false)))], [], 0, [], [], 0, []⟩) (imps [] ⟨by kernel_rfl, trivial⟩ trivial) ?_
    refine post_next ?_
    refine aw_ret ?_
    obtain rfl := Option.some.inj hF
    exact prt
  iterate 3 (refine rgo_f hb20 ?_)
  refine rpf hb20 ?_
  refine rmv ?_
  refine rgo_f rfl ?_
  refine rpf rfl ?_
  refine ras ?_
  refine reg_nil ?_
  refine post_imp (s' := ⟨58, [(6, some (.pv (.bool false)))], [], 0, [], [], 0, []⟩) (imps [] ⟨by kernel_rfl, trivial⟩ trivial) ?_
  refine post_next ?_
  refine aw_ret ?_
  obtain rfl := Option.some.inj hF
  exact prt
end Go.Proofs.YtkmaieldmcjbfaaDoor
