/- A part of the proof that the law FlowStmt gives true for every input. -/
import Derived.Test.YthhdlpggmmfaiaaGreatFlowStmtT
import Derived.Test.YthhdlpggmmfaiaaGreatFlowStmtX
import Derived.Test.YthhdlpggmmfaiaaGreatFlowStmtI
import Derived.Test.YthhdlpggmmfaiaaGreatFlowStmtW3
/- Each Go function computes its plain function. -/
namespace Go.Proofs.YthhdlpggmmfaiaaGreat
open Go.RowKit Go.Abs
set_option maxRecDepth 100000
set_option maxHeartbeats 4000000
theorem flow_Check_ok {a0 : List GClass} {r : GFault} (hF : flow_Check a0 = some r) : FZ 36 [.vs 7 (List.map eGClass a0)] [.p (.agg (eGFault r))] := by
 unfold flow_Check at hF
 refine fn_of_body (n := 32) Tryz.func36 rfl rfl rfl fun w O => ?_
 refine go ?_
 refine rgp (al 0 (eGFault zGFault) zer_73) ?_
 iterate 7 refine go ?_
 obtain ⟨lr115, hF, hK116⟩ := bs hF
 refine aw_for ((a0.length - 0 : Int).toNat + 1) (fun s1 => ∃ q, lr115 = .next q ∧ s1 = (sX 32 [(2, some (.lp 0 0))] [bf 0 73 (eGFault zGFault)] 1)) ?_ ?_
 ·refine rnd_loop (α := Int) (fun q => (sX 32 [pf 0 (.vs 7 (List.map eGClass a0)), (2, some (.lp 0 0)), pf 8 (.vs 7 (List.map eGClass a0)), pf 9 (.int .i64 (a0.length : Int)), pf 10 (.int .i64 q)] [bf 0 73 (eGFault zGFault)] 1)) (fun k q => flow_Check_L1 a0 k q = some lr115) 0 (impz [0]) hF (fun q h => by cases h) ?_
  clear hF
  rintro k x38 hF ih
  refine rnd_succ ?_
  iterate 3 refine go ?_
  refine aw_seq ?_
  refine cnd hF (fun hb77 hF => ?_) fun hb77 hF => ?_
  ·iterate 2 refine go ?_
   refine aw_seq ?_
   refine aw_block ?_
   refine go ?_
   obtain ⟨y80, h81, hF⟩ := bs hF
   refine rgp (ix (idx_map eGClass h81) slc_22) ?_
   refine rgp (lw (eGClass y80) agg_32) ?_
   refine rgp (al 1 (eGClass zGClass) zer_32) ?_
   iterate 8 refine go ?_
   obtain ⟨lr112, hF, hK113⟩ := bs hF
   refine aw_for ((y80.fMethods.length - 0 : Int).toNat + 1) (fun s1 => ∃ q, lr112 = .next q ∧ s1 = (sX 32 [pf 0 (.vs 7 (List.map eGClass a0)), (2, some (.lp 0 0)), pf 8 (.vs 7 (List.map eGClass a0)), pf 9 (.int .i64 (a0.length : Int)), pf 10 (.int .i64 x38)] [bf 0 73 (eGFault zGFault)] 1)) ?_ ?_
   ·refine rnd_loop (α := Unit) (fun q => (sX 32 [pf 0 (.vs 7 (List.map eGClass a0)), (2, some (.lp 0 0)), (4, some (.lp 1 0)), pf 8 (.vs 7 (List.map eGClass a0)), pf 9 (.int .i64 (a0.length : Int)), pf 10 (.int .i64 x38), pf 15 (.vs 17 (List.map eGMethod y80.fMethods)), pf 16 (.int .i64 (y80.fMethods.length : Int)), pf 17 (.int .i64 0)] [bf 0 73 (eGFault zGFault), bf 1 32 (eGClass y80)] 2)) (fun k q => flow_Check_L2 a0 y80 k = some lr112) () (impz [0, 1]) hF (fun q h => by cases h) ?_
    clear hF
    rintro k ⟨⟩ hF ih
    refine rnd_succ ?_
    iterate 3 refine go ?_
    refine aw_seq ?_
    refine cnd hF (fun hb102 hF => ?_) fun hb102 hF => ?_
    ·iterate 2 refine go ?_
     refine aw_seq ?_
     refine aw_block ?_
     refine go ?_
     obtain ⟨y105, h106, hF⟩ := bs hF
     refine rgp (ix (idx_map eGMethod h106) slc_30) ?_
     refine rgp (lw (eGMethod y105) agg_40) ?_
     refine rgp (al 2 (eGMethod zGMethod) zer_40) ?_
     iterate 4 refine go ?_
     refine rgp (la (eGClass y80) agg_32) ?_
     refine rgp (la (eGMethod y105) agg_40) ?_
     obtain ⟨y109, h110, hF⟩ := bs hF
     refine rgp (cl 3 [.vs 7 (List.map eGClass a0), .agg (eGClass y80), .agg (eGMethod y105)] [.p (.agg (eGFault y109))] (flow_Method_ok h110)) ?_
     refine rgp (al 3 (eGFault zGFault) zer_73) ?_
     iterate 7 refine go ?_
     refine cnd hF (fun hb111 hF => ?_) fun hb111 hF => ?_
     ·refine go ?_
      refine rgp (la (eGFault y109) agg_73) ?_
      iterate 6 refine go ?_
      refine post_lp_ret ?_
      cases hF
      have hF := elim_stop hK113
      iterate 3 refine go ?_
      refine post_lp_ret ?_
      cases hF
      have hF := elim_stop hK116
      refine go ?_
      cases hF
      exact post_ret rfl rfl (.cons _ _ _ _ _ (.agg _ _ _ _ _ 2 _ _ rfl rfl agg_73 rfl rfl rfl) (.p _) .nil) (.inl rfl)
     cases hF
    refine aw_exit ?_
    iterate 2 refine post_then_exit ?_
    cases hF
    exact post_lp_break _ ⟨_, rfl, rfl⟩ (impz [0])
   rintro _ ⟨⟨⟩, rfl, rfl⟩
   have hF := elim_next hK113
   clear hK113
   iterate 5 refine go ?_
   refine rnr ?_
   exact rnd_back (ih (w_i64 (x38 + 1)) hF) (impz [0])
  refine aw_exit ?_
  iterate 2 refine post_then_exit ?_
  cases hF
  exact post_lp_break _ ⟨_, rfl, rfl⟩ (impz [0])
 rintro _ ⟨⟨⟩, rfl, rfl⟩
 have hF := elim_next hK116
 clear hK116
 iterate 2 refine go ?_
 refine rgp (bd ((eGFault zGFault)) (eGFault ({ fErr := 0, fAt := 0 } : GFault)) zer_73 plc_73) ?_
 iterate 3 refine go ?_
 cases hF
 exact post_ret rfl rfl (.cons _ _ _ _ _ (.agg _ _ _ _ _ 2 _ _ rfl rfl agg_73 rfl rfl rfl) (.p _) .nil) (.inl rfl)
theorem law23_awake_ok  {r : Bool} (hF : law23_awake = some r) : FZ 9 [] [.p (.bool r)] := by
 unfold law23_awake at hF
 refine fn_of_body (n := 11) Tryz.func9 rfl rfl rfl fun w O => ?_
 iterate 4 refine go ?_
 obtain ⟨y3, h4, hF⟩ := bs hF
 refine rgp (cl 0 [.str [99, 108, 97, 115, 115, 32, 65, 32, 123, 32, 118, 111, 105, 100, 32, 109, 40, 105, 110, 116, 32, 110, 41, 32, 123, 32, 117, 110, 105, 113, 117, 101, 32, 65, 32, 117, 59, 32, 117, 32, 61, 32, 110, 101, 119, 32, 117, 110, 105, 113, 117, 101, 32, 65, 59, 32, 105, 102, 32, 40, 110, 41, 32, 123, 32, 100, 101, 108, 101, 116, 101, 32, 117, 59, 32, 125, 32, 100, 101, 108, 101, 116, 101, 32, 117, 59, 32, 125, 32, 125]] [.p (.vs 7 (List.map eGClass y3.1)), .p (.agg (eGFault y3.2))] (Fn.frozen (ref09_Of_ok h4))) ?_
 refine go ?_
 iterate 2 (refine rgp (op_extract rfl rfl rfl rfl rfl) ?_)
 refine rgp (al 0 (eGFault zGFault) zer_73) ?_
 iterate 5 refine go ?_
 obtain ⟨y5, h6, hF⟩ := bs hF
 refine rgp (cl 1 [.vs 7 (List.map eGClass y3.1)] [.p (.agg (eGFault y5))] (flow_Check_ok h6)) ?_
 refine rgp (bd ((eGFault zGFault)) (eGFault ({ fErr := 21, fAt := 77 } : GFault)) zer_73 plc_73) ?_
 refine rgp (op_eqAgg_eql (r := bGFault y5 ({ fErr := 21, fAt := 77 } : GFault)) rfl rfl rfl eqt_73 rfl rfl rfl rfl rfl) ?_
 iterate 3 refine go ?_
 cases hF
 exact prt
theorem ref12_lines_ring : ∀ n : Nat, (∀ (a0 : List GStmt) (a1 : GLine_ref12) (r : (List GLine_ref12)), ref12_lines n a0 a1 = some r → FZ 37 [.vs 23 (eLGStmt a0), .agg (eGLine_ref12 a1)] [.own 50 26 (List.map eGLine_ref12 r)]) := by
 intro n
 induction n with
 | zero => exact (fun _ _ _ h => by simp [ref12_lines] at h)
 | succ n ih =>
  have ref12_lines_ih := ih
  clear ih
  intro a0 a1 r hF
  unfold ref12_lines at hF
  revert hF ref12_lines_ih
  generalize ref12_lines n = ref12_lines_rec
  intro ref12_lines_ih hF
  refine fn_of_body (n := 47) Tryz.func37 rfl rfl rfl fun w O => ?_
  refine go ?_
  refine rgp (bo 0) ?_
  iterate 4 refine go ?_
  refine reg_imp (imp_nil_own 5 50 26 1 rfl rfl) ?_
  iterate 5 refine go ?_
  obtain ⟨x106, hF, hK107⟩ := bs hF
  refine aw_for ((a0.length - 0 : Int).toNat + 1) (fun s1 => s1 = (sX 47 [(5, some (.ls 0))] [(0, some (.row 50 26 (List.map eGLine_ref12 x106)))] 1)) ?_ ?_
  ·refine rnd_loop (α := (List GLine_ref12) × Int) (fun q => (sX 47 [pf 0 (.vs 23 (eLGStmt a0)), (3, some (.lp 0 0)), (5, some (.ls 1)), pf 6 (.int .i64 q.2)] [bf 0 50 (eGLine_ref12 a1), (1, some (.row 50 26 (List.map eGLine_ref12 q.1)))] 2)) (fun k q => ref12_lines_L1 a0 a1 ref12_lines_rec k q.1 q.2 = some x106) ([], 0) (impz [0, 1]) hF (fun q h => by cases h) ?_
   clear hF
   rintro k ⟨x34, x35⟩ hF ih
   refine rnd_succ ?_
   iterate 4 refine go ?_
   refine rgp (op_len_vs (n := a0.length) rfl rfl (lenR eLGStmt_map) slc_38 rfl rfl) ?_
   iterate 2 refine go ?_
   refine cnd hF (fun hb71 hF => ?_) fun hb71 hF => ?_
   ·iterate 2 refine go ?_
    refine aw_seq ?_
    refine aw_block ?_
    refine go ?_
    refine rgp (la (eGLine_ref12 a1) agg_50) ?_
    refine rgp (al 2 (eGLine_ref12 zGLine_ref12) zer_50) ?_
    iterate 5 refine go ?_
    obtain ⟨y74, h75, hF⟩ := bs hF
    refine rgp (ix (idxR eLGStmt_map h75) slc_38) ?_
    refine rgp (lw (eGStmt y74) agg_48) ?_
    iterate 5 refine go ?_
    refine rgp (la (eGLine_ref12 ({ a1 with fS := y74 } : GLine_ref12)) agg_50) ?_
    refine rgp (op_lit (rows := List.map eGLine_ref12 ([({ a1 with fS := y74 } : GLine_ref12)] : List GLine_ref12)) (zs := (eGLine_ref12 zGLine_ref12)) rfl rfl slc_26 zer_50 (by exact ⟨rfl, rfl, rfl, rfl, rfl, rfl, rfl, rfl, rfl, rfl, rfl, rfl, rfl, rfl, rfl, rfl, rfl, rfl, rfl, rfl, rfl, trivial, trivial, trivial, trivial, rfl, trivial⟩) rfl rfl rfl rfl rfl rfl rfl rfl) ?_
    obtain ⟨u78, h79, hF⟩ := bs hF
    refine rgp (op_append 3 rfl rfl rfl rfl rfl slc_26 elm_50 zer_50 rfl rfl rfl (room_map (f := eGLine_ref12) (g := eGLine_ref12) h79) (List.map_append (f := eGLine_ref12) (l₁ := x34) (l₂ := [({ a1 with fS := y74 } : GLine_ref12)])).symm rfl rfl) ?_
    iterate 9 refine go ?_
    refine aw_seq ?_
    refine aw_imp (imp_names 1) ?_
    refine dr_start ⟨_, _, _⟩ rfl ?_
    iterate 3 refine dgo ?_
    obtain ⟨y86, h87, hF⟩ := bs hF
    refine dr_cons { need := [(29, .pv (.vs 23 (eLGStmt a0))), (30, .pv (.int .i64 x35))], dst := some 31, val := some (.pv (.vp (eGStmt y86))) } (fun m h => step_on (guard_no rfl) (op_index_vs (k := .i64) rfl h.1.1 h.1.2.1 (idxR eLGStmt_map h87) slc_38 rfl rfl) rfl) ⟨⟨rfl, rfl, trivial⟩, trivial, trivial⟩ ?_
    refine dr_cons { need := [(31, .pv (.vp (eGStmt y86)))], dst := some 32, val := some (.pv (.vp (List.drop 20 (eGStmt y86)))) } (fun m h => step_on (guard_no rfl) (op_field_vp rfl h.1.1 fld_48_7 rfl rfl) rfl) ⟨⟨rfl, trivial⟩, trivial, trivial⟩ ?_
    refine dr_cons { need := [(32, .pv (.vp (List.drop 20 (eGStmt y86))))], dst := some 33, val := some (.pv (.vs 23 (eLGStmt y86.fBody))) } (fun m h => step_on (guard_no rfl) (op_load_vp (p := .vs 23 (eLGStmt y86.fBody)) rfl h.1.1 rfl one_38 rfl rfl) rfl) ⟨⟨rfl, trivial⟩, trivial, trivial⟩ ?_
    refine dr_cons { need := [(7, .lp 2 0)], hneed := [(2, .box 50 (bxv (eGLine_ref12 ({ ({ a1 with fS := y74 } : GLine_ref12) with fDeep := w_i64 ((({ a1 with fS := y74 } : GLine_ref12).fDeep) + 1) } : GLine_ref12))))], dst := some 34, val := some (.pv (.agg (eGLine_ref12 ({ ({ a1 with fS := y74 } : GLine_ref12) with fDeep := w_i64 ((({ a1 with fS := y74 } : GLine_ref12).fDeep) + 1) } : GLine_ref12)))) } (fun m h => step_on (guard_no rfl) (op_load_lp_agg (ps := eGLine_ref12 ({ ({ a1 with fS := y74 } : GLine_ref12) with fDeep := w_i64 ((({ a1 with fS := y74 } : GLine_ref12).fDeep) + 1) } : GLine_ref12)) rfl h.1.1 h.2.1.1 rfl rfl rfl agg_50 rfl rfl) rfl) ⟨⟨rfl, trivial⟩, ⟨rfl, trivial⟩, trivial⟩ ?_
    obtain ⟨y88, h89, hF⟩ := bs hF
    refine dr_cons { need := [(34, .pv (.agg (eGLine_ref12 ({ ({ a1 with fS := y74 } : GLine_ref12) with fDeep := w_i64 ((({ a1 with fS := y74 } : GLine_ref12).fDeep) + 1) } : GLine_ref12)))), (33, .pv (.vs 23 (eLGStmt y86.fBody)))], dst := some 35, val := some (.pv (.vs 26 (List.map eGLine_ref12 y88))) } (fun m h => step_on (guard_no rfl) (op_call 5 rfl (caps := []) (args := [.vs 23 (eLGStmt y86.fBody), .agg (eGLine_ref12 ({ ({ a1 with fS := y74 } : GLine_ref12) with fDeep := w_i64 ((({ a1 with fS := y74 } : GLine_ref12).fDeep) + 1) } : GLine_ref12))]) (rs := [.p (.vs 26 (List.map eGLine_ref12 y88))]) rfl rfl (evl_cons h.1.2.1 (evl_cons h.1.1 evl_nil)) cal_37 (Fn.frozen (ref12_lines_ih _ _ _ h89)) rfl rfl rfl) rfl) ⟨⟨rfl, rfl, trivial⟩, trivial, trivial⟩ ?_
    obtain ⟨u90, h91, hF⟩ := bs hF
    refine dr_cons { need := [(28, .ls 3), (35, .pv (.vs 26 (List.map eGLine_ref12 y88)))], hneed := [(3, .row 50 26 (List.map eGLine_ref12 (x34 ++ [({ a1 with fS := y74 } : GLine_ref12)])))], names := [4], dst := some 36, val := some (.ls 4), upd := [(4, some (.row 50 26 (List.map eGLine_ref12 ((x34 ++ [({ a1 with fS := y74 } : GLine_ref12)]) ++ y88)))), (3, none)] } (fun m h => step_on (guard_no rfl) (op_append 4 (fresh_free h.2.2.1) rfl h.1.1 h.2.1.1 h.1.2.1 slc_26 elm_50 zer_50 rfl rfl rfl (room_map (f := eGLine_ref12) (g := eGLine_ref12) h91) (List.map_append (f := eGLine_ref12) (l₁ := (x34 ++ [({ a1 with fS := y74 } : GLine_ref12)])) (l₂ := y88)).symm rfl rfl) rfl) ⟨⟨rfl, rfl, trivial⟩, ⟨rfl, trivial⟩, ⟨rfl, trivial⟩⟩ ?_
    refine dr_cons { need := [(36, .ls 4)], dst := some 5, val := some (.ls 4) } (fun m h => step_on (guard_no rfl) (op_assign rfl h.1.1 rfl rfl) rfl) ⟨⟨rfl, trivial⟩, trivial, trivial⟩ ?_
    refine dr_nil mixed rfl (by kernel_rfl) ?_
    refine piz (sX 47 [pf 0 (.vs 23 (eLGStmt a0)), (3, some (.lp 0 0)), (5, some (.ls 1)), pf 6 (.int .i64 x35), (7, some (.lp 2 0))] [bf 0 50 (eGLine_ref12 a1), (1, some (.row 50 26 (List.map eGLine_ref12 ((x34 ++ [({ a1 with fS := y74 } : GLine_ref12)]) ++ y88)))), bf 2 50 (eGLine_ref12 ({ ({ a1 with fS := y74 } : GLine_ref12) with fDeep := w_i64 ((({ a1 with fS := y74 } : GLine_ref12).fDeep) + 1) } : GLine_ref12))] 3) [0, 4, 2] ?_
    refine go ?_
    refine aw_imp (imp_names 1) ?_
    refine dr_start ⟨_, _, _⟩ rfl ?_
    iterate 3 refine dgo ?_
    obtain ⟨y98, h99, hF⟩ := bs hF
    refine dr_cons { need := [(38, .pv (.vs 23 (eLGStmt a0))), (39, .pv (.int .i64 x35))], dst := some 40, val := some (.pv (.vp (eGStmt y98))) } (fun m h => step_on (guard_no rfl) (op_index_vs (k := .i64) rfl h.1.1 h.1.2.1 (idxR eLGStmt_map h99) slc_38 rfl rfl) rfl) ⟨⟨rfl, rfl, trivial⟩, trivial, trivial⟩ ?_
    refine dr_cons { need := [(40, .pv (.vp (eGStmt y98)))], dst := some 41, val := some (.pv (.vp (List.drop 21 (eGStmt y98)))) } (fun m h => step_on (guard_no rfl) (op_field_vp rfl h.1.1 fld_48_8 rfl rfl) rfl) ⟨⟨rfl, trivial⟩, trivial, trivial⟩ ?_
    refine dr_cons { need := [(41, .pv (.vp (List.drop 21 (eGStmt y98))))], dst := some 42, val := some (.pv (.vs 23 (eLGStmt y98.fElse))) } (fun m h => step_on (guard_no rfl) (op_load_vp (p := .vs 23 (eLGStmt y98.fElse)) rfl h.1.1 rfl one_38 rfl rfl) rfl) ⟨⟨rfl, trivial⟩, trivial, trivial⟩ ?_
    refine dr_cons { need := [(7, .lp 2 0)], hneed := [(2, .box 50 (bxv (eGLine_ref12 ({ ({ a1 with fS := y74 } : GLine_ref12) with fDeep := w_i64 ((({ a1 with fS := y74 } : GLine_ref12).fDeep) + 1) } : GLine_ref12))))], dst := some 43, val := some (.pv (.agg (eGLine_ref12 ({ ({ a1 with fS := y74 } : GLine_ref12) with fDeep := w_i64 ((({ a1 with fS := y74 } : GLine_ref12).fDeep) + 1) } : GLine_ref12)))) } (fun m h => step_on (guard_no rfl) (op_load_lp_agg (ps := eGLine_ref12 ({ ({ a1 with fS := y74 } : GLine_ref12) with fDeep := w_i64 ((({ a1 with fS := y74 } : GLine_ref12).fDeep) + 1) } : GLine_ref12)) rfl h.1.1 h.2.1.1 rfl rfl rfl agg_50 rfl rfl) rfl) ⟨⟨rfl, trivial⟩, ⟨rfl, trivial⟩, trivial⟩ ?_
    obtain ⟨y100, h101, hF⟩ := bs hF
    refine dr_cons { need := [(43, .pv (.agg (eGLine_ref12 ({ ({ a1 with fS := y74 } : GLine_ref12) with fDeep := w_i64 ((({ a1 with fS := y74 } : GLine_ref12).fDeep) + 1) } : GLine_ref12)))), (42, .pv (.vs 23 (eLGStmt y98.fElse)))], dst := some 44, val := some (.pv (.vs 26 (List.map eGLine_ref12 y100))) } (fun m h => step_on (guard_no rfl) (op_call 4 rfl (caps := []) (args := [.vs 23 (eLGStmt y98.fElse), .agg (eGLine_ref12 ({ ({ a1 with fS := y74 } : GLine_ref12) with fDeep := w_i64 ((({ a1 with fS := y74 } : GLine_ref12).fDeep) + 1) } : GLine_ref12))]) (rs := [.p (.vs 26 (List.map eGLine_ref12 y100))]) rfl rfl (evl_cons h.1.2.1 (evl_cons h.1.1 evl_nil)) cal_37 (Fn.frozen (ref12_lines_ih _ _ _ h101)) rfl rfl rfl) rfl) ⟨⟨rfl, rfl, trivial⟩, trivial, trivial⟩ ?_
    obtain ⟨u102, h103, hF⟩ := bs hF
    refine dr_cons { need := [(37, .ls 1), (44, .pv (.vs 26 (List.map eGLine_ref12 y100)))], hneed := [(1, .row 50 26 (List.map eGLine_ref12 ((x34 ++ [({ a1 with fS := y74 } : GLine_ref12)]) ++ y88)))], names := [3], dst := some 45, val := some (.ls 3), upd := [(3, some (.row 50 26 (List.map eGLine_ref12 (((x34 ++ [({ a1 with fS := y74 } : GLine_ref12)]) ++ y88) ++ y100)))), (1, none)] } (fun m h => step_on (guard_no rfl) (op_append 3 (fresh_free h.2.2.1) rfl h.1.1 h.2.1.1 h.1.2.1 slc_26 elm_50 zer_50 rfl rfl rfl (room_map (f := eGLine_ref12) (g := eGLine_ref12) h103) (List.map_append (f := eGLine_ref12) (l₁ := ((x34 ++ [({ a1 with fS := y74 } : GLine_ref12)]) ++ y88)) (l₂ := y100)).symm rfl rfl) rfl) ⟨⟨rfl, rfl, trivial⟩, ⟨rfl, trivial⟩, ⟨rfl, trivial⟩⟩ ?_
    refine dr_cons { need := [(45, .ls 3)], dst := some 5, val := some (.ls 3) } (fun m h => step_on (guard_no rfl) (op_assign rfl h.1.1 rfl rfl) rfl) ⟨⟨rfl, trivial⟩, trivial, trivial⟩ ?_
    refine dr_nil mixed rfl (by kernel_rfl) ?_
    refine piz (sX 47 [pf 0 (.vs 23 (eLGStmt a0)), (3, some (.lp 0 0)), (5, some (.ls 1)), pf 6 (.int .i64 x35)] [bf 0 50 (eGLine_ref12 a1), (1, some (.row 50 26 (List.map eGLine_ref12 (((x34 ++ [({ a1 with fS := y74 } : GLine_ref12)]) ++ y88) ++ y100))))] 2) [0, 3] ?_
    iterate 6 refine go ?_
    refine rnr ?_
    exact rnd_back (ih ((((x34 ++ [({ a1 with fS := y74 } : GLine_ref12)]) ++ y88) ++ y100), w_i64 (x35 + 1)) hF) (impz [0, 1])
   refine aw_exit ?_
   iterate 2 refine post_then_exit ?_
   cases hF
   exact post_lp_break _ rfl (impz [1])
  rintro _ rfl
  have hF := hK107
  iterate 6 refine go ?_
  cases hF
  exact post_ret rfl rfl (.cons _ _ _ _ _ (.tmp _ _ rfl) (.own _ _ _ _ rfl nolent3) .nil) (.inl rfl)
theorem ref12_lines_ok {n : Nat} {a0 : List GStmt} {a1 : GLine_ref12} {r : (List GLine_ref12)} (hF : ref12_lines n a0 a1 = some r) : FZ 37 [.vs 23 (eLGStmt a0), .agg (eGLine_ref12 a1)] [.own 50 26 (List.map eGLine_ref12 r)] := (ref12_lines_ring n) _ _ _ hF

theorem ref12_Stmts_ok {a0 : List GClass} {r : (List GLine_ref12)} (hF : ref12_Stmts a0 = some r) : FZ 10 [.vs 7 (List.map eGClass a0)] [.own 50 26 (List.map eGLine_ref12 r)] := by
 unfold ref12_Stmts at hF
 refine fn_of_body (n := 38) Tryz.func10 rfl rfl rfl fun w O => ?_
 iterate 5 refine go ?_
 refine reg_imp (imp_nil_own 3 50 26 0 rfl rfl) ?_
 iterate 5 refine go ?_
 obtain ⟨x229, hF, hK230⟩ := bs hF
 refine aw_for ((a0.length - 0 : Int).toNat + 1) (fun s1 => s1 = (sX 38 [(3, some (.ls 0))] [(0, some (.row 50 26 (List.map eGLine_ref12 x229)))] 1)) ?_ ?_
 ·refine rnd_loop (α := (List GLine_ref12) × Int) (fun q => (sX 38 [pf 0 (.vs 7 (List.map eGClass a0)), (3, some (.ls 0)), pf 4 (.int .i64 q.2)] [(0, some (.row 50 26 (List.map eGLine_ref12 q.1)))] 1)) (fun k q => ref12_Stmts_L1 a0 k q.1 q.2 = some x229) ([], 0) (impz [0]) hF (fun q h => by cases h) ?_
  clear hF
  rintro k ⟨x75, x76⟩ hF ih
  refine rnd_succ ?_
  iterate 7 refine go ?_
  refine cnd hF (fun hb153 hF => ?_) fun hb153 hF => ?_
  ·iterate 2 refine go ?_
   refine aw_seq ?_
   refine aw_block ?_
   iterate 3 refine go ?_
   obtain ⟨x223, hF, hK224⟩ := bs hF
   refine aw_for (Option.getD (Option.bind (idx a0 x76) fun (y225 : GClass) => some ((y225.fMethods.length - 0 : Int).toNat + 1)) 1) (fun s1 => s1 = (sX 38 [pf 0 (.vs 7 (List.map eGClass a0)), (3, some (.ls 0)), pf 4 (.int .i64 x76)] [(0, some (.row 50 26 (List.map eGLine_ref12 x223)))] 1)) ?_ ?_
   ·refine rnd_loop (α := (List GLine_ref12) × Int) (fun q => (sX 38 [pf 0 (.vs 7 (List.map eGClass a0)), (3, some (.ls 0)), pf 4 (.int .i64 x76), pf 5 (.int .i64 q.2)] [(0, some (.row 50 26 (List.map eGLine_ref12 q.1)))] 1)) (fun k q => ref12_Stmts_L2 a0 x76 k q.1 q.2 = some x223) (x75, 0) (impz [0]) hF (fun q h => by cases h) ?_
    clear hF
    rintro k ⟨x175, x176⟩ hF ih
    refine rnd_succ ?_
    iterate 5 refine go ?_
    obtain ⟨y202, h203, hF⟩ := bs hF
    refine rgp (ix (idx_map eGClass h203) slc_22) ?_
    iterate 5 refine go ?_
    refine cnd hF (fun hb204 hF => ?_) fun hb204 hF => ?_
    ·iterate 2 refine go ?_
     refine aw_seq ?_
     refine aw_block ?_
     iterate 4 refine go ?_
     obtain ⟨y213, h214, hF⟩ := bs hF
     refine rgp (ix (idx_map eGClass h214) slc_22) ?_
     iterate 3 refine go ?_
     obtain ⟨y215, h216, hF⟩ := bs hF
     refine rgp (ix (idx_map eGMethod h216) slc_30) ?_
     iterate 4 refine go ?_
     refine rgp (bd ((eGLine_ref12 zGLine_ref12)) (eGLine_ref12 ({ fClass := x76, fMethod := x176, fDeep := 0, fS := zGStmt } : GLine_ref12)) zer_50 plc_50) ?_
     obtain ⟨y217, h218, hF⟩ := bs hF
     refine rgp (cl 1 [.vs 23 (eLGStmt y215.fBody), .agg (eGLine_ref12 ({ fClass := x76, fMethod := x176, fDeep := 0, fS := zGStmt } : GLine_ref12))] [.p (.vs 26 (List.map eGLine_ref12 y217))] (Fn.frozen (ref12_lines_ok h218))) ?_
     obtain ⟨u219, h220, hF⟩ := bs hF
     refine rgp (op_append 1 rfl rfl rfl rfl rfl slc_26 elm_50 zer_50 rfl rfl rfl (room_map (f := eGLine_ref12) (g := eGLine_ref12) h220) (List.map_append (f := eGLine_ref12) (l₁ := x175) (l₂ := y217)).symm rfl rfl) ?_
     refine go ?_
     refine reg_nil ?_
     refine piz (sX 38 [pf 0 (.vs 7 (List.map eGClass a0)), (3, some (.ls 0)), pf 4 (.int .i64 x76), pf 5 (.int .i64 x176)] [(0, some (.row 50 26 (List.map eGLine_ref12 (x175 ++ y217))))] 1) [1] ?_
     iterate 6 refine go ?_
     refine rnr ?_
     exact rnd_back (ih ((x175 ++ y217), w_i64 (x176 + 1)) hF) (impz [0])
    refine aw_exit ?_
    iterate 2 refine post_then_exit ?_
    cases hF
    exact post_lp_break _ rfl (impz [0])
   rintro _ rfl
   have hF := hK224
   iterate 6 refine go ?_
   refine rnr ?_
   exact rnd_back (ih (x223, w_i64 (x76 + 1)) hF) (impz [0])
  refine aw_exit ?_
  iterate 2 refine post_then_exit ?_
  cases hF
  exact post_lp_break _ rfl (impz [0])
 rintro _ rfl
 have hF := hK230
 iterate 6 refine go ?_
 cases hF
 exact post_ret rfl rfl (.cons _ _ _ _ _ (.tmp _ _ rfl) (.own _ _ _ _ rfl nolent3) .nil) (.inl rfl)
theorem ref21_Place_ok {a0 : List GClass} {a1 : GLine_ref12} {r : GPlace_ref20} (hF : ref21_Place a0 a1 = some r) : FZ 11 [.vs 7 (List.map eGClass a0), .agg (eGLine_ref12 a1)] [.p (.agg (eGPlace_ref20 r))] := by
 unfold ref21_Place at hF
 refine fn_of_body (n := 22) Tryz.func11 rfl rfl rfl fun w O => ?_
 refine go ?_
 refine rgp (bo 0) ?_
 refine rgp (al 1 (eGPlace_ref20 zGPlace_ref20) zer_42) ?_
 refine go ?_
 refine aw_seq ?_
 refine dr_start ⟨_, _, _⟩ rfl ?_
 iterate 4 refine dgo ?_
 obtain ⟨y1, h2, hF⟩ := bs hF
 refine dr_cons { need := [(6, .pv (.vs 7 (List.map eGClass a0))), (8, .pv (.int .i64 a1.fClass))], dst := some 9, val := some (.pv (.vp (eGClass y1))) } (fun m h => step_on (guard_no rfl) (op_index_vs (k := .i64) rfl h.1.1 h.1.2.1 (idx_map eGClass h2) slc_22 rfl rfl) rfl) ⟨⟨rfl, rfl, trivial⟩, trivial, trivial⟩ ?_
 refine dr_cons { need := [(9, .pv (.vp (eGClass y1)))], dst := some 10, val := some (.pv (.agg (eGClass y1))) } (fun m h => step_on (guard_no rfl) (op_load_vp_agg (ps := eGClass y1) rfl h.1.1 rfl rfl agg_32 rfl rfl) rfl) ⟨⟨rfl, trivial⟩, trivial, trivial⟩ ?_
 iterate 3 refine dgo ?_
 obtain ⟨y3, h4, hF⟩ := bs hF
 refine dr_cons { need := [(11, .pv (.vs 7 (List.map eGClass a0))), (13, .pv (.int .i64 a1.fClass))], dst := some 14, val := some (.pv (.vp (eGClass y3))) } (fun m h => step_on (guard_no rfl) (op_index_vs (k := .i64) rfl h.1.1 h.1.2.1 (idx_map eGClass h4) slc_22 rfl rfl) rfl) ⟨⟨rfl, rfl, trivial⟩, trivial, trivial⟩ ?_
 refine dr_cons { need := [(14, .pv (.vp (eGClass y3)))], dst := some 15, val := some (.pv (.vp (List.drop 5 (eGClass y3)))) } (fun m h => step_on (guard_no rfl) (op_field_vp rfl h.1.1 fld_32_5 rfl rfl) rfl) ⟨⟨rfl, trivial⟩, trivial, trivial⟩ ?_
 refine dr_cons { need := [(15, .pv (.vp (List.drop 5 (eGClass y3))))], dst := some 16, val := some (.pv (.vs 17 (List.map eGMethod y3.fMethods))) } (fun m h => step_on (guard_no rfl) (op_load_vp (p := .vs 17 (List.map eGMethod y3.fMethods)) rfl h.1.1 rfl one_30 rfl rfl) rfl) ⟨⟨rfl, trivial⟩, trivial, trivial⟩ ?_
 iterate 2 refine dgo ?_
 obtain ⟨y5, h6, hF⟩ := bs hF
 refine dr_cons { need := [(16, .pv (.vs 17 (List.map eGMethod y3.fMethods))), (18, .pv (.int .i64 a1.fMethod))], dst := some 19, val := some (.pv (.vp (eGMethod y5))) } (fun m h => step_on (guard_no rfl) (op_index_vs (k := .i64) rfl h.1.1 h.1.2.1 (idx_map eGMethod h6) slc_30 rfl rfl) rfl) ⟨⟨rfl, rfl, trivial⟩, trivial, trivial⟩ ?_
 refine dr_cons { need := [(19, .pv (.vp (eGMethod y5)))], dst := some 20, val := some (.pv (.agg (eGMethod y5))) } (fun m h => step_on (guard_no rfl) (op_load_vp_agg (ps := eGMethod y5) rfl h.1.1 rfl rfl agg_40 rfl rfl) rfl) ⟨⟨rfl, trivial⟩, trivial, trivial⟩ ?_
 refine dr_cons { need := [(20, .pv (.agg (eGMethod y5))), (10, .pv (.agg (eGClass y1))), (5, .pv (.vs 7 (List.map eGClass a0)))], dst := some 21, val := some (.pv (.agg (eGPlace_ref20 ({ fP := a0, fC := y1, fM := y5 } : GPlace_ref20)))) } (fun m h => step_on (guard_no rfl) (op_build (zs := (eGPlace_ref20 zGPlace_ref20)) (r := eGPlace_ref20 ({ fP := a0, fC := y1, fM := y5 } : GPlace_ref20)) rfl zer_42 (by exact ⟨trivial, rfl, trivial, rfl, trivial, trivial, trivial, rfl, rfl, rfl, rfl, rfl, rfl, rfl, rfl, rfl, rfl, rfl, rfl, rfl, rfl, trivial, trivial, trivial, rfl, trivial⟩) plc_42 (evs_cons h.1.2.2.1 (evs_cons h.1.2.1 (evs_cons h.1.1 evs_nil))) rfl rfl rfl) rfl) ⟨⟨rfl, rfl, rfl, trivial⟩, trivial, trivial⟩ ?_
 refine dr_cons { need := [(4, .lp 1 0), (21, .pv (.agg (eGPlace_ref20 ({ fP := a0, fC := y1, fM := y5 } : GPlace_ref20))))], hneed := [(1, .box 42 (bxv (eGPlace_ref20 zGPlace_ref20)))], upd := [(1, some (.box 42 (bxv (eGPlace_ref20 ({ fP := a0, fC := y1, fM := y5 } : GPlace_ref20)))))] } (fun m h => step_on (guard_no rfl) (op_store_lp (n := 25) rfl h.1.1 h.1.2.1 rfl h.2.1.1 (or_agg agg_42) (by rw [non_42]; rfl) rfl rfl rfl) rfl) ⟨⟨rfl, rfl, trivial⟩, ⟨rfl, trivial⟩, trivial⟩ ?_
 refine dr_nil mixed rfl (by kernel_rfl) ?_
 refine piz (sX 22 [(4, some (.lp 0 0))] [bf 0 42 (eGPlace_ref20 ({ fP := a0, fC := y1, fM := y5 } : GPlace_ref20))] 1) [1] ?_
 iterate 2 refine go ?_
 cases hF
 exact post_ret rfl rfl (.cons _ _ _ _ _ (.agg _ _ _ _ _ 25 _ _ rfl rfl agg_42 rfl rfl rfl) (.p _) .nil) (.inl rfl)
theorem __flow_walker__names_ok {a0 : Gwalker_flow} {a1 : Int} {r : (List (List UInt8))} (hF : __flow_walker__names a0 a1 = some r) : FZ 41 [.vp (eGwalker_flow a0), .int .u64 a1] [.own 9 1 (List.map eS r)] := by
 unfold __flow_walker__names at hF
 refine fn_of_body (n := 29) Tryz.func41 rfl rfl rfl fun w O => ?_
 iterate 5 refine go ?_
 refine reg_imp (imp_nil_own 5 9 1 0 rfl rfl) ?_
 iterate 4 refine go ?_
 refine rgp (op_nilCheck rfl rfl rfl rfl rfl) ?_
 iterate 5 refine go ?_
 obtain ⟨x52, hF, hK53⟩ := bs hF
 refine aw_for ((a0.fvars.length - 0 : Int).toNat + 1) (fun s1 => s1 = (sX 29 [(5, some (.ls 0))] [(0, some (.row 9 1 (List.map eS x52)))] 1)) ?_ ?_
 ·refine rnd_loop (α := (List (List UInt8)) × Int) (fun q => (sX 29 [pf 0 (.vp (eGwalker_flow a0)), pf 1 (.int .u64 a1), (5, some (.ls 0)), pf 11 (.vs 1 (List.map eS a0.fvars)), pf 12 (.int .i64 (a0.fvars.length : Int)), pf 13 (.int .i64 q.2)] [(0, some (.row 9 1 (List.map eS q.1)))] 1)) (fun k q => __flow_walker__names_L1 a0 a1 k q.1 q.2 = some x52) ([], 0) (impz [0]) hF (fun q h => by cases h) ?_
  clear hF
  rintro k ⟨x16, x17⟩ hF ih
  refine rnd_succ ?_
  iterate 3 refine go ?_
  refine aw_seq ?_
  refine cnd hF (fun hb35 hF => ?_) fun hb35 hF => ?_
  ·iterate 2 refine go ?_
   refine aw_seq ?_
   obtain ⟨x47, hF, hK49⟩ := bs hF
   refine ctx (sX 29 [pf 0 (.vp (eGwalker_flow a0)), pf 1 (.int .u64 a1), (5, some (.ls 0)), pf 11 (.vs 1 (List.map eS a0.fvars)), pf 12 (.int .i64 (a0.fvars.length : Int)), pf 13 (.int .i64 x17)] [(0, some (.row 9 1 (List.map eS x47)))] 1) ?_ ?_
   ·refine aw_block ?_
    refine go ?_
    obtain ⟨y38, h39, hF⟩ := bs hF
    refine rgp (ix (idx_map eS h39) slc_23) ?_
    iterate 7 refine go ?_
    obtain ⟨y42, h43, hF⟩ := bs hF
    refine rgp (cl 1 [.vp (eGwalker_flow a0), .str y38] [.p (.int .u64 y42)] (__flow_walker__bit_ok h43)) ?_
    refine rgp (op_int2 (k := .u64) (m := a1) (n := y42) rfl rfl rfl rfl rfl rfl) ?_
    iterate 2 refine go ?_
    refine cnd hF (fun hb44 hF => ?_) fun hb44 hF => ?_
    ·iterate 3 refine go ?_
     refine rgp (op_lit (rows := List.map eS ([y38] : List (List UInt8))) (zs := [.str []]) rfl rfl slc_23 zer_9 (by exact ⟨rfl, trivial⟩) rfl rfl rfl rfl rfl rfl rfl rfl) ?_
     obtain ⟨u45, h46, hF⟩ := bs hF
     refine rgp (op_append 1 rfl rfl rfl rfl rfl slc_23 elm_9 zer_9 rfl rfl rfl (room_map (f := eS) (g := eS) h46) (List.map_append (f := eS) (l₁ := x16) (l₂ := [y38])).symm rfl rfl) ?_
     refine go ?_
     refine reg_nil ?_
     refine piz (sX 29 [pf 0 (.vp (eGwalker_flow a0)), pf 1 (.int .u64 a1), (5, some (.ls 0)), pf 11 (.vs 1 (List.map eS a0.fvars)), pf 12 (.int .i64 (a0.fvars.length : Int)), pf 13 (.int .i64 x17)] [(0, some (.row 9 1 (List.map eS (x16 ++ [y38]))))] 1) [1] ?_
     refine go ?_
     cases hF
     exact pcz [0]
    iterate 2 refine go ?_
    cases hF
    exact pcz [0]
   have hF := hK49
   iterate 4 refine go ?_
   refine rnr ?_
   exact rnd_back (ih (x47, w_i64 (x17 + 1)) hF) (impz [0])
  refine aw_exit ?_
  iterate 2 refine post_then_exit ?_
  cases hF
  exact post_lp_break _ rfl (impz [0])
 rintro _ rfl
 have hF := hK53
 iterate 6 refine go ?_
 cases hF
 exact post_ret rfl rfl (.cons _ _ _ _ _ (.tmp _ _ rfl) (.own _ _ _ _ rfl nolent3) .nil) (.inl rfl)
theorem flow_Stmt_ok {a0 : List GClass} {a1 : GClass} {a2 : GMethod} {a3 : GStmt} {a4 : List (List UInt8)} {r : (List (List UInt8)) × Bool} (hF : flow_Stmt a0 a1 a2 a3 a4 = some r) : FZ 12 [.vs 7 (List.map eGClass a0), .agg (eGClass a1), .agg (eGMethod a2), .agg (eGStmt a3), .vs 1 (List.map eS a4)] [.p (.vs 1 (List.map eS r.1)), .p (.bool r.2)] := by
 unfold flow_Stmt at hF
 refine fn_of_body (n := 50) Tryz.func12 rfl rfl rfl fun w O => ?_
 refine go ?_
 refine rgp (bo 0) ?_
 refine rgp (bo 1) ?_
 refine rgp (bo 2) ?_
 iterate 5 refine go ?_
 refine rgp (la (eGClass a1) agg_32) ?_
 refine rgp (la (eGMethod a2) agg_40) ?_
 obtain ⟨y3, h4, hF⟩ := bs hF
 refine rgp (op_callW (args := [.pv (.vs 7 (List.map eGClass a0)), .pv (.agg (eGClass a1)), .pv (.agg (eGMethod a2))]) [] [3] [] 4 rfl rfl rfl rfl rfl cal_38 (flow_made_w_ok h4) rfl (by decide) trivial rfl (by decide) ⟨.inr rfl, trivial⟩ (by kernel_rfl) (by kernel_rfl) rfl rfl rfl rfl) ?_
 refine go ?_
 iterate 2 (refine rgp (op_extract rfl rfl rfl rfl rfl) ?_)
 iterate 12 refine go ?_
 obtain ⟨x38, hF, hK39⟩ := bs hF
 refine aw_for ((a4.length - 0 : Int).toNat + 1) (fun s1 => s1 = (sX 50 [(8, some (.lp 0 0)), (12, some (.lp 1 0)), pf 14 (.int .u64 x38)] [bf 0 48 (eGStmt a3), bf 1 133 (eGwalker_flow y3.1)] 2)) ?_ ?_
 ·refine rnd_loop (α := Int × Int) (fun q => (sX 50 [(8, some (.lp 0 0)), (12, some (.lp 1 0)), pf 14 (.int .u64 q.1), pf 26 (.vs 1 (List.map eS a4)), pf 27 (.int .i64 (a4.length : Int)), pf 28 (.int .i64 q.2)] [bf 0 48 (eGStmt a3), bf 1 133 (eGwalker_flow y3.1)] 2)) (fun k q => flow_Stmt_L1 a4 y3 k q.1 q.2 = some x38) (0, 0) (impz [2, 3]) hF (fun q h => by cases h) ?_
  clear hF
  rintro k ⟨x14, x15⟩ hF ih
  refine rnd_succ ?_
  iterate 3 refine go ?_
  refine aw_seq ?_
  refine cnd hF (fun hb27 hF => ?_) fun hb27 hF => ?_
  ·iterate 2 refine go ?_
   refine aw_seq ?_
   refine aw_block ?_
   refine go ?_
   obtain ⟨y30, h31, hF⟩ := bs hF
   refine rgp (ix (idx_map eS h31) slc_23) ?_
   iterate 7 refine go ?_
   obtain ⟨y34, h35, hF⟩ := bs hF
   refine rgp (op_callB 2 rfl (caps := []) (args := [.vp (eGwalker_flow y3.1), .str y30]) [(1, some (.box 133 (bxv (eGwalker_flow y3.1))))] rfl rfl rfl (FzH.spec ⟨rfl, trivial⟩) rfl rfl cal_39 (__flow_walker__bit_ok h35) rfl rfl rfl) ?_
   refine rgp (op_int2 (k := .u64) (m := x14) (n := y34) rfl rfl rfl rfl rfl rfl) ?_
   refine go ?_
   refine reg_nil ?_
   refine piz (sX 50 [(8, some (.lp 0 0)), (12, some (.lp 1 0)), pf 14 (.int .u64 (orI .u64 x14 y34)), pf 26 (.vs 1 (List.map eS a4)), pf 27 (.int .i64 (a4.length : Int)), pf 28 (.int .i64 x15)] [bf 0 48 (eGStmt a3), bf 1 133 (eGwalker_flow y3.1)] 2) [0, 1] ?_
   iterate 5 refine go ?_
   refine rnr ?_
   exact rnd_back (ih (orI .u64 x14 y34, w_i64 (x15 + 1)) hF) (impz [0, 1])
  refine aw_exit ?_
  iterate 2 refine post_then_exit ?_
  cases hF
  exact post_lp_break _ rfl (impz [0, 1])
 rintro _ rfl
 have hF := hK39
 iterate 3 refine go ?_
 refine rgp (la (eGStmt a3) agg_48) ?_
 refine go ?_
 obtain ⟨y42, h43, hF⟩ := bs hF
 refine rgp (op_callB 2 rfl (caps := []) (args := [.vp (eGwalker_flow y3.1), .agg (eGStmt a3), .int .u64 x38]) [(1, some (.box 133 (bxv (eGwalker_flow y3.1))))] rfl rfl rfl (FzH.spec ⟨rfl, trivial⟩) rfl rfl cal_40 (__flow_walker__step_ok h43) rfl rfl rfl) ?_
 refine go ?_
 iterate 2 (refine rgp (op_extract rfl rfl rfl rfl rfl) ?_)
 iterate 8 refine go ?_
 refine cnd hF (fun hb44 hF => ?_) fun hb44 hF => ?_
 ·iterate 6 refine go ?_
  refine post_imp (imp_nil_vs 10 1 rfl) ?_
  cases hF
  exact post_ret rfl rfl (.cons _ _ _ _ _ (.tmp _ _ rfl) (.p _) (.cons _ _ _ _ _ (.tmp _ _ rfl) (.p _) .nil)) (.inl rfl)
 iterate 5 refine go ?_
 refine reg_imp (imp_freeze [(1, some (.box 133 (bxv (eGwalker_flow y3.1))))] [(12, some (.pv (.vp (eGwalker_flow y3.1)))), (47, some (.pv (.vp (eGwalker_flow y3.1))))] (FzH.spec ⟨rfl, trivial⟩) ⟨⟨_, rfl, rfl⟩, ⟨_, rfl, rfl⟩, trivial⟩) ?_
 obtain ⟨y45, h46, hF⟩ := bs hF
 refine rgp (cl 2 [.vp (eGwalker_flow y3.1), .int .u64 y42.1] [.p (.vs 1 (List.map eS y45))] (Fn.frozen (__flow_walker__names_ok h46))) ?_
 iterate 4 refine go ?_
 cases hF
 exact post_ret rfl rfl (.cons _ _ _ _ _ (.tmp _ _ rfl) (.p _) (.cons _ _ _ _ _ (.tmp _ _ rfl) (.p _) .nil)) (.inl rfl)
theorem ref12_Vars_ok {a0 : GMethod} {r : (List GVar)} (hF : ref12_Vars a0 = some r) : FZ 27 [.agg (eGMethod a0)] [.own 66 13 (List.map eGVar r)] := by
 unfold ref12_Vars at hF
 refine fn_of_body (n := 10) Tryz.func27 rfl rfl rfl fun w O => ?_
 refine go ?_
 refine rgp (bo 0) ?_
 iterate 2 refine go ?_
 refine aw_seq ?_
 refine aw_imp (imp_names 3) ?_
 refine dr_start ⟨_, _, _⟩ rfl ?_
 refine dr_cons { names := [1], dst := some 3, val := some (.ls 1), upd := [(1, some (.row 66 13 (List.map eGVar ([] : List GVar))))] } (fun m h => step_on (guard_no rfl) (op_litOwn 1 (fresh_free h.2.2.1) (rows := List.map eGVar ([] : List GVar)) (zs := (eGVar zGVar)) rfl rfl slc_29 zer_66 (by exact ⟨rfl, rfl, rfl, rfl, rfl, rfl, rfl, rfl, rfl, rfl, rfl, rfl, rfl, trivial⟩) rfl rfl rfl evs_nil rfl rfl rfl rfl) rfl) ⟨trivial, trivial, ⟨rfl, trivial⟩⟩ ?_
 iterate 2 refine dgo ?_
 obtain ⟨u1, h2, hF⟩ := bs hF
 refine dr_cons { need := [(3, .ls 1), (5, .pv (.vs 13 (List.map eGVar a0.fParams)))], hneed := [(1, .row 66 13 (List.map eGVar ([] : List GVar)))], names := [2], dst := some 6, val := some (.ls 2), upd := [(2, some (.row 66 13 (List.map eGVar (([] : List GVar) ++ a0.fParams)))), (1, none)] } (fun m h => step_on (guard_no rfl) (op_append 2 (fresh_free h.2.2.1) rfl h.1.1 h.2.1.1 h.1.2.1 slc_29 elm_66 zer_66 rfl rfl rfl (room_map (f := eGVar) (g := eGVar) h2) (List.map_append (f := eGVar) (l₁ := ([] : List GVar)) (l₂ := a0.fParams)).symm rfl rfl) rfl) ⟨⟨rfl, rfl, trivial⟩, ⟨rfl, trivial⟩, ⟨rfl, trivial⟩⟩ ?_
 iterate 2 refine dgo ?_
 obtain ⟨u3, h4, hF⟩ := bs hF
 refine dr_cons { need := [(6, .ls 2), (8, .pv (.vs 13 (List.map eGVar a0.fLocals)))], hneed := [(2, .row 66 13 (List.map eGVar (([] : List GVar) ++ a0.fParams)))], names := [3], dst := some 9, val := some (.ls 3), upd := [(3, some (.row 66 13 (List.map eGVar ((([] : List GVar) ++ a0.fParams) ++ a0.fLocals)))), (2, none)] } (fun m h => step_on (guard_no rfl) (op_append 3 (fresh_free h.2.2.1) rfl h.1.1 h.2.1.1 h.1.2.1 slc_29 elm_66 zer_66 rfl rfl rfl (room_map (f := eGVar) (g := eGVar) h4) (List.map_append (f := eGVar) (l₁ := (([] : List GVar) ++ a0.fParams)) (l₂ := a0.fLocals)).symm rfl rfl) rfl) ⟨⟨rfl, rfl, trivial⟩, ⟨rfl, trivial⟩, ⟨rfl, trivial⟩⟩ ?_
 refine dr_cons { need := [(9, .ls 3)], dst := some 2, val := some (.ls 3) } (fun m h => step_on (guard_no rfl) (op_assign rfl h.1.1 rfl rfl) rfl) ⟨⟨rfl, trivial⟩, trivial, trivial⟩ ?_
 refine dr_nil mixed rfl (by kernel_rfl) ?_
 refine piz (sX 10 [(2, some (.ls 0))] [(0, some (.row 66 13 (List.map eGVar ((([] : List GVar) ++ a0.fParams) ++ a0.fLocals))))] 1) [3] ?_
 iterate 2 refine go ?_
 cases hF
 exact post_ret rfl rfl (.cons _ _ _ _ _ (.tmp _ _ rfl) (.own _ _ _ _ rfl nolent3) .nil) (.inl rfl)
theorem ref05_Unique_ok {a0 : GType} {r : Bool} (hF : ref05_Unique a0 = some r) : FZ 61 [.agg (eGType a0)] [.p (.bool r)] := by
 unfold ref05_Unique at hF
 refine fn_of_body (n := 13) Tryz.func61 rfl rfl rfl fun w O => ?_
 refine go ?_
 refine rgp (bo 0) ?_
 iterate 7 refine go ?_
 rcases ie hF with ⟨hb1, hF⟩ | ⟨hb1, hF⟩
 ·refine gn hb1 ?_
  refine rgn hb1 (op_arr_lp (k := .i64) (m := 0) (n := 4) rfl rfl rfl arr_35 rfl rfl rfl rfl) ?_
  iterate 3 refine gn hb1 ?_
  refine rpt hb1 ?_
  iterate 3 refine go ?_
  cases hF
  exact prt
 iterate 5 refine rgo_f hb1 ?_
 refine rpf hb1 ?_
 iterate 3 refine go ?_
 cases hF
 exact prt
theorem ref18_Place_ok {a0 : GMethod} {a1 : List UInt8} {r : Int} (hF : ref18_Place a0 a1 = some r) : FZ 62 [.agg (eGMethod a0), .str a1] [.p (.int .i64 r)] := by
 unfold ref18_Place at hF
 refine fn_of_body (n := 23) Tryz.func62 rfl rfl rfl fun w O => ?_
 refine go ?_
 refine rgp (bo 0) ?_
 iterate 3 refine go ?_
 refine rgp (la (eGMethod a0) agg_40) ?_
 obtain ⟨y3, h4, hF⟩ := bs hF
 refine rgp (cl 1 [.agg (eGMethod a0)] [.p (.vs 13 (List.map eGVar y3))] (Fn.frozen (ref12_Vars_ok h4))) ?_
 iterate 6 refine go ?_
 obtain ⟨lr26, hF, hK27⟩ := bs hF
 refine aw_for ((y3.length - 0 : Int).toNat + 1) (fun s1 => ∃ q, lr26 = .next q ∧ s1 = (sX 23 [] [] 0)) ?_ ?_
 ·refine rnd_loop (α := Int) (fun q => (sX 23 [pf 1 (.str a1), pf 5 (.vs 13 (List.map eGVar y3)), pf 6 (.int .i64 q)] [] 0)) (fun k q => ref18_Place_L1 a1 y3 k q = some lr26) 0 (impz []) hF (fun q h => by cases h) ?_
  clear hF
  rintro k x11 hF ih
  refine rnd_succ ?_
  iterate 7 refine go ?_
  refine cnd hF (fun hb19 hF => ?_) fun hb19 hF => ?_
  ·iterate 2 refine go ?_
   refine aw_seq ?_
   refine aw_block ?_
   iterate 3 refine go ?_
   obtain ⟨y22, h23, hF⟩ := bs hF
   refine rgp (ix (idx_map eGVar h23) slc_29) ?_
   iterate 3 refine go ?_
   refine rgp (op_str rfl rfl rfl rfl rfl rfl) ?_
   refine go ?_
   refine cnd hF (fun hb24 hF => ?_) fun hb24 hF => ?_
   ·iterate 8 refine go ?_
    refine post_lp_ret ?_
    cases hF
    have hF := elim_stop hK27
    refine go ?_
    cases hF
    exact prt
   iterate 7 refine go ?_
   refine rnr ?_
   exact rnd_back (ih (w_i64 (x11 + 1)) hF) (impz [])
  refine aw_exit ?_
  iterate 2 refine post_then_exit ?_
  cases hF
  exact post_lp_break _ ⟨_, rfl, rfl⟩ (impz [])
 rintro _ ⟨⟨⟩, rfl, rfl⟩
 have hF := elim_next hK27
 clear hK27
 iterate 5 refine go ?_
 cases hF
 exact prt
theorem ref23_Uniques_ok {a0 : GMethod} {r : (List Int)} (hF : ref23_Uniques a0 = some r) : FZ 26 [.agg (eGMethod a0)] [.own 3 1 (List.map eI r)] := by
 unfold ref23_Uniques at hF
 refine fn_of_body (n := 36) Tryz.func26 rfl rfl rfl fun w O => ?_
 refine go ?_
 refine rgp (bo 0) ?_
 iterate 4 refine go ?_
 refine reg_imp (imp_nil_own 3 3 1 1 rfl rfl) ?_
 iterate 2 refine go ?_
 refine rgp (la (eGMethod a0) agg_40) ?_
 obtain ⟨y3, h4, hF⟩ := bs hF
 refine rgp (cl 2 [.agg (eGMethod a0)] [.p (.vs 13 (List.map eGVar y3))] (Fn.frozen (ref12_Vars_ok h4))) ?_
 iterate 6 refine go ?_
 obtain ⟨x80, hF, hK81⟩ := bs hF
 refine aw_for ((y3.length - 0 : Int).toNat + 1) (fun s1 => s1 = (sX 36 [(3, some (.ls 0))] [(0, some (.row 3 1 (List.map eI x80)))] 1)) ?_ ?_
 ·refine rnd_loop (α := (List Int) × Int) (fun q => (sX 36 [(1, some (.lp 0 0)), (3, some (.ls 1)), pf 4 (.vs 13 (List.map eGVar y3)), pf 5 (.int .i64 q.2)] [bf 0 40 (eGMethod a0), (1, some (.row 3 1 (List.map eI q.1)))] 2)) (fun k q => ref23_Uniques_L1 a0 y3 k q.1 q.2 = some x80) ([], 0) (impz [0, 1]) hF (fun q h => by cases h) ?_
  clear hF
  rintro k ⟨x28, x29⟩ hF ih
  refine rnd_succ ?_
  iterate 7 refine go ?_
  refine cnd hF (fun hb55 hF => ?_) fun hb55 hF => ?_
  ·iterate 2 refine go ?_
   refine aw_seq ?_
   obtain ⟨x75, hF, hK77⟩ := bs hF
   refine ctx (sX 36 [(1, some (.lp 0 0)), (3, some (.ls 1)), pf 4 (.vs 13 (List.map eGVar y3)), pf 5 (.int .i64 x29)] [bf 0 40 (eGMethod a0), (1, some (.row 3 1 (List.map eI x75)))] 2) ?_ ?_
   ·refine aw_block ?_
    refine aw_seq ?_
    obtain ⟨x69, hF, hK71⟩ := bs hF
    refine ctx (sX 36 [(1, some (.lp 0 0)), (3, some (.ls 1)), pf 4 (.vs 13 (List.map eGVar y3)), pf 5 (.int .i64 x29), pf 30 (.bool x69)] [bf 0 40 (eGMethod a0), (1, some (.row 3 1 (List.map eI x28)))] 2) ?_ ?_
    ·refine dr_start ⟨_, _, _⟩ rfl ?_
     iterate 2 refine dgo ?_
     obtain ⟨y60, h61, hF⟩ := bs hF
     refine dr_cons { need := [(14, .pv (.vs 13 (List.map eGVar y3))), (15, .pv (.int .i64 x29))], dst := some 16, val := some (.pv (.vp (eGVar y60))) } (fun m h => step_on (guard_no rfl) (op_index_vs (k := .i64) rfl h.1.1 h.1.2.1 (idx_map eGVar h61) slc_29 rfl rfl) rfl) ⟨⟨rfl, rfl, trivial⟩, trivial, trivial⟩ ?_
     refine dr_cons { need := [(16, .pv (.vp (eGVar y60)))], dst := some 17, val := some (.pv (.vp (List.drop 1 (eGVar y60)))) } (fun m h => step_on (guard_no rfl) (op_field_vp rfl h.1.1 fld_66_1 rfl rfl) rfl) ⟨⟨rfl, trivial⟩, trivial, trivial⟩ ?_
     refine dr_cons { need := [(17, .pv (.vp (List.drop 1 (eGVar y60))))], dst := some 18, val := some (.pv (.agg (eGType y60.fType))) } (fun m h => step_on (guard_no rfl) (op_load_vp_agg (ps := eGType y60.fType) rfl h.1.1 rfl rfl agg_37 rfl rfl) rfl) ⟨⟨rfl, trivial⟩, trivial, trivial⟩ ?_
     obtain ⟨y62, h63, hF⟩ := bs hF
     refine dr_cons { need := [(18, .pv (.agg (eGType y60.fType)))], dst := some 19, val := some (.pv (.bool y62)) } (fun m h => step_on (guard_no rfl) (op_call 2 rfl (caps := []) (args := [.agg (eGType y60.fType)]) (rs := [.p (.bool y62)]) rfl rfl (evl_cons h.1.1 evl_nil) cal_61 (ref05_Unique_ok h63) rfl rfl rfl) rfl) ⟨⟨rfl, trivial⟩, trivial, trivial⟩ ?_
     refine dgo ?_
     rcases ie hF with ⟨hb64, hF⟩ | ⟨hb64, hF⟩
     ·refine dr_cons { need := [(20, .pv (.bool y62)), (1, .lp 0 0)], hneed := [(0, .box 40 (bxv (eGMethod a0)))], dst := some 21, val := some (.pv (.agg (eGMethod a0))) } (fun m h => step_on (guard_on rfl rfl rfl h.1.1 hb64) (op_load_lp_agg (ps := eGMethod a0) rfl h.1.2.1 h.2.1.1 rfl rfl rfl agg_40 rfl rfl) rfl) ⟨⟨rfl, rfl, trivial⟩, ⟨rfl, trivial⟩, trivial⟩ ?_
      refine dr_cons { need := [(20, .pv (.bool y62)), (4, .pv (.vs 13 (List.map eGVar y3)))], dst := some 22, val := some (.pv (.vs 13 (List.map eGVar y3))) } (fun m h => step_on (guard_on rfl rfl rfl h.1.1 hb64) (op_move rfl h.1.2.1 rfl rfl) rfl) ⟨⟨rfl, rfl, trivial⟩, trivial, trivial⟩ ?_
      refine dr_cons { need := [(20, .pv (.bool y62)), (5, .pv (.int .i64 x29))], dst := some 23, val := some (.pv (.int .i64 x29)) } (fun m h => step_on (guard_on rfl rfl rfl h.1.1 hb64) (op_move rfl h.1.2.1 rfl rfl) rfl) ⟨⟨rfl, rfl, trivial⟩, trivial, trivial⟩ ?_
      obtain ⟨y65, h66, hF⟩ := bs hF
      refine dr_cons { need := [(20, .pv (.bool y62)), (22, .pv (.vs 13 (List.map eGVar y3))), (23, .pv (.int .i64 x29))], dst := some 24, val := some (.pv (.vp (eGVar y65))) } (fun m h => step_on (guard_on rfl rfl rfl h.1.1 hb64) (op_index_vs (k := .i64) rfl h.1.2.1 h.1.2.2.1 (idx_map eGVar h66) slc_29 rfl rfl) rfl) ⟨⟨rfl, rfl, rfl, trivial⟩, trivial, trivial⟩ ?_
      refine dr_cons { need := [(20, .pv (.bool y62)), (24, .pv (.vp (eGVar y65)))], dst := some 25, val := some (.pv (.vp (List.drop 0 (eGVar y65)))) } (fun m h => step_on (guard_on rfl rfl rfl h.1.1 hb64) (op_field_vp rfl h.1.2.1 fld_66_0 rfl rfl) rfl) ⟨⟨rfl, rfl, trivial⟩, trivial, trivial⟩ ?_
      refine dr_cons { need := [(20, .pv (.bool y62)), (25, .pv (.vp (List.drop 0 (eGVar y65))))], dst := some 26, val := some (.pv (.str y65.fName)) } (fun m h => step_on (guard_on rfl rfl rfl h.1.1 hb64) (op_load_vp (p := .str y65.fName) rfl h.1.2.1 rfl one_9 rfl rfl) rfl) ⟨⟨rfl, rfl, trivial⟩, trivial, trivial⟩ ?_
      obtain ⟨y67, h68, hF⟩ := bs hF
      refine dr_cons { need := [(20, .pv (.bool y62)), (26, .pv (.str y65.fName)), (21, .pv (.agg (eGMethod a0)))], dst := some 27, val := some (.pv (.int .i64 y67)) } (fun m h => step_on (guard_on rfl rfl rfl h.1.1 hb64) (op_call 2 rfl (caps := []) (args := [.agg (eGMethod a0), .str y65.fName]) (rs := [.p (.int .i64 y67)]) rfl rfl (evl_cons h.1.2.2.1 (evl_cons h.1.2.1 evl_nil)) cal_62 (ref18_Place_ok h68) rfl rfl rfl) rfl) ⟨⟨rfl, rfl, rfl, trivial⟩, trivial, trivial⟩ ?_
      refine dr_cons { need := [(20, .pv (.bool y62)), (5, .pv (.int .i64 x29))], dst := some 28, val := some (.pv (.int .i64 x29)) } (fun m h => step_on (guard_on rfl rfl rfl h.1.1 hb64) (op_move rfl h.1.2.1 rfl rfl) rfl) ⟨⟨rfl, rfl, trivial⟩, trivial, trivial⟩ ?_
      refine dr_cons { need := [(20, .pv (.bool y62)), (27, .pv (.int .i64 y67)), (28, .pv (.int .i64 x29))], dst := some 29, val := some (.pv (.bool (y67 == x29))) } (fun m h => step_on (guard_on rfl rfl rfl h.1.1 hb64) (op_int (k := .i64) (m := y67) (n := x29) rfl h.1.2.1 h.1.2.2.1 rfl rfl rfl) rfl) ⟨⟨rfl, rfl, rfl, trivial⟩, trivial, trivial⟩ ?_
      refine dr_cons { need := [(20, .pv (.bool y62)), (29, .pv (.bool (y67 == x29)))], dst := some 30, val := some (.pv (.bool (y67 == x29))) } (fun m h => step_on (guard_no rfl) (op_pick_t rfl h.1.1 hb64 h.1.2.1 rfl rfl) rfl) ⟨⟨rfl, rfl, trivial⟩, trivial, trivial⟩ ?_
      refine dr_nil mixed rfl (by kernel_rfl) ?_
      refine piz (sX 36 [(1, some (.lp 0 0)), (3, some (.ls 1)), pf 4 (.vs 13 (List.map eGVar y3)), pf 5 (.int .i64 x29), pf 30 (.bool (y67 == x29))] [bf 0 40 (eGMethod a0), (1, some (.row 3 1 (List.map eI x28)))] 2) [0, 1] ?_
      cases hF
      exact pcz [0, 1]
     iterate 9 refine dro_f hb64 ?_
     refine drpf hb64 ?_
     refine dr_nil mixed rfl (by kernel_rfl) ?_
     refine piz (sX 36 [(1, some (.lp 0 0)), (3, some (.ls 1)), pf 4 (.vs 13 (List.map eGVar y3)), pf 5 (.int .i64 x29), pf 30 (.bool false)] [bf 0 40 (eGMethod a0), (1, some (.row 3 1 (List.map eI x28)))] 2) [0, 1] ?_
     cases hF
     exact pcz [0, 1]
    have hF := hK71
    refine go ?_
    refine cnd hF (fun hb72 hF => ?_) fun hb72 hF => ?_
    ·iterate 3 refine go ?_
     refine rgp (op_lit (rows := List.map eI ([x29] : List Int)) (zs := [.int .i64 0]) rfl rfl slc_75 zer_3 (by exact ⟨rfl, trivial⟩) rfl rfl rfl rfl rfl rfl rfl rfl) ?_
     obtain ⟨u73, h74, hF⟩ := bs hF
     refine rgp (op_append 2 rfl rfl rfl rfl rfl slc_75 elm_3 zer_3 rfl rfl rfl (room_map (f := eI) (g := eI) h74) (List.map_append (f := eI) (l₁ := x28) (l₂ := [x29])).symm rfl rfl) ?_
     refine go ?_
     refine reg_nil ?_
     refine piz (sX 36 [(1, some (.lp 0 0)), (3, some (.ls 1)), pf 4 (.vs 13 (List.map eGVar y3)), pf 5 (.int .i64 x29)] [bf 0 40 (eGMethod a0), (1, some (.row 3 1 (List.map eI (x28 ++ [x29]))))] 2) [0, 2] ?_
     refine go ?_
     cases hF
     exact pcz [0, 1]
    iterate 2 refine go ?_
    cases hF
    exact pcz [0, 1]
   have hF := hK77
   iterate 5 refine go ?_
   refine rnr ?_
   exact rnd_back (ih (x75, w_i64 (x29 + 1)) hF) (impz [0, 1])
  refine aw_exit ?_
  iterate 2 refine post_then_exit ?_
  cases hF
  exact post_lp_break _ rfl (impz [1])
 rintro _ rfl
 have hF := hK81
 iterate 6 refine go ?_
 cases hF
 exact post_ret rfl rfl (.cons _ _ _ _ _ (.tmp _ _ rfl) (.own _ _ _ _ rfl nolent3) .nil) (.inl rfl)
theorem ref23_place_ok {a0 : GMethod} {a1 : List UInt8} {r : Int} (hF : ref23_place a0 a1 = some r) : FZ 42 [.agg (eGMethod a0), .str a1] [.p (.int .i64 r)] := by
 unfold ref23_place at hF
 refine fn_of_body (n := 27) Tryz.func42 rfl rfl rfl fun w O => ?_
 refine go ?_
 refine rgp (bo 0) ?_
 iterate 3 refine go ?_
 refine rgp (la (eGMethod a0) agg_40) ?_
 obtain ⟨y3, h4, hF⟩ := bs hF
 refine rgp (cl 1 [.agg (eGMethod a0)] [.p (.vs 1 (List.map eI y3))] (Fn.frozen (ref23_Uniques_ok h4))) ?_
 iterate 6 refine go ?_
 obtain ⟨lr44, hF, hK45⟩ := bs hF
 refine aw_for ((y3.length - 0 : Int).toNat + 1) (fun s1 => ∃ q, lr44 = .next q ∧ s1 = (sX 27 [] [] 0)) ?_ ?_
 ·refine rnd_loop (α := Int) (fun q => (sX 27 [pf 1 (.str a1), (2, some (.lp 0 0)), pf 5 (.vs 1 (List.map eI y3)), pf 6 (.int .i64 q)] [bf 0 40 (eGMethod a0)] 1)) (fun k q => ref23_place_L1 a0 a1 y3 k q = some lr44) 0 (impz [0]) hF (fun q h => by cases h) ?_
  clear hF
  rintro k x17 hF ih
  refine rnd_succ ?_
  iterate 7 refine go ?_
  refine cnd hF (fun hb31 hF => ?_) fun hb31 hF => ?_
  ·iterate 2 refine go ?_
   refine aw_seq ?_
   refine aw_block ?_
   refine aw_seq ?_
   refine dr_start ⟨_, _, _⟩ rfl ?_
   iterate 2 refine dgo ?_
   obtain ⟨y36, h37, hF⟩ := bs hF
   refine dr_cons { need := [(15, .pv (.vs 1 (List.map eI y3))), (16, .pv (.int .i64 x17))], dst := some 17, val := some (.pv (.vp (eI y36))) } (fun m h => step_on (guard_no rfl) (op_index_vs (k := .i64) rfl h.1.1 h.1.2.1 (idx_map eI h37) slc_75 rfl rfl) rfl) ⟨⟨rfl, rfl, trivial⟩, trivial, trivial⟩ ?_
   refine dr_cons { need := [(17, .pv (.vp (eI y36)))], dst := some 18, val := some (.pv (.int .i64 y36)) } (fun m h => step_on (guard_no rfl) (op_load_vp (p := .int .i64 y36) rfl h.1.1 rfl one_3 rfl rfl) rfl) ⟨⟨rfl, trivial⟩, trivial, trivial⟩ ?_
   refine dr_cons { need := [(2, .lp 0 0)], hneed := [(0, .box 40 (bxv (eGMethod a0)))], dst := some 19, val := some (.pv (.agg (eGMethod a0))) } (fun m h => step_on (guard_no rfl) (op_load_lp_agg (ps := eGMethod a0) rfl h.1.1 h.2.1.1 rfl rfl rfl agg_40 rfl rfl) rfl) ⟨⟨rfl, trivial⟩, ⟨rfl, trivial⟩, trivial⟩ ?_
   refine dgo ?_
   obtain ⟨y38, h39, hF⟩ := bs hF
   refine dr_cons { need := [(20, .pv (.str a1)), (19, .pv (.agg (eGMethod a0)))], dst := some 21, val := some (.pv (.int .i64 y38)) } (fun m h => step_on (guard_no rfl) (op_call 1 rfl (caps := []) (args := [.agg (eGMethod a0), .str a1]) (rs := [.p (.int .i64 y38)]) rfl rfl (evl_cons h.1.2.1 (evl_cons h.1.1 evl_nil)) cal_62 (ref18_Place_ok h39) rfl rfl rfl) rfl) ⟨⟨rfl, rfl, trivial⟩, trivial, trivial⟩ ?_
   refine dr_cons { need := [(18, .pv (.int .i64 y36)), (21, .pv (.int .i64 y38))], dst := some 22, val := some (.pv (.bool (y36 == y38))) } (fun m h => step_on (guard_no rfl) (op_int (k := .i64) (m := y36) (n := y38) rfl h.1.1 h.1.2.1 rfl rfl rfl) rfl) ⟨⟨rfl, rfl, trivial⟩, trivial, trivial⟩ ?_
   refine dr_nil mixed rfl (by kernel_rfl) ?_
   refine piz (sX 27 [pf 1 (.str a1), (2, some (.lp 0 0)), pf 5 (.vs 1 (List.map eI y3)), pf 6 (.int .i64 x17), pf 22 (.bool (y36 == y38))] [bf 0 40 (eGMethod a0)] 1) [0] ?_
   refine go ?_
   refine cnd hF (fun hb40 hF => ?_) fun hb40 hF => ?_
   ·iterate 3 refine go ?_
    obtain ⟨y41, h42, hF⟩ := bs hF
    refine rgp (ix (idx_map eI h42) slc_75) ?_
    iterate 7 refine go ?_
    refine post_lp_ret ?_
    cases hF
    have hF := elim_stop hK45
    refine go ?_
    cases hF
    exact prt
   iterate 7 refine go ?_
   refine rnr ?_
   exact rnd_back (ih (w_i64 (x17 + 1)) hF) (impz [0])
  refine aw_exit ?_
  iterate 2 refine post_then_exit ?_
  cases hF
  exact post_lp_break _ ⟨_, rfl, rfl⟩ (impz [])
 rintro _ ⟨⟨⟩, rfl, rfl⟩
 have hF := elim_next hK45
 clear hK45
 iterate 5 refine go ?_
 cases hF
 exact prt
theorem ref15_This_ok {a0 : GClass} {r : (List GOwner)} (hF : ref15_This a0 = some r) : FZ 190 [.agg (eGClass a0)] [.own 34 2 (List.map eGOwner r)] := by
 unfold ref15_This at hF
 refine fn_of_body (n := 21) Tryz.func190 rfl rfl rfl fun w O => ?_
 refine go ?_
 refine rgp (bo 0) ?_
 iterate 3 refine go ?_
 refine rgp (bd ((eGOwner zGOwner)) (eGOwner ({ fKind := 2, fN := 0 } : GOwner)) zer_34 plc_34) ?_
 refine rgp (op_litOwn 1 rfl (rows := List.map eGOwner ([({ fKind := 2, fN := 0 } : GOwner)] : List GOwner)) (zs := (eGOwner zGOwner)) rfl rfl slc_28 zer_34 (by exact ⟨rfl, rfl, trivial⟩) rfl rfl rfl rfl rfl rfl rfl rfl) ?_
 iterate 6 refine go ?_
 obtain ⟨x22, hF, hK23⟩ := bs hF
 refine aw_for ((a0.fParams.length - 0 : Int).toNat + 1) (fun s1 => s1 = (sX 21 [(3, some (.ls 0))] [(0, some (.row 34 2 (List.map eGOwner x22)))] 1)) ?_ ?_
 ·refine rnd_loop (α := (List GOwner) × Int) (fun q => (sX 21 [(1, some (.lp 0 0)), (3, some (.ls 1)), pf 4 (.int .i64 q.2)] [bf 0 32 (eGClass a0), (1, some (.row 34 2 (List.map eGOwner q.1)))] 2)) (fun k q => ref15_This_L1 a0 k q.1 q.2 = some x22) ([({ fKind := 2, fN := 0 } : GOwner)], 0) (impz [0, 1]) hF (fun q h => by cases h) ?_
  clear hF
  rintro k ⟨x6, x7⟩ hF ih
  refine rnd_succ ?_
  iterate 8 refine go ?_
  refine cnd hF (fun hb15 hF => ?_) fun hb15 hF => ?_
  ·iterate 2 refine go ?_
   refine aw_seq ?_
   refine aw_block ?_
   iterate 4 refine go ?_
   refine rgp (bd ((eGOwner zGOwner)) (eGOwner ({ fKind := 3, fN := w_i64 (x7 + 1) } : GOwner)) zer_34 plc_34) ?_
   refine rgp (op_lit (rows := List.map eGOwner ([({ fKind := 3, fN := w_i64 (x7 + 1) } : GOwner)] : List GOwner)) (zs := (eGOwner zGOwner)) rfl rfl slc_28 zer_34 (by exact ⟨rfl, rfl, trivial⟩) rfl rfl rfl rfl rfl rfl rfl rfl) ?_
   obtain ⟨u18, h19, hF⟩ := bs hF
   refine rgp (op_append 2 rfl rfl rfl rfl rfl slc_28 elm_34 zer_34 rfl rfl rfl (room_map (f := eGOwner) (g := eGOwner) h19) (List.map_append (f := eGOwner) (l₁ := x6) (l₂ := [({ fKind := 3, fN := w_i64 (x7 + 1) } : GOwner)])).symm rfl rfl) ?_
   refine go ?_
   refine reg_nil ?_
   refine piz (sX 21 [(1, some (.lp 0 0)), (3, some (.ls 1)), pf 4 (.int .i64 x7)] [bf 0 32 (eGClass a0), (1, some (.row 34 2 (List.map eGOwner (x6 ++ [({ fKind := 3, fN := w_i64 (x7 + 1) } : GOwner)]))))] 2) [0, 2] ?_
   iterate 6 refine go ?_
   refine rnr ?_
   exact rnd_back (ih ((x6 ++ [({ fKind := 3, fN := w_i64 (x7 + 1) } : GOwner)]), w_i64 (x7 + 1)) hF) (impz [0, 1])
  refine aw_exit ?_
  iterate 2 refine post_then_exit ?_
  cases hF
  exact post_lp_break _ rfl (impz [1])
 rintro _ rfl
 have hF := hK23
 iterate 6 refine go ?_
 cases hF
 exact post_ret rfl rfl (.cons _ _ _ _ _ (.tmp _ _ rfl) (.own _ _ _ _ rfl nolent3) .nil) (.inl rfl)
theorem ref18_This_ok {a0 : GClass} {r : GType} (hF : ref18_This a0 = some r) : FZ 179 [.agg (eGClass a0)] [.p (.agg (eGType r))] := by
 unfold ref18_This at hF
 refine fn_of_body (n := 29) Tryz.func179 rfl rfl rfl fun w O => ?_
 refine go ?_
 refine rgp (bo 0) ?_
 refine rgp (al 1 (eGType zGType) zer_37) ?_
 iterate 7 refine go ?_
 refine rgp (op_min2 rfl rfl rfl rfl rfl) ?_
 refine rgp (bd ((eGType zGType)) (eGType ({ fKind := 2, fClass := a0.fName, fN := (if (a0.fParams.length : Int) < 3 then (a0.fParams.length : Int) else 3), fOwn := (⟨zGOwner, zGOwner, zGOwner, zGOwner⟩ : A4 GOwner) } : GType)) zer_37 plc_37) ?_
 refine rgp (al 2 (eGType zGType) zer_37) ?_
 iterate 3 refine go ?_
 refine rgp (la (eGClass a0) agg_32) ?_
 obtain ⟨y3, h4, hF⟩ := bs hF
 refine rgp (cl 3 [.agg (eGClass a0)] [.p (.vs 2 (List.map eGOwner y3))] (Fn.frozen (ref15_This_ok h4))) ?_
 iterate 6 refine go ?_
 obtain ⟨x34, hF, hK35⟩ := bs hF
 refine aw_for 5 (fun s1 => s1 = (sX 29 [(2, some (.lp 0 0)), (3, some (.lp 1 0))] [bf 0 37 (eGType zGType), bf 1 37 (eGType x34)] 2)) ?_ ?_
 ·refine rnd_loop (α := GType × Int) (fun q => (sX 29 [(2, some (.lp 0 0)), (3, some (.lp 1 0)), pf 4 (.vs 2 (List.map eGOwner y3)), pf 5 (.int .i64 q.2)] [bf 0 37 (eGType zGType), bf 1 37 (eGType q.1)] 2)) (fun k q => ref18_This_L1 y3 k q.1 q.2 = some x34) (({ fKind := 2, fClass := a0.fName, fN := (if (a0.fParams.length : Int) < 3 then (a0.fParams.length : Int) else 3), fOwn := (⟨zGOwner, zGOwner, zGOwner, zGOwner⟩ : A4 GOwner) } : GType), 0) (impz [1, 2]) hF (fun q h => by cases h) ?_
  clear hF
  rintro k ⟨x10, x11⟩ hF ih
  refine rnd_succ ?_
  iterate 7 refine go ?_
  refine cnd hF (fun hb23 hF => ?_) fun hb23 hF => ?_
  ·iterate 2 refine go ?_
   refine aw_seq ?_
   refine aw_block ?_
   iterate 4 refine go ?_
   obtain ⟨y28, h29, hF⟩ := bs hF
   refine rgp (ix (idx_map eGOwner h29) slc_28) ?_
   refine rgp (lw (eGOwner y28) agg_34) ?_
   refine go ?_
   obtain ⟨y30, h31, hF⟩ := bs hF
   refine rgp (op_arr_lpN (l := (x10.fOwn).l) rfl rfl rfl arr_35 rfl h31 rfl rfl) ?_
   refine rgp (op_store_lpV (cells' := bxv (eGType ({ x10 with fOwn := (A4.set x10.fOwn (x11 : Int).toNat y28) } : GType))) (n := 2) rfl rfl rfl rfl rfl (or_agg agg_34) (by rw [non_34]; rfl) (by rcases idx_l4 h31 with e | e | e | e <;> rw [e] <;> exact Nat.le_of_ble_eq_true rfl) (by rcases idx_l4 h31 with e | e | e | e <;> rw [e] <;> rfl) rfl rfl) ?_
   refine reg_nil ?_
   refine piz (sX 29 [(2, some (.lp 0 0)), (3, some (.lp 1 0)), pf 4 (.vs 2 (List.map eGOwner y3)), pf 5 (.int .i64 x11)] [bf 0 37 (eGType zGType), bf 1 37 (eGType ({ x10 with fOwn := (A4.set x10.fOwn (x11 : Int).toNat y28) } : GType))] 2) [0, 1] ?_
   iterate 6 refine go ?_
   refine rnr ?_
   exact rnd_back (ih (({ x10 with fOwn := (A4.set x10.fOwn (x11 : Int).toNat y28) } : GType), w_i64 (x11 + 1)) hF) (impz [0, 1])
  refine aw_exit ?_
  iterate 2 refine post_then_exit ?_
  cases hF
  exact post_lp_break _ rfl (impz [0, 1])
 rintro _ rfl
 have hF := hK35
 iterate 2 refine go ?_
 refine rgp (la (eGType x34) agg_37) ?_
 iterate 3 refine go ?_
 cases hF
 exact post_ret rfl rfl (.cons _ _ _ _ _ (.agg _ _ _ _ _ 11 _ _ rfl rfl agg_37 rfl rfl rfl) (.p _) .nil) (.inl rfl)
theorem ref18_Type_ok {a0 : GClass} {a1 : GMethod} {a2 : List UInt8} {r : GType × Bool} (hF : ref18_Type a0 a1 a2 = some r) : FZ 154 [.agg (eGClass a0), .agg (eGMethod a1), .str a2] [.p (.agg (eGType r.1)), .p (.bool r.2)] := by
 unfold ref18_Type at hF
 refine fn_of_body (n := 25) Tryz.func154 rfl rfl rfl fun w O => ?_
 refine go ?_
 refine rgp (bo 0) ?_
 refine rgp (bo 1) ?_
 refine rgp (al 2 (eGType zGType) zer_37) ?_
 iterate 5 refine go ?_
 refine rgp (op_str rfl rfl rfl rfl rfl rfl) ?_
 refine go ?_
 refine cnd hF (fun hb1 hF => ?_) fun hb1 hF => ?_
 ·refine go ?_
  refine rgp (la (eGClass a0) agg_32) ?_
  obtain ⟨y2, h3, hF⟩ := bs hF
  refine rgp (cl 3 [.agg (eGClass a0)] [.p (.agg (eGType y2))] (ref18_This_ok h3)) ?_
  iterate 5 refine go ?_
  cases hF
  exact post_ret rfl rfl (.cons _ _ _ _ _ (.agg _ _ _ _ _ 11 _ _ rfl rfl agg_37 rfl rfl rfl) (.p _) (.cons _ _ _ _ _ (.tmp _ _ rfl) (.p _) .nil)) (.inl rfl)
 iterate 3 refine go ?_
 refine rgp (la (eGMethod a1) agg_40) ?_
 refine go ?_
 obtain ⟨y6, h7, hF⟩ := bs hF
 refine rgp (cl 3 [.agg (eGMethod a1), .str a2] [.p (.int .i64 y6)] (ref18_Place_ok h7)) ?_
 iterate 7 refine go ?_
 refine cnd hF (fun hb8 hF => ?_) fun hb8 hF => ?_
 ·refine go ?_
  refine rgp (bd ((eGType zGType)) (eGType ({ fKind := 0, fClass := [], fN := 0, fOwn := (⟨zGOwner, zGOwner, zGOwner, zGOwner⟩ : A4 GOwner) } : GType)) zer_37 plc_37) ?_
  iterate 5 refine go ?_
  cases hF
  exact post_ret rfl rfl (.cons _ _ _ _ _ (.agg _ _ _ _ _ 11 _ _ rfl rfl agg_37 rfl rfl rfl) (.p _) (.cons _ _ _ _ _ (.tmp _ _ rfl) (.p _) .nil)) (.inl rfl)
 iterate 3 refine go ?_
 refine rgp (la (eGMethod a1) agg_40) ?_
 obtain ⟨y9, h10, hF⟩ := bs hF
 refine rgp (cl 3 [.agg (eGMethod a1)] [.p (.vs 13 (List.map eGVar y9))] (Fn.frozen (ref12_Vars_ok h10))) ?_
 refine go ?_
 obtain ⟨y11, h12, hF⟩ := bs hF
 refine rgp (ix (idx_map eGVar h12) slc_29) ?_
 refine go ?_
 refine rgp (lw (eGType y11.fType) agg_37) ?_
 iterate 4 refine go ?_
 cases hF
 exact post_ret rfl rfl (.cons _ _ _ _ _ (.agg _ _ _ _ _ 11 _ _ rfl rfl agg_37 rfl rfl rfl) (.p _) (.cons _ _ _ _ _ (.tmp _ _ rfl) (.p _) .nil)) (.inl rfl)
theorem ref20_object_ok {a0 : GPlace_ref20} {a1 : GStmt} {r : GType × Int} (hF : ref20_object a0 a1 = some r) : FZ 134 [.agg (eGPlace_ref20 a0), .agg (eGStmt a1)] [.p (.agg (eGType r.1)), .p (.int .i64 r.2)] := by
 unfold ref20_object at hF
 refine fn_of_body (n := 34) Tryz.func134 rfl rfl rfl fun w O => ?_
 refine go ?_
 refine rgp (bo 0) ?_
 refine rgp (bo 1) ?_
 refine rgp (al 2 (eGType zGType) zer_37) ?_
 iterate 4 refine go ?_
 refine rgp (la (eGClass a0.fC) agg_32) ?_
 refine go ?_
 refine rgp (la (eGMethod a0.fM) agg_40) ?_
 iterate 2 refine go ?_
 obtain ⟨y3, h4, hF⟩ := bs hF
 refine rgp (cl 3 [.agg (eGClass a0.fC), .agg (eGMethod a0.fM), .str a1.fY] [.p (.agg (eGType y3.1)), .p (.bool y3.2)] (ref18_Type_ok h4)) ?_
 refine go ?_
 iterate 2 (refine rgp (op_extract rfl rfl rfl rfl rfl) ?_)
 refine rgp (al 3 (eGType zGType) zer_37) ?_
 iterate 8 refine go ?_
 refine cnd hF (fun hb5 hF => ?_) fun hb5 hF => ?_
 ·refine go ?_
  refine rgp (la (eGType y3.1) agg_37) ?_
  iterate 5 refine go ?_
  cases hF
  exact post_ret rfl rfl (.cons _ _ _ _ _ (.agg _ _ _ _ _ 11 _ _ rfl rfl agg_37 rfl rfl rfl) (.p _) (.cons _ _ _ _ _ (.tmp _ _ rfl) (.p _) .nil)) (.inl rfl)
 iterate 8 refine go ?_
 refine cnd hF (fun hb6 hF => ?_) fun hb6 hF => ?_
 ·refine go ?_
  refine rgp (la (eGType y3.1) agg_37) ?_
  iterate 5 refine go ?_
  cases hF
  exact post_ret rfl rfl (.cons _ _ _ _ _ (.agg _ _ _ _ _ 11 _ _ rfl rfl agg_37 rfl rfl rfl) (.p _) (.cons _ _ _ _ _ (.tmp _ _ rfl) (.p _) .nil)) (.inl rfl)
 iterate 2 refine go ?_
 refine aw_seq ?_
 refine aw_seq ?_
 obtain ⟨x12, hF, hK14⟩ := bs hF
 refine ctx (sX 34 [(4, some (.lp 0 0)), (6, some (.lp 1 0)), pf 31 (.bool x12)] [bf 0 37 (eGType zGType), bf 1 37 (eGType y3.1)] 2) ?_ ?_
 ·refine go ?_
  refine rgp (la (eGType y3.1) agg_37) ?_
  obtain ⟨y9, h10, hF⟩ := bs hF
  refine rgp (cl 4 [.agg (eGType y3.1)] [.p (.bool y9)] (ref05_Unique_ok h10)) ?_
  refine go ?_
  rcases ie hF with ⟨hb11, hF⟩ | ⟨hb11, hF⟩
  ·iterate 3 refine gn hb11 ?_
   refine rpt hb11 ?_
   cases hF
   exact rcz [2, 3]
  iterate 3 refine rgo_f hb11 ?_
  refine rpf hb11 ?_
  cases hF
  exact rcz [2, 3]
 have hF := hK14
 refine go ?_
 refine cnd hF (fun hb15 hF => ?_) fun hb15 hF => ?_
 ·refine go ?_
  refine rgp (la (eGType y3.1) agg_37) ?_
  iterate 5 refine go ?_
  cases hF
  exact post_ret rfl rfl (.cons _ _ _ _ _ (.agg _ _ _ _ _ 11 _ _ rfl rfl agg_37 rfl rfl rfl) (.p _) (.cons _ _ _ _ _ (.tmp _ _ rfl) (.p _) .nil)) (.inl rfl)
 iterate 3 refine go ?_
 refine rgp (la (eGType y3.1) agg_37) ?_
 iterate 4 refine go ?_
 cases hF
 exact post_ret rfl rfl (.cons _ _ _ _ _ (.agg _ _ _ _ _ 11 _ _ rfl rfl agg_37 rfl rfl rfl) (.p _) (.cons _ _ _ _ _ (.tmp _ _ rfl) (.p _) .nil)) (.inl rfl)
theorem ref13_Find_ok {a0 : List GClass} {a1 : List UInt8} {r : Int} (hF : ref13_Find a0 a1 = some r) : FZ 156 [.vs 7 (List.map eGClass a0), .str a1] [.p (.int .i64 r)] := by
 unfold ref13_Find at hF
 refine fn_of_body (n := 20) Tryz.func156 rfl rfl rfl fun w O => ?_
 iterate 7 refine go ?_
 obtain ⟨lr22, hF, hK23⟩ := bs hF
 refine aw_for ((a0.length - 0 : Int).toNat + 1) (fun s1 => ∃ q, lr22 = .next q ∧ s1 = (sX 20 [] [] 0)) ?_ ?_
 ·refine rnd_loop (α := Int) (fun q => (sX 20 [pf 0 (.vs 7 (List.map eGClass a0)), pf 1 (.str a1), pf 5 (.int .i64 q)] [] 0)) (fun k q => ref13_Find_L1 a0 a1 k q = some lr22) 0 (impz []) hF (fun q h => by cases h) ?_
  clear hF
  rintro k x7 hF ih
  refine rnd_succ ?_
  iterate 7 refine go ?_
  refine cnd hF (fun hb15 hF => ?_) fun hb15 hF => ?_
  ·iterate 2 refine go ?_
   refine aw_seq ?_
   refine aw_block ?_
   iterate 3 refine go ?_
   obtain ⟨y18, h19, hF⟩ := bs hF
   refine rgp (ix (idx_map eGClass h19) slc_22) ?_
   iterate 3 refine go ?_
   refine rgp (op_str rfl rfl rfl rfl rfl rfl) ?_
   refine go ?_
   refine cnd hF (fun hb20 hF => ?_) fun hb20 hF => ?_
   ·iterate 8 refine go ?_
    refine post_lp_ret ?_
    cases hF
    have hF := elim_stop hK23
    refine go ?_
    cases hF
    exact prt
   iterate 7 refine go ?_
   refine rnr ?_
   exact rnd_back (ih (w_i64 (x7 + 1)) hF) (impz [])
  refine aw_exit ?_
  iterate 2 refine post_then_exit ?_
  cases hF
  exact post_lp_break _ ⟨_, rfl, rfl⟩ (impz [])
 rintro _ ⟨⟨⟩, rfl, rfl⟩
 have hF := elim_next hK23
 clear hK23
 iterate 5 refine go ?_
 cases hF
 exact prt
theorem ref14_has_ok {a0 : List Int} {a1 : Int} {r : Bool} (hF : ref14_has a0 a1 = some r) : FZ 157 [.vs 1 (List.map eI a0), .int .i64 a1] [.p (.bool r)] := by
 unfold ref14_has at hF
 refine fn_of_body (n := 18) Tryz.func157 rfl rfl rfl fun w O => ?_
 iterate 7 refine go ?_
 obtain ⟨lr22, hF, hK23⟩ := bs hF
 refine aw_for ((a0.length - 0 : Int).toNat + 1) (fun s1 => ∃ q, lr22 = .next q ∧ s1 = (sX 18 [] [] 0)) ?_ ?_
 ·refine rnd_loop (α := Int) (fun q => (sX 18 [pf 0 (.vs 1 (List.map eI a0)), pf 1 (.int .i64 a1), pf 5 (.int .i64 q)] [] 0)) (fun k q => ref14_has_L1 a0 a1 k q = some lr22) 0 (impz []) hF (fun q h => by cases h) ?_
  clear hF
  rintro k x7 hF ih
  refine rnd_succ ?_
  iterate 7 refine go ?_
  refine cnd hF (fun hb15 hF => ?_) fun hb15 hF => ?_
  ·iterate 2 refine go ?_
   refine aw_seq ?_
   refine aw_block ?_
   iterate 3 refine go ?_
   obtain ⟨y18, h19, hF⟩ := bs hF
   refine rgp (ix (idx_map eI h19) slc_75) ?_
   iterate 4 refine go ?_
   refine cnd hF (fun hb20 hF => ?_) fun hb20 hF => ?_
   ·iterate 7 refine go ?_
    refine post_lp_ret ?_
    cases hF
    have hF := elim_stop hK23
    refine go ?_
    cases hF
    exact prt
   iterate 7 refine go ?_
   refine rnr ?_
   exact rnd_back (ih (w_i64 (x7 + 1)) hF) (impz [])
  refine aw_exit ?_
  iterate 2 refine post_then_exit ?_
  cases hF
  exact post_lp_break _ ⟨_, rfl, rfl⟩ (impz [])
 rintro _ ⟨⟨⟩, rfl, rfl⟩
 have hF := elim_next hK23
 clear hK23
 iterate 5 refine go ?_
 cases hF
 exact prt
theorem ref14_Chain_ok {a0 : List GClass} {a1 : List UInt8} {r : (List Int)} (hF : ref14_Chain a0 a1 = some r) : FZ 137 [.vs 7 (List.map eGClass a0), .str a1] [.own 3 1 (List.map eI r)] := by
 unfold ref14_Chain at hF
 refine fn_of_body (n := 37) Tryz.func137 rfl rfl rfl fun w O => ?_
 iterate 5 refine go ?_
 refine reg_imp (imp_nil_own 5 3 1 0 rfl rfl) ?_
 iterate 4 refine go ?_
 obtain ⟨y3, h4, hF⟩ := bs hF
 refine rgp (cl 1 [.vs 7 (List.map eGClass a0), .str a1] [.p (.int .i64 y3)] (ref13_Find_ok h4)) ?_
 iterate 2 refine go ?_
 refine aw_seq ?_
 obtain ⟨lr72, hF, hK73⟩ := bs hF
 refine aw_for (a0.length + 2) (fun s1 => ∃ q, lr72 = .next q ∧ s1 = (sX 37 [(5, some (.ls 0))] [(0, some (.row 3 1 (List.map eI q)))] 1)) ?_ ?_
 ·refine rnd_loop (α := (List Int) × Int) (fun q => (sX 37 [pf 0 (.vs 7 (List.map eGClass a0)), (5, some (.ls 0)), pf 6 (.int .i64 q.2)] [(0, some (.row 3 1 (List.map eI q.1)))] 1)) (fun k q => ref14_Chain_L1 a0 k q.1 q.2 = some lr72) ([], y3) (impz [0]) hF (fun q h => by cases h) ?_
  clear hF
  rintro k ⟨x25, x26⟩ hF ih
  refine rnd_succ ?_
  refine aw_seq ?_
  refine aw_seq ?_
  obtain ⟨x52, hF, hK54⟩ := bs hF
  refine ctx (sX 37 [pf 0 (.vs 7 (List.map eGClass a0)), (5, some (.ls 0)), pf 6 (.int .i64 x26), pf 17 (.bool x52)] [(0, some (.row 3 1 (List.map eI x25)))] 1) ?_ ?_
  ·iterate 4 refine go ?_
   rcases ie hF with ⟨hb49, hF⟩ | ⟨hb49, hF⟩
   ·iterate 2 refine gn hb49 ?_
    obtain ⟨y50, h51, hF⟩ := bs hF
    refine rgn hb49 (op_callB 1 rfl (caps := []) (args := [.vs 1 (List.map eI x25), .int .i64 x26]) [(0, some (.row 3 1 (List.map eI x25)))] rfl rfl rfl (FzH.spec ⟨rfl, trivial⟩) rfl rfl cal_157 (ref14_has_ok h51) rfl rfl rfl) ?_
    refine gn hb49 ?_
    refine rpt hb49 ?_
    cases hF
    exact rcz [0]
   iterate 4 refine rgo_f hb49 ?_
   refine rpf hb49 ?_
   cases hF
   exact rcz [0]
  have hF := hK54
  refine go ?_
  refine cnd hF (fun hb55 hF => ?_) fun hb55 hF => ?_
  ·iterate 2 refine go ?_
   refine aw_block ?_
   iterate 3 refine go ?_
   refine rgp (op_lit (rows := List.map eI ([x26] : List Int)) (zs := [.int .i64 0]) rfl rfl slc_75 zer_3 (by exact ⟨rfl, trivial⟩) rfl rfl rfl rfl rfl rfl rfl rfl) ?_
   obtain ⟨u58, h59, hF⟩ := bs hF
   refine rgp (op_append 1 rfl rfl rfl rfl rfl slc_75 elm_3 zer_3 rfl rfl rfl (room_map (f := eI) (g := eI) h59) (List.map_append (f := eI) (l₁ := x25) (l₂ := [x26])).symm rfl rfl) ?_
   iterate 6 refine go ?_
   obtain ⟨y62, h63, hF⟩ := bs hF
   refine rgp (ix (idx_map eGClass h63) slc_22) ?_
   iterate 2 refine go ?_
   refine rgp (op_str rfl rfl rfl rfl rfl rfl) ?_
   refine go ?_
   refine cnd hF (fun hb64 hF => ?_) fun hb64 hF => ?_
   ·iterate 8 refine go ?_
    refine post_lp_ret ?_
    cases hF
    have hF := elim_stop hK73
    refine go ?_
    cases hF
    exact post_ret rfl rfl (.cons _ _ _ _ _ (.tmp _ _ rfl) (.own _ _ _ _ rfl nolent3) .nil) (.inl rfl)
   iterate 6 refine go ?_
   obtain ⟨y65, h66, hF⟩ := bs hF
   refine rgp (ix (idx_map eGClass h66) slc_22) ?_
   iterate 2 refine go ?_
   obtain ⟨y67, h68, hF⟩ := bs hF
   refine rgp (cl 2 [.vs 7 (List.map eGClass a0), .str y65.fSuper] [.p (.int .i64 y67)] (ref13_Find_ok h68)) ?_
   refine go ?_
   refine reg_nil ?_
   refine piz (sX 37 [pf 0 (.vs 7 (List.map eGClass a0)), (5, some (.ls 0)), pf 6 (.int .i64 y67)] [(0, some (.row 3 1 (List.map eI (x25 ++ [x26]))))] 1) [1] ?_
   refine go ?_
   refine post_round ?_
   exact rnd_back (ih ((x25 ++ [x26]), y67) hF) (impz [0])
  refine aw_exit ?_
  iterate 2 refine post_then_exit ?_
  cases hF
  exact post_lp_break _ ⟨_, rfl, rfl⟩ (impz [0])
 rintro _ ⟨x71, rfl, rfl⟩
 have hF := elim_next hK73
 clear hK73
 iterate 6 refine go ?_
 cases hF
 exact post_ret rfl rfl (.cons _ _ _ _ _ (.tmp _ _ rfl) (.own _ _ _ _ rfl nolent3) .nil) (.inl rfl)
theorem ref17_own_ok {a0 : GClass} {a1 : List UInt8} {r : GFound_ref17 × Bool} (hF : ref17_own a0 a1 = some r) : FZ 180 [.agg (eGClass a0), .str a1] [.p (.agg (eGFound_ref17 r.1)), .p (.bool r.2)] := by
 unfold ref17_own at hF
 refine fn_of_body (n := 31) Tryz.func180 rfl rfl rfl fun w O => ?_
 refine go ?_
 refine rgp (bo 0) ?_
 refine rgp (al 1 (eGFound_ref17 zGFound_ref17) zer_192) ?_
 iterate 6 refine go ?_
 obtain ⟨lr28, hF, hK29⟩ := bs hF
 refine aw_for ((a0.fMethods.length - 0 : Int).toNat + 1) (fun s1 => ∃ q, lr28 = .next q ∧ s1 = (sX 31 [(4, some (.lp 0 0))] [bf 0 192 (eGFound_ref17 zGFound_ref17)] 1)) ?_ ?_
 ·refine rnd_loop (α := Int) (fun q => (sX 31 [pf 1 (.str a1), (2, some (.lp 0 0)), (4, some (.lp 1 0)), pf 6 (.int .i64 q)] [bf 0 32 (eGClass a0), bf 1 192 (eGFound_ref17 zGFound_ref17)] 2)) (fun k q => ref17_own_L1 a0 a1 k q = some lr28) 0 (impz [0, 1]) hF (fun q h => by cases h) ?_
  clear hF
  rintro k x9 hF ih
  refine rnd_succ ?_
  iterate 8 refine go ?_
  refine cnd hF (fun hb19 hF => ?_) fun hb19 hF => ?_
  ·iterate 2 refine go ?_
   refine aw_seq ?_
   refine aw_block ?_
   iterate 4 refine go ?_
   obtain ⟨y22, h23, hF⟩ := bs hF
   refine rgp (ix (idx_map eGMethod h23) slc_30) ?_
   iterate 3 refine go ?_
   refine rgp (op_str rfl rfl rfl rfl rfl rfl) ?_
   refine go ?_
   refine cnd hF (fun hb24 hF => ?_) fun hb24 hF => ?_
   ·refine aw_seq ?_
    refine dr_start ⟨_, _, _⟩ rfl ?_
    iterate 5 refine dgo ?_
    obtain ⟨y25, h26, hF⟩ := bs hF
    refine dr_cons { need := [(25, .pv (.vs 17 (List.map eGMethod a0.fMethods))), (26, .pv (.int .i64 x9))], dst := some 27, val := some (.pv (.vp (eGMethod y25))) } (fun m h => step_on (guard_no rfl) (op_index_vs (k := .i64) rfl h.1.1 h.1.2.1 (idx_map eGMethod h26) slc_30 rfl rfl) rfl) ⟨⟨rfl, rfl, trivial⟩, trivial, trivial⟩ ?_
    refine dr_cons { need := [(27, .pv (.vp (eGMethod y25)))], dst := some 28, val := some (.pv (.agg (eGMethod y25))) } (fun m h => step_on (guard_no rfl) (op_load_vp_agg (ps := eGMethod y25) rfl h.1.1 rfl rfl agg_40 rfl rfl) rfl) ⟨⟨rfl, trivial⟩, trivial, trivial⟩ ?_
    refine dr_cons { need := [(28, .pv (.agg (eGMethod y25))), (23, .pv (.str a0.fName))], dst := some 29, val := some (.pv (.agg (eGFound_ref17 ({ fClass := a0.fName, fMethod := y25 } : GFound_ref17)))) } (fun m h => step_on (guard_no rfl) (op_build (zs := (eGFound_ref17 zGFound_ref17)) (r := eGFound_ref17 ({ fClass := a0.fName, fMethod := y25 } : GFound_ref17)) rfl zer_192 (by exact ⟨rfl, rfl, rfl, rfl, rfl, rfl, rfl, rfl, rfl, rfl, rfl, rfl, rfl, rfl, trivial, trivial, trivial, rfl, trivial⟩) plc_192 (evs_cons h.1.2.1 (evs_cons h.1.1 evs_nil)) rfl rfl rfl) rfl) ⟨⟨rfl, rfl, trivial⟩, trivial, trivial⟩ ?_
    refine dr_cons { need := [(4, .lp 1 0), (29, .pv (.agg (eGFound_ref17 ({ fClass := a0.fName, fMethod := y25 } : GFound_ref17))))], hneed := [(1, .box 192 (bxv (eGFound_ref17 zGFound_ref17)))], upd := [(1, some (.box 192 (bxv (eGFound_ref17 ({ fClass := a0.fName, fMethod := y25 } : GFound_ref17)))))] } (fun m h => step_on (guard_no rfl) (op_store_lp (n := 18) rfl h.1.1 h.1.2.1 rfl h.2.1.1 (or_agg agg_192) (by rw [non_192]; rfl) rfl rfl rfl) rfl) ⟨⟨rfl, rfl, trivial⟩, ⟨rfl, trivial⟩, trivial⟩ ?_
    refine dr_cons { dst := some 5, val := some (.pv (.bool true)) } (fun m h => step_on (guard_no rfl) (op_assign rfl rfl rfl rfl) rfl) ⟨trivial, trivial, trivial⟩ ?_
    refine dr_nil mixed rfl (by kernel_rfl) ?_
    refine piz (sX 31 [(4, some (.lp 0 0)), pf 5 (.bool true)] [bf 0 192 (eGFound_ref17 ({ fClass := a0.fName, fMethod := y25 } : GFound_ref17))] 1) [1] ?_
    iterate 5 refine go ?_
    refine post_lp_ret ?_
    cases hF
    have hF := elim_stop hK29
    refine go ?_
    cases hF
    exact post_ret rfl rfl (.cons _ _ _ _ _ (.agg _ _ _ _ _ 18 _ _ rfl rfl agg_192 rfl rfl rfl) (.p _) (.cons _ _ _ _ _ (.tmp _ _ rfl) (.p _) .nil)) (.inl rfl)
   iterate 7 refine go ?_
   refine rnr ?_
   exact rnd_back (ih (w_i64 (x9 + 1)) hF) (impz [0, 1])
  refine aw_exit ?_
  iterate 2 refine post_then_exit ?_
  cases hF
  exact post_lp_break _ ⟨_, rfl, rfl⟩ (impz [1])
 rintro _ ⟨⟨⟩, rfl, rfl⟩
 have hF := elim_next hK29
 clear hK29
 iterate 2 refine go ?_
 refine rgp (bd ((eGFound_ref17 zGFound_ref17)) (eGFound_ref17 ({ fClass := [], fMethod := zGMethod } : GFound_ref17)) zer_192 plc_192) ?_
 iterate 4 refine go ?_
 cases hF
 exact post_ret rfl rfl (.cons _ _ _ _ _ (.agg _ _ _ _ _ 18 _ _ rfl rfl agg_192 rfl rfl rfl) (.p _) (.cons _ _ _ _ _ (.tmp _ _ rfl) (.p _) .nil)) (.inl rfl)
theorem ref17_among_ok {a0 : List GClass} {a1 : List Int} {a2 : List UInt8} {r : GFound_ref17 × Bool} (hF : ref17_among a0 a1 a2 = some r) : FZ 155 [.vs 7 (List.map eGClass a0), .vs 1 (List.map eI a1), .str a2] [.p (.agg (eGFound_ref17 r.1)), .p (.bool r.2)] := by
 unfold ref17_among at hF
 refine fn_of_body (n := 32) Tryz.func155 rfl rfl rfl fun w O => ?_
 refine go ?_
 refine rgp (al 0 (eGFound_ref17 zGFound_ref17) zer_192) ?_
 iterate 6 refine go ?_
 obtain ⟨lr46, hF, hK47⟩ := bs hF
 refine aw_for ((a1.length - 0 : Int).toNat + 1) (fun s1 => ∃ q, lr46 = .next q ∧ s1 = (sX 32 [(6, some (.lp 0 0))] [bf 0 192 (eGFound_ref17 zGFound_ref17)] 1)) ?_ ?_
 ·refine rnd_loop (α := Int) (fun q => (sX 32 [pf 0 (.vs 7 (List.map eGClass a0)), pf 1 (.vs 1 (List.map eI a1)), pf 2 (.str a2), (6, some (.lp 0 0)), pf 8 (.int .i64 q)] [bf 0 192 (eGFound_ref17 zGFound_ref17)] 1)) (fun k q => ref17_among_L1 a0 a1 a2 k q = some lr46) 0 (impz [0]) hF (fun q h => by cases h) ?_
  clear hF
  rintro k x15 hF ih
  refine rnd_succ ?_
  iterate 7 refine go ?_
  refine cnd hF (fun hb31 hF => ?_) fun hb31 hF => ?_
  ·iterate 2 refine go ?_
   refine aw_seq ?_
   refine aw_block ?_
   iterate 4 refine go ?_
   obtain ⟨y38, h39, hF⟩ := bs hF
   refine rgp (ix (idx_map eI h39) slc_75) ?_
   refine go ?_
   obtain ⟨y40, h41, hF⟩ := bs hF
   refine rgp (ix (idx_map eGClass h41) slc_22) ?_
   refine rgp (lw (eGClass y40) agg_32) ?_
   refine go ?_
   obtain ⟨y42, h43, hF⟩ := bs hF
   refine rgp (cl 1 [.agg (eGClass y40), .str a2] [.p (.agg (eGFound_ref17 y42.1)), .p (.bool y42.2)] (ref17_own_ok h43)) ?_
   refine go ?_
   iterate 2 (refine rgp (op_extract rfl rfl rfl rfl rfl) ?_)
   refine rgp (al 1 (eGFound_ref17 zGFound_ref17) zer_192) ?_
   iterate 6 refine go ?_
   refine cnd hF (fun hb44 hF => ?_) fun hb44 hF => ?_
   ·refine go ?_
    refine rgp (la (eGFound_ref17 y42.1) agg_192) ?_
    iterate 7 refine go ?_
    refine post_lp_ret ?_
    cases hF
    have hF := elim_stop hK47
    refine go ?_
    cases hF
    exact post_ret rfl rfl (.cons _ _ _ _ _ (.agg _ _ _ _ _ 18 _ _ rfl rfl agg_192 rfl rfl rfl) (.p _) (.cons _ _ _ _ _ (.tmp _ _ rfl) (.p _) .nil)) (.inl rfl)
   iterate 7 refine go ?_
   refine rnr ?_
   exact rnd_back (ih (w_i64 (x15 + 1)) hF) (impz [0])
  refine aw_exit ?_
  iterate 2 refine post_then_exit ?_
  cases hF
  exact post_lp_break _ ⟨_, rfl, rfl⟩ (impz [0])
 rintro _ ⟨⟨⟩, rfl, rfl⟩
 have hF := elim_next hK47
 clear hK47
 iterate 2 refine go ?_
 refine rgp (bd ((eGFound_ref17 zGFound_ref17)) (eGFound_ref17 ({ fClass := [], fMethod := zGMethod } : GFound_ref17)) zer_192 plc_192) ?_
 iterate 4 refine go ?_
 cases hF
 exact post_ret rfl rfl (.cons _ _ _ _ _ (.agg _ _ _ _ _ 18 _ _ rfl rfl agg_192 rfl rfl rfl) (.p _) (.cons _ _ _ _ _ (.tmp _ _ rfl) (.p _) .nil)) (.inl rfl)
theorem ref17_Find_ok {a0 : List GClass} {a1 : List UInt8} {a2 : List UInt8} {r : GFound_ref17 × Bool} (hF : ref17_Find a0 a1 a2 = some r) : FZ 135 [.vs 7 (List.map eGClass a0), .str a1, .str a2] [.p (.agg (eGFound_ref17 r.1)), .p (.bool r.2)] := by
 unfold ref17_Find at hF
 refine fn_of_body (n := 16) Tryz.func135 rfl rfl rfl fun w O => ?_
 refine go ?_
 refine rgp (al 0 (eGFound_ref17 zGFound_ref17) zer_192) ?_
 iterate 6 refine go ?_
 obtain ⟨y1, h2, hF⟩ := bs hF
 refine rgp (cl 1 [.vs 7 (List.map eGClass a0), .str a1] [.p (.vs 1 (List.map eI y1))] (Fn.frozen (ref14_Chain_ok h2))) ?_
 refine go ?_
 obtain ⟨y3, h4, hF⟩ := bs hF
 refine rgp (cl 1 [.vs 7 (List.map eGClass a0), .vs 1 (List.map eI y1), .str a2] [.p (.agg (eGFound_ref17 y3.1)), .p (.bool y3.2)] (ref17_among_ok h4)) ?_
 iterate 2 (refine rgp (op_extract rfl rfl rfl rfl rfl) ?_)
 iterate 4 refine go ?_
 cases hF
 exact post_ret rfl rfl (.cons _ _ _ _ _ (.agg _ _ _ _ _ 18 _ _ rfl rfl agg_192 rfl rfl rfl) (.p _) (.cons _ _ _ _ _ (.tmp _ _ rfl) (.p _) .nil)) (.inl rfl)
theorem ref20_Callee_ok {a0 : GPlace_ref20} {a1 : GStmt} {r : GFound_ref17 × Bool} (hF : ref20_Callee a0 a1 = some r) : FZ 107 [.agg (eGPlace_ref20 a0), .agg (eGStmt a1)] [.p (.agg (eGFound_ref17 r.1)), .p (.bool r.2)] := by
 unfold ref20_Callee at hF
 refine fn_of_body (n := 31) Tryz.func107 rfl rfl rfl fun w O => ?_
 refine go ?_
 refine rgp (bo 0) ?_
 refine rgp (bo 1) ?_
 refine rgp (al 2 (eGFound_ref17 zGFound_ref17) zer_192) ?_
 iterate 3 refine go ?_
 refine rgp (la (eGPlace_ref20 a0) agg_42) ?_
 refine rgp (la (eGStmt a1) agg_48) ?_
 obtain ⟨y3, h4, hF⟩ := bs hF
 refine rgp (cl 3 [.agg (eGPlace_ref20 a0), .agg (eGStmt a1)] [.p (.agg (eGType y3.1)), .p (.int .i64 y3.2)] (ref20_object_ok h4)) ?_
 refine go ?_
 iterate 2 (refine rgp (op_extract rfl rfl rfl rfl rfl) ?_)
 refine rgp (al 3 (eGType zGType) zer_37) ?_
 iterate 3 refine go ?_
 refine aw_seq ?_
 refine aw_seq ?_
 obtain ⟨x6, hF, hK8⟩ := bs hF
 refine ctx (sX 31 [(2, some (.lp 0 0)), (3, some (.lp 1 0)), (4, some (.lp 2 0)), (6, some (.lp 3 0)), pf 20 (.bool x6)] [bf 0 42 (eGPlace_ref20 a0), bf 1 48 (eGStmt a1), bf 2 192 (eGFound_ref17 zGFound_ref17), bf 3 37 (eGType y3.1)] 4) ?_ ?_
 ·iterate 4 refine go ?_
  rcases ie hF with ⟨hb5, hF⟩ | ⟨hb5, hF⟩
  ·refine rgo_t hb5 ?_
   iterate 2 refine rgo_t hb5 ?_
   refine rpt hb5 ?_
   cases hF
   exact rcz [0, 1, 2, 3]
  iterate 3 refine gn hb5 ?_
  refine rpf hb5 ?_
  cases hF
  exact rcz [0, 1, 2, 3]
 have hF := hK8
 refine go ?_
 refine cnd hF (fun hb9 hF => ?_) fun hb9 hF => ?_
 ·refine go ?_
  refine rgp (bd ((eGFound_ref17 zGFound_ref17)) (eGFound_ref17 ({ fClass := [], fMethod := zGMethod } : GFound_ref17)) zer_192 plc_192) ?_
  iterate 5 refine go ?_
  cases hF
  exact post_ret rfl rfl (.cons _ _ _ _ _ (.agg _ _ _ _ _ 18 _ _ rfl rfl agg_192 rfl rfl rfl) (.p _) (.cons _ _ _ _ _ (.tmp _ _ rfl) (.p _) .nil)) (.inl rfl)
 iterate 9 refine go ?_
 obtain ⟨y10, h11, hF⟩ := bs hF
 refine rgp (cl 4 [.vs 7 (List.map eGClass a0.fP), .str y3.1.fClass, .str a1.fName] [.p (.agg (eGFound_ref17 y10.1)), .p (.bool y10.2)] (ref17_Find_ok h11)) ?_
 iterate 2 (refine rgp (op_extract rfl rfl rfl rfl rfl) ?_)
 iterate 4 refine go ?_
 cases hF
 exact post_ret rfl rfl (.cons _ _ _ _ _ (.agg _ _ _ _ _ 18 _ _ rfl rfl agg_192 rfl rfl rfl) (.p _) (.cons _ _ _ _ _ (.tmp _ _ rfl) (.p _) .nil)) (.inl rfl)
theorem ref23_takes_ok {a0 : GPlace_ref20} {a1 : GStmt} {r : (List Int)} (hF : ref23_takes a0 a1 = some r) : FZ 76 [.agg (eGPlace_ref20 a0), .agg (eGStmt a1)] [.own 3 1 (List.map eI r)] := by
 unfold ref23_takes at hF
 refine fn_of_body (n := 123) Tryz.func76 rfl rfl rfl fun w O => ?_
 refine go ?_
 refine rgp (bo 0) ?_
 refine rgp (bo 1) ?_
 iterate 4 refine go ?_
 refine reg_imp (imp_nil_own 5 3 1 2 rfl rfl) ?_
 refine go ?_
 refine aw_seq ?_
 obtain ⟨x10, hF, hK12⟩ := bs hF
 refine ctx (sX 123 [(2, some (.lp 0 0)), (3, some (.lp 1 0)), (5, some (.ls 2))] [bf 0 42 (eGPlace_ref20 a0), bf 1 48 (eGStmt a1), (2, some (.row 3 1 (List.map eI x10)))] 3) ?_ ?_
 ·refine aw_seq ?_
  obtain ⟨x2, hF, hK4⟩ := bs hF
  refine ctx (sX 123 [(2, some (.lp 0 0)), (3, some (.lp 1 0)), (5, some (.ls 2)), pf 18 (.bool x2)] [bf 0 42 (eGPlace_ref20 a0), bf 1 48 (eGStmt a1), (2, some (.row 3 1 (List.map eI [])))] 3) ?_ ?_
  ·iterate 5 refine go ?_
   rcases ie hF with ⟨hb1, hF⟩ | ⟨hb1, hF⟩
   ·refine rgo_t hb1 ?_
    iterate 2 refine rgo_t hb1 ?_
    refine rpt hb1 ?_
    cases hF
    exact rcz [0, 1, 2]
   iterate 3 refine gn hb1 ?_
   refine rpf hb1 ?_
   cases hF
   exact rcz [0, 1, 2]
  have hF := hK4
  refine go ?_
  refine cnd hF (fun hb5 hF => ?_) fun hb5 hF => ?_
  ·iterate 3 refine go ?_
   refine rgp (la (eGMethod a0.fM) agg_40) ?_
   iterate 2 refine go ?_
   obtain ⟨y6, h7, hF⟩ := bs hF
   refine rgp (cl 3 [.agg (eGMethod a0.fM), .str a1.fY] [.p (.int .i64 y6)] (ref23_place_ok h7)) ?_
   refine rgp (op_lit (rows := List.map eI ([y6] : List Int)) (zs := [.int .i64 0]) rfl rfl slc_75 zer_3 (by exact ⟨rfl, trivial⟩) rfl rfl rfl rfl rfl rfl rfl rfl) ?_
   obtain ⟨u8, h9, hF⟩ := bs hF
   refine rgp (op_append 3 rfl rfl rfl rfl rfl slc_75 elm_3 zer_3 rfl rfl rfl (room_map (f := eI) (g := eI) h9) (List.map_append (f := eI) (l₁ := []) (l₂ := [y6])).symm rfl rfl) ?_
   refine go ?_
   cases hF
   exact rcz [0, 1, 3]
  refine go ?_
  cases hF
  exact pcz [0, 1, 2]
 have hF := hK12
 iterate 2 refine go ?_
 refine rgp (la (eGPlace_ref20 a0) agg_42) ?_
 refine rgp (la (eGStmt a1) agg_48) ?_
 obtain ⟨y15, h16, hF⟩ := bs hF
 refine rgp (cl 3 [.agg (eGPlace_ref20 a0), .agg (eGStmt a1)] [.p (.agg (eGFound_ref17 y15.1)), .p (.bool y15.2)] (ref20_Callee_ok h16)) ?_
 refine go ?_
 iterate 2 (refine rgp (op_extract rfl rfl rfl rfl rfl) ?_)
 refine rgp (al 3 (eGFound_ref17 zGFound_ref17) zer_192) ?_
 iterate 7 refine go ?_
 obtain ⟨x107, hF, hK108⟩ := bs hF
 refine aw_for (a1.fArgs.length + 1) (fun s1 => s1 = (sX 123 [(2, some (.lp 0 0)), (3, some (.lp 1 0)), (5, some (.ls 2))] [bf 0 42 (eGPlace_ref20 a0), bf 1 48 (eGStmt a1), (2, some (.row 3 1 (List.map eI x107)))] 3)) ?_ ?_
 ·refine rnd_loop (α := (List Int) × Int) (fun q => (sX 123 [(2, some (.lp 0 0)), (3, some (.lp 1 0)), (5, some (.ls 2)), (6, some (.lp 3 0)), pf 7 (.bool y15.2), pf 8 (.int .i64 q.2)] [bf 0 42 (eGPlace_ref20 a0), bf 1 48 (eGStmt a1), (2, some (.row 3 1 (List.map eI q.1))), bf 3 192 (eGFound_ref17 y15.1)] 4)) (fun k q => ref23_takes_L1 a0 a1 y15 k q.1 q.2 = some x107) (x10, 0) (impz [0, 1, 2, 3]) hF (fun q h => by cases h) ?_
  clear hF
  rintro k ⟨x45, x46⟩ hF ih
  refine rnd_succ ?_
  refine aw_seq ?_
  refine aw_seq ?_
  obtain ⟨x79, hF, hK81⟩ := bs hF
  refine ctx (sX 123 [(2, some (.lp 0 0)), (3, some (.lp 1 0)), (5, some (.ls 2)), (6, some (.lp 3 0)), pf 7 (.bool y15.2), pf 8 (.int .i64 x46), pf 48 (.bool x79)] [bf 0 42 (eGPlace_ref20 a0), bf 1 48 (eGStmt a1), (2, some (.row 3 1 (List.map eI x45))), bf 3 192 (eGFound_ref17 y15.1)] 4) ?_ ?_
  ·iterate 4 refine go ?_
   refine rgp (op_len_vs (n := a1.fArgs.length) rfl rfl (lenR eLGExpr_map) slc_44 rfl rfl) ?_
   iterate 2 refine go ?_
   rcases ie hF with ⟨hb77, hF⟩ | ⟨hb77, hF⟩
   ·refine gn hb77 ?_
    refine rpt hb77 ?_
    refine go ?_
    rcases ie hF with ⟨hb78, hF⟩ | ⟨hb78, hF⟩
    ·iterate 6 refine gn hb78 ?_
     refine rpt hb78 ?_
     cases hF
     exact rcz [0, 1, 2, 3]
    iterate 6 refine rgo_f hb78 ?_
    refine rpf hb78 ?_
    cases hF
    exact rcz [0, 1, 2, 3]
   refine rgo_f hb77 ?_
   refine rpf hb77 ?_
   refine go ?_
   iterate 6 refine rgo_f rfl ?_
   refine rpf rfl ?_
   cases hF
   exact rcz [0, 1, 2, 3]
  have hF := hK81
  refine go ?_
  refine cnd hF (fun hb82 hF => ?_) fun hb82 hF => ?_
  ·iterate 2 refine go ?_
   refine aw_seq ?_
   obtain ⟨x102, hF, hK104⟩ := bs hF
   refine ctx (sX 123 [(2, some (.lp 0 0)), (3, some (.lp 1 0)), (5, some (.ls 2)), (6, some (.lp 3 0)), pf 7 (.bool y15.2), pf 8 (.int .i64 x46)] [bf 0 42 (eGPlace_ref20 a0), bf 1 48 (eGStmt a1), (2, some (.row 3 1 (List.map eI x102))), bf 3 192 (eGFound_ref17 y15.1)] 4) ?_ ?_
   ·refine aw_block ?_
    refine aw_seq ?_
    obtain ⟨x92, hF, hK94⟩ := bs hF
    refine ctx (sX 123 [(2, some (.lp 0 0)), (3, some (.lp 1 0)), (5, some (.ls 2)), (6, some (.lp 3 0)), pf 7 (.bool y15.2), pf 8 (.int .i64 x46), pf 67 (.bool x92)] [bf 0 42 (eGPlace_ref20 a0), bf 1 48 (eGStmt a1), (2, some (.row 3 1 (List.map eI x45))), bf 3 192 (eGFound_ref17 y15.1)] 4) ?_ ?_
    ·iterate 4 refine go ?_
     obtain ⟨y85, h86, hF⟩ := bs hF
     refine rgp (ix (idxR eLGExpr_map h86) slc_44) ?_
     iterate 4 refine go ?_
     rcases ie hF with ⟨hb87, hF⟩ | ⟨hb87, hF⟩
     ·iterate 4 refine gn hb87 ?_
      obtain ⟨y88, h89, hF⟩ := bs hF
      refine rgn hb87 (ix (idx_map eGVar h89) slc_29) ?_
      refine gn hb87 ?_
      refine rgn hb87 (lw (eGType y88.fType) agg_37) ?_
      obtain ⟨y90, h91, hF⟩ := bs hF
      refine rgn hb87 (cl 4 [.agg (eGType y88.fType)] [.p (.bool y90)] (ref05_Unique_ok h91)) ?_
      refine rpt hb87 ?_
      cases hF
      exact rcz [0, 1, 2, 3]
     iterate 8 refine rgo_f hb87 ?_
     refine rpf hb87 ?_
     cases hF
     exact rcz [0, 1, 2, 3]
    have hF := hK94
    refine go ?_
    refine cnd hF (fun hb95 hF => ?_) fun hb95 hF => ?_
    ·refine aw_imp (imp_names 1) ?_
     refine dr_start ⟨_, _, _⟩ rfl ?_
     iterate 2 refine dgo ?_
     refine dr_cons { need := [(69, .lp 0 8)], hneed := [(0, .box 42 (bxv (eGPlace_ref20 a0)))], dst := some 70, val := some (.pv (.agg (eGMethod a0.fM))) } (fun m h => step_on (guard_no rfl) (op_load_lp_agg (ps := eGMethod a0.fM) rfl h.1.1 h.2.1.1 rfl rfl rfl agg_40 rfl rfl) rfl) ⟨⟨rfl, trivial⟩, ⟨rfl, trivial⟩, trivial⟩ ?_
     iterate 3 refine dgo ?_
     obtain ⟨y96, h97, hF⟩ := bs hF
     refine dr_cons { need := [(72, .pv (.vs 4 (eLGExpr a1.fArgs))), (73, .pv (.int .i64 x46))], dst := some 74, val := some (.pv (.vp (eGExpr y96))) } (fun m h => step_on (guard_no rfl) (op_index_vs (k := .i64) rfl h.1.1 h.1.2.1 (idxR eLGExpr_map h97) slc_44 rfl rfl) rfl) ⟨⟨rfl, rfl, trivial⟩, trivial, trivial⟩ ?_
     refine dr_cons { need := [(74, .pv (.vp (eGExpr y96)))], dst := some 75, val := some (.pv (.vp (List.drop 2 (eGExpr y96)))) } (fun m h => step_on (guard_no rfl) (op_field_vp rfl h.1.1 fld_46_2 rfl rfl) rfl) ⟨⟨rfl, trivial⟩, trivial, trivial⟩ ?_
     refine dr_cons { need := [(75, .pv (.vp (List.drop 2 (eGExpr y96))))], dst := some 76, val := some (.pv (.str y96.fName)) } (fun m h => step_on (guard_no rfl) (op_load_vp (p := .str y96.fName) rfl h.1.1 rfl one_9 rfl rfl) rfl) ⟨⟨rfl, trivial⟩, trivial, trivial⟩ ?_
     obtain ⟨y98, h99, hF⟩ := bs hF
     refine dr_cons { need := [(76, .pv (.str y96.fName)), (70, .pv (.agg (eGMethod a0.fM)))], dst := some 77, val := some (.pv (.int .i64 y98)) } (fun m h => step_on (guard_no rfl) (op_call 5 rfl (caps := []) (args := [.agg (eGMethod a0.fM), .str y96.fName]) (rs := [.p (.int .i64 y98)]) rfl rfl (evl_cons h.1.2.1 (evl_cons h.1.1 evl_nil)) cal_42 (ref23_place_ok h99) rfl rfl rfl) rfl) ⟨⟨rfl, rfl, trivial⟩, trivial, trivial⟩ ?_
     refine dr_cons { need := [(77, .pv (.int .i64 y98))], dst := some 78, val := some (.pv (.vs 1 (List.map eI [y98]))) } (fun m h => step_on (guard_no rfl) (op_lit (rows := List.map eI ([y98] : List Int)) (zs := [.int .i64 0]) rfl rfl slc_75 zer_3 (by exact ⟨rfl, trivial⟩) rfl rfl rfl (evs_cons h.1.1 evs_nil) rfl rfl rfl rfl) rfl) ⟨⟨rfl, trivial⟩, trivial, trivial⟩ ?_
     obtain ⟨u100, h101, hF⟩ := bs hF
     refine dr_cons { need := [(68, .ls 2), (78, .pv (.vs 1 (List.map eI [y98])))], hneed := [(2, .row 3 1 (List.map eI x45))], names := [4], dst := some 79, val := some (.ls 4), upd := [(4, some (.row 3 1 (List.map eI (x45 ++ [y98])))), (2, none)] } (fun m h => step_on (guard_no rfl) (op_append 4 (fresh_free h.2.2.1) rfl h.1.1 h.2.1.1 h.1.2.1 slc_75 elm_3 zer_3 rfl rfl rfl (room_map (f := eI) (g := eI) h101) (List.map_append (f := eI) (l₁ := x45) (l₂ := [y98])).symm rfl rfl) rfl) ⟨⟨rfl, rfl, trivial⟩, ⟨rfl, trivial⟩, ⟨rfl, trivial⟩⟩ ?_
     refine dr_cons { need := [(79, .ls 4)], dst := some 5, val := some (.ls 4) } (fun m h => step_on (guard_no rfl) (op_assign rfl h.1.1 rfl rfl) rfl) ⟨⟨rfl, trivial⟩, trivial, trivial⟩ ?_
     refine dr_nil mixed rfl (by kernel_rfl) ?_
     refine piz (sX 123 [(2, some (.lp 0 0)), (3, some (.lp 1 0)), (5, some (.ls 2)), (6, some (.lp 3 0)), pf 7 (.bool y15.2), pf 8 (.int .i64 x46)] [bf 0 42 (eGPlace_ref20 a0), bf 1 48 (eGStmt a1), (2, some (.row 3 1 (List.map eI (x45 ++ [y98])))), bf 3 192 (eGFound_ref17 y15.1)] 4) [0, 1, 4, 3] ?_
     refine go ?_
     cases hF
     exact pcz [0, 1, 2, 3]
    iterate 2 refine go ?_
    cases hF
    exact pcz [0, 1, 2, 3]
   have hF := hK104
   iterate 5 refine go ?_
   refine rnr ?_
   exact rnd_back (ih (x102, w_i64 (x46 + 1)) hF) (impz [0, 1, 2, 3])
  refine aw_exit ?_
  iterate 2 refine post_then_exit ?_
  cases hF
  exact post_lp_break _ rfl (impz [0, 1, 2])
 rintro _ rfl
 have hF := hK108
 refine go ?_
 refine aw_seq ?_
 obtain ⟨x121, hF, hK123⟩ := bs hF
 refine ctx (sX 123 [(5, some (.ls 0))] [(0, some (.row 3 1 (List.map eI x121)))] 1) ?_ ?_
 ·refine aw_seq ?_
  obtain ⟨x113, hF, hK115⟩ := bs hF
  refine ctx (sX 123 [(2, some (.lp 0 0)), (3, some (.lp 1 0)), (5, some (.ls 2)), pf 94 (.bool x113)] [bf 0 42 (eGPlace_ref20 a0), bf 1 48 (eGStmt a1), (2, some (.row 3 1 (List.map eI x107)))] 3) ?_ ?_
  ·iterate 5 refine go ?_
   rcases ie hF with ⟨hb109, hF⟩ | ⟨hb109, hF⟩
   ·iterate 2 refine gn hb109 ?_
    refine rgn hb109 (la (eGType a0.fM.fRet) agg_37) ?_
    obtain ⟨y110, h111, hF⟩ := bs hF
    refine rgn hb109 (cl 3 [.agg (eGType a0.fM.fRet)] [.p (.bool y110)] (ref05_Unique_ok h111)) ?_
    refine rpt hb109 ?_
    refine go ?_
    rcases ie hF with ⟨hb112, hF⟩ | ⟨hb112, hF⟩
    ·iterate 4 refine gn hb112 ?_
     refine rpt hb112 ?_
     cases hF
     exact rcz [0, 1, 2]
    iterate 4 refine rgo_f hb112 ?_
    refine rpf hb112 ?_
    cases hF
    exact rcz [0, 1, 2]
   iterate 4 refine rgo_f hb109 ?_
   refine rpf hb109 ?_
   refine go ?_
   iterate 4 refine rgo_f rfl ?_
   refine rpf rfl ?_
   cases hF
   exact rcz [0, 1, 2]
  have hF := hK115
  refine go ?_
  refine cnd hF (fun hb116 hF => ?_) fun hb116 hF => ?_
  ·iterate 3 refine go ?_
   refine rgp (la (eGMethod a0.fM) agg_40) ?_
   iterate 3 refine go ?_
   obtain ⟨y117, h118, hF⟩ := bs hF
   refine rgp (cl 3 [.agg (eGMethod a0.fM), .str a1.fE.fName] [.p (.int .i64 y117)] (ref23_place_ok h118)) ?_
   refine rgp (op_lit (rows := List.map eI ([y117] : List Int)) (zs := [.int .i64 0]) rfl rfl slc_75 zer_3 (by exact ⟨rfl, trivial⟩) rfl rfl rfl rfl rfl rfl rfl rfl) ?_
   obtain ⟨u119, h120, hF⟩ := bs hF
   refine rgp (op_append 3 rfl rfl rfl rfl rfl slc_75 elm_3 zer_3 rfl rfl rfl (room_map (f := eI) (g := eI) h120) (List.map_append (f := eI) (l₁ := x107) (l₂ := [y117])).symm rfl rfl) ?_
   refine go ?_
   cases hF
   exact rcz [3]
  refine go ?_
  cases hF
  exact pcz [2]
 have hF := hK123
 iterate 3 refine go ?_
 refine reg_imp (imp_nil_own 9 3 1 1 rfl rfl) ?_
 iterate 5 refine go ?_
 obtain ⟨x169, hF, hK170⟩ := bs hF
 refine aw_for ((x121.length - 0 : Int).toNat + 1) (fun s1 => s1 = (sX 123 [(9, some (.ls 0))] [(0, some (.row 3 1 (List.map eI x169)))] 1)) ?_ ?_
 ·refine rnd_loop (α := (List Int) × Int) (fun q => (sX 123 [(5, some (.ls 0)), (9, some (.ls 1)), pf 10 (.int .i64 q.2)] [(0, some (.row 3 1 (List.map eI x121))), (1, some (.row 3 1 (List.map eI q.1)))] 2)) (fun k q => ref23_takes_L2 x121 k q.1 q.2 = some x169) ([], 0) (impz [0, 1]) hF (fun q h => by cases h) ?_
  clear hF
  rintro k ⟨x137, x138⟩ hF ih
  refine rnd_succ ?_
  iterate 4 refine go ?_
  refine rgp (op_len_ls (n := x121.length) rfl rfl rfl (List.length_map ..) slc_75 rfl rfl) ?_
  iterate 2 refine go ?_
  refine cnd hF (fun hb154 hF => ?_) fun hb154 hF => ?_
  ·iterate 2 refine go ?_
   refine aw_seq ?_
   obtain ⟨x164, hF, hK166⟩ := bs hF
   refine ctx (sX 123 [(5, some (.ls 0)), (9, some (.ls 1)), pf 10 (.int .i64 x138)] [(0, some (.row 3 1 (List.map eI x121))), (1, some (.row 3 1 (List.map eI x164)))] 2) ?_ ?_
   ·refine aw_block ?_
    iterate 3 refine go ?_
    obtain ⟨y157, h158, hF⟩ := bs hF
    refine rgp (op_index_ls (k := .i64) rfl rfl rfl rfl (idx_map eI h158) slc_75 rfl rfl) ?_
    refine rgp (op_load_le (p := .int .i64 y157) rfl rfl rfl (map_get eI h158) rfl one_3 rfl rfl) ?_
    iterate 2 refine go ?_
    refine cnd hF (fun hb159 hF => ?_) fun hb159 hF => ?_
    ·iterate 4 refine go ?_
     obtain ⟨y160, h161, hF⟩ := bs hF
     refine rgp (op_index_ls (k := .i64) rfl rfl rfl rfl (idx_map eI h161) slc_75 rfl rfl) ?_
     refine rgp (op_load_le (p := .int .i64 y160) rfl rfl rfl (map_get eI h161) rfl one_3 rfl rfl) ?_
     refine rgp (op_lit (rows := List.map eI ([y160] : List Int)) (zs := [.int .i64 0]) rfl rfl slc_75 zer_3 (by exact ⟨rfl, trivial⟩) rfl rfl rfl rfl rfl rfl rfl rfl) ?_
     obtain ⟨u162, h163, hF⟩ := bs hF
     refine rgp (op_append 2 rfl rfl rfl rfl rfl slc_75 elm_3 zer_3 rfl rfl rfl (room_map (f := eI) (g := eI) h163) (List.map_append (f := eI) (l₁ := x137) (l₂ := [y160])).symm rfl rfl) ?_
     refine go ?_
     refine reg_nil ?_
     refine piz (sX 123 [(5, some (.ls 0)), (9, some (.ls 1)), pf 10 (.int .i64 x138)] [(0, some (.row 3 1 (List.map eI x121))), (1, some (.row 3 1 (List.map eI (x137 ++ [y160]))))] 2) [0, 2] ?_
     refine go ?_
     cases hF
     exact pcz [0, 1]
    iterate 2 refine go ?_
    cases hF
    exact pcz [0, 1]
   have hF := hK166
   iterate 5 refine go ?_
   refine rnr ?_
   exact rnd_back (ih (x164, w_i64 (x138 + 1)) hF) (impz [0, 1])
  refine aw_exit ?_
  iterate 2 refine post_then_exit ?_
  cases hF
  exact post_lp_break _ rfl (impz [1])
 rintro _ rfl
 have hF := hK170
 iterate 6 refine go ?_
 cases hF
 exact post_ret rfl rfl (.cons _ _ _ _ _ (.tmp _ _ rfl) (.own _ _ _ _ rfl nolent3) .nil) (.inl rfl)
theorem ref23_step_ok {a0 : GPlace_ref20} {a1 : GStmt} {a2 : List Bool} {r : (List Bool) × Bool} (hF : ref23_step a0 a1 a2 = some r) : FZ 43 [.agg (eGPlace_ref20 a0), .agg (eGStmt a1), .vs 1 (List.map eB a2)] [.own 4 1 (List.map eB r.1), .p (.bool r.2)] := by
 unfold ref23_step at hF
 refine fn_of_body (n := 81) Tryz.func43 rfl rfl rfl fun w O => ?_
 refine go ?_
 refine rgp (bo 0) ?_
 refine rgp (bo 1) ?_
 iterate 4 refine go ?_
 refine rgp (op_litOwn 2 rfl (rows := List.map eB ([] : List Bool)) (zs := [.bool false]) rfl rfl slc_101 zer_4 (by exact ⟨rfl, trivial⟩) rfl rfl rfl rfl rfl rfl rfl rfl) ?_
 refine go ?_
 obtain ⟨u3, h4, hF⟩ := bs hF
 refine rgp (op_append 3 rfl rfl rfl rfl rfl slc_101 elm_4 zer_4 rfl rfl rfl (room_map (f := eB) (g := eB) h4) (List.map_append (f := eB) (l₁ := ([] : List Bool)) (l₂ := a2)).symm rfl rfl) ?_
 iterate 6 refine go ?_
 refine rgp (la (eGPlace_ref20 a0) agg_42) ?_
 refine rgp (la (eGStmt a1) agg_48) ?_
 obtain ⟨y7, h8, hF⟩ := bs hF
 refine rgp (cl 4 [.agg (eGPlace_ref20 a0), .agg (eGStmt a1)] [.p (.vs 1 (List.map eI y7))] (Fn.frozen (ref23_takes_ok h8))) ?_
 iterate 6 refine go ?_
 obtain ⟨lr71, hF, hK72⟩ := bs hF
 refine aw_for ((y7.length - 0 : Int).toNat + 1) (fun s1 => s1 = (sX 81 [(3, some (.lp 0 0)), (4, some (.lp 1 0)), (8, some (.ls 2)), pf 9 (.bool lr71.2)] [bf 0 42 (eGPlace_ref20 a0), bf 1 48 (eGStmt a1), (2, some (.row 4 1 (List.map eB lr71.1)))] 3)) ?_ ?_
 ·refine rnd_loop (α := (List Bool) × Bool × Int) (fun q => (sX 81 [(3, some (.lp 0 0)), (4, some (.lp 1 0)), (8, some (.ls 2)), pf 9 (.bool q.2.1), pf 10 (.vs 1 (List.map eI y7)), pf 11 (.int .i64 q.2.2)] [bf 0 42 (eGPlace_ref20 a0), bf 1 48 (eGStmt a1), (2, some (.row 4 1 (List.map eB q.1)))] 3)) (fun k q => ref23_step_L1 y7 k q.1 q.2.1 q.2.2 = some lr71) ((([] : List Bool) ++ a2), true, 0) (impz [0, 1, 3]) hF (fun q h => by cases h) ?_
  clear hF
  rintro k ⟨x26, x27, x28⟩ hF ih
  refine rnd_succ ?_
  iterate 7 refine go ?_
  refine cnd hF (fun hb49 hF => ?_) fun hb49 hF => ?_
  ·iterate 2 refine go ?_
   refine aw_seq ?_
   refine aw_block ?_
   refine aw_seq ?_
   obtain ⟨x55, hF, hK57⟩ := bs hF
   refine ctx (sX 81 [(3, some (.lp 0 0)), (4, some (.lp 1 0)), (8, some (.ls 2)), pf 9 (.bool x55), pf 10 (.vs 1 (List.map eI y7)), pf 11 (.int .i64 x28)] [bf 0 42 (eGPlace_ref20 a0), bf 1 48 (eGStmt a1), (2, some (.row 4 1 (List.map eB x26)))] 3) ?_ ?_
   ·iterate 3 refine go ?_
    rcases ie hF with ⟨hb50, hF⟩ | ⟨hb50, hF⟩
    ·refine gn hb50 ?_
     iterate 2 (refine rgn hb50 (op_move rfl rfl rfl rfl) ?_)
     obtain ⟨y51, h52, hF⟩ := bs hF
     refine rgn hb50 (ix (idx_map eI h52) slc_75) ?_
     refine gn hb50 ?_
     obtain ⟨y53, h54, hF⟩ := bs hF
     refine rgn hb50 (op_index_ls (k := .i64) rfl rfl rfl rfl (idx_map eB h54) slc_101 rfl rfl) ?_
     refine rgn hb50 (op_load_le (p := .bool y53) rfl rfl rfl (map_get eB h54) rfl one_4 rfl rfl) ?_
     refine rpt hb50 ?_
     refine go ?_
     cases hF
     exact rcz [0, 1, 2]
    iterate 7 refine rgo_f hb50 ?_
    refine rpf hb50 ?_
    refine go ?_
    cases hF
    exact rcz [0, 1, 2]
   have hF := hK57
   iterate 5 refine go ?_
   obtain ⟨y62, h63, hF⟩ := bs hF
   refine rgp (ix (idx_map eI h63) slc_75) ?_
   refine go ?_
   obtain ⟨y64, h65, hF⟩ := bs hF
   refine rgp (op_index_ls (k := .i64) rfl rfl rfl rfl (idx_map eB h65) slc_101 rfl rfl) ?_
   refine rgp (op_store_le (n := 1) rfl rfl rfl rfl rfl (map_get eB h65) (or_one one_4) (by rw [one_4]; rfl) rfl (map_set' eB x26 _ false) rfl rfl) ?_
   refine reg_nil ?_
   refine piz (sX 81 [(3, some (.lp 0 0)), (4, some (.lp 1 0)), (8, some (.ls 2)), pf 9 (.bool x55), pf 10 (.vs 1 (List.map eI y7)), pf 11 (.int .i64 x28)] [bf 0 42 (eGPlace_ref20 a0), bf 1 48 (eGStmt a1), (2, some (.row 4 1 (List.map eB (x26.set (y62 : Int).toNat false))))] 3) [0, 1, 2] ?_
   iterate 6 refine go ?_
   refine rnr ?_
   exact rnd_back (ih ((x26.set (y62 : Int).toNat false), x55, w_i64 (x28 + 1)) hF) (impz [0, 1, 2])
  refine aw_exit ?_
  iterate 2 refine post_then_exit ?_
  cases hF
  exact post_lp_break _ rfl (impz [0, 1, 2])
 rintro _ rfl
 have hF := hK72
 obtain ⟨x69, x70⟩ := lr71
 iterate 3 refine go ?_
 refine rgp (la (eGMethod a0.fM) agg_40) ?_
 iterate 2 refine go ?_
 obtain ⟨y75, h76, hF⟩ := bs hF
 refine rgp (cl 3 [.agg (eGMethod a0.fM), .str a1.fY] [.p (.int .i64 y75)] (ref23_place_ok h76)) ?_
 iterate 2 refine go ?_
 refine aw_seq ?_
 obtain ⟨x85, hF, hK87⟩ := bs hF
 refine ctx (sX 81 [(3, some (.lp 0 0)), (4, some (.lp 1 0)), (8, some (.ls 2)), pf 9 (.bool x85)] [bf 0 42 (eGPlace_ref20 a0), bf 1 48 (eGStmt a1), (2, some (.row 4 1 (List.map eB x69)))] 3) ?_ ?_
 ·refine aw_seq ?_
  obtain ⟨x78, hF, hK80⟩ := bs hF
  refine ctx (sX 81 [(3, some (.lp 0 0)), (4, some (.lp 1 0)), (8, some (.ls 2)), pf 9 (.bool x70), pf 12 (.int .i64 y75), pf 53 (.bool x78)] [bf 0 42 (eGPlace_ref20 a0), bf 1 48 (eGStmt a1), (2, some (.row 4 1 (List.map eB x69)))] 3) ?_ ?_
  ·iterate 5 refine go ?_
   rcases ie hF with ⟨hb77, hF⟩ | ⟨hb77, hF⟩
   ·iterate 2 refine gn hb77 ?_
    refine rpt hb77 ?_
    cases hF
    exact rcz [0, 1, 2]
   iterate 2 refine rgo_f hb77 ?_
   refine rpf hb77 ?_
   cases hF
   exact rcz [0, 1, 2]
  have hF := hK80
  refine go ?_
  refine cnd hF (fun hb81 hF => ?_) fun hb81 hF => ?_
  ·iterate 3 refine go ?_
   rcases ie hF with ⟨hb82, hF⟩ | ⟨hb82, hF⟩
   ·iterate 2 refine gn hb82 ?_
    obtain ⟨y83, h84, hF⟩ := bs hF
    refine rgn hb82 (op_index_ls (k := .i64) rfl rfl rfl rfl (idx_map eB h84) slc_101 rfl rfl) ?_
    refine rgn hb82 (op_load_le (p := .bool y83) rfl rfl rfl (map_get eB h84) rfl one_4 rfl rfl) ?_
    refine rpt hb82 ?_
    refine go ?_
    cases hF
    exact rcz [0, 1, 2]
   iterate 4 refine rgo_f hb82 ?_
   refine rpf hb82 ?_
   refine go ?_
   cases hF
   exact rcz [0, 1, 2]
  refine go ?_
  cases hF
  exact pcz [0, 1, 2]
 have hF := hK87
 iterate 3 refine go ?_
 refine rgp (la (eGMethod a0.fM) agg_40) ?_
 iterate 2 refine go ?_
 obtain ⟨y90, h91, hF⟩ := bs hF
 refine rgp (cl 3 [.agg (eGMethod a0.fM), .str a1.fX] [.p (.int .i64 y90)] (ref23_place_ok h91)) ?_
 iterate 2 refine go ?_
 refine aw_seq ?_
 obtain ⟨x99, hF, hK101⟩ := bs hF
 refine ctx (sX 81 [(8, some (.ls 0)), pf 9 (.bool x85)] [(0, some (.row 4 1 (List.map eB x99)))] 1) ?_ ?_
 ·refine aw_seq ?_
  obtain ⟨x93, hF, hK95⟩ := bs hF
  refine ctx (sX 81 [(4, some (.lp 0 0)), (8, some (.ls 1)), pf 9 (.bool x85), pf 13 (.int .i64 y90), pf 72 (.bool x93)] [bf 0 48 (eGStmt a1), (1, some (.row 4 1 (List.map eB x69)))] 2) ?_ ?_
  ·iterate 3 refine go ?_
   refine rgp (op_str rfl rfl rfl rfl rfl rfl) ?_
   refine go ?_
   rcases ie hF with ⟨hb92, hF⟩ | ⟨hb92, hF⟩
   ·iterate 2 refine gn hb92 ?_
    refine rpt hb92 ?_
    cases hF
    exact rcz [1, 2]
   iterate 2 refine rgo_f hb92 ?_
   refine rpf hb92 ?_
   cases hF
   exact rcz [1, 2]
  have hF := hK95
  refine go ?_
  refine cnd hF (fun hb96 hF => ?_) fun hb96 hF => ?_
  ·iterate 6 refine go ?_
   obtain ⟨y97, h98, hF⟩ := bs hF
   refine rgp (op_index_ls (k := .i64) rfl rfl rfl rfl (idx_map eB h98) slc_101 rfl rfl) ?_
   refine rgp (op_store_le (n := 1) rfl rfl rfl rfl rfl (map_get eB h98) (or_one one_4) (by rw [one_4]; rfl) rfl (map_set' eB x69 _ (a1.fKind != 1)) rfl rfl) ?_
   cases hF
   exact rcz [1]
  refine go ?_
  cases hF
  exact pcz [1]
 have hF := hK101
 iterate 8 refine go ?_
 cases hF
 exact post_ret rfl rfl (.cons _ _ _ _ _ (.tmp _ _ rfl) (.own _ _ _ _ rfl nolent3) (.cons _ _ _ _ _ (.tmp _ _ rfl) (.p _) .nil)) (.inl rfl)
theorem ref23_names_ok {a0 : GMethod} {a1 : List Bool} {r : (List (List UInt8))} (hF : ref23_names a0 a1 = some r) : FZ 44 [.agg (eGMethod a0), .vs 1 (List.map eB a1)] [.own 9 1 (List.map eS r)] := by
 unfold ref23_names at hF
 refine fn_of_body (n := 29) Tryz.func44 rfl rfl rfl fun w O => ?_
 refine go ?_
 refine rgp (bo 0) ?_
 iterate 4 refine go ?_
 refine reg_imp (imp_nil_own 5 9 1 1 rfl rfl) ?_
 iterate 2 refine go ?_
 refine rgp (la (eGMethod a0) agg_40) ?_
 obtain ⟨y3, h4, hF⟩ := bs hF
 refine rgp (cl 2 [.agg (eGMethod a0)] [.p (.vs 13 (List.map eGVar y3))] (Fn.frozen (ref12_Vars_ok h4))) ?_
 iterate 6 refine go ?_
 obtain ⟨x50, hF, hK51⟩ := bs hF
 refine aw_for ((y3.length - 0 : Int).toNat + 1) (fun s1 => s1 = (sX 29 [(5, some (.ls 0))] [(0, some (.row 9 1 (List.map eS x50)))] 1)) ?_ ?_
 ·refine rnd_loop (α := (List (List UInt8)) × Int) (fun q => (sX 29 [pf 1 (.vs 1 (List.map eB a1)), (5, some (.ls 0)), pf 6 (.vs 13 (List.map eGVar y3)), pf 7 (.int .i64 q.2)] [(0, some (.row 9 1 (List.map eS q.1)))] 1)) (fun k q => ref23_names_L1 a1 y3 k q.1 q.2 = some x50) ([], 0) (impz [1]) hF (fun q h => by cases h) ?_
  clear hF
  rintro k ⟨x18, x19⟩ hF ih
  refine rnd_succ ?_
  iterate 7 refine go ?_
  refine cnd hF (fun hb35 hF => ?_) fun hb35 hF => ?_
  ·iterate 2 refine go ?_
   refine aw_seq ?_
   obtain ⟨x45, hF, hK47⟩ := bs hF
   refine ctx (sX 29 [pf 1 (.vs 1 (List.map eB a1)), (5, some (.ls 0)), pf 6 (.vs 13 (List.map eGVar y3)), pf 7 (.int .i64 x19)] [(0, some (.row 9 1 (List.map eS x45)))] 1) ?_ ?_
   ·refine aw_block ?_
    iterate 3 refine go ?_
    obtain ⟨y38, h39, hF⟩ := bs hF
    refine rgp (ix (idx_map eB h39) slc_101) ?_
    iterate 2 refine go ?_
    refine cnd hF (fun hb40 hF => ?_) fun hb40 hF => ?_
    ·iterate 4 refine go ?_
     obtain ⟨y41, h42, hF⟩ := bs hF
     refine rgp (ix (idx_map eGVar h42) slc_29) ?_
     iterate 2 refine go ?_
     refine rgp (op_lit (rows := List.map eS ([y41.fName] : List (List UInt8))) (zs := [.str []]) rfl rfl slc_23 zer_9 (by exact ⟨rfl, trivial⟩) rfl rfl rfl rfl rfl rfl rfl rfl) ?_
     obtain ⟨u43, h44, hF⟩ := bs hF
     refine rgp (op_append 1 rfl rfl rfl rfl rfl slc_23 elm_9 zer_9 rfl rfl rfl (room_map (f := eS) (g := eS) h44) (List.map_append (f := eS) (l₁ := x18) (l₂ := [y41.fName])).symm rfl rfl) ?_
     refine go ?_
     refine reg_nil ?_
     refine piz (sX 29 [pf 1 (.vs 1 (List.map eB a1)), (5, some (.ls 0)), pf 6 (.vs 13 (List.map eGVar y3)), pf 7 (.int .i64 x19)] [(0, some (.row 9 1 (List.map eS (x18 ++ [y41.fName]))))] 1) [1] ?_
     refine go ?_
     cases hF
     exact pcz [0]
    iterate 2 refine go ?_
    cases hF
    exact pcz [0]
   have hF := hK47
   iterate 5 refine go ?_
   refine rnr ?_
   exact rnd_back (ih (x45, w_i64 (x19 + 1)) hF) (impz [0])
  refine aw_exit ?_
  iterate 2 refine post_then_exit ?_
  cases hF
  exact post_lp_break _ rfl (impz [0])
 rintro _ rfl
 have hF := hK51
 iterate 6 refine go ?_
 cases hF
 exact post_ret rfl rfl (.cons _ _ _ _ _ (.tmp _ _ rfl) (.own _ _ _ _ rfl nolent3) .nil) (.inl rfl)
theorem ref23_Stmt_ok {a0 : GPlace_ref20} {a1 : GStmt} {a2 : List (List UInt8)} {r : (List (List UInt8)) × Bool} (hF : ref23_Stmt a0 a1 a2 = some r) : FZ 13 [.agg (eGPlace_ref20 a0), .agg (eGStmt a1), .vs 1 (List.map eS a2)] [.p (.vs 1 (List.map eS r.1)), .p (.bool r.2)] := by
 unfold ref23_Stmt at hF
 refine fn_of_body (n := 54) Tryz.func13 rfl rfl rfl fun w O => ?_
 refine go ?_
 refine rgp (bo 0) ?_
 refine rgp (bo 1) ?_
 iterate 13 refine go ?_
 obtain ⟨u3, h4, hF⟩ := bs hF
 refine rgp (op_make 2 rfl (k := .i64) (k' := .i64) (n := w_i64 ((a0.fM.fParams.length : Int) + (a0.fM.fLocals.length : Int))) (m := w_i64 ((a0.fM.fParams.length : Int) + (a0.fM.fLocals.length : Int))) (zs := eB false) rfl rfl rfl (mkOk_spec h4).1 (mkOk_spec h4).2.1 (mkOk_spec h4).2.2 slc_101 elm_4 rfl zer_4 (by exact ⟨rfl, trivial⟩) rfl rfl (map_rep eB _ _) rfl rfl) ?_
 iterate 6 refine go ?_
 obtain ⟨x56, hF, hK57⟩ := bs hF
 refine aw_for ((a2.length - 0 : Int).toNat + 1) (fun s1 => s1 = (sX 54 [(3, some (.lp 0 0)), (4, some (.lp 1 0)), (8, some (.ls 2))] [bf 0 42 (eGPlace_ref20 a0), bf 1 48 (eGStmt a1), (2, some (.row 4 1 (List.map eB x56)))] 3)) ?_ ?_
 ·refine rnd_loop (α := (List Bool) × Int) (fun q => (sX 54 [pf 2 (.vs 1 (List.map eS a2)), (3, some (.lp 0 0)), (4, some (.lp 1 0)), (8, some (.ls 2)), pf 9 (.int .i64 q.2)] [bf 0 42 (eGPlace_ref20 a0), bf 1 48 (eGStmt a1), (2, some (.row 4 1 (List.map eB q.1)))] 3)) (fun k q => ref23_Stmt_L1 a0 a2 k q.1 q.2 = some x56) ((List.replicate (w_i64 ((a0.fM.fParams.length : Int) + (a0.fM.fLocals.length : Int)) : Int).toNat false), 0) (impz [0, 1, 2]) hF (fun q h => by cases h) ?_
  clear hF
  rintro k ⟨x20, x21⟩ hF ih
  refine rnd_succ ?_
  iterate 7 refine go ?_
  refine cnd hF (fun hb39 hF => ?_) fun hb39 hF => ?_
  ·iterate 2 refine go ?_
   refine aw_seq ?_
   obtain ⟨x51, hF, hK53⟩ := bs hF
   refine ctx (sX 54 [pf 2 (.vs 1 (List.map eS a2)), (3, some (.lp 0 0)), (4, some (.lp 1 0)), (8, some (.ls 2)), pf 9 (.int .i64 x21)] [bf 0 42 (eGPlace_ref20 a0), bf 1 48 (eGStmt a1), (2, some (.row 4 1 (List.map eB x51)))] 3) ?_ ?_
   ·refine aw_block ?_
    refine aw_seq ?_
    refine dr_start ⟨_, _, _⟩ rfl ?_
    refine dgo ?_
    refine dr_cons { need := [(29, .lp 0 8)], hneed := [(0, .box 42 (bxv (eGPlace_ref20 a0)))], dst := some 30, val := some (.pv (.agg (eGMethod a0.fM))) } (fun m h => step_on (guard_no rfl) (op_load_lp_agg (ps := eGMethod a0.fM) rfl h.1.1 h.2.1.1 rfl rfl rfl agg_40 rfl rfl) rfl) ⟨⟨rfl, trivial⟩, ⟨rfl, trivial⟩, trivial⟩ ?_
    iterate 2 refine dgo ?_
    obtain ⟨y44, h45, hF⟩ := bs hF
    refine dr_cons { need := [(31, .pv (.vs 1 (List.map eS a2))), (32, .pv (.int .i64 x21))], dst := some 33, val := some (.pv (.vp (eS y44))) } (fun m h => step_on (guard_no rfl) (op_index_vs (k := .i64) rfl h.1.1 h.1.2.1 (idx_map eS h45) slc_23 rfl rfl) rfl) ⟨⟨rfl, rfl, trivial⟩, trivial, trivial⟩ ?_
    refine dr_cons { need := [(33, .pv (.vp (eS y44)))], dst := some 34, val := some (.pv (.str y44)) } (fun m h => step_on (guard_no rfl) (op_load_vp (p := .str y44) rfl h.1.1 rfl one_9 rfl rfl) rfl) ⟨⟨rfl, trivial⟩, trivial, trivial⟩ ?_
    obtain ⟨y46, h47, hF⟩ := bs hF
    refine dr_cons { need := [(34, .pv (.str y44)), (30, .pv (.agg (eGMethod a0.fM)))], dst := some 35, val := some (.pv (.int .i64 y46)) } (fun m h => step_on (guard_no rfl) (op_call 3 rfl (caps := []) (args := [.agg (eGMethod a0.fM), .str y44]) (rs := [.p (.int .i64 y46)]) rfl rfl (evl_cons h.1.2.1 (evl_cons h.1.1 evl_nil)) cal_42 (ref23_place_ok h47) rfl rfl rfl) rfl) ⟨⟨rfl, rfl, trivial⟩, trivial, trivial⟩ ?_
    refine dr_cons { need := [(35, .pv (.int .i64 y46))], dst := some 10, val := some (.pv (.int .i64 y46)) } (fun m h => step_on (guard_no rfl) (op_assign rfl h.1.1 rfl rfl) rfl) ⟨⟨rfl, trivial⟩, trivial, trivial⟩ ?_
    refine dr_nil mixed rfl (by kernel_rfl) ?_
    refine piz (sX 54 [pf 2 (.vs 1 (List.map eS a2)), (3, some (.lp 0 0)), (4, some (.lp 1 0)), (8, some (.ls 2)), pf 9 (.int .i64 x21), pf 10 (.int .i64 y46)] [bf 0 42 (eGPlace_ref20 a0), bf 1 48 (eGStmt a1), (2, some (.row 4 1 (List.map eB x20)))] 3) [0, 1, 2] ?_
    iterate 5 refine go ?_
    refine cnd hF (fun hb48 hF => ?_) fun hb48 hF => ?_
    ·iterate 3 refine go ?_
     obtain ⟨y49, h50, hF⟩ := bs hF
     refine rgp (op_index_ls (k := .i64) rfl rfl rfl rfl (idx_map eB h50) slc_101 rfl rfl) ?_
     refine rgp (op_store_le (n := 1) rfl rfl rfl rfl rfl (map_get eB h50) (or_one one_4) (by rw [one_4]; rfl) rfl (map_set' eB x20 _ true) rfl rfl) ?_
     refine reg_nil ?_
     refine piz (sX 54 [pf 2 (.vs 1 (List.map eS a2)), (3, some (.lp 0 0)), (4, some (.lp 1 0)), (8, some (.ls 2)), pf 9 (.int .i64 x21)] [bf 0 42 (eGPlace_ref20 a0), bf 1 48 (eGStmt a1), (2, some (.row 4 1 (List.map eB (x20.set (y46 : Int).toNat true))))] 3) [0, 1, 2] ?_
     refine go ?_
     cases hF
     exact pcz [0, 1, 2]
    iterate 2 refine go ?_
    cases hF
    exact pcz [0, 1, 2]
   have hF := hK53
   iterate 5 refine go ?_
   refine rnr ?_
   exact rnd_back (ih (x51, w_i64 (x21 + 1)) hF) (impz [0, 1, 2])
  refine aw_exit ?_
  iterate 2 refine post_then_exit ?_
  cases hF
  exact post_lp_break _ rfl (impz [0, 1, 2])
 rintro _ rfl
 have hF := hK57
 iterate 2 refine go ?_
 refine rgp (la (eGPlace_ref20 a0) agg_42) ?_
 refine rgp (la (eGStmt a1) agg_48) ?_
 refine go ?_
 refine reg_imp (imp_freeze [(2, some (.row 4 1 (List.map eB x56)))] [(8, some (.pv (.vs 1 (List.map eB x56)))), (44, some (.pv (.vs 1 (List.map eB x56))))] (FzH.spec ⟨rfl, trivial⟩) ⟨⟨_, rfl, rfl⟩, ⟨_, rfl, rfl⟩, trivial⟩) ?_
 obtain ⟨y60, h61, hF⟩ := bs hF
 refine rgp (cl 3 [.agg (eGPlace_ref20 a0), .agg (eGStmt a1), .vs 1 (List.map eB x56)] [.p (.vs 1 (List.map eB y60.1)), .p (.bool y60.2)] (Fn.frozen (ref23_step_ok h61))) ?_
 refine go ?_
 iterate 2 (refine rgp (op_extract rfl rfl rfl rfl rfl) ?_)
 iterate 8 refine go ?_
 refine cnd hF (fun hb62 hF => ?_) fun hb62 hF => ?_
 ·iterate 6 refine go ?_
  refine post_imp (imp_nil_vs 6 1 rfl) ?_
  cases hF
  exact post_ret rfl rfl (.cons _ _ _ _ _ (.tmp _ _ rfl) (.p _) (.cons _ _ _ _ _ (.tmp _ _ rfl) (.p _) .nil)) (.inl rfl)
 iterate 4 refine go ?_
 refine rgp (la (eGMethod a0.fM) agg_40) ?_
 refine go ?_
 obtain ⟨y63, h64, hF⟩ := bs hF
 refine rgp (cl 3 [.agg (eGMethod a0.fM), .vs 1 (List.map eB y60.1)] [.p (.vs 1 (List.map eS y63))] (Fn.frozen (ref23_names_ok h64))) ?_
 iterate 4 refine go ?_
 cases hF
 exact post_ret rfl rfl (.cons _ _ _ _ _ (.tmp _ _ rfl) (.p _) (.cons _ _ _ _ _ (.tmp _ _ rfl) (.p _) .nil)) (.inl rfl)
theorem law23_same_ok {a0 : List (List UInt8)} {a1 : List (List UInt8)} {r : Bool} (hF : law23_same a0 a1 = some r) : FZ 14 [.vs 1 (List.map eS a0), .vs 1 (List.map eS a1)] [.p (.bool r)] := by
 unfold law23_same at hF
 refine fn_of_body (n := 26) Tryz.func14 rfl rfl rfl fun w O => ?_
 iterate 11 refine go ?_
 refine cnd hF (fun hb1 hF => ?_) fun hb1 hF => ?_
 ·iterate 5 refine go ?_
  cases hF
  exact prt
 iterate 6 refine go ?_
 obtain ⟨lr35, hF, hK36⟩ := bs hF
 refine aw_for ((a0.length - 0 : Int).toNat + 1) (fun s1 => ∃ q, lr35 = .next q ∧ s1 = (sX 26 [] [] 0)) ?_ ?_
 ·refine rnd_loop (α := Int) (fun q => (sX 26 [pf 0 (.vs 1 (List.map eS a0)), pf 1 (.vs 1 (List.map eS a1)), pf 5 (.int .i64 q)] [] 0)) (fun k q => law23_same_L1 a0 a1 k q = some lr35) 0 (impz []) hF (fun q h => by cases h) ?_
  clear hF
  rintro k x12 hF ih
  refine rnd_succ ?_
  iterate 7 refine go ?_
  refine cnd hF (fun hb24 hF => ?_) fun hb24 hF => ?_
  ·iterate 2 refine go ?_
   refine aw_seq ?_
   refine aw_block ?_
   refine aw_seq ?_
   refine dr_start ⟨_, _, _⟩ rfl ?_
   iterate 2 refine dgo ?_
   obtain ⟨y29, h30, hF⟩ := bs hF
   refine dr_cons { need := [(17, .pv (.vs 1 (List.map eS a0))), (18, .pv (.int .i64 x12))], dst := some 19, val := some (.pv (.vp (eS y29))) } (fun m h => step_on (guard_no rfl) (op_index_vs (k := .i64) rfl h.1.1 h.1.2.1 (idx_map eS h30) slc_23 rfl rfl) rfl) ⟨⟨rfl, rfl, trivial⟩, trivial, trivial⟩ ?_
   refine dr_cons { need := [(19, .pv (.vp (eS y29)))], dst := some 20, val := some (.pv (.str y29)) } (fun m h => step_on (guard_no rfl) (op_load_vp (p := .str y29) rfl h.1.1 rfl one_9 rfl rfl) rfl) ⟨⟨rfl, trivial⟩, trivial, trivial⟩ ?_
   iterate 2 refine dgo ?_
   obtain ⟨y31, h32, hF⟩ := bs hF
   refine dr_cons { need := [(21, .pv (.vs 1 (List.map eS a1))), (22, .pv (.int .i64 x12))], dst := some 23, val := some (.pv (.vp (eS y31))) } (fun m h => step_on (guard_no rfl) (op_index_vs (k := .i64) rfl h.1.1 h.1.2.1 (idx_map eS h32) slc_23 rfl rfl) rfl) ⟨⟨rfl, rfl, trivial⟩, trivial, trivial⟩ ?_
   refine dr_cons { need := [(23, .pv (.vp (eS y31)))], dst := some 24, val := some (.pv (.str y31)) } (fun m h => step_on (guard_no rfl) (op_load_vp (p := .str y31) rfl h.1.1 rfl one_9 rfl rfl) rfl) ⟨⟨rfl, trivial⟩, trivial, trivial⟩ ?_
   refine dr_cons { need := [(20, .pv (.str y29)), (24, .pv (.str y31))], dst := some 25, val := some (.pv (.bool (!(y29 == y31)))) } (fun m h => step_on (guard_no rfl) (op_str rfl h.1.1 h.1.2.1 rfl rfl rfl) rfl) ⟨⟨rfl, rfl, trivial⟩, trivial, trivial⟩ ?_
   refine dr_nil mixed rfl (by kernel_rfl) ?_
   refine piz (sX 26 [pf 0 (.vs 1 (List.map eS a0)), pf 1 (.vs 1 (List.map eS a1)), pf 5 (.int .i64 x12), pf 25 (.bool (!(y29 == y31)))] [] 0) [] ?_
   refine go ?_
   refine cnd hF (fun hb33 hF => ?_) fun hb33 hF => ?_
   ·iterate 7 refine go ?_
    refine post_lp_ret ?_
    cases hF
    have hF := elim_stop hK36
    refine go ?_
    cases hF
    exact prt
   iterate 7 refine go ?_
   refine rnr ?_
   exact rnd_back (ih (w_i64 (x12 + 1)) hF) (impz [])
  refine aw_exit ?_
  iterate 2 refine post_then_exit ?_
  cases hF
  exact post_lp_break _ ⟨_, rfl, rfl⟩ (impz [])
 rintro _ ⟨⟨⟩, rfl, rfl⟩
 have hF := elim_next hK36
 clear hK36
 iterate 5 refine go ?_
 cases hF
 exact prt
theorem law23_FlowStmt_ok {a0 : List GClass} {a1 : List (List UInt8)} {r : Bool} (hF : law23_FlowStmt a0 a1 = some r) : FZ 3 [.vs 7 (List.map eGClass a0), .vs 1 (List.map eS a1)] [.p (.bool r)] := by
 unfold law23_FlowStmt at hF
 refine fn_of_body (n := 75) Tryz.func3 rfl rfl rfl fun w O => ?_
 iterate 3 refine go ?_
 refine aw_seq ?_
 refine aw_seq ?_
 obtain ⟨x9, hF, hK11⟩ := bs hF
 refine ctx (sX 75 [pf 0 (.vs 7 (List.map eGClass a0)), pf 1 (.vs 1 (List.map eS a1)), pf 23 (.bool x9)] [] 0) ?_ ?_
 ·iterate 2 refine go ?_
  obtain ⟨y3, h4, hF⟩ := bs hF
  refine rgp (cl 0 [.vs 7 (List.map eGClass a0)] [.p (.bool y3)] (ref10_Heavy_ok h4)) ?_
  refine go ?_
  rcases ie hF with ⟨hb5, hF⟩ | ⟨hb5, hF⟩
  ·refine rgo_t hb5 ?_
   iterate 2 refine rgo_t hb5 ?_
   refine rpt hb5 ?_
   refine go ?_
   iterate 3 refine rgo_t rfl ?_
   refine rpt rfl ?_
   cases hF
   exact rcz []
  refine gn hb5 ?_
  obtain ⟨y6, h7, hF⟩ := bs hF
  refine rgn hb5 (cl 0 [.vs 7 (List.map eGClass a0)] [.p (.bool y6)] (ref10_Right_ok h7)) ?_
  refine gn hb5 ?_
  refine rpf hb5 ?_
  refine go ?_
  rcases ie hF with ⟨hb8, hF⟩ | ⟨hb8, hF⟩
  ·refine rgo_t hb8 ?_
   iterate 2 refine rgo_t hb8 ?_
   refine rpt hb8 ?_
   cases hF
   exact rcz []
  iterate 3 refine gn hb8 ?_
  refine rpf hb8 ?_
  cases hF
  exact rcz []
 have hF := hK11
 refine go ?_
 refine cnd hF (fun hb12 hF => ?_) fun hb12 hF => ?_
 ·refine go ?_
  obtain ⟨y13, h14, hF⟩ := bs hF
  refine rgp (cl 0 [] [.p (.bool y13)] (law23_awake_ok h14)) ?_
  iterate 4 refine go ?_
  cases hF
  exact prt
 iterate 4 refine go ?_
 obtain ⟨y17, h18, hF⟩ := bs hF
 refine rgp (cl 0 [.vs 7 (List.map eGClass a0)] [.p (.vs 26 (List.map eGLine_ref12 y17))] (Fn.frozen (ref12_Stmts_ok h18))) ?_
 iterate 6 refine go ?_
 obtain ⟨lr118, hF, hK119⟩ := bs hF
 refine aw_for ((y17.length - 0 : Int).toNat + 1) (fun s1 => ∃ q, lr118 = .next q ∧ s1 = (sX 75 [] [] 0)) ?_ ?_
 ·refine rnd_loop (α := Int) (fun q => (sX 75 [pf 0 (.vs 7 (List.map eGClass a0)), pf 1 (.vs 1 (List.map eS a1)), pf 5 (.vs 26 (List.map eGLine_ref12 y17)), pf 6 (.int .i64 q)] [] 0)) (fun k q => law23_FlowStmt_L1 a0 a1 y17 k q = some lr118) 0 (impz []) hF (fun q h => by cases h) ?_
  clear hF
  rintro k x51 hF ih
  refine rnd_succ ?_
  iterate 7 refine go ?_
  refine cnd hF (fun hb85 hF => ?_) fun hb85 hF => ?_
  ·iterate 2 refine go ?_
   refine aw_seq ?_
   refine aw_block ?_
   iterate 4 refine go ?_
   obtain ⟨y90, h91, hF⟩ := bs hF
   refine rgp (ix (idx_map eGLine_ref12 h91) slc_26) ?_
   refine rgp (lw (eGLine_ref12 y90) agg_50) ?_
   obtain ⟨y92, h93, hF⟩ := bs hF
   refine rgp (cl 0 [.vs 7 (List.map eGClass a0), .agg (eGLine_ref12 y90)] [.p (.agg (eGPlace_ref20 y92))] (ref21_Place_ok h93)) ?_
   refine rgp (al 0 (eGPlace_ref20 zGPlace_ref20) zer_42) ?_
   iterate 2 refine go ?_
   refine aw_seq ?_
   refine dr_start ⟨_, _, _⟩ rfl ?_
   iterate 2 refine dgo ?_
   refine dr_cons { need := [(41, .lp 0 1)], hneed := [(0, .box 42 (bxv (eGPlace_ref20 y92)))], dst := some 42, val := some (.pv (.agg (eGClass y92.fC))) } (fun m h => step_on (guard_no rfl) (op_load_lp_agg (ps := eGClass y92.fC) rfl h.1.1 h.2.1.1 rfl rfl rfl agg_32 rfl rfl) rfl) ⟨⟨rfl, trivial⟩, ⟨rfl, trivial⟩, trivial⟩ ?_
   refine dgo ?_
   refine dr_cons { need := [(43, .lp 0 8)], hneed := [(0, .box 42 (bxv (eGPlace_ref20 y92)))], dst := some 44, val := some (.pv (.agg (eGMethod y92.fM))) } (fun m h => step_on (guard_no rfl) (op_load_lp_agg (ps := eGMethod y92.fM) rfl h.1.1 h.2.1.1 rfl rfl rfl agg_40 rfl rfl) rfl) ⟨⟨rfl, trivial⟩, ⟨rfl, trivial⟩, trivial⟩ ?_
   iterate 2 refine dgo ?_
   obtain ⟨y98, h99, hF⟩ := bs hF
   refine dr_cons { need := [(45, .pv (.vs 26 (List.map eGLine_ref12 y17))), (46, .pv (.int .i64 x51))], dst := some 47, val := some (.pv (.vp (eGLine_ref12 y98))) } (fun m h => step_on (guard_no rfl) (op_index_vs (k := .i64) rfl h.1.1 h.1.2.1 (idx_map eGLine_ref12 h99) slc_26 rfl rfl) rfl) ⟨⟨rfl, rfl, trivial⟩, trivial, trivial⟩ ?_
   refine dr_cons { need := [(47, .pv (.vp (eGLine_ref12 y98)))], dst := some 48, val := some (.pv (.vp (List.drop 3 (eGLine_ref12 y98)))) } (fun m h => step_on (guard_no rfl) (op_field_vp rfl h.1.1 fld_50_3 rfl rfl) rfl) ⟨⟨rfl, trivial⟩, trivial, trivial⟩ ?_
   refine dr_cons { need := [(48, .pv (.vp (List.drop 3 (eGLine_ref12 y98))))], dst := some 49, val := some (.pv (.agg (eGStmt y98.fS))) } (fun m h => step_on (guard_no rfl) (op_load_vp_agg (ps := eGStmt y98.fS) rfl h.1.1 rfl rfl agg_48 rfl rfl) rfl) ⟨⟨rfl, trivial⟩, trivial, trivial⟩ ?_
   refine dgo ?_
   obtain ⟨y100, h101, hF⟩ := bs hF
   refine dr_cons { need := [(50, .pv (.vs 1 (List.map eS a1))), (49, .pv (.agg (eGStmt y98.fS))), (44, .pv (.agg (eGMethod y92.fM))), (42, .pv (.agg (eGClass y92.fC))), (40, .pv (.vs 7 (List.map eGClass a0)))], dst := some 51, val := some (.tup [.pv (.vs 1 (List.map eS y100.1)), .pv (.bool y100.2)]) } (fun m h => step_on (guard_no rfl) (op_call 1 rfl (caps := []) (args := [.vs 7 (List.map eGClass a0), .agg (eGClass y92.fC), .agg (eGMethod y92.fM), .agg (eGStmt y98.fS), .vs 1 (List.map eS a1)]) (rs := [.p (.vs 1 (List.map eS y100.1)), .p (.bool y100.2)]) rfl rfl (evl_cons h.1.2.2.2.2.1 (evl_cons h.1.2.2.2.1 (evl_cons h.1.2.2.1 (evl_cons h.1.2.1 (evl_cons h.1.1 evl_nil))))) cal_12 (flow_Stmt_ok h101) rfl rfl rfl) rfl) ⟨⟨rfl, rfl, rfl, rfl, rfl, trivial⟩, trivial, trivial⟩ ?_
   refine dgo ?_
   refine dr_cons { need := [(39, .tup [.pv (.vs 1 (List.map eS y100.1)), .pv (.bool y100.2)])], dst := some 52, val := some (.pv (.vs 1 (List.map eS y100.1))) } (fun m h => step_on (guard_no rfl) (op_extract rfl h.1.1 rfl rfl rfl) rfl) ⟨⟨rfl, trivial⟩, trivial, trivial⟩ ?_
   refine dr_cons { need := [(39, .tup [.pv (.vs 1 (List.map eS y100.1)), .pv (.bool y100.2)])], dst := some 53, val := some (.pv (.bool y100.2)) } (fun m h => step_on (guard_no rfl) (op_extract rfl h.1.1 rfl rfl rfl) rfl) ⟨⟨rfl, trivial⟩, trivial, trivial⟩ ?_
   refine dr_cons { need := [(52, .pv (.vs 1 (List.map eS y100.1)))], dst := some 8, val := some (.pv (.vs 1 (List.map eS y100.1))) } (fun m h => step_on (guard_no rfl) (op_assign rfl h.1.1 rfl rfl) rfl) ⟨⟨rfl, trivial⟩, trivial, trivial⟩ ?_
   refine dr_cons { need := [(53, .pv (.bool y100.2))], dst := some 9, val := some (.pv (.bool y100.2)) } (fun m h => step_on (guard_no rfl) (op_assign rfl h.1.1 rfl rfl) rfl) ⟨⟨rfl, trivial⟩, trivial, trivial⟩ ?_
   refine dr_nil mixed rfl (by kernel_rfl) ?_
   refine piz (sX 75 [pf 0 (.vs 7 (List.map eGClass a0)), pf 1 (.vs 1 (List.map eS a1)), pf 5 (.vs 26 (List.map eGLine_ref12 y17)), pf 6 (.int .i64 x51), (7, some (.lp 0 0)), pf 8 (.vs 1 (List.map eS y100.1)), pf 9 (.bool y100.2)] [bf 0 42 (eGPlace_ref20 y92)] 1) [0] ?_
   refine go ?_
   refine aw_seq ?_
   refine dr_start ⟨_, _, _⟩ rfl ?_
   refine dr_cons { need := [(7, .lp 0 0)], hneed := [(0, .box 42 (bxv (eGPlace_ref20 y92)))], dst := some 55, val := some (.pv (.agg (eGPlace_ref20 y92))) } (fun m h => step_on (guard_no rfl) (op_load_lp_agg (ps := eGPlace_ref20 y92) rfl h.1.1 h.2.1.1 rfl rfl rfl agg_42 rfl rfl) rfl) ⟨⟨rfl, trivial⟩, ⟨rfl, trivial⟩, trivial⟩ ?_
   iterate 2 refine dgo ?_
   obtain ⟨y106, h107, hF⟩ := bs hF
   refine dr_cons { need := [(56, .pv (.vs 26 (List.map eGLine_ref12 y17))), (57, .pv (.int .i64 x51))], dst := some 58, val := some (.pv (.vp (eGLine_ref12 y106))) } (fun m h => step_on (guard_no rfl) (op_index_vs (k := .i64) rfl h.1.1 h.1.2.1 (idx_map eGLine_ref12 h107) slc_26 rfl rfl) rfl) ⟨⟨rfl, rfl, trivial⟩, trivial, trivial⟩ ?_
   refine dr_cons { need := [(58, .pv (.vp (eGLine_ref12 y106)))], dst := some 59, val := some (.pv (.vp (List.drop 3 (eGLine_ref12 y106)))) } (fun m h => step_on (guard_no rfl) (op_field_vp rfl h.1.1 fld_50_3 rfl rfl) rfl) ⟨⟨rfl, trivial⟩, trivial, trivial⟩ ?_
   refine dr_cons { need := [(59, .pv (.vp (List.drop 3 (eGLine_ref12 y106))))], dst := some 60, val := some (.pv (.agg (eGStmt y106.fS))) } (fun m h => step_on (guard_no rfl) (op_load_vp_agg (ps := eGStmt y106.fS) rfl h.1.1 rfl rfl agg_48 rfl rfl) rfl) ⟨⟨rfl, trivial⟩, trivial, trivial⟩ ?_
   refine dgo ?_
   obtain ⟨y108, h109, hF⟩ := bs hF
   refine dr_cons { need := [(61, .pv (.vs 1 (List.map eS a1))), (60, .pv (.agg (eGStmt y106.fS))), (55, .pv (.agg (eGPlace_ref20 y92)))], dst := some 62, val := some (.tup [.pv (.vs 1 (List.map eS y108.1)), .pv (.bool y108.2)]) } (fun m h => step_on (guard_no rfl) (op_call 1 rfl (caps := []) (args := [.agg (eGPlace_ref20 y92), .agg (eGStmt y106.fS), .vs 1 (List.map eS a1)]) (rs := [.p (.vs 1 (List.map eS y108.1)), .p (.bool y108.2)]) rfl rfl (evl_cons h.1.2.2.1 (evl_cons h.1.2.1 (evl_cons h.1.1 evl_nil))) cal_13 (ref23_Stmt_ok h109) rfl rfl rfl) rfl) ⟨⟨rfl, rfl, rfl, trivial⟩, trivial, trivial⟩ ?_
   refine dgo ?_
   refine dr_cons { need := [(54, .tup [.pv (.vs 1 (List.map eS y108.1)), .pv (.bool y108.2)])], dst := some 63, val := some (.pv (.vs 1 (List.map eS y108.1))) } (fun m h => step_on (guard_no rfl) (op_extract rfl h.1.1 rfl rfl rfl) rfl) ⟨⟨rfl, trivial⟩, trivial, trivial⟩ ?_
   refine dr_cons { need := [(54, .tup [.pv (.vs 1 (List.map eS y108.1)), .pv (.bool y108.2)])], dst := some 64, val := some (.pv (.bool y108.2)) } (fun m h => step_on (guard_no rfl) (op_extract rfl h.1.1 rfl rfl rfl) rfl) ⟨⟨rfl, trivial⟩, trivial, trivial⟩ ?_
   refine dr_cons { need := [(63, .pv (.vs 1 (List.map eS y108.1)))], dst := some 10, val := some (.pv (.vs 1 (List.map eS y108.1))) } (fun m h => step_on (guard_no rfl) (op_assign rfl h.1.1 rfl rfl) rfl) ⟨⟨rfl, trivial⟩, trivial, trivial⟩ ?_
   refine dr_cons { need := [(64, .pv (.bool y108.2))], dst := some 11, val := some (.pv (.bool y108.2)) } (fun m h => step_on (guard_no rfl) (op_assign rfl h.1.1 rfl rfl) rfl) ⟨⟨rfl, trivial⟩, trivial, trivial⟩ ?_
   refine dr_nil mixed rfl (by kernel_rfl) ?_
   refine piz (sX 75 [pf 0 (.vs 7 (List.map eGClass a0)), pf 1 (.vs 1 (List.map eS a1)), pf 5 (.vs 26 (List.map eGLine_ref12 y17)), pf 6 (.int .i64 x51), pf 8 (.vs 1 (List.map eS y100.1)), pf 9 (.bool y100.2), pf 10 (.vs 1 (List.map eS y108.1)), pf 11 (.bool y108.2)] [] 0) [] ?_
   refine go ?_
   refine aw_seq ?_
   obtain ⟨x113, hF, hK115⟩ := bs hF
   refine ctx (sX 75 [pf 0 (.vs 7 (List.map eGClass a0)), pf 1 (.vs 1 (List.map eS a1)), pf 5 (.vs 26 (List.map eGLine_ref12 y17)), pf 6 (.int .i64 x51), pf 73 (.bool x113)] [] 0) ?_ ?_
   ·iterate 3 refine go ?_
    refine rgp (op_eqBool_neq rfl rfl rfl und_4 rfl rfl) ?_
    refine go ?_
    rcases ie hF with ⟨hb110, hF⟩ | ⟨hb110, hF⟩
    ·refine rgo_t hb110 ?_
     iterate 3 refine rgo_t hb110 ?_
     refine rpt hb110 ?_
     cases hF
     exact rcz []
    iterate 2 (refine rgn hb110 (op_move rfl rfl rfl rfl) ?_)
    obtain ⟨y111, h112, hF⟩ := bs hF
    refine rgn hb110 (cl 0 [.vs 1 (List.map eS y100.1), .vs 1 (List.map eS y108.1)] [.p (.bool y111)] (law23_same_ok h112)) ?_
    refine gn hb110 ?_
    refine rpf hb110 ?_
    cases hF
    exact rcz []
   have hF := hK115
   refine go ?_
   refine cnd hF (fun hb116 hF => ?_) fun hb116 hF => ?_
   ·iterate 7 refine go ?_
    refine post_lp_ret ?_
    cases hF
    have hF := elim_stop hK119
    refine go ?_
    cases hF
    exact prt
   iterate 7 refine go ?_
   refine rnr ?_
   exact rnd_back (ih (w_i64 (x51 + 1)) hF) (impz [])
  refine aw_exit ?_
  iterate 2 refine post_then_exit ?_
  cases hF
  exact post_lp_break _ ⟨_, rfl, rfl⟩ (impz [])
 rintro _ ⟨⟨⟩, rfl, rfl⟩
 have hF := elim_next hK119
 clear hK119
 iterate 2 refine go ?_
 obtain ⟨y120, h121, hF⟩ := bs hF
 refine rgp (cl 0 [] [.p (.bool y120)] (law23_awake_ok h121)) ?_
 iterate 3 refine go ?_
 cases hF
 exact prt
end Go.Proofs.YthhdlpggmmfaiaaGreat
