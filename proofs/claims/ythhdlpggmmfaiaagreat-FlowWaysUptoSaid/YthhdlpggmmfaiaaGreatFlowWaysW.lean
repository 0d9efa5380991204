/- A part of the proof that the law FlowWays gives true for every input. -/
import Derived.Test.YthhdlpggmmfaiaaGreatFlowWaysT
import Derived.Test.YthhdlpggmmfaiaaGreatFlowWaysX
import Derived.Test.YthhdlpggmmfaiaaGreatFlowWaysI
import Derived.Test.YthhdlpggmmfaiaaGreatFlowWaysW3
/- Each Go function computes its plain function. -/
namespace Go.Proofs.YthhdlpggmmfaiaaGreat
open Go.RowKit Go.Abs
set_option maxRecDepth 100000
set_option maxHeartbeats 4000000
theorem flow_Method_ok {a0 : List GClass} {a1 : GClass} {a2 : GMethod} {r : GFault} (hF : flow_Method a0 a1 a2 = some r) : FZ 25 [.vs 7 (List.map eGClass a0), .agg (eGClass a1), .agg (eGMethod a2)] [.p (.agg (eGFault r))] := by
 unfold flow_Method at hF
 refine fn_of_body (n := 36) Tryz.func25 rfl rfl rfl fun w O => ?_
 refine go ?_
 refine rgp (bo 0) ?_
 refine rgp (bo 1) ?_
 refine rgp (al 2 (eGFault zGFault) zer_73) ?_
 iterate 3 refine go ?_
 refine rgp (la (eGClass a1) agg_32) ?_
 refine rgp (la (eGMethod a2) agg_40) ?_
 obtain ⟨y3, h4, hF⟩ := bs hF
 refine rgp (op_callW (args := [.pv (.vs 7 (List.map eGClass a0)), .pv (.agg (eGClass a1)), .pv (.agg (eGMethod a2))]) [] [3] [] 4 rfl rfl rfl rfl rfl cal_59 (flow_walk_w_ok h4) rfl (by decide) trivial rfl (by decide) ⟨.inr rfl, trivial⟩ (by kernel_rfl) (by kernel_rfl) rfl rfl rfl rfl) ?_
 refine go ?_
 iterate 2 (refine rgp (op_extract rfl rfl rfl rfl rfl) ?_)
 iterate 6 refine go ?_
 refine rgp (op_nilCheck rfl rfl rfl rfl rfl) ?_
 iterate 4 refine go ?_
 refine cnd hF (fun hb5 hF => ?_) fun hb5 hF => ?_
 ·refine go ?_
  refine rgp (bd ((eGFault zGFault)) (eGFault ({ fErr := 0, fAt := 0 } : GFault)) zer_73 plc_73) ?_
  iterate 4 refine go ?_
  cases hF
  exact post_ret rfl rfl (.cons _ _ _ _ _ (.agg _ _ _ _ _ 2 _ _ rfl rfl agg_73 rfl rfl rfl) (.p _) .nil) (.inl rfl)
 iterate 2 refine go ?_
 refine aw_seq ?_
 refine dr_start ⟨_, _, _⟩ rfl ?_
 refine dr_cons { need := [(5, .lp 1 0)], hneed := [(1, .box 40 (bxv (eGMethod a2)))], dst := some 22, val := some (.pv (.agg (eGMethod a2))) } (fun m h => step_on (guard_no rfl) (op_load_lp_agg (ps := eGMethod a2) rfl h.1.1 h.2.1.1 rfl rfl rfl agg_40 rfl rfl) rfl) ⟨⟨rfl, trivial⟩, ⟨rfl, trivial⟩, trivial⟩ ?_
 refine dr_cons { need := [(22, .pv (.agg (eGMethod a2)))], dst := some 23, val := some (.pv (.vs 17 (List.map eGMethod [a2]))) } (fun m h => step_on (guard_no rfl) (op_lit (rows := List.map eGMethod ([a2] : List GMethod)) (zs := (eGMethod zGMethod)) rfl rfl slc_30 zer_40 (by exact ⟨rfl, rfl, rfl, rfl, rfl, rfl, rfl, rfl, rfl, rfl, rfl, rfl, rfl, trivial, trivial, trivial, rfl, trivial⟩) rfl rfl rfl (evs_cons h.1.1 evs_nil) rfl rfl rfl rfl) rfl) ⟨⟨rfl, trivial⟩, trivial, trivial⟩ ?_
 refine dr_cons { need := [(23, .pv (.vs 17 (List.map eGMethod [a2])))], dst := some 24, val := some (.pv (.agg (eGClass ({ fName := [], fParams := [], fSuper := [], fAbove := [], fFields := [], fMethods := [a2], fAt := 0 } : GClass)))) } (fun m h => step_on (guard_no rfl) (op_build (zs := (eGClass zGClass)) (r := eGClass ({ fName := [], fParams := [], fSuper := [], fAbove := [], fFields := [], fMethods := [a2], fAt := 0 } : GClass)) rfl zer_32 (by exact ⟨rfl, trivial, rfl, trivial, trivial, trivial, rfl, trivial⟩) plc_32 (evs_cons h.1.1 evs_nil) rfl rfl rfl) rfl) ⟨⟨rfl, trivial⟩, trivial, trivial⟩ ?_
 refine dr_cons { need := [(24, .pv (.agg (eGClass ({ fName := [], fParams := [], fSuper := [], fAbove := [], fFields := [], fMethods := [a2], fAt := 0 } : GClass))))], dst := some 25, val := some (.pv (.vs 7 (List.map eGClass [({ fName := [], fParams := [], fSuper := [], fAbove := [], fFields := [], fMethods := [a2], fAt := 0 } : GClass)]))) } (fun m h => step_on (guard_no rfl) (op_lit (rows := List.map eGClass ([({ fName := [], fParams := [], fSuper := [], fAbove := [], fFields := [], fMethods := [a2], fAt := 0 } : GClass)] : List GClass)) (zs := (eGClass zGClass)) rfl rfl slc_22 zer_32 (by exact ⟨rfl, trivial, rfl, trivial, trivial, trivial, rfl, trivial⟩) rfl rfl rfl (evs_cons h.1.1 evs_nil) rfl rfl rfl rfl) rfl) ⟨⟨rfl, trivial⟩, trivial, trivial⟩ ?_
 obtain ⟨y6, h7, hF⟩ := bs hF
 refine dr_cons { need := [(25, .pv (.vs 7 (List.map eGClass [({ fName := [], fParams := [], fSuper := [], fAbove := [], fFields := [], fMethods := [a2], fAt := 0 } : GClass)])))], dst := some 26, val := some (.pv (.vs 26 (List.map eGLine_arena y6))) } (fun m h => step_on (guard_no rfl) (op_call 4 rfl (caps := []) (args := [.vs 7 (List.map eGClass [({ fName := [], fParams := [], fSuper := [], fAbove := [], fFields := [], fMethods := [a2], fAt := 0 } : GClass)])]) (rs := [.p (.vs 26 (List.map eGLine_arena y6))]) rfl rfl (evl_cons h.1.1 evl_nil) cal_60 (Fn.frozen (arena_Stmts_ok h7)) rfl rfl rfl) rfl) ⟨⟨rfl, trivial⟩, trivial, trivial⟩ ?_
 refine dgo ?_
 refine dr_cons { need := [(27, .lp 3 0)], dst := some 28, val := some (.lp 3 0) } (fun m h => step_on (guard_no rfl) (op_nilCheck rfl h.1.1 rfl rfl rfl) rfl) ⟨⟨rfl, trivial⟩, trivial, trivial⟩ ?_
 iterate 2 refine dgo ?_
 obtain ⟨y8, h9, hF⟩ := bs hF
 refine dr_cons { need := [(26, .pv (.vs 26 (List.map eGLine_arena y6))), (30, .pv (.int .i64 y3.1.fbad))], dst := some 31, val := some (.pv (.vp (eGLine_arena y8))) } (fun m h => step_on (guard_no rfl) (op_index_vs (k := .i64) rfl h.1.1 h.1.2.1 (idx_map eGLine_arena h9) slc_135 rfl rfl) rfl) ⟨⟨rfl, rfl, trivial⟩, trivial, trivial⟩ ?_
 refine dr_cons { need := [(31, .pv (.vp (eGLine_arena y8)))], dst := some 32, val := some (.pv (.vp (List.drop 3 (eGLine_arena y8)))) } (fun m h => step_on (guard_no rfl) (op_field_vp rfl h.1.1 fld_134_3 rfl rfl) rfl) ⟨⟨rfl, trivial⟩, trivial, trivial⟩ ?_
 refine dr_cons { need := [(32, .pv (.vp (List.drop 3 (eGLine_arena y8))))], dst := some 33, val := some (.pv (.vp (List.drop 22 (List.drop 3 (eGLine_arena y8))))) } (fun m h => step_on (guard_no rfl) (op_field_vp rfl h.1.1 fld_48_9 rfl rfl) rfl) ⟨⟨rfl, trivial⟩, trivial, trivial⟩ ?_
 refine dr_cons { need := [(33, .pv (.vp (List.drop 22 (List.drop 3 (eGLine_arena y8)))))], dst := some 34, val := some (.pv (.int .i64 y8.fS.fAt)) } (fun m h => step_on (guard_no rfl) (op_load_vp (p := .int .i64 y8.fS.fAt) rfl h.1.1 rfl one_3 rfl rfl) rfl) ⟨⟨rfl, trivial⟩, trivial, trivial⟩ ?_
 refine dr_cons { need := [(34, .pv (.int .i64 y8.fS.fAt))], dst := some 35, val := some (.pv (.agg (eGFault ({ fErr := 21, fAt := y8.fS.fAt } : GFault)))) } (fun m h => step_on (guard_no rfl) (op_build (zs := (eGFault zGFault)) (r := eGFault ({ fErr := 21, fAt := y8.fS.fAt } : GFault)) rfl zer_73 (by exact ⟨rfl, rfl, trivial⟩) plc_73 (evs_cons rfl (evs_cons h.1.1 evs_nil)) rfl rfl rfl) rfl) ⟨⟨rfl, trivial⟩, trivial, trivial⟩ ?_
 refine dr_cons { need := [(6, .lp 2 0), (35, .pv (.agg (eGFault ({ fErr := 21, fAt := y8.fS.fAt } : GFault))))], hneed := [(2, .box 73 (bxv (eGFault zGFault)))], upd := [(2, some (.box 73 (bxv (eGFault ({ fErr := 21, fAt := y8.fS.fAt } : GFault)))))] } (fun m h => step_on (guard_no rfl) (op_store_lp (n := 2) rfl h.1.1 h.1.2.1 rfl h.2.1.1 (or_agg agg_73) (by rw [non_73]; rfl) rfl rfl rfl) rfl) ⟨⟨rfl, rfl, trivial⟩, ⟨rfl, trivial⟩, trivial⟩ ?_
 refine dr_nil mixed rfl (by kernel_rfl) ?_
 refine piz (sX 36 [(6, some (.lp 0 0))] [bf 0 73 (eGFault ({ fErr := 21, fAt := y8.fS.fAt } : GFault))] 1) [2] ?_
 iterate 2 refine go ?_
 cases hF
 exact post_ret rfl rfl (.cons _ _ _ _ _ (.agg _ _ _ _ _ 2 _ _ rfl rfl agg_73 rfl rfl rfl) (.p _) .nil) (.inl rfl)
theorem flow_Check_ok {a0 : List GClass} {r : GFault} (hF : flow_Check a0 = some r) : FZ 36 [.vs 7 (List.map eGClass a0)] [.p (.agg (eGFault r))] := by
 unfold flow_Check at hF
 refine fn_of_body (n := 32) Tryz.func36 rfl rfl rfl fun w O => ?_
 refine go ?_
 refine rgp (al 0 (eGFault zGFault) zer_73) ?_
 iterate 7 refine go ?_
 obtain ⟨lr115, hF, hK116⟩ := bs hF
 refine aw_for ((a0.length - 0 : Int).toNat + 1) (fun s1 => ∃ q, lr115 = .next q ∧ s1 = (sX 32 [(2, some (.lp 0 0))] [bf 0 73 (eGFault zGFault)] 1)) ?_ ?_
 ·refine rnd_loop (α := Int) (fun q => (sX 32 [pf 0 (.vs 7 (List.map eGClass a0)), (2, some (.lp 0 0)), pf 8 (.vs 7 (List.map eGClass a0)), pf 9 (.int .i64 (a0.length : Int)), pf 10 (.int .i64 q)] [bf 0 73 (eGFault zGFault)] 1)) (fun k q => flow_Check_L1 a0 k q = some lr115) 0 (impz [0]) hF (fun q h => by cases h) ?_
  clear hF
  rintro k x38 hF ih
  refine rnd_succ ?_
  iterate 3 refine go ?_
  refine aw_seq ?_
  refine cnd hF (fun hb77 hF => ?_) fun hb77 hF => ?_
  ·iterate 2 refine go ?_
   refine aw_seq ?_
   refine aw_block ?_
   refine go ?_
   obtain ⟨y80, h81, hF⟩ := bs hF
   refine rgp (ix (idx_map eGClass h81) slc_22) ?_
   refine rgp (lw (eGClass y80) agg_32) ?_
   refine rgp (al 1 (eGClass zGClass) zer_32) ?_
   iterate 8 refine go ?_
   obtain ⟨lr112, hF, hK113⟩ := bs hF
   refine aw_for ((y80.fMethods.length - 0 : Int).toNat + 1) (fun s1 => ∃ q, lr112 = .next q ∧ s1 = (sX 32 [pf 0 (.vs 7 (List.map eGClass a0)), (2, some (.lp 0 0)), pf 8 (.vs 7 (List.map eGClass a0)), pf 9 (.int .i64 (a0.length : Int)), pf 10 (.int .i64 x38)] [bf 0 73 (eGFault zGFault)] 1)) ?_ ?_
   ·refine rnd_loop (α := Unit) (fun q => (sX 32 [pf 0 (.vs 7 (List.map eGClass a0)), (2, some (.lp 0 0)), (4, some (.lp 1 0)), pf 8 (.vs 7 (List.map eGClass a0)), pf 9 (.int .i64 (a0.length : Int)), pf 10 (.int .i64 x38), pf 15 (.vs 17 (List.map eGMethod y80.fMethods)), pf 16 (.int .i64 (y80.fMethods.length : Int)), pf 17 (.int .i64 0)] [bf 0 73 (eGFault zGFault), bf 1 32 (eGClass y80)] 2)) (fun k q => flow_Check_L2 a0 y80 k = some lr112) () (impz [0, 1]) hF (fun q h => by cases h) ?_
    clear hF
    rintro k ⟨⟩ hF ih
    refine rnd_succ ?_
    iterate 3 refine go ?_
    refine aw_seq ?_
    refine cnd hF (fun hb102 hF => ?_) fun hb102 hF => ?_
    ·iterate 2 refine go ?_
     refine aw_seq ?_
     refine aw_block ?_
     refine go ?_
     obtain ⟨y105, h106, hF⟩ := bs hF
     refine rgp (ix (idx_map eGMethod h106) slc_30) ?_
     refine rgp (lw (eGMethod y105) agg_40) ?_
     refine rgp (al 2 (eGMethod zGMethod) zer_40) ?_
     iterate 4 refine go ?_
     refine rgp (la (eGClass y80) agg_32) ?_
     refine rgp (la (eGMethod y105) agg_40) ?_
     obtain ⟨y109, h110, hF⟩ := bs hF
     refine rgp (cl 3 [.vs 7 (List.map eGClass a0), .agg (eGClass y80), .agg (eGMethod y105)] [.p (.agg (eGFault y109))] (flow_Method_ok h110)) ?_
     refine rgp (al 3 (eGFault zGFault) zer_73) ?_
     iterate 7 refine go ?_
     refine cnd hF (fun hb111 hF => ?_) fun hb111 hF => ?_
     ·refine go ?_
      refine rgp (la (eGFault y109) agg_73) ?_
      iterate 6 refine go ?_
      refine post_lp_ret ?_
      cases hF
      have hF := elim_stop hK113
      iterate 3 refine go ?_
      refine post_lp_ret ?_
      cases hF
      have hF := elim_stop hK116
      refine go ?_
      cases hF
      exact post_ret rfl rfl (.cons _ _ _ _ _ (.agg _ _ _ _ _ 2 _ _ rfl rfl agg_73 rfl rfl rfl) (.p _) .nil) (.inl rfl)
     cases hF
    refine aw_exit ?_
    iterate 2 refine post_then_exit ?_
    cases hF
    exact post_lp_break _ ⟨_, rfl, rfl⟩ (impz [0])
   rintro _ ⟨⟨⟩, rfl, rfl⟩
   have hF := elim_next hK113
   clear hK113
   iterate 5 refine go ?_
   refine rnr ?_
   exact rnd_back (ih (w_i64 (x38 + 1)) hF) (impz [0])
  refine aw_exit ?_
  iterate 2 refine post_then_exit ?_
  cases hF
  exact post_lp_break _ ⟨_, rfl, rfl⟩ (impz [0])
 rintro _ ⟨⟨⟩, rfl, rfl⟩
 have hF := elim_next hK116
 clear hK116
 iterate 2 refine go ?_
 refine rgp (bd ((eGFault zGFault)) (eGFault ({ fErr := 0, fAt := 0 } : GFault)) zer_73 plc_73) ?_
 iterate 3 refine go ?_
 cases hF
 exact post_ret rfl rfl (.cons _ _ _ _ _ (.agg _ _ _ _ _ 2 _ _ rfl rfl agg_73 rfl rfl rfl) (.p _) .nil) (.inl rfl)
theorem law23_awake_ok  {r : Bool} (hF : law23_awake = some r) : FZ 9 [] [.p (.bool r)] := by
 unfold law23_awake at hF
 refine fn_of_body (n := 11) Tryz.func9 rfl rfl rfl fun w O => ?_
 iterate 4 refine go ?_
 obtain ⟨y3, h4, hF⟩ := bs hF
 refine rgp (cl 0 [.str [99, 108, 97, 115, 115, 32, 65, 32, 123, 32, 118, 111, 105, 100, 32, 109, 40, 105, 110, 116, 32, 110, 41, 32, 123, 32, 117, 110, 105, 113, 117, 101, 32, 65, 32, 117, 59, 32, 117, 32, 61, 32, 110, 101, 119, 32, 117, 110, 105, 113, 117, 101, 32, 65, 59, 32, 105, 102, 32, 40, 110, 41, 32, 123, 32, 100, 101, 108, 101, 116, 101, 32, 117, 59, 32, 125, 32, 100, 101, 108, 101, 116, 101, 32, 117, 59, 32, 125, 32, 125]] [.p (.vs 7 (List.map eGClass y3.1)), .p (.agg (eGFault y3.2))] (Fn.frozen (ref09_Of_ok h4))) ?_
 refine go ?_
 iterate 2 (refine rgp (op_extract rfl rfl rfl rfl rfl) ?_)
 refine rgp (al 0 (eGFault zGFault) zer_73) ?_
 iterate 5 refine go ?_
 obtain ⟨y5, h6, hF⟩ := bs hF
 refine rgp (cl 1 [.vs 7 (List.map eGClass y3.1)] [.p (.agg (eGFault y5))] (flow_Check_ok h6)) ?_
 refine rgp (bd ((eGFault zGFault)) (eGFault ({ fErr := 21, fAt := 77 } : GFault)) zer_73 plc_73) ?_
 refine rgp (op_eqAgg_eql (r := bGFault y5 ({ fErr := 21, fAt := 77 } : GFault)) rfl rfl rfl eqt_73 rfl rfl rfl rfl rfl) ?_
 iterate 3 refine go ?_
 cases hF
 exact prt
theorem ref12_Vars_ok {a0 : GMethod} {r : (List GVar)} (hF : ref12_Vars a0 = some r) : FZ 27 [.agg (eGMethod a0)] [.own 66 13 (List.map eGVar r)] := by
 unfold ref12_Vars at hF
 refine fn_of_body (n := 10) Tryz.func27 rfl rfl rfl fun w O => ?_
 refine go ?_
 refine rgp (bo 0) ?_
 iterate 2 refine go ?_
 refine aw_seq ?_
 refine aw_imp (imp_names 3) ?_
 refine dr_start ⟨_, _, _⟩ rfl ?_
 refine dr_cons { names := [1], dst := some 3, val := some (.ls 1), upd := [(1, some (.row 66 13 (List.map eGVar ([] : List GVar))))] } (fun m h => step_on (guard_no rfl) (op_litOwn 1 (fresh_free h.2.2.1) (rows := List.map eGVar ([] : List GVar)) (zs := (eGVar zGVar)) rfl rfl slc_29 zer_66 (by exact ⟨rfl, rfl, rfl, rfl, rfl, rfl, rfl, rfl, rfl, rfl, rfl, rfl, rfl, trivial⟩) rfl rfl rfl evs_nil rfl rfl rfl rfl) rfl) ⟨trivial, trivial, ⟨rfl, trivial⟩⟩ ?_
 iterate 2 refine dgo ?_
 obtain ⟨u1, h2, hF⟩ := bs hF
 refine dr_cons { need := [(3, .ls 1), (5, .pv (.vs 13 (List.map eGVar a0.fParams)))], hneed := [(1, .row 66 13 (List.map eGVar ([] : List GVar)))], names := [2], dst := some 6, val := some (.ls 2), upd := [(2, some (.row 66 13 (List.map eGVar (([] : List GVar) ++ a0.fParams)))), (1, none)] } (fun m h => step_on (guard_no rfl) (op_append 2 (fresh_free h.2.2.1) rfl h.1.1 h.2.1.1 h.1.2.1 slc_29 elm_66 zer_66 rfl rfl rfl (room_map (f := eGVar) (g := eGVar) h2) (List.map_append (f := eGVar) (l₁ := ([] : List GVar)) (l₂ := a0.fParams)).symm rfl rfl) rfl) ⟨⟨rfl, rfl, trivial⟩, ⟨rfl, trivial⟩, ⟨rfl, trivial⟩⟩ ?_
 iterate 2 refine dgo ?_
 obtain ⟨u3, h4, hF⟩ := bs hF
 refine dr_cons { need := [(6, .ls 2), (8, .pv (.vs 13 (List.map eGVar a0.fLocals)))], hneed := [(2, .row 66 13 (List.map eGVar (([] : List GVar) ++ a0.fParams)))], names := [3], dst := some 9, val := some (.ls 3), upd := [(3, some (.row 66 13 (List.map eGVar ((([] : List GVar) ++ a0.fParams) ++ a0.fLocals)))), (2, none)] } (fun m h => step_on (guard_no rfl) (op_append 3 (fresh_free h.2.2.1) rfl h.1.1 h.2.1.1 h.1.2.1 slc_29 elm_66 zer_66 rfl rfl rfl (room_map (f := eGVar) (g := eGVar) h4) (List.map_append (f := eGVar) (l₁ := (([] : List GVar) ++ a0.fParams)) (l₂ := a0.fLocals)).symm rfl rfl) rfl) ⟨⟨rfl, rfl, trivial⟩, ⟨rfl, trivial⟩, ⟨rfl, trivial⟩⟩ ?_
 refine dr_cons { need := [(9, .ls 3)], dst := some 2, val := some (.ls 3) } (fun m h => step_on (guard_no rfl) (op_assign rfl h.1.1 rfl rfl) rfl) ⟨⟨rfl, trivial⟩, trivial, trivial⟩ ?_
 refine dr_nil mixed rfl (by kernel_rfl) ?_
 refine piz (sX 10 [(2, some (.ls 0))] [(0, some (.row 66 13 (List.map eGVar ((([] : List GVar) ++ a0.fParams) ++ a0.fLocals))))] 1) [3] ?_
 iterate 2 refine go ?_
 cases hF
 exact post_ret rfl rfl (.cons _ _ _ _ _ (.tmp _ _ rfl) (.own _ _ _ _ rfl nolent3) .nil) (.inl rfl)
theorem ref05_Unique_ok {a0 : GType} {r : Bool} (hF : ref05_Unique a0 = some r) : FZ 61 [.agg (eGType a0)] [.p (.bool r)] := by
 unfold ref05_Unique at hF
 refine fn_of_body (n := 13) Tryz.func61 rfl rfl rfl fun w O => ?_
 refine go ?_
 refine rgp (bo 0) ?_
 iterate 7 refine go ?_
 rcases ie hF with ⟨hb1, hF⟩ | ⟨hb1, hF⟩
 ·refine gn hb1 ?_
  refine rgn hb1 (op_arr_lp (k := .i64) (m := 0) (n := 4) rfl rfl rfl arr_35 rfl rfl rfl rfl) ?_
  iterate 3 refine gn hb1 ?_
  refine rpt hb1 ?_
  iterate 3 refine go ?_
  cases hF
  exact prt
 iterate 5 refine rgo_f hb1 ?_
 refine rpf hb1 ?_
 iterate 3 refine go ?_
 cases hF
 exact prt
theorem ref18_Place_ok {a0 : GMethod} {a1 : List UInt8} {r : Int} (hF : ref18_Place a0 a1 = some r) : FZ 62 [.agg (eGMethod a0), .str a1] [.p (.int .i64 r)] := by
 unfold ref18_Place at hF
 refine fn_of_body (n := 23) Tryz.func62 rfl rfl rfl fun w O => ?_
 refine go ?_
 refine rgp (bo 0) ?_
 iterate 3 refine go ?_
 refine rgp (la (eGMethod a0) agg_40) ?_
 obtain ⟨y3, h4, hF⟩ := bs hF
 refine rgp (cl 1 [.agg (eGMethod a0)] [.p (.vs 13 (List.map eGVar y3))] (Fn.frozen (ref12_Vars_ok h4))) ?_
 iterate 6 refine go ?_
 obtain ⟨lr26, hF, hK27⟩ := bs hF
 refine aw_for ((y3.length - 0 : Int).toNat + 1) (fun s1 => ∃ q, lr26 = .next q ∧ s1 = (sX 23 [] [] 0)) ?_ ?_
 ·refine rnd_loop (α := Int) (fun q => (sX 23 [pf 1 (.str a1), pf 5 (.vs 13 (List.map eGVar y3)), pf 6 (.int .i64 q)] [] 0)) (fun k q => ref18_Place_L1 a1 y3 k q = some lr26) 0 (impz []) hF (fun q h => by cases h) ?_
  clear hF
  rintro k x11 hF ih
  refine rnd_succ ?_
  iterate 7 refine go ?_
  refine cnd hF (fun hb19 hF => ?_) fun hb19 hF => ?_
  ·iterate 2 refine go ?_
   refine aw_seq ?_
   refine aw_block ?_
   iterate 3 refine go ?_
   obtain ⟨y22, h23, hF⟩ := bs hF
   refine rgp (ix (idx_map eGVar h23) slc_29) ?_
   iterate 3 refine go ?_
   refine rgp (op_str rfl rfl rfl rfl rfl rfl) ?_
   refine go ?_
   refine cnd hF (fun hb24 hF => ?_) fun hb24 hF => ?_
   ·iterate 8 refine go ?_
    refine post_lp_ret ?_
    cases hF
    have hF := elim_stop hK27
    refine go ?_
    cases hF
    exact prt
   iterate 7 refine go ?_
   refine rnr ?_
   exact rnd_back (ih (w_i64 (x11 + 1)) hF) (impz [])
  refine aw_exit ?_
  iterate 2 refine post_then_exit ?_
  cases hF
  exact post_lp_break _ ⟨_, rfl, rfl⟩ (impz [])
 rintro _ ⟨⟨⟩, rfl, rfl⟩
 have hF := elim_next hK27
 clear hK27
 iterate 5 refine go ?_
 cases hF
 exact prt
theorem ref23_Uniques_ok {a0 : GMethod} {r : (List Int)} (hF : ref23_Uniques a0 = some r) : FZ 26 [.agg (eGMethod a0)] [.own 3 1 (List.map eI r)] := by
 unfold ref23_Uniques at hF
 refine fn_of_body (n := 36) Tryz.func26 rfl rfl rfl fun w O => ?_
 refine go ?_
 refine rgp (bo 0) ?_
 iterate 4 refine go ?_
 refine reg_imp (imp_nil_own 3 3 1 1 rfl rfl) ?_
 iterate 2 refine go ?_
 refine rgp (la (eGMethod a0) agg_40) ?_
 obtain ⟨y3, h4, hF⟩ := bs hF
 refine rgp (cl 2 [.agg (eGMethod a0)] [.p (.vs 13 (List.map eGVar y3))] (Fn.frozen (ref12_Vars_ok h4))) ?_
 iterate 6 refine go ?_
 obtain ⟨x80, hF, hK81⟩ := bs hF
 refine aw_for ((y3.length - 0 : Int).toNat + 1) (fun s1 => s1 = (sX 36 [(3, some (.ls 0))] [(0, some (.row 3 1 (List.map eI x80)))] 1)) ?_ ?_
 ·refine rnd_loop (α := (List Int) × Int) (fun q => (sX 36 [(1, some (.lp 0 0)), (3, some (.ls 1)), pf 4 (.vs 13 (List.map eGVar y3)), pf 5 (.int .i64 q.2)] [bf 0 40 (eGMethod a0), (1, some (.row 3 1 (List.map eI q.1)))] 2)) (fun k q => ref23_Uniques_L1 a0 y3 k q.1 q.2 = some x80) ([], 0) (impz [0, 1]) hF (fun q h => by cases h) ?_
  clear hF
  rintro k ⟨x28, x29⟩ hF ih
  refine rnd_succ ?_
  iterate 7 refine go ?_
  refine cnd hF (fun hb55 hF => ?_) fun hb55 hF => ?_
  ·iterate 2 refine go ?_
   refine aw_seq ?_
   obtain ⟨x75, hF, hK77⟩ := bs hF
   refine ctx (sX 36 [(1, some (.lp 0 0)), (3, some (.ls 1)), pf 4 (.vs 13 (List.map eGVar y3)), pf 5 (.int .i64 x29)] [bf 0 40 (eGMethod a0), (1, some (.row 3 1 (List.map eI x75)))] 2) ?_ ?_
   ·refine aw_block ?_
    refine aw_seq ?_
    obtain ⟨x69, hF, hK71⟩ := bs hF
    refine ctx (sX 36 [(1, some (.lp 0 0)), (3, some (.ls 1)), pf 4 (.vs 13 (List.map eGVar y3)), pf 5 (.int .i64 x29), pf 30 (.bool x69)] [bf 0 40 (eGMethod a0), (1, some (.row 3 1 (List.map eI x28)))] 2) ?_ ?_
    ·refine dr_start ⟨_, _, _⟩ rfl ?_
     iterate 2 refine dgo ?_
     obtain ⟨y60, h61, hF⟩ := bs hF
     refine dr_cons { need := [(14, .pv (.vs 13 (List.map eGVar y3))), (15, .pv (.int .i64 x29))], dst := some 16, val := some (.pv (.vp (eGVar y60))) } (fun m h => step_on (guard_no rfl) (op_index_vs (k := .i64) rfl h.1.1 h.1.2.1 (idx_map eGVar h61) slc_29 rfl rfl) rfl) ⟨⟨rfl, rfl, trivial⟩, trivial, trivial⟩ ?_
     refine dr_cons { need := [(16, .pv (.vp (eGVar y60)))], dst := some 17, val := some (.pv (.vp (List.drop 1 (eGVar y60)))) } (fun m h => step_on (guard_no rfl) (op_field_vp rfl h.1.1 fld_66_1 rfl rfl) rfl) ⟨⟨rfl, trivial⟩, trivial, trivial⟩ ?_
     refine dr_cons { need := [(17, .pv (.vp (List.drop 1 (eGVar y60))))], dst := some 18, val := some (.pv (.agg (eGType y60.fType))) } (fun m h => step_on (guard_no rfl) (op_load_vp_agg (ps := eGType y60.fType) rfl h.1.1 rfl rfl agg_37 rfl rfl) rfl) ⟨⟨rfl, trivial⟩, trivial, trivial⟩ ?_
     obtain ⟨y62, h63, hF⟩ := bs hF
     refine dr_cons { need := [(18, .pv (.agg (eGType y60.fType)))], dst := some 19, val := some (.pv (.bool y62)) } (fun m h => step_on (guard_no rfl) (op_call 2 rfl (caps := []) (args := [.agg (eGType y60.fType)]) (rs := [.p (.bool y62)]) rfl rfl (evl_cons h.1.1 evl_nil) cal_61 (ref05_Unique_ok h63) rfl rfl rfl) rfl) ⟨⟨rfl, trivial⟩, trivial, trivial⟩ ?_
     refine dgo ?_
     rcases ie hF with ⟨hb64, hF⟩ | ⟨hb64, hF⟩
     ·refine dr_cons { need := [(20, .pv (.bool y62)), (1, .lp 0 0)], hneed := [(0, .box 40 (bxv (eGMethod a0)))], dst := some 21, val := some (.pv (.agg (eGMethod a0))) } (fun m h => step_on (guard_on rfl rfl rfl h.1.1 hb64) (op_load_lp_agg (ps := eGMethod a0) rfl h.1.2.1 h.2.1.1 rfl rfl rfl agg_40 rfl rfl) rfl) ⟨⟨rfl, rfl, trivial⟩, ⟨rfl, trivial⟩, trivial⟩ ?_
      refine dr_cons { need := [(20, .pv (.bool y62)), (4, .pv (.vs 13 (List.map eGVar y3)))], dst := some 22, val := some (.pv (.vs 13 (List.map eGVar y3))) } (fun m h => step_on (guard_on rfl rfl rfl h.1.1 hb64) (op_move rfl h.1.2.1 rfl rfl) rfl) ⟨⟨rfl, rfl, trivial⟩, trivial, trivial⟩ ?_
      refine dr_cons { need := [(20, .pv (.bool y62)), (5, .pv (.int .i64 x29))], dst := some 23, val := some (.pv (.int .i64 x29)) } (fun m h => step_on (guard_on rfl rfl rfl h.1.1 hb64) (op_move rfl h.1.2.1 rfl rfl) rfl) ⟨⟨rfl, rfl, trivial⟩, trivial, trivial⟩ ?_
      obtain ⟨y65, h66, hF⟩ := bs hF
      refine dr_cons { need := [(20, .pv (.bool y62)), (22, .pv (.vs 13 (List.map eGVar y3))), (23, .pv (.int .i64 x29))], dst := some 24, val := some (.pv (.vp (eGVar y65))) } (fun m h => step_on (guard_on rfl rfl rfl h.1.1 hb64) (op_index_vs (k := .i64) rfl h.1.2.1 h.1.2.2.1 (idx_map eGVar h66) slc_29 rfl rfl) rfl) ⟨⟨rfl, rfl, rfl, trivial⟩, trivial, trivial⟩ ?_
      refine dr_cons { need := [(20, .pv (.bool y62)), (24, .pv (.vp (eGVar y65)))], dst := some 25, val := some (.pv (.vp (List.drop 0 (eGVar y65)))) } (fun m h => step_on (guard_on rfl rfl rfl h.1.1 hb64) (op_field_vp rfl h.1.2.1 fld_66_0 rfl rfl) rfl) ⟨⟨rfl, rfl, trivial⟩, trivial, trivial⟩ ?_
      refine dr_cons { need := [(20, .pv (.bool y62)), (25, .pv (.vp (List.drop 0 (eGVar y65))))], dst := some 26, val := some (.pv (.str y65.fName)) } (fun m h => step_on (guard_on rfl rfl rfl h.1.1 hb64) (op_load_vp (p := .str y65.fName) rfl h.1.2.1 rfl one_9 rfl rfl) rfl) ⟨⟨rfl, rfl, trivial⟩, trivial, trivial⟩ ?_
      obtain ⟨y67, h68, hF⟩ := bs hF
      refine dr_cons { need := [(20, .pv (.bool y62)), (26, .pv (.str y65.fName)), (21, .pv (.agg (eGMethod a0)))], dst := some 27, val := some (.pv (.int .i64 y67)) } (fun m h => step_on (guard_on rfl rfl rfl h.1.1 hb64) (op_call 2 rfl (caps := []) (args := [.agg (eGMethod a0), .str y65.fName]) (rs := [.p (.int .i64 y67)]) rfl rfl (evl_cons h.1.2.2.1 (evl_cons h.1.2.1 evl_nil)) cal_62 (ref18_Place_ok h68) rfl rfl rfl) rfl) ⟨⟨rfl, rfl, rfl, trivial⟩, trivial, trivial⟩ ?_
      refine dr_cons { need := [(20, .pv (.bool y62)), (5, .pv (.int .i64 x29))], dst := some 28, val := some (.pv (.int .i64 x29)) } (fun m h => step_on (guard_on rfl rfl rfl h.1.1 hb64) (op_move rfl h.1.2.1 rfl rfl) rfl) ⟨⟨rfl, rfl, trivial⟩, trivial, trivial⟩ ?_
      refine dr_cons { need := [(20, .pv (.bool y62)), (27, .pv (.int .i64 y67)), (28, .pv (.int .i64 x29))], dst := some 29, val := some (.pv (.bool (y67 == x29))) } (fun m h => step_on (guard_on rfl rfl rfl h.1.1 hb64) (op_int (k := .i64) (m := y67) (n := x29) rfl h.1.2.1 h.1.2.2.1 rfl rfl rfl) rfl) ⟨⟨rfl, rfl, rfl, trivial⟩, trivial, trivial⟩ ?_
      refine dr_cons { need := [(20, .pv (.bool y62)), (29, .pv (.bool (y67 == x29)))], dst := some 30, val := some (.pv (.bool (y67 == x29))) } (fun m h => step_on (guard_no rfl) (op_pick_t rfl h.1.1 hb64 h.1.2.1 rfl rfl) rfl) ⟨⟨rfl, rfl, trivial⟩, trivial, trivial⟩ ?_
      refine dr_nil mixed rfl (by kernel_rfl) ?_
      refine piz (sX 36 [(1, some (.lp 0 0)), (3, some (.ls 1)), pf 4 (.vs 13 (List.map eGVar y3)), pf 5 (.int .i64 x29), pf 30 (.bool (y67 == x29))] [bf 0 40 (eGMethod a0), (1, some (.row 3 1 (List.map eI x28)))] 2) [0, 1] ?_
      cases hF
      exact pcz [0, 1]
     iterate 9 refine dro_f hb64 ?_
     refine drpf hb64 ?_
     refine dr_nil mixed rfl (by kernel_rfl) ?_
     refine piz (sX 36 [(1, some (.lp 0 0)), (3, some (.ls 1)), pf 4 (.vs 13 (List.map eGVar y3)), pf 5 (.int .i64 x29), pf 30 (.bool false)] [bf 0 40 (eGMethod a0), (1, some (.row 3 1 (List.map eI x28)))] 2) [0, 1] ?_
     cases hF
     exact pcz [0, 1]
    have hF := hK71
    refine go ?_
    refine cnd hF (fun hb72 hF => ?_) fun hb72 hF => ?_
    ·iterate 3 refine go ?_
     refine rgp (op_lit (rows := List.map eI ([x29] : List Int)) (zs := [.int .i64 0]) rfl rfl slc_75 zer_3 (by exact ⟨rfl, trivial⟩) rfl rfl rfl rfl rfl rfl rfl rfl) ?_
     obtain ⟨u73, h74, hF⟩ := bs hF
     refine rgp (op_append 2 rfl rfl rfl rfl rfl slc_75 elm_3 zer_3 rfl rfl rfl (room_map (f := eI) (g := eI) h74) (List.map_append (f := eI) (l₁ := x28) (l₂ := [x29])).symm rfl rfl) ?_
     refine go ?_
     refine reg_nil ?_
     refine piz (sX 36 [(1, some (.lp 0 0)), (3, some (.ls 1)), pf 4 (.vs 13 (List.map eGVar y3)), pf 5 (.int .i64 x29)] [bf 0 40 (eGMethod a0), (1, some (.row 3 1 (List.map eI (x28 ++ [x29]))))] 2) [0, 2] ?_
     refine go ?_
     cases hF
     exact pcz [0, 1]
    iterate 2 refine go ?_
    cases hF
    exact pcz [0, 1]
   have hF := hK77
   iterate 5 refine go ?_
   refine rnr ?_
   exact rnd_back (ih (x75, w_i64 (x29 + 1)) hF) (impz [0, 1])
  refine aw_exit ?_
  iterate 2 refine post_then_exit ?_
  cases hF
  exact post_lp_break _ rfl (impz [1])
 rintro _ rfl
 have hF := hK81
 iterate 6 refine go ?_
 cases hF
 exact post_ret rfl rfl (.cons _ _ _ _ _ (.tmp _ _ rfl) (.own _ _ _ _ rfl nolent3) .nil) (.inl rfl)
theorem __flow_walker__names_ok {a0 : Gwalker_flow} {a1 : Int} {r : (List (List UInt8))} (hF : __flow_walker__names a0 a1 = some r) : FZ 41 [.vp (eGwalker_flow a0), .int .u64 a1] [.own 9 1 (List.map eS r)] := by
 unfold __flow_walker__names at hF
 refine fn_of_body (n := 29) Tryz.func41 rfl rfl rfl fun w O => ?_
 iterate 5 refine go ?_
 refine reg_imp (imp_nil_own 5 9 1 0 rfl rfl) ?_
 iterate 4 refine go ?_
 refine rgp (op_nilCheck rfl rfl rfl rfl rfl) ?_
 iterate 5 refine go ?_
 obtain ⟨x52, hF, hK53⟩ := bs hF
 refine aw_for ((a0.fvars.length - 0 : Int).toNat + 1) (fun s1 => s1 = (sX 29 [(5, some (.ls 0))] [(0, some (.row 9 1 (List.map eS x52)))] 1)) ?_ ?_
 ·refine rnd_loop (α := (List (List UInt8)) × Int) (fun q => (sX 29 [pf 0 (.vp (eGwalker_flow a0)), pf 1 (.int .u64 a1), (5, some (.ls 0)), pf 11 (.vs 1 (List.map eS a0.fvars)), pf 12 (.int .i64 (a0.fvars.length : Int)), pf 13 (.int .i64 q.2)] [(0, some (.row 9 1 (List.map eS q.1)))] 1)) (fun k q => __flow_walker__names_L1 a0 a1 k q.1 q.2 = some x52) ([], 0) (impz [0]) hF (fun q h => by cases h) ?_
  clear hF
  rintro k ⟨x16, x17⟩ hF ih
  refine rnd_succ ?_
  iterate 3 refine go ?_
  refine aw_seq ?_
  refine cnd hF (fun hb35 hF => ?_) fun hb35 hF => ?_
  ·iterate 2 refine go ?_
   refine aw_seq ?_
   obtain ⟨x47, hF, hK49⟩ := bs hF
   refine ctx (sX 29 [pf 0 (.vp (eGwalker_flow a0)), pf 1 (.int .u64 a1), (5, some (.ls 0)), pf 11 (.vs 1 (List.map eS a0.fvars)), pf 12 (.int .i64 (a0.fvars.length : Int)), pf 13 (.int .i64 x17)] [(0, some (.row 9 1 (List.map eS x47)))] 1) ?_ ?_
   ·refine aw_block ?_
    refine go ?_
    obtain ⟨y38, h39, hF⟩ := bs hF
    refine rgp (ix (idx_map eS h39) slc_23) ?_
    iterate 7 refine go ?_
    obtain ⟨y42, h43, hF⟩ := bs hF
    refine rgp (cl 1 [.vp (eGwalker_flow a0), .str y38] [.p (.int .u64 y42)] (__flow_walker__bit_ok h43)) ?_
    refine rgp (op_int2 (k := .u64) (m := a1) (n := y42) rfl rfl rfl rfl rfl rfl) ?_
    iterate 2 refine go ?_
    refine cnd hF (fun hb44 hF => ?_) fun hb44 hF => ?_
    ·iterate 3 refine go ?_
     refine rgp (op_lit (rows := List.map eS ([y38] : List (List UInt8))) (zs := [.str []]) rfl rfl slc_23 zer_9 (by exact ⟨rfl, trivial⟩) rfl rfl rfl rfl rfl rfl rfl rfl) ?_
     obtain ⟨u45, h46, hF⟩ := bs hF
     refine rgp (op_append 1 rfl rfl rfl rfl rfl slc_23 elm_9 zer_9 rfl rfl rfl (room_map (f := eS) (g := eS) h46) (List.map_append (f := eS) (l₁ := x16) (l₂ := [y38])).symm rfl rfl) ?_
     refine go ?_
     refine reg_nil ?_
     refine piz (sX 29 [pf 0 (.vp (eGwalker_flow a0)), pf 1 (.int .u64 a1), (5, some (.ls 0)), pf 11 (.vs 1 (List.map eS a0.fvars)), pf 12 (.int .i64 (a0.fvars.length : Int)), pf 13 (.int .i64 x17)] [(0, some (.row 9 1 (List.map eS (x16 ++ [y38]))))] 1) [1] ?_
     refine go ?_
     cases hF
     exact pcz [0]
    iterate 2 refine go ?_
    cases hF
    exact pcz [0]
   have hF := hK49
   iterate 4 refine go ?_
   refine rnr ?_
   exact rnd_back (ih (x47, w_i64 (x17 + 1)) hF) (impz [0])
  refine aw_exit ?_
  iterate 2 refine post_then_exit ?_
  cases hF
  exact post_lp_break _ rfl (impz [0])
 rintro _ rfl
 have hF := hK53
 iterate 6 refine go ?_
 cases hF
 exact post_ret rfl rfl (.cons _ _ _ _ _ (.tmp _ _ rfl) (.own _ _ _ _ rfl nolent3) .nil) (.inl rfl)
theorem flow_Stmt_ok {a0 : List GClass} {a1 : GClass} {a2 : GMethod} {a3 : GStmt} {a4 : List (List UInt8)} {r : (List (List UInt8)) × Bool} (hF : flow_Stmt a0 a1 a2 a3 a4 = some r) : FZ 12 [.vs 7 (List.map eGClass a0), .agg (eGClass a1), .agg (eGMethod a2), .agg (eGStmt a3), .vs 1 (List.map eS a4)] [.p (.vs 1 (List.map eS r.1)), .p (.bool r.2)] := by
 unfold flow_Stmt at hF
 refine fn_of_body (n := 50) Tryz.func12 rfl rfl rfl fun w O => ?_
 refine go ?_
 refine rgp (bo 0) ?_
 refine rgp (bo 1) ?_
 refine rgp (bo 2) ?_
 iterate 5 refine go ?_
 refine rgp (la (eGClass a1) agg_32) ?_
 refine rgp (la (eGMethod a2) agg_40) ?_
 obtain ⟨y3, h4, hF⟩ := bs hF
 refine rgp (op_callW (args := [.pv (.vs 7 (List.map eGClass a0)), .pv (.agg (eGClass a1)), .pv (.agg (eGMethod a2))]) [] [3] [] 4 rfl rfl rfl rfl rfl cal_38 (flow_made_w_ok h4) rfl (by decide) trivial rfl (by decide) ⟨.inr rfl, trivial⟩ (by kernel_rfl) (by kernel_rfl) rfl rfl rfl rfl) ?_
 refine go ?_
 iterate 2 (refine rgp (op_extract rfl rfl rfl rfl rfl) ?_)
 iterate 12 refine go ?_
 obtain ⟨x38, hF, hK39⟩ := bs hF
 refine aw_for ((a4.length - 0 : Int).toNat + 1) (fun s1 => s1 = (sX 50 [(8, some (.lp 0 0)), (12, some (.lp 1 0)), pf 14 (.int .u64 x38)] [bf 0 48 (eGStmt a3), bf 1 133 (eGwalker_flow y3.1)] 2)) ?_ ?_
 ·refine rnd_loop (α := Int × Int) (fun q => (sX 50 [(8, some (.lp 0 0)), (12, some (.lp 1 0)), pf 14 (.int .u64 q.1), pf 26 (.vs 1 (List.map eS a4)), pf 27 (.int .i64 (a4.length : Int)), pf 28 (.int .i64 q.2)] [bf 0 48 (eGStmt a3), bf 1 133 (eGwalker_flow y3.1)] 2)) (fun k q => flow_Stmt_L1 a4 y3 k q.1 q.2 = some x38) (0, 0) (impz [2, 3]) hF (fun q h => by cases h) ?_
  clear hF
  rintro k ⟨x14, x15⟩ hF ih
  refine rnd_succ ?_
  iterate 3 refine go ?_
  refine aw_seq ?_
  refine cnd hF (fun hb27 hF => ?_) fun hb27 hF => ?_
  ·iterate 2 refine go ?_
   refine aw_seq ?_
   refine aw_block ?_
   refine go ?_
   obtain ⟨y30, h31, hF⟩ := bs hF
   refine rgp (ix (idx_map eS h31) slc_23) ?_
   iterate 7 refine go ?_
   obtain ⟨y34, h35, hF⟩ := bs hF
   refine rgp (op_callB 2 rfl (caps := []) (args := [.vp (eGwalker_flow y3.1), .str y30]) [(1, some (.box 133 (bxv (eGwalker_flow y3.1))))] rfl rfl rfl (FzH.spec ⟨rfl, trivial⟩) rfl rfl cal_39 (__flow_walker__bit_ok h35) rfl rfl rfl) ?_
   refine rgp (op_int2 (k := .u64) (m := x14) (n := y34) rfl rfl rfl rfl rfl rfl) ?_
   refine go ?_
   refine reg_nil ?_
   refine piz (sX 50 [(8, some (.lp 0 0)), (12, some (.lp 1 0)), pf 14 (.int .u64 (orI .u64 x14 y34)), pf 26 (.vs 1 (List.map eS a4)), pf 27 (.int .i64 (a4.length : Int)), pf 28 (.int .i64 x15)] [bf 0 48 (eGStmt a3), bf 1 133 (eGwalker_flow y3.1)] 2) [0, 1] ?_
   iterate 5 refine go ?_
   refine rnr ?_
   exact rnd_back (ih (orI .u64 x14 y34, w_i64 (x15 + 1)) hF) (impz [0, 1])
  refine aw_exit ?_
  iterate 2 refine post_then_exit ?_
  cases hF
  exact post_lp_break _ rfl (impz [0, 1])
 rintro _ rfl
 have hF := hK39
 iterate 3 refine go ?_
 refine rgp (la (eGStmt a3) agg_48) ?_
 refine go ?_
 obtain ⟨y42, h43, hF⟩ := bs hF
 refine rgp (op_callB 2 rfl (caps := []) (args := [.vp (eGwalker_flow y3.1), .agg (eGStmt a3), .int .u64 x38]) [(1, some (.box 133 (bxv (eGwalker_flow y3.1))))] rfl rfl rfl (FzH.spec ⟨rfl, trivial⟩) rfl rfl cal_40 (__flow_walker__step_ok h43) rfl rfl rfl) ?_
 refine go ?_
 iterate 2 (refine rgp (op_extract rfl rfl rfl rfl rfl) ?_)
 iterate 8 refine go ?_
 refine cnd hF (fun hb44 hF => ?_) fun hb44 hF => ?_
 ·iterate 6 refine go ?_
  refine post_imp (imp_nil_vs 10 1 rfl) ?_
  cases hF
  exact post_ret rfl rfl (.cons _ _ _ _ _ (.tmp _ _ rfl) (.p _) (.cons _ _ _ _ _ (.tmp _ _ rfl) (.p _) .nil)) (.inl rfl)
 iterate 5 refine go ?_
 refine reg_imp (imp_freeze [(1, some (.box 133 (bxv (eGwalker_flow y3.1))))] [(12, some (.pv (.vp (eGwalker_flow y3.1)))), (47, some (.pv (.vp (eGwalker_flow y3.1))))] (FzH.spec ⟨rfl, trivial⟩) ⟨⟨_, rfl, rfl⟩, ⟨_, rfl, rfl⟩, trivial⟩) ?_
 obtain ⟨y45, h46, hF⟩ := bs hF
 refine rgp (cl 2 [.vp (eGwalker_flow y3.1), .int .u64 y42.1] [.p (.vs 1 (List.map eS y45))] (Fn.frozen (__flow_walker__names_ok h46))) ?_
 iterate 4 refine go ?_
 cases hF
 exact post_ret rfl rfl (.cons _ _ _ _ _ (.tmp _ _ rfl) (.p _) (.cons _ _ _ _ _ (.tmp _ _ rfl) (.p _) .nil)) (.inl rfl)
theorem law23_turn_ok {a0 : GWay_law23} {r : Bool × GWay_law23} (hF : law23_turn a0 = some r) : FZ 63 [.agg (eGWay_law23 a0)] [.p (.bool r.1), .p (.agg (eGWay_law23 r.2))] := by
 unfold law23_turn at hF
 refine fn_of_body (n := 20) Tryz.func63 rfl rfl rfl fun w O => ?_
 refine go ?_
 refine rgp (bo 0) ?_
 refine go ?_
 refine rgp (al 1 (eGWay_law23 zGWay_law23) zer_79) ?_
 iterate 8 refine go ?_
 refine cnd hF (fun hb1 hF => ?_) fun hb1 hF => ?_
 ·refine aw_seq ?_
  refine dr_start ⟨_, _, _⟩ rfl ?_
  refine dr_cons { need := [(1, .lp 0 0)], hneed := [(0, .box 79 (bxv (eGWay_law23 a0)))], dst := some 9, val := some (.pv (.agg (eGWay_law23 a0))) } (fun m h => step_on (guard_no rfl) (op_load_lp_agg (ps := eGWay_law23 a0) rfl h.1.1 h.2.1.1 rfl rfl rfl agg_79 rfl rfl) rfl) ⟨⟨rfl, trivial⟩, ⟨rfl, trivial⟩, trivial⟩ ?_
  refine dr_cons { dst := some 2, val := some (.pv (.bool false)) } (fun m h => step_on (guard_no rfl) (op_assign rfl rfl rfl rfl) rfl) ⟨trivial, trivial, trivial⟩ ?_
  refine dr_cons { need := [(3, .lp 1 0), (9, .pv (.agg (eGWay_law23 a0)))], hneed := [(1, .box 79 (bxv (eGWay_law23 zGWay_law23)))], upd := [(1, some (.box 79 (bxv (eGWay_law23 a0))))] } (fun m h => step_on (guard_no rfl) (op_store_lp (n := 4) rfl h.1.1 h.1.2.1 rfl h.2.1.1 (or_agg agg_79) (by rw [non_79]; rfl) rfl rfl rfl) rfl) ⟨⟨rfl, rfl, trivial⟩, ⟨rfl, trivial⟩, trivial⟩ ?_
  refine dr_nil mixed rfl (by kernel_rfl) ?_
  refine piz (sX 20 [pf 2 (.bool false), (3, some (.lp 0 0))] [bf 0 79 (eGWay_law23 a0)] 1) [1] ?_
  iterate 3 refine go ?_
  cases hF
  exact post_ret rfl rfl (.cons _ _ _ _ _ (.tmp _ _ rfl) (.p _) (.cons _ _ _ _ _ (.agg _ _ _ _ _ 4 _ _ rfl rfl agg_79 rfl rfl rfl) (.p _) .nil)) (.inl rfl)
 iterate 5 refine go ?_
 obtain ⟨y4, h5, hF⟩ := bs hF
 refine rgp (ix (idx_map eB h5) slc_70) ?_
 iterate 6 refine go ?_
 obtain ⟨y8, h9, hF⟩ := bs hF
 refine rgp (op_slice_vs (nl := (some 1)) (nh := none) (nm := none) rfl rfl rfl rfl rfl (.inl rfl) slc_70 (cut_map (nl := (some 1)) (nh := none) eB h9) rfl rfl) ?_
 iterate 3 refine go ?_
 refine aw_seq ?_
 refine dr_start ⟨_, _, _⟩ rfl ?_
 refine dgo ?_
 refine dr_cons { need := [(1, .lp 0 0)], hneed := [(0, .box 79 (bxv (eGWay_law23 ({ a0 with fTurns := y8 } : GWay_law23))))], dst := some 19, val := some (.pv (.agg (eGWay_law23 ({ a0 with fTurns := y8 } : GWay_law23)))) } (fun m h => step_on (guard_no rfl) (op_load_lp_agg (ps := eGWay_law23 ({ a0 with fTurns := y8 } : GWay_law23)) rfl h.1.1 h.2.1.1 rfl rfl rfl agg_79 rfl rfl) rfl) ⟨⟨rfl, trivial⟩, ⟨rfl, trivial⟩, trivial⟩ ?_
 refine dr_cons { need := [(18, .pv (.bool y4))], dst := some 2, val := some (.pv (.bool y4)) } (fun m h => step_on (guard_no rfl) (op_assign rfl h.1.1 rfl rfl) rfl) ⟨⟨rfl, trivial⟩, trivial, trivial⟩ ?_
 refine dr_cons { need := [(3, .lp 1 0), (19, .pv (.agg (eGWay_law23 ({ a0 with fTurns := y8 } : GWay_law23))))], hneed := [(1, .box 79 (bxv (eGWay_law23 zGWay_law23)))], upd := [(1, some (.box 79 (bxv (eGWay_law23 ({ a0 with fTurns := y8 } : GWay_law23)))))] } (fun m h => step_on (guard_no rfl) (op_store_lp (n := 4) rfl h.1.1 h.1.2.1 rfl h.2.1.1 (or_agg agg_79) (by rw [non_79]; rfl) rfl rfl rfl) rfl) ⟨⟨rfl, rfl, trivial⟩, ⟨rfl, trivial⟩, trivial⟩ ?_
 refine dr_nil mixed rfl (by kernel_rfl) ?_
 refine piz (sX 20 [pf 2 (.bool y4), (3, some (.lp 0 0))] [bf 0 79 (eGWay_law23 ({ a0 with fTurns := y8 } : GWay_law23))] 1) [1] ?_
 iterate 2 refine go ?_
 cases hF
 exact post_ret rfl rfl (.cons _ _ _ _ _ (.tmp _ _ rfl) (.p _) (.cons _ _ _ _ _ (.agg _ _ _ _ _ 4 _ _ rfl rfl agg_79 rfl rfl rfl) (.p _) .nil)) (.inl rfl)
theorem law23_walk_ring : ∀ n : Nat, (∀ (a0 : GPlace_ref20) (a1 : List GStmt) (a2 : GWay_law23) (r : GWay_law23), law23_walk n a0 a1 a2 = some r → FZ 28 [.agg (eGPlace_ref20 a0), .vs 23 (eLGStmt a1), .agg (eGWay_law23 a2)] [.p (.agg (eGWay_law23 r))]) := by
 intro n
 induction n with
 | zero => exact (fun _ _ _ _ h => by simp [law23_walk] at h)
 | succ n ih =>
  have law23_walk_ih := ih
  clear ih
  intro a0 a1 a2 r hF
  unfold law23_walk at hF
  revert hF law23_walk_ih
  generalize law23_walk n = law23_walk_rec
  intro law23_walk_ih hF
  refine fn_of_body (n := 102) Tryz.func28 rfl rfl rfl fun w O => ?_
  refine go ?_
  refine rgp (bo 0) ?_
  refine rgp (bo 1) ?_
  refine rgp (al 2 (eGWay_law23 zGWay_law23) zer_79) ?_
  iterate 5 refine go ?_
  obtain ⟨lr224, hF, hK225⟩ := bs hF
  refine aw_for (a1.length + 1) (fun s1 => ∃ q, lr224 = .next q ∧ s1 = (sX 102 [(5, some (.lp 0 0)), (6, some (.lp 1 0))] [bf 0 79 (eGWay_law23 q), bf 1 79 (eGWay_law23 zGWay_law23)] 2)) ?_ ?_
  ·refine rnd_loop (α := GWay_law23 × Int) (fun q => (sX 102 [pf 1 (.vs 23 (eLGStmt a1)), (3, some (.lp 0 0)), (5, some (.lp 1 0)), (6, some (.lp 2 0)), pf 7 (.int .i64 q.2)] [bf 0 42 (eGPlace_ref20 a0), bf 1 79 (eGWay_law23 q.1), bf 2 79 (eGWay_law23 zGWay_law23)] 3)) (fun k q => law23_walk_L1 a0 a1 a2 law23_walk_rec k q.1 q.2 = some lr224) (a2, 0) (impz [0, 1, 2]) hF (fun q h => by cases h) ?_
   clear hF
   rintro k ⟨x73, x74⟩ hF ih
   refine rnd_succ ?_
   refine aw_seq ?_
   refine aw_seq ?_
   obtain ⟨x151, hF, hK153⟩ := bs hF
   refine ctx (sX 102 [pf 1 (.vs 23 (eLGStmt a1)), (3, some (.lp 0 0)), (5, some (.lp 1 0)), (6, some (.lp 2 0)), pf 7 (.int .i64 x74), pf 27 (.bool x151)] [bf 0 42 (eGPlace_ref20 a0), bf 1 79 (eGWay_law23 x73), bf 2 79 (eGWay_law23 zGWay_law23)] 3) ?_ ?_
   ·iterate 3 refine go ?_
    refine rgp (op_len_vs (n := a1.length) rfl rfl (lenR eLGStmt_map) slc_38 rfl rfl) ?_
    iterate 2 refine go ?_
    rcases ie hF with ⟨hb149, hF⟩ | ⟨hb149, hF⟩
    ·iterate 3 refine gn hb149 ?_
     refine rpt hb149 ?_
     refine go ?_
     rcases ie hF with ⟨hb150, hF⟩ | ⟨hb150, hF⟩
     ·iterate 2 refine gn hb150 ?_
      refine rpt hb150 ?_
      cases hF
      exact rcz [0, 1, 2]
     iterate 2 refine rgo_f hb150 ?_
     refine rpf hb150 ?_
     cases hF
     exact rcz [0, 1, 2]
    iterate 3 refine rgo_f hb149 ?_
    refine rpf hb149 ?_
    refine go ?_
    iterate 2 refine rgo_f rfl ?_
    refine rpf rfl ?_
    cases hF
    exact rcz [0, 1, 2]
   have hF := hK153
   refine go ?_
   refine cnd hF (fun hb154 hF => ?_) fun hb154 hF => ?_
   ·iterate 2 refine go ?_
    refine aw_seq ?_
    refine aw_block ?_
    iterate 3 refine go ?_
    obtain ⟨y157, h158, hF⟩ := bs hF
    refine rgp (ix (idxR eLGStmt_map h158) slc_38) ?_
    refine rgp (lw (eGStmt y157) agg_48) ?_
    refine rgp (al 3 (eGStmt zGStmt) zer_48) ?_
    iterate 6 refine go ?_
    refine rgp (la (eGClass a0.fC) agg_32) ?_
    refine go ?_
    refine rgp (la (eGMethod a0.fM) agg_40) ?_
    refine rgp (la (eGStmt y157) agg_48) ?_
    iterate 2 refine go ?_
    obtain ⟨y161, h162, hF⟩ := bs hF
    refine rgp (cl 4 [.vs 7 (List.map eGClass a0.fP), .agg (eGClass a0.fC), .agg (eGMethod a0.fM), .agg (eGStmt y157), .vs 1 (List.map eS x73.fThere)] [.p (.vs 1 (List.map eS y161.1)), .p (.bool y161.2)] (flow_Stmt_ok h162)) ?_
    refine go ?_
    iterate 2 (refine rgp (op_extract rfl rfl rfl rfl rfl) ?_)
    iterate 8 refine go ?_
    refine cnd hF (fun hb163 hF => ?_) fun hb163 hF => ?_
    ·iterate 5 refine go ?_
     refine rgp (la (eGWay_law23 ({ x73 with fFine := false } : GWay_law23)) agg_79) ?_
     iterate 7 refine go ?_
     refine post_lp_ret ?_
     cases hF
     have hF := elim_stop hK225
     refine go ?_
     cases hF
     exact post_ret rfl rfl (.cons _ _ _ _ _ (.agg _ _ _ _ _ 4 _ _ rfl rfl agg_79 rfl rfl rfl) (.p _) .nil) (.inl rfl)
    iterate 14 refine go ?_
    refine aw_seq ?_
    obtain ⟨x174, hF, hK176⟩ := bs hF
    refine ctx (sX 102 [pf 1 (.vs 23 (eLGStmt a1)), (3, some (.lp 0 0)), (5, some (.lp 1 0)), (6, some (.lp 2 0)), pf 7 (.int .i64 x74), (8, some (.lp 3 0))] [bf 0 42 (eGPlace_ref20 a0), bf 1 79 (eGWay_law23 x174), bf 2 79 (eGWay_law23 zGWay_law23), bf 3 48 (eGStmt y157)] 4) ?_ ?_
    ·iterate 5 refine go ?_
     refine cnd hF (fun hb164 hF => ?_) fun hb164 hF => ?_
     ·refine go ?_
      refine rgp (la (eGWay_law23 ({ ({ x73 with fThere := y161.1 } : GWay_law23) with fBack := (y157.fKind == 11) } : GWay_law23)) agg_79) ?_
      obtain ⟨y167, h168, hF⟩ := bs hF
      refine rgp (cl 4 [.agg (eGWay_law23 ({ ({ x73 with fThere := y161.1 } : GWay_law23) with fBack := (y157.fKind == 11) } : GWay_law23))] [.p (.bool y167.1), .p (.agg (eGWay_law23 y167.2))] (law23_turn_ok h168)) ?_
      refine go ?_
      iterate 2 (refine rgp (op_extract rfl rfl rfl rfl rfl) ?_)
      refine rgp (al 4 (eGWay_law23 zGWay_law23) zer_79) ?_
      iterate 6 refine go ?_
      refine cnd hF (fun hb169 hF => ?_) fun hb169 hF => ?_
      ·refine go ?_
       refine rgp (la (eGPlace_ref20 a0) agg_42) ?_
       iterate 2 refine go ?_
       refine rgp (la (eGWay_law23 y167.2) agg_79) ?_
       obtain ⟨y170, h171, hF⟩ := bs hF
       refine rgp (cl 5 [.agg (eGPlace_ref20 a0), .vs 23 (eLGStmt y157.fBody), .agg (eGWay_law23 y167.2)] [.p (.agg (eGWay_law23 y170))] (law23_walk_ih _ _ _ _ h171)) ?_
       refine go ?_
       cases hF
       exact rcz [0, 1, 2, 3]
      refine go ?_
      refine rgp (la (eGPlace_ref20 a0) agg_42) ?_
      iterate 2 refine go ?_
      refine rgp (la (eGWay_law23 y167.2) agg_79) ?_
      obtain ⟨y172, h173, hF⟩ := bs hF
      refine rgp (cl 5 [.agg (eGPlace_ref20 a0), .vs 23 (eLGStmt y157.fElse), .agg (eGWay_law23 y167.2)] [.p (.agg (eGWay_law23 y172))] (law23_walk_ih _ _ _ _ h173)) ?_
      refine go ?_
      cases hF
      exact rcz [0, 1, 2, 3]
     refine go ?_
     cases hF
     exact pcz [0, 1, 2, 3]
    have hF := hK176
    refine go ?_
    obtain ⟨x219, hF, hK220⟩ := bs hF
    refine aw_for (a2.fTurns.length + 2) (fun s1 => s1 = (sX 102 [pf 1 (.vs 23 (eLGStmt a1)), (3, some (.lp 0 0)), (5, some (.lp 1 0)), (6, some (.lp 2 0)), pf 7 (.int .i64 x74)] [bf 0 42 (eGPlace_ref20 a0), bf 1 79 (eGWay_law23 x219), bf 2 79 (eGWay_law23 zGWay_law23)] 3)) ?_ ?_
    ·refine rnd_loop (α := GWay_law23) (fun q => (sX 102 [pf 1 (.vs 23 (eLGStmt a1)), (3, some (.lp 0 0)), (5, some (.lp 1 0)), (6, some (.lp 2 0)), pf 7 (.int .i64 x74), (8, some (.lp 3 0))] [bf 0 42 (eGPlace_ref20 a0), bf 1 79 (eGWay_law23 q), bf 2 79 (eGWay_law23 zGWay_law23), bf 3 48 (eGStmt y157)] 4)) (fun k q => law23_walk_L2 a0 y157 law23_walk_rec k q = some x219) x174 (impz [0, 1, 2, 3]) hF (fun q h => by cases h) ?_
     clear hF
     rintro k x190 hF ih
     refine rnd_succ ?_
     refine aw_seq ?_
     refine aw_seq ?_
     obtain ⟨x207, hF, hK209⟩ := bs hF
     refine ctx (sX 102 [pf 1 (.vs 23 (eLGStmt a1)), (3, some (.lp 0 0)), (5, some (.lp 1 0)), (6, some (.lp 2 0)), pf 7 (.int .i64 x74), (8, some (.lp 3 0)), pf 87 (.bool x207)] [bf 0 42 (eGPlace_ref20 a0), bf 1 79 (eGWay_law23 x190), bf 2 79 (eGWay_law23 zGWay_law23), bf 3 48 (eGStmt y157)] 4) ?_ ?_
     ·iterate 5 refine go ?_
      rcases ie hF with ⟨hb205, hF⟩ | ⟨hb205, hF⟩
      ·iterate 3 refine gn hb205 ?_
       refine rpt hb205 ?_
       refine go ?_
       rcases ie hF with ⟨hb206, hF⟩ | ⟨hb206, hF⟩
       ·iterate 2 refine gn hb206 ?_
        refine rpt hb206 ?_
        cases hF
        exact rcz [0, 1, 2, 3]
       iterate 2 refine rgo_f hb206 ?_
       refine rpf hb206 ?_
       cases hF
       exact rcz [0, 1, 2, 3]
      iterate 3 refine rgo_f hb205 ?_
      refine rpf hb205 ?_
      refine go ?_
      iterate 2 refine rgo_f rfl ?_
      refine rpf rfl ?_
      cases hF
      exact rcz [0, 1, 2, 3]
     have hF := hK209
     refine go ?_
     refine cnd hF (fun hb210 hF => ?_) fun hb210 hF => ?_
     ·iterate 2 refine go ?_
      refine aw_block ?_
      refine go ?_
      refine rgp (la (eGWay_law23 x190) agg_79) ?_
      obtain ⟨y213, h214, hF⟩ := bs hF
      refine rgp (cl 4 [.agg (eGWay_law23 x190)] [.p (.bool y213.1), .p (.agg (eGWay_law23 y213.2))] (law23_turn_ok h214)) ?_
      refine go ?_
      iterate 2 (refine rgp (op_extract rfl rfl rfl rfl rfl) ?_)
      refine rgp (al 4 (eGWay_law23 zGWay_law23) zer_79) ?_
      iterate 4 refine go ?_
      refine rgp (la (eGWay_law23 y213.2) agg_79) ?_
      iterate 7 refine go ?_
      refine cnd hF (fun hb215 hF => ?_) fun hb215 hF => ?_
      ·refine aw_exit ?_
       refine post_then_exit ?_
       refine post_block_other rfl ?_
       refine post_then_exit ?_
       cases hF
       exact post_lp_break _ rfl (impz [0, 1, 2])
      iterate 3 refine go ?_
      refine rgp (la (eGPlace_ref20 a0) agg_42) ?_
      iterate 2 refine go ?_
      refine rgp (la (eGWay_law23 y213.2) agg_79) ?_
      obtain ⟨y216, h217, hF⟩ := bs hF
      refine rgp (cl 5 [.agg (eGPlace_ref20 a0), .vs 23 (eLGStmt y157.fBody), .agg (eGWay_law23 y213.2)] [.p (.agg (eGWay_law23 y216))] (law23_walk_ih _ _ _ _ h217)) ?_
      refine go ?_
      refine reg_nil ?_
      refine piz (sX 102 [pf 1 (.vs 23 (eLGStmt a1)), (3, some (.lp 0 0)), (5, some (.lp 1 0)), (6, some (.lp 2 0)), pf 7 (.int .i64 x74), (8, some (.lp 3 0))] [bf 0 42 (eGPlace_ref20 a0), bf 1 79 (eGWay_law23 y216), bf 2 79 (eGWay_law23 zGWay_law23), bf 3 48 (eGStmt y157)] 4) [0, 1, 2, 3] ?_
      refine go ?_
      refine post_round ?_
      exact rnd_back (ih y216 hF) (impz [0, 1, 2, 3])
     refine aw_exit ?_
     iterate 2 refine post_then_exit ?_
     cases hF
     exact post_lp_break _ rfl (impz [0, 1, 2])
    rintro _ rfl
    have hF := hK220
    iterate 6 refine go ?_
    refine rnr ?_
    exact rnd_back (ih (x219, w_i64 (x74 + 1)) hF) (impz [0, 1, 2])
   refine aw_exit ?_
   iterate 2 refine post_then_exit ?_
   cases hF
   exact post_lp_break _ ⟨_, rfl, rfl⟩ (impz [1, 2])
  rintro _ ⟨x223, rfl, rfl⟩
  have hF := elim_next hK225
  clear hK225
  iterate 2 refine go ?_
  refine rgp (la (eGWay_law23 x223) agg_79) ?_
  iterate 3 refine go ?_
  cases hF
  exact post_ret rfl rfl (.cons _ _ _ _ _ (.agg _ _ _ _ _ 4 _ _ rfl rfl agg_79 rfl rfl rfl) (.p _) .nil) (.inl rfl)
theorem law23_walk_ok {n : Nat} {a0 : GPlace_ref20} {a1 : List GStmt} {a2 : GWay_law23} {r : GWay_law23} (hF : law23_walk n a0 a1 a2 = some r) : FZ 28 [.agg (eGPlace_ref20 a0), .vs 23 (eLGStmt a1), .agg (eGWay_law23 a2)] [.p (.agg (eGWay_law23 r))] := (law23_walk_ring n) _ _ _ _ hF

theorem flow_End_ok {a0 : List GClass} {a1 : GClass} {a2 : GMethod} {r : (List (List UInt8)) × Bool} (hF : flow_End a0 a1 a2 = some r) : FZ 29 [.vs 7 (List.map eGClass a0), .agg (eGClass a1), .agg (eGMethod a2)] [.p (.vs 1 (List.map eS r.1)), .p (.bool r.2)] := by
 unfold flow_End at hF
 refine fn_of_body (n := 29) Tryz.func29 rfl rfl rfl fun w O => ?_
 refine go ?_
 refine rgp (bo 0) ?_
 refine rgp (bo 1) ?_
 iterate 5 refine go ?_
 refine rgp (la (eGClass a1) agg_32) ?_
 refine rgp (la (eGMethod a2) agg_40) ?_
 obtain ⟨y3, h4, hF⟩ := bs hF
 refine rgp (op_callW (args := [.pv (.vs 7 (List.map eGClass a0)), .pv (.agg (eGClass a1)), .pv (.agg (eGMethod a2))]) [] [2] [] 3 rfl rfl rfl rfl rfl cal_59 (flow_walk_w_ok h4) rfl (by decide) trivial rfl (by decide) ⟨.inr rfl, trivial⟩ (by kernel_rfl) (by kernel_rfl) rfl rfl rfl rfl) ?_
 refine go ?_
 iterate 2 (refine rgp (op_extract rfl rfl rfl rfl rfl) ?_)
 iterate 3 refine go ?_
 refine aw_seq ?_
 refine aw_seq ?_
 obtain ⟨x6, hF, hK8⟩ := bs hF
 refine ctx (sX 29 [(8, some (.lp 0 0)), pf 9 (.int .u64 y3.2), pf 25 (.bool x6)] [bf 0 133 (eGwalker_flow y3.1)] 1) ?_ ?_
 ·iterate 2 refine go ?_
  refine rgp (op_nilCheck rfl rfl rfl rfl rfl) ?_
  iterate 4 refine go ?_
  rcases ie hF with ⟨hb5, hF⟩ | ⟨hb5, hF⟩
  ·refine rgo_t hb5 ?_
   refine rgo_t hb5 ?_
   refine rpt hb5 ?_
   cases hF
   exact rcz [2]
  iterate 2 refine gn hb5 ?_
  refine rpf hb5 ?_
  cases hF
  exact rcz [2]
 have hF := hK8
 refine go ?_
 refine cnd hF (fun hb9 hF => ?_) fun hb9 hF => ?_
 ·iterate 6 refine go ?_
  refine post_imp (imp_nil_vs 6 1 rfl) ?_
  cases hF
  exact post_ret rfl rfl (.cons _ _ _ _ _ (.tmp _ _ rfl) (.p _) (.cons _ _ _ _ _ (.tmp _ _ rfl) (.p _) .nil)) (.inl rfl)
 iterate 5 refine go ?_
 refine reg_imp (imp_freeze [(0, some (.box 133 (bxv (eGwalker_flow y3.1))))] [(8, some (.pv (.vp (eGwalker_flow y3.1)))), (26, some (.pv (.vp (eGwalker_flow y3.1))))] (FzH.spec ⟨rfl, trivial⟩) ⟨⟨_, rfl, rfl⟩, ⟨_, rfl, rfl⟩, trivial⟩) ?_
 obtain ⟨y10, h11, hF⟩ := bs hF
 refine rgp (cl 1 [.vp (eGwalker_flow y3.1), .int .u64 y3.2] [.p (.vs 1 (List.map eS y10))] (Fn.frozen (__flow_walker__names_ok h11))) ?_
 iterate 4 refine go ?_
 cases hF
 exact post_ret rfl rfl (.cons _ _ _ _ _ (.tmp _ _ rfl) (.p _) (.cons _ _ _ _ _ (.tmp _ _ rfl) (.p _) .nil)) (.inl rfl)
theorem law23_FlowWays_ok {a0 : List GClass} {a1 : List Bool} {r : Bool} (hF : law23_FlowWays a0 a1 = some r) : FZ 6 [.vs 7 (List.map eGClass a0), .vs 1 (List.map eB a1)] [.p (.bool r)] := by
 unfold law23_FlowWays at hF
 refine fn_of_body (n := 154) Tryz.func6 rfl rfl rfl fun w O => ?_
 iterate 3 refine go ?_
 refine aw_seq ?_
 refine aw_seq ?_
 obtain ⟨x9, hF, hK11⟩ := bs hF
 refine ctx (sX 154 [pf 0 (.vs 7 (List.map eGClass a0)), pf 1 (.vs 1 (List.map eB a1)), pf 29 (.bool x9)] [] 0) ?_ ?_
 ·iterate 2 refine go ?_
  obtain ⟨y3, h4, hF⟩ := bs hF
  refine rgp (cl 0 [.vs 7 (List.map eGClass a0)] [.p (.bool y3)] (ref10_Heavy_ok h4)) ?_
  refine go ?_
  rcases ie hF with ⟨hb5, hF⟩ | ⟨hb5, hF⟩
  ·refine rgo_t hb5 ?_
   iterate 2 refine rgo_t hb5 ?_
   refine rpt hb5 ?_
   refine go ?_
   iterate 3 refine rgo_t rfl ?_
   refine rpt rfl ?_
   cases hF
   exact rcz []
  refine gn hb5 ?_
  obtain ⟨y6, h7, hF⟩ := bs hF
  refine rgn hb5 (cl 0 [.vs 7 (List.map eGClass a0)] [.p (.bool y6)] (ref10_Right_ok h7)) ?_
  refine gn hb5 ?_
  refine rpf hb5 ?_
  refine go ?_
  rcases ie hF with ⟨hb8, hF⟩ | ⟨hb8, hF⟩
  ·refine rgo_t hb8 ?_
   iterate 2 refine rgo_t hb8 ?_
   refine rpt hb8 ?_
   cases hF
   exact rcz []
  iterate 3 refine gn hb8 ?_
  refine rpf hb8 ?_
  cases hF
  exact rcz []
 have hF := hK11
 refine go ?_
 refine cnd hF (fun hb12 hF => ?_) fun hb12 hF => ?_
 ·refine go ?_
  obtain ⟨y13, h14, hF⟩ := bs hF
  refine rgp (cl 0 [] [.p (.bool y13)] (law23_awake_ok h14)) ?_
  iterate 4 refine go ?_
  cases hF
  exact prt
 iterate 6 refine go ?_
 obtain ⟨lr1932, hF, hK1933⟩ := bs hF
 refine aw_for ((a0.length - 0 : Int).toNat + 1) (fun s1 => ∃ q, lr1932 = .next q ∧ s1 = (sX 154 [] [] 0)) ?_ ?_
 ·refine rnd_loop (α := Int) (fun q => (sX 154 [pf 0 (.vs 7 (List.map eGClass a0)), pf 1 (.vs 1 (List.map eB a1)), pf 5 (.int .i64 q)] [] 0)) (fun k q => law23_FlowWays_L1 a0 a1 k q = some lr1932) 0 (impz []) hF (fun q h => by cases h) ?_
  clear hF
  rintro k x653 hF ih
  refine rnd_succ ?_
  iterate 7 refine go ?_
  refine cnd hF (fun hb1293 hF => ?_) fun hb1293 hF => ?_
  ·iterate 2 refine go ?_
   refine aw_seq ?_
   refine aw_block ?_
   iterate 3 refine go ?_
   obtain ⟨lr1927, hF, hK1928⟩ := bs hF
   refine aw_for (Option.getD (Option.bind (idx a0 x653) fun (y1929 : GClass) => some ((y1929.fMethods.length - 0 : Int).toNat + 1)) 1) (fun s1 => ∃ q, lr1927 = .next q ∧ s1 = (sX 154 [pf 0 (.vs 7 (List.map eGClass a0)), pf 1 (.vs 1 (List.map eB a1)), pf 5 (.int .i64 x653)] [] 0)) ?_ ?_
   ·refine rnd_loop (α := Int) (fun q => (sX 154 [pf 0 (.vs 7 (List.map eGClass a0)), pf 1 (.vs 1 (List.map eB a1)), pf 5 (.int .i64 x653), pf 6 (.int .i64 q)] [] 0)) (fun k q => law23_FlowWays_L2 a0 a1 x653 k q = some lr1927) 0 (impz []) hF (fun q h => by cases h) ?_
    clear hF
    rintro k x1504 hF ih
    refine rnd_succ ?_
    iterate 5 refine go ?_
    obtain ⟨y1718, h1719, hF⟩ := bs hF
    refine rgp (ix (idx_map eGClass h1719) slc_22) ?_
    iterate 5 refine go ?_
    refine cnd hF (fun hb1720 hF => ?_) fun hb1720 hF => ?_
    ·iterate 2 refine go ?_
     refine aw_seq ?_
     refine aw_join hF (fun q => (sX 154 [pf 0 (.vs 7 (List.map eGClass a0)), pf 1 (.vs 1 (List.map eB a1)), pf 5 (.int .i64 x653), pf 6 (.int .i64 x1504)] [] 0)) ?_ ?_
     ·refine aw_block ?_
      refine aw_seq ?_
      refine aw_imp (imp_names 1) ?_
      refine dr_start ⟨_, _, _⟩ rfl ?_
      iterate 3 refine dgo ?_
      obtain ⟨y1727, h1728, hF⟩ := go_bind hF
      refine dr_cons { need := [(48, .pv (.vs 7 (List.map eGClass a0))), (49, .pv (.int .i64 x653))], dst := some 50, val := some (.pv (.vp (eGClass y1727))) } (fun m h => step_on (guard_no rfl) (op_index_vs (k := .i64) rfl h.1.1 h.1.2.1 (idx_map eGClass h1728) slc_22 rfl rfl) rfl) ⟨⟨rfl, rfl, trivial⟩, trivial, trivial⟩ ?_
      refine dr_cons { need := [(50, .pv (.vp (eGClass y1727)))], dst := some 51, val := some (.pv (.agg (eGClass y1727))) } (fun m h => step_on (guard_no rfl) (op_load_vp_agg (ps := eGClass y1727) rfl h.1.1 rfl rfl agg_32 rfl rfl) rfl) ⟨⟨rfl, trivial⟩, trivial, trivial⟩ ?_
      iterate 2 refine dgo ?_
      obtain ⟨y1729, h1730, hF⟩ := go_bind hF
      refine dr_cons { need := [(52, .pv (.vs 7 (List.map eGClass a0))), (53, .pv (.int .i64 x653))], dst := some 54, val := some (.pv (.vp (eGClass y1729))) } (fun m h => step_on (guard_no rfl) (op_index_vs (k := .i64) rfl h.1.1 h.1.2.1 (idx_map eGClass h1730) slc_22 rfl rfl) rfl) ⟨⟨rfl, rfl, trivial⟩, trivial, trivial⟩ ?_
      refine dr_cons { need := [(54, .pv (.vp (eGClass y1729)))], dst := some 55, val := some (.pv (.vp (List.drop 5 (eGClass y1729)))) } (fun m h => step_on (guard_no rfl) (op_field_vp rfl h.1.1 fld_32_5 rfl rfl) rfl) ⟨⟨rfl, trivial⟩, trivial, trivial⟩ ?_
      refine dr_cons { need := [(55, .pv (.vp (List.drop 5 (eGClass y1729))))], dst := some 56, val := some (.pv (.vs 17 (List.map eGMethod y1729.fMethods))) } (fun m h => step_on (guard_no rfl) (op_load_vp (p := .vs 17 (List.map eGMethod y1729.fMethods)) rfl h.1.1 rfl one_30 rfl rfl) rfl) ⟨⟨rfl, trivial⟩, trivial, trivial⟩ ?_
      refine dgo ?_
      obtain ⟨y1731, h1732, hF⟩ := go_bind hF
      refine dr_cons { need := [(56, .pv (.vs 17 (List.map eGMethod y1729.fMethods))), (57, .pv (.int .i64 x1504))], dst := some 58, val := some (.pv (.vp (eGMethod y1731))) } (fun m h => step_on (guard_no rfl) (op_index_vs (k := .i64) rfl h.1.1 h.1.2.1 (idx_map eGMethod h1732) slc_30 rfl rfl) rfl) ⟨⟨rfl, rfl, trivial⟩, trivial, trivial⟩ ?_
      refine dr_cons { need := [(58, .pv (.vp (eGMethod y1731)))], dst := some 59, val := some (.pv (.agg (eGMethod y1731))) } (fun m h => step_on (guard_no rfl) (op_load_vp_agg (ps := eGMethod y1731) rfl h.1.1 rfl rfl agg_40 rfl rfl) rfl) ⟨⟨rfl, trivial⟩, trivial, trivial⟩ ?_
      refine dr_cons { need := [(59, .pv (.agg (eGMethod y1731))), (51, .pv (.agg (eGClass y1727))), (47, .pv (.vs 7 (List.map eGClass a0)))], dst := some 60, val := some (.pv (.agg (eGPlace_ref20 ({ fP := a0, fC := y1727, fM := y1731 } : GPlace_ref20)))) } (fun m h => step_on (guard_no rfl) (op_build (zs := (eGPlace_ref20 zGPlace_ref20)) (r := eGPlace_ref20 ({ fP := a0, fC := y1727, fM := y1731 } : GPlace_ref20)) rfl zer_42 (by exact ⟨trivial, rfl, trivial, rfl, trivial, trivial, trivial, rfl, rfl, rfl, rfl, rfl, rfl, rfl, rfl, rfl, rfl, rfl, rfl, rfl, rfl, trivial, trivial, trivial, rfl, trivial⟩) plc_42 (evs_cons h.1.2.2.1 (evs_cons h.1.2.1 (evs_cons h.1.1 evs_nil))) rfl rfl rfl) rfl) ⟨⟨rfl, rfl, rfl, trivial⟩, trivial, trivial⟩ ?_
      refine dr_cons { names := [0], dst := some 7, val := some (.lp 0 0), upd := [(0, some (.box 42 (bxv (eGPlace_ref20 zGPlace_ref20))))] } (fun m h => step_on (guard_no rfl) (op_alloc 0 (fresh_free h.2.2.1) (ps := (eGPlace_ref20 zGPlace_ref20)) rfl zer_42 (by exact ⟨trivial, rfl, trivial, rfl, trivial, trivial, trivial, rfl, rfl, rfl, rfl, rfl, rfl, rfl, rfl, rfl, rfl, rfl, rfl, rfl, rfl, trivial, trivial, trivial, rfl, trivial⟩) rfl rfl) rfl) ⟨trivial, trivial, ⟨rfl, trivial⟩⟩ ?_
      refine dr_cons { need := [(7, .lp 0 0), (60, .pv (.agg (eGPlace_ref20 ({ fP := a0, fC := y1727, fM := y1731 } : GPlace_ref20))))], hneed := [(0, .box 42 (bxv (eGPlace_ref20 zGPlace_ref20)))], upd := [(0, some (.box 42 (bxv (eGPlace_ref20 ({ fP := a0, fC := y1727, fM := y1731 } : GPlace_ref20)))))] } (fun m h => step_on (guard_no rfl) (op_store_lp (n := 25) rfl h.1.1 h.1.2.1 rfl h.2.1.1 (or_agg agg_42) (by rw [non_42]; rfl) rfl rfl rfl) rfl) ⟨⟨rfl, rfl, trivial⟩, ⟨rfl, trivial⟩, trivial⟩ ?_
      refine dr_nil mixed rfl (by kernel_rfl) ?_
      refine piz (sX 154 [pf 0 (.vs 7 (List.map eGClass a0)), pf 1 (.vs 1 (List.map eB a1)), pf 5 (.int .i64 x653), pf 6 (.int .i64 x1504), (7, some (.lp 0 0))] [bf 0 42 (eGPlace_ref20 ({ fP := a0, fC := y1727, fM := y1731 } : GPlace_ref20))] 1) [0] ?_
      iterate 5 refine go ?_
      refine rgp (la (eGClass (({ fP := a0, fC := y1727, fM := y1731 } : GPlace_ref20).fC)) agg_32) ?_
      refine go ?_
      refine rgp (la (eGMethod (({ fP := a0, fC := y1727, fM := y1731 } : GPlace_ref20).fM)) agg_40) ?_
      obtain ⟨y1735, h1736, hF⟩ := go_bind hF
      refine rgp (cl 1 [.vs 7 (List.map eGClass a0), .agg (eGClass (({ fP := a0, fC := y1727, fM := y1731 } : GPlace_ref20).fC)), .agg (eGMethod (({ fP := a0, fC := y1727, fM := y1731 } : GPlace_ref20).fM))] [.p (.agg (eGFault y1735))] (flow_Method_ok h1736)) ?_
      refine rgp (op_field1 (p := .int .i64 y1735.fErr) rfl rfl ftb_73_0 one_71 rfl rfl rfl) ?_
      iterate 2 refine go ?_
      rcases go_ite hF with ⟨hb1737, hF⟩ | ⟨hb1737, hF⟩
      ·refine aw_cond_t rfl hb1737 ?_
       refine aw_exit ?_
       refine post_then_exit ?_
       refine post_block_exit ?_
       exact post_cut _ ⟨(), rfl, hF⟩ (impz [])
      refine aw_cond_f rfl hb1737 ?_
      iterate 4 refine go ?_
      refine reg_imp (imp_nil_own 8 9 1 1 rfl rfl) ?_
      iterate 3 refine go ?_
      refine rgp (la (eGMethod (({ fP := a0, fC := y1727, fM := y1731 } : GPlace_ref20).fM)) agg_40) ?_
      obtain ⟨y1740, h1741, hF⟩ := go_bind hF
      refine rgp (cl 2 [.agg (eGMethod (({ fP := a0, fC := y1727, fM := y1731 } : GPlace_ref20).fM))] [.p (.vs 1 (List.map eI y1740))] (Fn.frozen (ref23_Uniques_ok h1741))) ?_
      iterate 4 refine go ?_
      refine rgp (la (eGMethod (({ fP := a0, fC := y1727, fM := y1731 } : GPlace_ref20).fM)) agg_40) ?_
      obtain ⟨y1744, h1745, hF⟩ := go_bind hF
      refine rgp (cl 2 [.agg (eGMethod (({ fP := a0, fC := y1727, fM := y1731 } : GPlace_ref20).fM))] [.p (.vs 13 (List.map eGVar y1744))] (Fn.frozen (ref12_Vars_ok h1745))) ?_
      iterate 6 refine go ?_
      obtain ⟨x1797, hF, hK1798⟩ := go_bind hF
      refine aw_for ((y1740.length - 0 : Int).toNat + 1) (fun s1 => s1 = (sX 154 [pf 0 (.vs 7 (List.map eGClass a0)), pf 1 (.vs 1 (List.map eB a1)), pf 5 (.int .i64 x653), pf 6 (.int .i64 x1504), (7, some (.lp 0 0)), (8, some (.ls 1))] [bf 0 42 (eGPlace_ref20 ({ fP := a0, fC := y1727, fM := y1731 } : GPlace_ref20)), (1, some (.row 9 1 (List.map eS x1797)))] 2)) ?_ ?_
      ·refine rnd_loop (α := (List (List UInt8)) × Int) (fun q => (sX 154 [pf 0 (.vs 7 (List.map eGClass a0)), pf 1 (.vs 1 (List.map eB a1)), pf 5 (.int .i64 x653), pf 6 (.int .i64 x1504), (7, some (.lp 0 0)), (8, some (.ls 1)), pf 9 (.vs 1 (List.map eI y1740)), pf 10 (.vs 13 (List.map eGVar y1744)), pf 11 (.int .i64 q.2)] [bf 0 42 (eGPlace_ref20 ({ fP := a0, fC := y1727, fM := y1731 } : GPlace_ref20)), (1, some (.row 9 1 (List.map eS q.1)))] 2)) (fun k q => law23_FlowWays_L3 a0 y1727 y1731 y1740 y1744 k q.1 q.2 = some x1797) ([], 0) (impz [0, 1]) hF (fun q h => by cases h) ?_
       clear hF
       rintro k ⟨x1761, x1762⟩ hF ih
       refine rnd_succ ?_
       iterate 7 refine go ?_
       refine cnd hF (fun hb1780 hF => ?_) fun hb1780 hF => ?_
       ·iterate 2 refine go ?_
        refine aw_seq ?_
        obtain ⟨x1792, hF, hK1794⟩ := bs hF
        refine ctx (sX 154 [pf 0 (.vs 7 (List.map eGClass a0)), pf 1 (.vs 1 (List.map eB a1)), pf 5 (.int .i64 x653), pf 6 (.int .i64 x1504), (7, some (.lp 0 0)), (8, some (.ls 1)), pf 9 (.vs 1 (List.map eI y1740)), pf 10 (.vs 13 (List.map eGVar y1744)), pf 11 (.int .i64 x1762)] [bf 0 42 (eGPlace_ref20 ({ fP := a0, fC := y1727, fM := y1731 } : GPlace_ref20)), (1, some (.row 9 1 (List.map eS x1792)))] 2) ?_ ?_
        ·refine aw_block ?_
         refine aw_seq ?_
         refine dr_start ⟨_, _, _⟩ rfl ?_
         iterate 2 refine dgo ?_
         obtain ⟨y1783, h1784, hF⟩ := bs hF
         refine dr_cons { need := [(81, .pv (.vs 1 (List.map eI y1740))), (82, .pv (.int .i64 x1762))], dst := some 83, val := some (.pv (.vp (eI y1783))) } (fun m h => step_on (guard_no rfl) (op_index_vs (k := .i64) rfl h.1.1 h.1.2.1 (idx_map eI h1784) slc_75 rfl rfl) rfl) ⟨⟨rfl, rfl, trivial⟩, trivial, trivial⟩ ?_
         refine dr_cons { need := [(83, .pv (.vp (eI y1783)))], dst := some 84, val := some (.pv (.int .i64 y1783)) } (fun m h => step_on (guard_no rfl) (op_load_vp (p := .int .i64 y1783) rfl h.1.1 rfl one_3 rfl rfl) rfl) ⟨⟨rfl, trivial⟩, trivial, trivial⟩ ?_
         iterate 3 refine dgo ?_
         refine dr_cons { need := [(87, .pv (.vs 13 (List.map eGVar (({ fP := a0, fC := y1727, fM := y1731 } : GPlace_ref20).fM.fParams))))], dst := some 88, val := some (.pv (.int .i64 ((({ fP := a0, fC := y1727, fM := y1731 } : GPlace_ref20).fM.fParams).length : Int))) } (fun m h => step_on (guard_no rfl) (op_len_vs (n := (({ fP := a0, fC := y1727, fM := y1731 } : GPlace_ref20).fM.fParams).length) rfl h.1.1 (List.length_map ..) slc_29 rfl rfl) rfl) ⟨⟨rfl, trivial⟩, trivial, trivial⟩ ?_
         refine dr_cons { need := [(84, .pv (.int .i64 y1783)), (88, .pv (.int .i64 ((({ fP := a0, fC := y1727, fM := y1731 } : GPlace_ref20).fM.fParams).length : Int)))], dst := some 89, val := some (.pv (.bool (decide (y1783 < ((({ fP := a0, fC := y1727, fM := y1731 } : GPlace_ref20).fM.fParams).length : Int))))) } (fun m h => step_on (guard_no rfl) (op_int (k := .i64) (m := y1783) (n := ((({ fP := a0, fC := y1727, fM := y1731 } : GPlace_ref20).fM.fParams).length : Int)) rfl h.1.1 h.1.2.1 rfl rfl rfl) rfl) ⟨⟨rfl, rfl, trivial⟩, trivial, trivial⟩ ?_
         refine dr_nil mixed rfl (by kernel_rfl) ?_
         refine piz (sX 154 [pf 0 (.vs 7 (List.map eGClass a0)), pf 1 (.vs 1 (List.map eB a1)), pf 5 (.int .i64 x653), pf 6 (.int .i64 x1504), (7, some (.lp 0 0)), (8, some (.ls 1)), pf 9 (.vs 1 (List.map eI y1740)), pf 10 (.vs 13 (List.map eGVar y1744)), pf 11 (.int .i64 x1762), pf 89 (.bool (decide (y1783 < ((({ fP := a0, fC := y1727, fM := y1731 } : GPlace_ref20).fM.fParams).length : Int))))] [bf 0 42 (eGPlace_ref20 ({ fP := a0, fC := y1727, fM := y1731 } : GPlace_ref20)), (1, some (.row 9 1 (List.map eS x1761)))] 2) [0, 1] ?_
         refine go ?_
         refine cnd hF (fun hb1785 hF => ?_) fun hb1785 hF => ?_
         ·iterate 5 refine go ?_
          obtain ⟨y1786, h1787, hF⟩ := bs hF
          refine rgp (ix (idx_map eI h1787) slc_75) ?_
          refine go ?_
          obtain ⟨y1788, h1789, hF⟩ := bs hF
          refine rgp (ix (idx_map eGVar h1789) slc_29) ?_
          iterate 2 refine go ?_
          refine rgp (op_lit (rows := List.map eS ([y1788.fName] : List (List UInt8))) (zs := [.str []]) rfl rfl slc_23 zer_9 (by exact ⟨rfl, trivial⟩) rfl rfl rfl rfl rfl rfl rfl rfl) ?_
          obtain ⟨u1790, h1791, hF⟩ := bs hF
          refine rgp (op_append 2 rfl rfl rfl rfl rfl slc_23 elm_9 zer_9 rfl rfl rfl (room_map (f := eS) (g := eS) h1791) (List.map_append (f := eS) (l₁ := x1761) (l₂ := [y1788.fName])).symm rfl rfl) ?_
          refine go ?_
          refine reg_nil ?_
          refine piz (sX 154 [pf 0 (.vs 7 (List.map eGClass a0)), pf 1 (.vs 1 (List.map eB a1)), pf 5 (.int .i64 x653), pf 6 (.int .i64 x1504), (7, some (.lp 0 0)), (8, some (.ls 1)), pf 9 (.vs 1 (List.map eI y1740)), pf 10 (.vs 13 (List.map eGVar y1744)), pf 11 (.int .i64 x1762)] [bf 0 42 (eGPlace_ref20 ({ fP := a0, fC := y1727, fM := y1731 } : GPlace_ref20)), (1, some (.row 9 1 (List.map eS (x1761 ++ [y1788.fName]))))] 2) [0, 2] ?_
          refine go ?_
          cases hF
          exact pcz [0, 1]
         iterate 2 refine go ?_
         cases hF
         exact pcz [0, 1]
        have hF := hK1794
        iterate 5 refine go ?_
        refine rnr ?_
        exact rnd_back (ih (x1792, w_i64 (x1762 + 1)) hF) (impz [0, 1])
       refine aw_exit ?_
       iterate 2 refine post_then_exit ?_
       cases hF
       exact post_lp_break _ rfl (impz [0, 1])
      rintro _ rfl
      have hF := hK1798
      iterate 2 refine go ?_
      refine rgp (la (eGPlace_ref20 ({ fP := a0, fC := y1727, fM := y1731 } : GPlace_ref20)) agg_42) ?_
      iterate 5 refine go ?_
      refine reg_imp (imp_freeze [(1, some (.row 9 1 (List.map eS x1797)))] [(8, some (.pv (.vs 1 (List.map eS x1797)))), (105, some (.pv (.vs 1 (List.map eS x1797))))] (FzH.spec ⟨rfl, trivial⟩) ⟨⟨_, rfl, rfl⟩, ⟨_, rfl, rfl⟩, trivial⟩) ?_
      refine rgp (bd ((eGWay_law23 zGWay_law23)) (eGWay_law23 ({ fThere := x1797, fTurns := a1, fBack := false, fFine := true } : GWay_law23)) zer_79 plc_79) ?_
      obtain ⟨y1801, h1802, hF⟩ := go_bind hF
      refine rgp (cl 2 [.agg (eGPlace_ref20 ({ fP := a0, fC := y1727, fM := y1731 } : GPlace_ref20)), .vs 23 (eLGStmt (({ fP := a0, fC := y1727, fM := y1731 } : GPlace_ref20).fM.fBody)), .agg (eGWay_law23 ({ fThere := x1797, fTurns := a1, fBack := false, fFine := true } : GWay_law23))] [.p (.agg (eGWay_law23 y1801))] (law23_walk_ok h1802)) ?_
      refine rgp (al 2 (eGWay_law23 zGWay_law23) zer_79) ?_
      iterate 8 refine go ?_
      rcases go_ite hF with ⟨hb1803, hF⟩ | ⟨hb1803, hF⟩
      ·refine aw_cond_t rfl hb1803 ?_
       iterate 6 refine go ?_
       refine post_cut_ret ?_
       replace hF := go_stop hF
       iterate 2 refine go ?_
       refine post_lp_ret ?_
       cases hF
       have hF := elim_stop hK1928
       iterate 3 refine go ?_
       refine post_lp_ret ?_
       cases hF
       have hF := elim_stop hK1933
       refine go ?_
       cases hF
       exact prt
      refine aw_cond_f rfl hb1803 ?_
      iterate 5 refine go ?_
      refine rgp (la (eGClass (({ fP := a0, fC := y1727, fM := y1731 } : GPlace_ref20).fC)) agg_32) ?_
      refine go ?_
      refine rgp (la (eGMethod (({ fP := a0, fC := y1727, fM := y1731 } : GPlace_ref20).fM)) agg_40) ?_
      obtain ⟨y1806, h1807, hF⟩ := go_bind hF
      refine rgp (cl 3 [.vs 7 (List.map eGClass a0), .agg (eGClass (({ fP := a0, fC := y1727, fM := y1731 } : GPlace_ref20).fC)), .agg (eGMethod (({ fP := a0, fC := y1727, fM := y1731 } : GPlace_ref20).fM))] [.p (.vs 1 (List.map eS y1806.1)), .p (.bool y1806.2)] (flow_End_ok h1807)) ?_
      refine go ?_
      iterate 2 (refine rgp (op_extract rfl rfl rfl rfl rfl) ?_)
      iterate 8 refine go ?_
      rcases go_ite hF with ⟨hb1808, hF⟩ | ⟨hb1808, hF⟩
      ·refine aw_cond_t rfl hb1808 ?_
       refine aw_exit ?_
       refine post_then_exit ?_
       refine post_block_exit ?_
       exact post_cut _ ⟨(), rfl, hF⟩ (impz [])
      refine aw_cond_f rfl hb1808 ?_
      iterate 7 refine go ?_
      rcases go_ite hF with ⟨hb1809, hF⟩ | ⟨hb1809, hF⟩
      ·refine aw_cond_t rfl hb1809 ?_
       iterate 6 refine go ?_
       refine post_cut_ret ?_
       replace hF := go_stop hF
       iterate 2 refine go ?_
       refine post_lp_ret ?_
       cases hF
       have hF := elim_stop hK1928
       iterate 3 refine go ?_
       refine post_lp_ret ?_
       cases hF
       have hF := elim_stop hK1933
       refine go ?_
       cases hF
       exact prt
      refine aw_cond_f rfl hb1809 ?_
      iterate 5 refine go ?_
      obtain ⟨lr1924, hF, hK1925⟩ := go_bind hF
      refine aw_for ((y1806.1.length - 0 : Int).toNat + 1) (fun s1 => ∃ q, lr1924 = .next q ∧ s1 = (sX 154 [pf 0 (.vs 7 (List.map eGClass a0)), pf 1 (.vs 1 (List.map eB a1)), pf 5 (.int .i64 x653), pf 6 (.int .i64 x1504)] [] 0)) ?_ ?_
      ·refine rnd_loop (α := Int) (fun q => (sX 154 [pf 0 (.vs 7 (List.map eGClass a0)), pf 1 (.vs 1 (List.map eB a1)), pf 5 (.int .i64 x653), pf 6 (.int .i64 x1504), (12, some (.lp 0 0)), pf 13 (.vs 1 (List.map eS y1806.1)), pf 15 (.int .i64 q)] [bf 0 79 (eGWay_law23 y1801)] 1)) (fun k q => law23_FlowWays_L4 y1801 y1806 k q = some lr1924) 0 (impz [2]) hF (fun q h => by cases h) ?_
       clear hF
       rintro k x1847 hF ih
       refine rnd_succ ?_
       iterate 7 refine go ?_
       refine cnd hF (fun hb1886 hF => ?_) fun hb1886 hF => ?_
       ·iterate 2 refine go ?_
        refine aw_seq ?_
        refine aw_block ?_
        iterate 7 refine go ?_
        obtain ⟨x1920, hF, hK1921⟩ := bs hF
        refine aw_for ((y1801.fThere.length - 0 : Int).toNat + 1) (fun s1 => s1 = (sX 154 [pf 0 (.vs 7 (List.map eGClass a0)), pf 1 (.vs 1 (List.map eB a1)), pf 5 (.int .i64 x653), pf 6 (.int .i64 x1504), (12, some (.lp 0 0)), pf 13 (.vs 1 (List.map eS y1806.1)), pf 15 (.int .i64 x1847), pf 16 (.bool x1920)] [bf 0 79 (eGWay_law23 y1801)] 1)) ?_ ?_
        ·refine rnd_loop (α := Bool × Int) (fun q => (sX 154 [pf 0 (.vs 7 (List.map eGClass a0)), pf 1 (.vs 1 (List.map eB a1)), pf 5 (.int .i64 x653), pf 6 (.int .i64 x1504), (12, some (.lp 0 0)), pf 13 (.vs 1 (List.map eS y1806.1)), pf 15 (.int .i64 x1847), pf 16 (.bool q.1), pf 17 (.int .i64 q.2)] [bf 0 79 (eGWay_law23 y1801)] 1)) (fun k q => law23_FlowWays_L5 x1847 y1801 y1806 k q.1 q.2 = some x1920) (false, 0) (impz [0]) hF (fun q h => by cases h) ?_
         clear hF
         rintro k ⟨x1896, x1897⟩ hF ih
         refine rnd_succ ?_
         iterate 8 refine go ?_
         refine cnd hF (fun hb1909 hF => ?_) fun hb1909 hF => ?_
         ·iterate 2 refine go ?_
          refine aw_seq ?_
          refine aw_block ?_
          obtain ⟨x1915, hF, hK1917⟩ := bs hF
          refine ctx (sX 154 [pf 0 (.vs 7 (List.map eGClass a0)), pf 1 (.vs 1 (List.map eB a1)), pf 5 (.int .i64 x653), pf 6 (.int .i64 x1504), (12, some (.lp 0 0)), pf 13 (.vs 1 (List.map eS y1806.1)), pf 15 (.int .i64 x1847), pf 16 (.bool x1915), pf 17 (.int .i64 x1897)] [bf 0 79 (eGWay_law23 y1801)] 1) ?_ ?_
          ·refine dr_start ⟨_, _, _⟩ rfl ?_
           iterate 2 refine dgo ?_
           rcases ie hF with ⟨hb1910, hF⟩ | ⟨hb1910, hF⟩
           ·refine dro_t hb1910 ?_
            iterate 9 refine dro_t hb1910 ?_
            refine drpt hb1910 ?_
            refine dr_cons { need := [(150, .pv (.bool true))], dst := some 16, val := some (.pv (.bool true)) } (fun m h => step_on (guard_no rfl) (op_assign rfl h.1.1 rfl rfl) rfl) ⟨⟨rfl, trivial⟩, trivial, trivial⟩ ?_
            refine dr_nil mixed rfl (by kernel_rfl) ?_
            refine piz (sX 154 [pf 0 (.vs 7 (List.map eGClass a0)), pf 1 (.vs 1 (List.map eB a1)), pf 5 (.int .i64 x653), pf 6 (.int .i64 x1504), (12, some (.lp 0 0)), pf 13 (.vs 1 (List.map eS y1806.1)), pf 15 (.int .i64 x1847), pf 16 (.bool true), pf 17 (.int .i64 x1897)] [bf 0 79 (eGWay_law23 y1801)] 1) [0] ?_
            cases hF
            exact pcz [0]
           iterate 2 refine dgn hb1910 ?_
           refine dr_cons { need := [(139, .pv (.bool x1896)), (17, .pv (.int .i64 x1897))], dst := some 142, val := some (.pv (.int .i64 x1897)) } (fun m h => step_on (guard_on rfl rfl rfl h.1.1 hb1910) (op_move rfl h.1.2.1 rfl rfl) rfl) ⟨⟨rfl, rfl, trivial⟩, trivial, trivial⟩ ?_
           obtain ⟨y1911, h1912, hF⟩ := bs hF
           refine dr_cons { need := [(139, .pv (.bool x1896)), (141, .pv (.vs 1 (List.map eS y1801.fThere))), (142, .pv (.int .i64 x1897))], dst := some 143, val := some (.pv (.vp (eS y1911))) } (fun m h => step_on (guard_on rfl rfl rfl h.1.1 hb1910) (op_index_vs (k := .i64) rfl h.1.2.1 h.1.2.2.1 (idx_map eS h1912) slc_23 rfl rfl) rfl) ⟨⟨rfl, rfl, rfl, trivial⟩, trivial, trivial⟩ ?_
           refine dr_cons { need := [(139, .pv (.bool x1896)), (143, .pv (.vp (eS y1911)))], dst := some 144, val := some (.pv (.str y1911)) } (fun m h => step_on (guard_on rfl rfl rfl h.1.1 hb1910) (op_load_vp (p := .str y1911) rfl h.1.2.1 rfl one_9 rfl rfl) rfl) ⟨⟨rfl, rfl, trivial⟩, trivial, trivial⟩ ?_
           refine dr_cons { need := [(139, .pv (.bool x1896)), (13, .pv (.vs 1 (List.map eS y1806.1)))], dst := some 145, val := some (.pv (.vs 1 (List.map eS y1806.1))) } (fun m h => step_on (guard_on rfl rfl rfl h.1.1 hb1910) (op_move rfl h.1.2.1 rfl rfl) rfl) ⟨⟨rfl, rfl, trivial⟩, trivial, trivial⟩ ?_
           refine dr_cons { need := [(139, .pv (.bool x1896)), (15, .pv (.int .i64 x1847))], dst := some 146, val := some (.pv (.int .i64 x1847)) } (fun m h => step_on (guard_on rfl rfl rfl h.1.1 hb1910) (op_move rfl h.1.2.1 rfl rfl) rfl) ⟨⟨rfl, rfl, trivial⟩, trivial, trivial⟩ ?_
           obtain ⟨y1913, h1914, hF⟩ := bs hF
           refine dr_cons { need := [(139, .pv (.bool x1896)), (145, .pv (.vs 1 (List.map eS y1806.1))), (146, .pv (.int .i64 x1847))], dst := some 147, val := some (.pv (.vp (eS y1913))) } (fun m h => step_on (guard_on rfl rfl rfl h.1.1 hb1910) (op_index_vs (k := .i64) rfl h.1.2.1 h.1.2.2.1 (idx_map eS h1914) slc_23 rfl rfl) rfl) ⟨⟨rfl, rfl, rfl, trivial⟩, trivial, trivial⟩ ?_
           refine dr_cons { need := [(139, .pv (.bool x1896)), (147, .pv (.vp (eS y1913)))], dst := some 148, val := some (.pv (.str y1913)) } (fun m h => step_on (guard_on rfl rfl rfl h.1.1 hb1910) (op_load_vp (p := .str y1913) rfl h.1.2.1 rfl one_9 rfl rfl) rfl) ⟨⟨rfl, rfl, trivial⟩, trivial, trivial⟩ ?_
           refine dr_cons { need := [(139, .pv (.bool x1896)), (144, .pv (.str y1911)), (148, .pv (.str y1913))], dst := some 149, val := some (.pv (.bool (y1911 == y1913))) } (fun m h => step_on (guard_on rfl rfl rfl h.1.1 hb1910) (op_str rfl h.1.2.1 h.1.2.2.1 rfl rfl rfl) rfl) ⟨⟨rfl, rfl, rfl, trivial⟩, trivial, trivial⟩ ?_
           refine dr_cons { need := [(139, .pv (.bool x1896)), (149, .pv (.bool (y1911 == y1913)))], dst := some 150, val := some (.pv (.bool (y1911 == y1913))) } (fun m h => step_on (guard_no rfl) (op_pick_f rfl h.1.1 hb1910 h.1.2.1 rfl rfl) rfl) ⟨⟨rfl, rfl, trivial⟩, trivial, trivial⟩ ?_
           refine dr_cons { need := [(150, .pv (.bool (y1911 == y1913)))], dst := some 16, val := some (.pv (.bool (y1911 == y1913))) } (fun m h => step_on (guard_no rfl) (op_assign rfl h.1.1 rfl rfl) rfl) ⟨⟨rfl, trivial⟩, trivial, trivial⟩ ?_
           refine dr_nil mixed rfl (by kernel_rfl) ?_
           refine piz (sX 154 [pf 0 (.vs 7 (List.map eGClass a0)), pf 1 (.vs 1 (List.map eB a1)), pf 5 (.int .i64 x653), pf 6 (.int .i64 x1504), (12, some (.lp 0 0)), pf 13 (.vs 1 (List.map eS y1806.1)), pf 15 (.int .i64 x1847), pf 16 (.bool (y1911 == y1913)), pf 17 (.int .i64 x1897)] [bf 0 79 (eGWay_law23 y1801)] 1) [0] ?_
           cases hF
           exact pcz [0]
          have hF := hK1917
          iterate 6 refine go ?_
          refine rnr ?_
          exact rnd_back (ih (x1915, w_i64 (x1897 + 1)) hF) (impz [0])
         refine aw_exit ?_
         iterate 2 refine post_then_exit ?_
         cases hF
         exact post_lp_break _ rfl (impz [0])
        rintro _ rfl
        have hF := hK1921
        iterate 5 refine go ?_
        refine cnd hF (fun hb1922 hF => ?_) fun hb1922 hF => ?_
        ·iterate 7 refine go ?_
         refine post_lp_ret ?_
         cases hF
         have hF := go_elim_stop hK1925
         refine go ?_
         refine post_cut_ret ?_
         replace hF := go_stop hF
         iterate 2 refine go ?_
         refine post_lp_ret ?_
         cases hF
         have hF := elim_stop hK1928
         iterate 3 refine go ?_
         refine post_lp_ret ?_
         cases hF
         have hF := elim_stop hK1933
         refine go ?_
         cases hF
         exact prt
        iterate 7 refine go ?_
        refine rnr ?_
        exact rnd_back (ih (w_i64 (x1847 + 1)) hF) (impz [0])
       refine aw_exit ?_
       iterate 2 refine post_then_exit ?_
       cases hF
       exact post_lp_break _ ⟨_, rfl, rfl⟩ (impz [])
      rintro _ ⟨⟨⟩, rfl, rfl⟩
      have hF := go_elim_next hK1925
      clear hK1925
      refine go ?_
      exact post_cut _ ⟨(), rfl, hF⟩ (impz [])
     rintro ⟨⟩ hF
     iterate 5 refine go ?_
     refine rnr ?_
     exact rnd_back (ih (w_i64 (x1504 + 1)) hF) (impz [])
    refine aw_exit ?_
    iterate 2 refine post_then_exit ?_
    cases hF
    exact post_lp_break _ ⟨_, rfl, rfl⟩ (impz [])
   rintro _ ⟨⟨⟩, rfl, rfl⟩
   have hF := elim_next hK1928
   clear hK1928
   iterate 6 refine go ?_
   refine rnr ?_
   exact rnd_back (ih (w_i64 (x653 + 1)) hF) (impz [])
  refine aw_exit ?_
  iterate 2 refine post_then_exit ?_
  cases hF
  exact post_lp_break _ ⟨_, rfl, rfl⟩ (impz [])
 rintro _ ⟨⟨⟩, rfl, rfl⟩
 have hF := elim_next hK1933
 clear hK1933
 iterate 2 refine go ?_
 obtain ⟨y1934, h1935, hF⟩ := bs hF
 refine rgp (cl 0 [] [.p (.bool y1934)] (law23_awake_ok h1935)) ?_
 iterate 3 refine go ?_
 cases hF
 exact prt
end Go.Proofs.YthhdlpggmmfaiaaGreat
