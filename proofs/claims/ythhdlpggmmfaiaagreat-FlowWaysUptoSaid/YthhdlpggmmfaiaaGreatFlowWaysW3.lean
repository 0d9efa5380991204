/- A part of the proof that the law FlowWays gives true for every input. -/
import Derived.Test.YthhdlpggmmfaiaaGreatFlowWaysT
import Derived.Test.YthhdlpggmmfaiaaGreatFlowWaysX
import Derived.Test.YthhdlpggmmfaiaaGreatFlowWaysI
import Derived.Test.YthhdlpggmmfaiaaGreatFlowWaysW2
/- Each Go function computes its plain function. -/
namespace Go.Proofs.YthhdlpggmmfaiaaGreat
open Go.RowKit Go.Abs
set_option maxRecDepth 100000
set_option maxHeartbeats 4000000
theorem flow_made_w_ok {a0 : List GClass} {a1 : GClass} {a2 : GMethod} {r : Gwalker_flow × Int} (hF : flow_made_w a0 a1 a2 = some r) : Abs.FnW globs_Tryz Tryz.prog 38 [.pv (.vs 7 (List.map eGClass a0)), .pv (.agg (eGClass a1)), .pv (.agg (eGMethod a2))] [] 0 [] [.lp 0 0, .pv (.int .u64 r.2)] [(0, some (.box 133 (bxv (eGwalker_flow r.1))))] 1 := by
 unfold flow_made_w at hF
 refine fnW_of_body (n := 90) (m := 0) [] Tryz.func38 rfl rfl rfl ?_
 intro c w O θ hcx
 refine go ?_
 refine rgp (bo 0) ?_
 refine rgp (bo 1) ?_
 iterate 5 refine go ?_
 refine rgp (la (eGClass a1) agg_32) ?_
 refine rgp (la (eGMethod a2) agg_40) ?_
 refine rgp (op_makeMap 2 rfl rfl map_131 rfl rfl) ?_
 refine rgp (op_buildM (zs := [.vs 7 (List.map eGClass zGwalker_flow.fp), .str zGwalker_flow.fc.fName, .vs 1 (List.map eS zGwalker_flow.fc.fParams), .str zGwalker_flow.fc.fSuper, .vs 2 (List.map eGOwner zGwalker_flow.fc.fAbove), .nils, .nils, .int .i64 zGwalker_flow.fc.fAt, .str zGwalker_flow.fm.fName, .bool zGwalker_flow.fm.fPure, .int .i64 zGwalker_flow.fm.fRet.fKind, .str zGwalker_flow.fm.fRet.fClass, .int .i64 zGwalker_flow.fm.fRet.fN, .int .i64 zGwalker_flow.fm.fRet.fOwn.a0.fKind, .int .i64 zGwalker_flow.fm.fRet.fOwn.a0.fN, .int .i64 zGwalker_flow.fm.fRet.fOwn.a1.fKind, .int .i64 zGwalker_flow.fm.fRet.fOwn.a1.fN, .int .i64 zGwalker_flow.fm.fRet.fOwn.a2.fKind, .int .i64 zGwalker_flow.fm.fRet.fOwn.a2.fN, .int .i64 zGwalker_flow.fm.fRet.fOwn.a3.fKind, .int .i64 zGwalker_flow.fm.fRet.fOwn.a3.fN, .vs 13 (List.map eGVar zGwalker_flow.fm.fParams), .vs 13 (List.map eGVar zGwalker_flow.fm.fLocals), .nils, .int .i64 zGwalker_flow.fm.fAt, .nils, .nilm, .int .i64 zGwalker_flow.fbad, .int .i64 zGwalker_flow.fn]) (r := [.pv (.vs 7 (List.map eGClass a0)), .pv (.str a1.fName), .pv (.vs 1 (List.map eS a1.fParams)), .pv (.str a1.fSuper), .pv (.vs 2 (List.map eGOwner a1.fAbove)), .pv (.vs 13 (List.map eGVar a1.fFields)), .pv (.vs 17 (List.map eGMethod a1.fMethods)), .pv (.int .i64 a1.fAt), .pv (.str a2.fName), .pv (.bool a2.fPure), .pv (.int .i64 a2.fRet.fKind), .pv (.str a2.fRet.fClass), .pv (.int .i64 a2.fRet.fN), .pv (.int .i64 a2.fRet.fOwn.a0.fKind), .pv (.int .i64 a2.fRet.fOwn.a0.fN), .pv (.int .i64 a2.fRet.fOwn.a1.fKind), .pv (.int .i64 a2.fRet.fOwn.a1.fN), .pv (.int .i64 a2.fRet.fOwn.a2.fKind), .pv (.int .i64 a2.fRet.fOwn.a2.fN), .pv (.int .i64 a2.fRet.fOwn.a3.fKind), .pv (.int .i64 a2.fRet.fOwn.a3.fN), .pv (.vs 13 (List.map eGVar a2.fParams)), .pv (.vs 13 (List.map eGVar a2.fLocals)), .pv (.vs 23 (eLGStmt a2.fBody)), .pv (.int .i64 a2.fAt), .pv .nils, .ls 2, .pv (.int .i64 zGwalker_flow.fbad), .pv (.int .i64 zGwalker_flow.fn)]) rfl zer_133 (by exact ⟨trivial, rfl, trivial, rfl, trivial, rfl, rfl, rfl, rfl, rfl, rfl, rfl, rfl, rfl, rfl, rfl, rfl, rfl, rfl, rfl, rfl, trivial, trivial, rfl, rfl, rfl, rfl, rfl, rfl, trivial⟩) plc_133 rfl rfl rfl rfl) ?_
 refine rgp (bo 3) ?_
 refine reg_imp (imp_nil_box 3 25 133 9 1 4 rfl rfl rfl) ?_
 iterate 6 refine go ?_
 refine rgp (op_makeMap 5 rfl rfl map_131 rfl rfl) ?_
 iterate 4 refine go ?_
 refine rgp (la (eGMethod a2) agg_40) ?_
 obtain ⟨y3, h4, hF⟩ := bs hF
 refine rgp (cl 6 [.agg (eGMethod a2)] [.p (.vs 13 (List.map eGVar y3))] (arena_Vars_ok h4)) ?_
 iterate 3 refine go ?_
 obtain ⟨lr162, hF, hK163⟩ := bs hF
 refine aw_for ((y3.length - 0 : Int).toNat + 1) (fun s1 => s1 = (sX 90 [(8, some (.lp 0 0)), pf 9 (.int .u64 lr162.2.2.2)] [(0, some (.box 133 [.pv (.vs 7 (List.map eGClass a0)), .pv (.str a1.fName), .pv (.vs 1 (List.map eS a1.fParams)), .pv (.str a1.fSuper), .pv (.vs 2 (List.map eGOwner a1.fAbove)), .pv (.vs 13 (List.map eGVar a1.fFields)), .pv (.vs 17 (List.map eGMethod a1.fMethods)), .pv (.int .i64 a1.fAt), .pv (.str a2.fName), .pv (.bool a2.fPure), .pv (.int .i64 a2.fRet.fKind), .pv (.str a2.fRet.fClass), .pv (.int .i64 a2.fRet.fN), .pv (.int .i64 a2.fRet.fOwn.a0.fKind), .pv (.int .i64 a2.fRet.fOwn.a0.fN), .pv (.int .i64 a2.fRet.fOwn.a1.fKind), .pv (.int .i64 a2.fRet.fOwn.a1.fN), .pv (.int .i64 a2.fRet.fOwn.a2.fKind), .pv (.int .i64 a2.fRet.fOwn.a2.fN), .pv (.int .i64 a2.fRet.fOwn.a3.fKind), .pv (.int .i64 a2.fRet.fOwn.a3.fN), .pv (.vs 13 (List.map eGVar a2.fParams)), .pv (.vs 13 (List.map eGVar a2.fLocals)), .pv (.vs 23 (eLGStmt a2.fBody)), .pv (.int .i64 a2.fAt), .ls 1, .ls 2, .pv (.int .i64 zGwalker_flow.fbad), .pv (.int .i64 zGwalker_flow.fn)])), (1, some (.row 9 1 (List.map eS lr162.1))), (2, some (.dict Tryz.prog 131 lr162.2.1 lr162.2.2.1))] 3)) ?_ ?_
 ·refine rnd_loop (α := (List (List UInt8)) × Nat × (List UInt8 → Option Int) × Int × Nat × (List UInt8 → Option Int) × Int) (fun q => (sX 90 [(5, some (.lp 0 0)), (8, some (.lp 1 0)), pf 9 (.int .u64 q.2.2.2.1), (10, some (.ls 4)), pf 21 (.vs 13 (List.map eGVar y3)), pf 22 (.int .i64 (y3.length : Int)), pf 23 (.int .i64 q.2.2.2.2.2.2)] [bf 0 40 (eGMethod a2), (1, some (.box 133 [.pv (.vs 7 (List.map eGClass a0)), .pv (.str a1.fName), .pv (.vs 1 (List.map eS a1.fParams)), .pv (.str a1.fSuper), .pv (.vs 2 (List.map eGOwner a1.fAbove)), .pv (.vs 13 (List.map eGVar a1.fFields)), .pv (.vs 17 (List.map eGMethod a1.fMethods)), .pv (.int .i64 a1.fAt), .pv (.str a2.fName), .pv (.bool a2.fPure), .pv (.int .i64 a2.fRet.fKind), .pv (.str a2.fRet.fClass), .pv (.int .i64 a2.fRet.fN), .pv (.int .i64 a2.fRet.fOwn.a0.fKind), .pv (.int .i64 a2.fRet.fOwn.a0.fN), .pv (.int .i64 a2.fRet.fOwn.a1.fKind), .pv (.int .i64 a2.fRet.fOwn.a1.fN), .pv (.int .i64 a2.fRet.fOwn.a2.fKind), .pv (.int .i64 a2.fRet.fOwn.a2.fN), .pv (.int .i64 a2.fRet.fOwn.a3.fKind), .pv (.int .i64 a2.fRet.fOwn.a3.fN), .pv (.vs 13 (List.map eGVar a2.fParams)), .pv (.vs 13 (List.map eGVar a2.fLocals)), .pv (.vs 23 (eLGStmt a2.fBody)), .pv (.int .i64 a2.fAt), .ls 2, .ls 3, .pv (.int .i64 zGwalker_flow.fbad), .pv (.int .i64 zGwalker_flow.fn)])), (2, some (.row 9 1 (List.map eS q.1))), (3, some (.dict Tryz.prog 131 q.2.1 q.2.2.1)), (4, some (.dict Tryz.prog 131 q.2.2.2.2.1 q.2.2.2.2.2.1))] 5)) (fun k q => flow_made_w_L1 a2 y3 k q.1 q.2.1 q.2.2.1 q.2.2.2.1 q.2.2.2.2.1 q.2.2.2.2.2.1 q.2.2.2.2.2.2 = some lr162) ([], 0, (fun _ => none), 0, 0, (fun _ => none), 0) (impz [1, 3, 4, 2, 5]) hF (fun q h => by cases h) ?_
  clear hF
  rintro k ⟨x49, x50, x51, x52, x53, x54, x55⟩ hF ih
  refine rnd_succ ?_
  iterate 3 refine go ?_
  refine aw_seq ?_
  refine cnd hF (fun hb107 hF => ?_) fun hb107 hF => ?_
  ·iterate 2 refine go ?_
   refine aw_seq ?_
   obtain ⟨p149, hF, hK150⟩ := bs hF
   obtain ⟨x144, x145, x146, x147, x148⟩ := p149
   refine ctx (sX 90 [(5, some (.lp 0 0)), (8, some (.lp 1 0)), pf 9 (.int .u64 x147), (10, some (.ls 4)), pf 21 (.vs 13 (List.map eGVar y3)), pf 22 (.int .i64 (y3.length : Int)), pf 23 (.int .i64 x55)] [bf 0 40 (eGMethod a2), (1, some (.box 133 [.pv (.vs 7 (List.map eGClass a0)), .pv (.str a1.fName), .pv (.vs 1 (List.map eS a1.fParams)), .pv (.str a1.fSuper), .pv (.vs 2 (List.map eGOwner a1.fAbove)), .pv (.vs 13 (List.map eGVar a1.fFields)), .pv (.vs 17 (List.map eGMethod a1.fMethods)), .pv (.int .i64 a1.fAt), .pv (.str a2.fName), .pv (.bool a2.fPure), .pv (.int .i64 a2.fRet.fKind), .pv (.str a2.fRet.fClass), .pv (.int .i64 a2.fRet.fN), .pv (.int .i64 a2.fRet.fOwn.a0.fKind), .pv (.int .i64 a2.fRet.fOwn.a0.fN), .pv (.int .i64 a2.fRet.fOwn.a1.fKind), .pv (.int .i64 a2.fRet.fOwn.a1.fN), .pv (.int .i64 a2.fRet.fOwn.a2.fKind), .pv (.int .i64 a2.fRet.fOwn.a2.fN), .pv (.int .i64 a2.fRet.fOwn.a3.fKind), .pv (.int .i64 a2.fRet.fOwn.a3.fN), .pv (.vs 13 (List.map eGVar a2.fParams)), .pv (.vs 13 (List.map eGVar a2.fLocals)), .pv (.vs 23 (eLGStmt a2.fBody)), .pv (.int .i64 a2.fAt), .ls 2, .ls 3, .pv (.int .i64 zGwalker_flow.fbad), .pv (.int .i64 zGwalker_flow.fn)])), (2, some (.row 9 1 (List.map eS x144))), (3, some (.dict Tryz.prog 131 x145 x146)), (4, some (.dict Tryz.prog 131 (x53 + 1) x148))] 5) ?_ ?_
   ·refine aw_block ?_
    iterate 2 refine go ?_
    obtain ⟨y110, h111, hF⟩ := bs hF
    refine rgp (ix (idx_map eGVar h111) slc_29) ?_
    refine rgp (lw (eGVar y110) agg_66) ?_
    refine rgp (al 5 (eGVar zGVar) zer_66) ?_
    iterate 7 refine go ?_
    obtain ⟨y116, h117, hF⟩ := bs hF
    refine rgp (op_lookup rfl rfl rfl rfl map_131 zer_3 h117 rfl rfl) ?_
    refine go ?_
    obtain ⟨y118, h119, hF⟩ := bs hF
    refine rgp (op_mapUpdate rfl rfl rfl rfl rfl map_131 h119 rfl) ?_
    refine go ?_
    refine aw_seq ?_
    refine aw_seq ?_
    obtain ⟨x128, hF, hK130⟩ := bs hF
    refine ctx (sX 90 [(5, some (.lp 0 0)), (8, some (.lp 1 0)), pf 9 (.int .u64 x52), (10, some (.ls 4)), pf 11 (.int .i64 x55), (12, some (.lp 5 0)), pf 21 (.vs 13 (List.map eGVar y3)), pf 22 (.int .i64 (y3.length : Int)), pf 23 (.int .i64 x55), pf 51 (.bool x128)] [bf 0 40 (eGMethod a2), (1, some (.box 133 [.pv (.vs 7 (List.map eGClass a0)), .pv (.str a1.fName), .pv (.vs 1 (List.map eS a1.fParams)), .pv (.str a1.fSuper), .pv (.vs 2 (List.map eGOwner a1.fAbove)), .pv (.vs 13 (List.map eGVar a1.fFields)), .pv (.vs 17 (List.map eGMethod a1.fMethods)), .pv (.int .i64 a1.fAt), .pv (.str a2.fName), .pv (.bool a2.fPure), .pv (.int .i64 a2.fRet.fKind), .pv (.str a2.fRet.fClass), .pv (.int .i64 a2.fRet.fN), .pv (.int .i64 a2.fRet.fOwn.a0.fKind), .pv (.int .i64 a2.fRet.fOwn.a0.fN), .pv (.int .i64 a2.fRet.fOwn.a1.fKind), .pv (.int .i64 a2.fRet.fOwn.a1.fN), .pv (.int .i64 a2.fRet.fOwn.a2.fKind), .pv (.int .i64 a2.fRet.fOwn.a2.fN), .pv (.int .i64 a2.fRet.fOwn.a3.fKind), .pv (.int .i64 a2.fRet.fOwn.a3.fN), .pv (.vs 13 (List.map eGVar a2.fParams)), .pv (.vs 13 (List.map eGVar a2.fLocals)), .pv (.vs 23 (eLGStmt a2.fBody)), .pv (.int .i64 a2.fAt), .ls 2, .ls 3, .pv (.int .i64 zGwalker_flow.fbad), .pv (.int .i64 zGwalker_flow.fn)])), (2, some (.row 9 1 (List.map eS x49))), (3, some (.dict Tryz.prog 131 x50 x51)), (4, some (.dict Tryz.prog 131 (x53 + 1) y118)), bf 5 66 (eGVar y110)] 6) ?_ ?_
    ·iterate 4 refine go ?_
     obtain ⟨y122, h123, hF⟩ := bs hF
     refine rgp (op_lookup rfl rfl rfl rfl map_131 zer_3 h123 rfl rfl) ?_
     iterate 2 refine go ?_
     rcases ie hF with ⟨hb124, hF⟩ | ⟨hb124, hF⟩
     ·refine rgo_t hb124 ?_
      iterate 3 refine rgo_t hb124 ?_
      refine rpt hb124 ?_
      refine go ?_
      iterate 6 refine rgo_t rfl ?_
      refine rpt rfl ?_
      cases hF
      exact rcz [0, 1, 2, 3, 4, 5]
     refine gn hb124 ?_
     refine rgn hb124 (la (eGType y110.fType) agg_37) ?_
     obtain ⟨y125, h126, hF⟩ := bs hF
     refine rgn hb124 (cl 6 [.agg (eGType y110.fType)] [.p (.bool y125)] (kind_Unique_ok h126)) ?_
     refine gn hb124 ?_
     refine rpf hb124 ?_
     refine go ?_
     rcases ie hF with ⟨hb127, hF⟩ | ⟨hb127, hF⟩
     ·refine rgo_t hb127 ?_
      iterate 5 refine rgo_t hb127 ?_
      refine rpt hb127 ?_
      cases hF
      exact rcz [0, 1, 2, 3, 4, 5]
     refine gn hb127 ?_
     refine rgn hb127 (op_nilCheck rfl rfl rfl rfl rfl) ?_
     iterate 2 refine gn hb127 ?_
     refine rgn hb127 (op_len_ls (n := x49.length) rfl rfl rfl (List.length_map ..) slc_23 rfl rfl) ?_
     refine gn hb127 ?_
     refine rpf hb127 ?_
     cases hF
     exact rcz [0, 1, 2, 3, 4, 5]
    have hF := hK130
    refine go ?_
    refine cnd hF (fun hb131 hF => ?_) fun hb131 hF => ?_
    ·refine aw_exit ?_
     refine post_then_exit ?_
     refine post_block_exit ?_
     cases hF
     exact pcz [0, 1, 2, 3, 4]
    iterate 2 refine go ?_
    refine aw_seq ?_
    refine dr_start ⟨_, _, _⟩ rfl ?_
    refine dgo ?_
    refine dr_cons { need := [(52, .lp 1 0)], dst := some 53, val := some (.lp 1 0) } (fun m h => step_on (guard_no rfl) (op_nilCheck rfl h.1.1 rfl rfl rfl) rfl) ⟨⟨rfl, trivial⟩, trivial, trivial⟩ ?_
    iterate 5 refine dgo ?_
    refine dr_cons { need := [(58, .lp 1 0)], dst := some 59, val := some (.lp 1 0) } (fun m h => step_on (guard_no rfl) (op_nilCheck rfl h.1.1 rfl rfl rfl) rfl) ⟨⟨rfl, trivial⟩, trivial, trivial⟩ ?_
    iterate 2 refine dgo ?_
    refine dr_cons { need := [(61, .ls 2)], hneed := [(2, .row 9 1 (List.map eS x49))], dst := some 62, val := some (.pv (.int .i64 (x49.length : Int))) } (fun m h => step_on (guard_no rfl) (op_len_ls (n := x49.length) rfl h.1.1 h.2.1.1 (List.length_map ..) slc_23 rfl rfl) rfl) ⟨⟨rfl, trivial⟩, ⟨rfl, trivial⟩, trivial⟩ ?_
    obtain ⟨y134, h135, hF⟩ := bs hF
    refine dr_cons { need := [(55, .ls 3), (57, .pv (.str y110.fName)), (62, .pv (.int .i64 (x49.length : Int)))], hneed := [(3, .dict Tryz.prog 131 x50 x51)], upd := [(3, some (.dict Tryz.prog 131 (x50 + 1) y134))] } (fun m h => step_on (guard_no rfl) (op_mapUpdate rfl h.1.1 h.2.1.1 h.1.2.1 h.1.2.2.1 map_131 h135 rfl) rfl) ⟨⟨rfl, rfl, rfl, trivial⟩, ⟨rfl, trivial⟩, trivial⟩ ?_
    refine dr_nil mixed rfl (by kernel_rfl) ?_
    refine piz (sX 90 [(5, some (.lp 0 0)), (8, some (.lp 1 0)), pf 9 (.int .u64 x52), (10, some (.ls 4)), pf 11 (.int .i64 x55), (12, some (.lp 5 0)), pf 21 (.vs 13 (List.map eGVar y3)), pf 22 (.int .i64 (y3.length : Int)), pf 23 (.int .i64 x55)] [bf 0 40 (eGMethod a2), (1, some (.box 133 [.pv (.vs 7 (List.map eGClass a0)), .pv (.str a1.fName), .pv (.vs 1 (List.map eS a1.fParams)), .pv (.str a1.fSuper), .pv (.vs 2 (List.map eGOwner a1.fAbove)), .pv (.vs 13 (List.map eGVar a1.fFields)), .pv (.vs 17 (List.map eGMethod a1.fMethods)), .pv (.int .i64 a1.fAt), .pv (.str a2.fName), .pv (.bool a2.fPure), .pv (.int .i64 a2.fRet.fKind), .pv (.str a2.fRet.fClass), .pv (.int .i64 a2.fRet.fN), .pv (.int .i64 a2.fRet.fOwn.a0.fKind), .pv (.int .i64 a2.fRet.fOwn.a0.fN), .pv (.int .i64 a2.fRet.fOwn.a1.fKind), .pv (.int .i64 a2.fRet.fOwn.a1.fN), .pv (.int .i64 a2.fRet.fOwn.a2.fKind), .pv (.int .i64 a2.fRet.fOwn.a2.fN), .pv (.int .i64 a2.fRet.fOwn.a3.fKind), .pv (.int .i64 a2.fRet.fOwn.a3.fN), .pv (.vs 13 (List.map eGVar a2.fParams)), .pv (.vs 13 (List.map eGVar a2.fLocals)), .pv (.vs 23 (eLGStmt a2.fBody)), .pv (.int .i64 a2.fAt), .ls 2, .ls 3, .pv (.int .i64 zGwalker_flow.fbad), .pv (.int .i64 zGwalker_flow.fn)])), (2, some (.row 9 1 (List.map eS x49))), (3, some (.dict Tryz.prog 131 (x50 + 1) y134)), (4, some (.dict Tryz.prog 131 (x53 + 1) y118)), bf 5 66 (eGVar y110)] 6) [0, 1, 2, 3, 4, 5] ?_
    refine go ?_
    refine aw_seq ?_
    obtain ⟨x139, hF, hK141⟩ := bs hF
    refine ctx (sX 90 [(5, some (.lp 0 0)), (8, some (.lp 1 0)), pf 9 (.int .u64 x139), (10, some (.ls 4)), (12, some (.lp 5 0)), pf 21 (.vs 13 (List.map eGVar y3)), pf 22 (.int .i64 (y3.length : Int)), pf 23 (.int .i64 x55)] [bf 0 40 (eGMethod a2), (1, some (.box 133 [.pv (.vs 7 (List.map eGClass a0)), .pv (.str a1.fName), .pv (.vs 1 (List.map eS a1.fParams)), .pv (.str a1.fSuper), .pv (.vs 2 (List.map eGOwner a1.fAbove)), .pv (.vs 13 (List.map eGVar a1.fFields)), .pv (.vs 17 (List.map eGMethod a1.fMethods)), .pv (.int .i64 a1.fAt), .pv (.str a2.fName), .pv (.bool a2.fPure), .pv (.int .i64 a2.fRet.fKind), .pv (.str a2.fRet.fClass), .pv (.int .i64 a2.fRet.fN), .pv (.int .i64 a2.fRet.fOwn.a0.fKind), .pv (.int .i64 a2.fRet.fOwn.a0.fN), .pv (.int .i64 a2.fRet.fOwn.a1.fKind), .pv (.int .i64 a2.fRet.fOwn.a1.fN), .pv (.int .i64 a2.fRet.fOwn.a2.fKind), .pv (.int .i64 a2.fRet.fOwn.a2.fN), .pv (.int .i64 a2.fRet.fOwn.a3.fKind), .pv (.int .i64 a2.fRet.fOwn.a3.fN), .pv (.vs 13 (List.map eGVar a2.fParams)), .pv (.vs 13 (List.map eGVar a2.fLocals)), .pv (.vs 23 (eLGStmt a2.fBody)), .pv (.int .i64 a2.fAt), .ls 2, .ls 3, .pv (.int .i64 zGwalker_flow.fbad), .pv (.int .i64 zGwalker_flow.fn)])), (2, some (.row 9 1 (List.map eS x49))), (3, some (.dict Tryz.prog 131 (x50 + 1) y134)), (4, some (.dict Tryz.prog 131 (x53 + 1) y118)), bf 5 66 (eGVar y110)] 6) ?_ ?_
    ·iterate 7 refine go ?_
     refine cnd hF (fun hb136 hF => ?_) fun hb136 hF => ?_
     ·iterate 3 refine go ?_
      refine rgp (op_nilCheck rfl rfl rfl rfl rfl) ?_
      iterate 2 refine go ?_
      refine rgp (op_len_ls (n := x49.length) rfl rfl rfl (List.length_map ..) slc_23 rfl rfl) ?_
      obtain ⟨y137, h138, hF⟩ := bs hF
      refine rgp (op_shl rfl rfl rfl h138 rfl rfl) ?_
      refine rgp (op_int2 (k := .u64) (m := x52) (n := y137) rfl rfl rfl rfl rfl rfl) ?_
      refine go ?_
      cases hF
      exact rcz [0, 1, 2, 3, 4, 5]
     refine go ?_
     cases hF
     exact pcz [0, 1, 2, 3, 4, 5]
    have hF := hK141
    refine go ?_
    refine aw_imp (imp_names 1) ?_
    refine dr_start ⟨_, _, _⟩ rfl ?_
    iterate 2 refine dgo ?_
    refine dr_cons { need := [(77, .lp 1 0)], dst := some 78, val := some (.lp 1 0) } (fun m h => step_on (guard_no rfl) (op_nilCheck rfl h.1.1 rfl rfl rfl) rfl) ⟨⟨rfl, trivial⟩, trivial, trivial⟩ ?_
    iterate 4 refine dgo ?_
    refine dr_cons { need := [(82, .pv (.str y110.fName))], dst := some 83, val := some (.pv (.vs 1 (List.map eS [y110.fName]))) } (fun m h => step_on (guard_no rfl) (op_lit (rows := List.map eS ([y110.fName] : List (List UInt8))) (zs := [.str []]) rfl rfl slc_23 zer_9 (by exact ⟨rfl, trivial⟩) rfl rfl rfl (evs_cons h.1.1 evs_nil) rfl rfl rfl rfl) rfl) ⟨⟨rfl, trivial⟩, trivial, trivial⟩ ?_
    obtain ⟨u142, h143, hF⟩ := bs hF
    refine dr_cons { need := [(80, .ls 2), (83, .pv (.vs 1 (List.map eS [y110.fName])))], hneed := [(2, .row 9 1 (List.map eS x49))], names := [6], dst := some 84, val := some (.ls 6), upd := [(6, some (.row 9 1 (List.map eS (x49 ++ [y110.fName])))), (2, none)] } (fun m h => step_on (guard_no rfl) (op_append 6 (fresh_free h.2.2.1) rfl h.1.1 h.2.1.1 h.1.2.1 slc_23 elm_9 zer_9 rfl rfl rfl (room_map (f := eS) (g := eS) h143) (List.map_append (f := eS) (l₁ := x49) (l₂ := [y110.fName])).symm rfl rfl) rfl) ⟨⟨rfl, rfl, trivial⟩, ⟨rfl, trivial⟩, ⟨rfl, trivial⟩⟩ ?_
    refine dr_cons { need := [(76, .lp 1 0)], dst := some 85, val := some (.lp 1 0) } (fun m h => step_on (guard_no rfl) (op_nilCheck rfl h.1.1 rfl rfl rfl) rfl) ⟨⟨rfl, trivial⟩, trivial, trivial⟩ ?_
    refine dgo ?_
    refine dr_cons { need := [(86, .lp 1 25), (84, .ls 6)], hneed := [(1, .box 133 [.pv (.vs 7 (List.map eGClass a0)), .pv (.str a1.fName), .pv (.vs 1 (List.map eS a1.fParams)), .pv (.str a1.fSuper), .pv (.vs 2 (List.map eGOwner a1.fAbove)), .pv (.vs 13 (List.map eGVar a1.fFields)), .pv (.vs 17 (List.map eGMethod a1.fMethods)), .pv (.int .i64 a1.fAt), .pv (.str a2.fName), .pv (.bool a2.fPure), .pv (.int .i64 a2.fRet.fKind), .pv (.str a2.fRet.fClass), .pv (.int .i64 a2.fRet.fN), .pv (.int .i64 a2.fRet.fOwn.a0.fKind), .pv (.int .i64 a2.fRet.fOwn.a0.fN), .pv (.int .i64 a2.fRet.fOwn.a1.fKind), .pv (.int .i64 a2.fRet.fOwn.a1.fN), .pv (.int .i64 a2.fRet.fOwn.a2.fKind), .pv (.int .i64 a2.fRet.fOwn.a2.fN), .pv (.int .i64 a2.fRet.fOwn.a3.fKind), .pv (.int .i64 a2.fRet.fOwn.a3.fN), .pv (.vs 13 (List.map eGVar a2.fParams)), .pv (.vs 13 (List.map eGVar a2.fLocals)), .pv (.vs 23 (eLGStmt a2.fBody)), .pv (.int .i64 a2.fAt), .ls 2, .ls 3, .pv (.int .i64 zGwalker_flow.fbad), .pv (.int .i64 zGwalker_flow.fn)])], upd := [(1, some (.box 133 [.pv (.vs 7 (List.map eGClass a0)), .pv (.str a1.fName), .pv (.vs 1 (List.map eS a1.fParams)), .pv (.str a1.fSuper), .pv (.vs 2 (List.map eGOwner a1.fAbove)), .pv (.vs 13 (List.map eGVar a1.fFields)), .pv (.vs 17 (List.map eGMethod a1.fMethods)), .pv (.int .i64 a1.fAt), .pv (.str a2.fName), .pv (.bool a2.fPure), .pv (.int .i64 a2.fRet.fKind), .pv (.str a2.fRet.fClass), .pv (.int .i64 a2.fRet.fN), .pv (.int .i64 a2.fRet.fOwn.a0.fKind), .pv (.int .i64 a2.fRet.fOwn.a0.fN), .pv (.int .i64 a2.fRet.fOwn.a1.fKind), .pv (.int .i64 a2.fRet.fOwn.a1.fN), .pv (.int .i64 a2.fRet.fOwn.a2.fKind), .pv (.int .i64 a2.fRet.fOwn.a2.fN), .pv (.int .i64 a2.fRet.fOwn.a3.fKind), .pv (.int .i64 a2.fRet.fOwn.a3.fN), .pv (.vs 13 (List.map eGVar a2.fParams)), .pv (.vs 13 (List.map eGVar a2.fLocals)), .pv (.vs 23 (eLGStmt a2.fBody)), .pv (.int .i64 a2.fAt), .ls 6, .ls 3, .pv (.int .i64 zGwalker_flow.fbad), .pv (.int .i64 zGwalker_flow.fn)]))] } (fun m h => step_on (guard_no rfl) (op_store_lp (n := 1) rfl h.1.1 h.1.2.1 rfl h.2.1.1 (or_one one_23) (by rw [one_23]; rfl) rfl rfl rfl) rfl) ⟨⟨rfl, rfl, trivial⟩, ⟨rfl, trivial⟩, trivial⟩ ?_
    refine dr_nil mixed rfl (by kernel_rfl) ?_
    refine piz (sX 90 [(5, some (.lp 0 0)), (8, some (.lp 1 0)), pf 9 (.int .u64 x139), (10, some (.ls 4)), pf 21 (.vs 13 (List.map eGVar y3)), pf 22 (.int .i64 (y3.length : Int)), pf 23 (.int .i64 x55)] [bf 0 40 (eGMethod a2), (1, some (.box 133 [.pv (.vs 7 (List.map eGClass a0)), .pv (.str a1.fName), .pv (.vs 1 (List.map eS a1.fParams)), .pv (.str a1.fSuper), .pv (.vs 2 (List.map eGOwner a1.fAbove)), .pv (.vs 13 (List.map eGVar a1.fFields)), .pv (.vs 17 (List.map eGMethod a1.fMethods)), .pv (.int .i64 a1.fAt), .pv (.str a2.fName), .pv (.bool a2.fPure), .pv (.int .i64 a2.fRet.fKind), .pv (.str a2.fRet.fClass), .pv (.int .i64 a2.fRet.fN), .pv (.int .i64 a2.fRet.fOwn.a0.fKind), .pv (.int .i64 a2.fRet.fOwn.a0.fN), .pv (.int .i64 a2.fRet.fOwn.a1.fKind), .pv (.int .i64 a2.fRet.fOwn.a1.fN), .pv (.int .i64 a2.fRet.fOwn.a2.fKind), .pv (.int .i64 a2.fRet.fOwn.a2.fN), .pv (.int .i64 a2.fRet.fOwn.a3.fKind), .pv (.int .i64 a2.fRet.fOwn.a3.fN), .pv (.vs 13 (List.map eGVar a2.fParams)), .pv (.vs 13 (List.map eGVar a2.fLocals)), .pv (.vs 23 (eLGStmt a2.fBody)), .pv (.int .i64 a2.fAt), .ls 2, .ls 3, .pv (.int .i64 zGwalker_flow.fbad), .pv (.int .i64 zGwalker_flow.fn)])), (2, some (.row 9 1 (List.map eS (x49 ++ [y110.fName])))), (3, some (.dict Tryz.prog 131 (x50 + 1) y134)), (4, some (.dict Tryz.prog 131 (x53 + 1) y118))] 5) [0, 1, 6, 3, 4] ?_
    refine go ?_
    cases hF
    exact pcz [0, 1, 2, 3, 4]
   have hF := hK150
   iterate 4 refine go ?_
   refine rnr ?_
   exact rnd_back (ih (x144, x145, x146, x147, (x53 + 1), x148, w_i64 (x55 + 1)) hF) (impz [0, 1, 2, 3, 4])
  refine aw_exit ?_
  iterate 2 refine post_then_exit ?_
  cases hF
  exact post_lp_break _ rfl (impz [1, 2, 3])
 rintro _ rfl
 have hF := hK163
 obtain ⟨x158, x159, x160, x161⟩ := lr162
 iterate 8 refine go ?_
 refine post_imp (imp_freeze_in [(1, some (.row 9 1 (List.map eS x158)))] [] 0 25 1 (FzH.spec ⟨rfl, trivial⟩) trivial rfl rfl rfl) ?_
 refine post_imp (imp_freeze_inD [(2, some (.dict Tryz.prog 131 x159 x160))] [] 0 26 2 (FzH.spec ⟨rfl, trivial⟩) trivial rfl rfl rfl) ?_
 refine piz (sX 90 [(6, some (.lp 0 0)), pf 7 (.int .u64 x161)] [bf 0 133 (eGwalker_flow ({ fp := a0, fc := a1, fm := a2, fvars := x158, fat := x160, fbad := zGwalker_flow.fbad, fn := zGwalker_flow.fn } : Gwalker_flow))] 1) [0] ?_
 cases hF
 exact post_retW hcx rfl (.cons _ _ _ _ (.tmp _ _ rfl) (.cons _ _ _ _ (.tmp _ _ rfl) .nil)) rfl (.inl rfl)
theorem __flow_walker__bit_ok {a0 : Gwalker_flow} {a1 : List UInt8} {r : Int} (hF : __flow_walker__bit a0 a1 = some r) : FZ 39 [.vp (eGwalker_flow a0), .str a1] [.p (.int .u64 r)] := by
 unfold __flow_walker__bit at hF
 refine fn_of_body (n := 19) Tryz.func39 rfl rfl rfl fun w O => ?_
 iterate 6 refine go ?_
 refine rgp (op_nilCheck rfl rfl rfl rfl rfl) ?_
 iterate 3 refine go ?_
 obtain ⟨y3, h4, hF⟩ := bs hF
 refine rgp (op_lookupOV rfl rfl rfl map_131 zer_3 h4 rfl rfl) ?_
 refine go ?_
 iterate 2 (refine rgp (op_extract rfl rfl rfl rfl rfl) ?_)
 iterate 6 refine go ?_
 refine cnd hF (fun hb5 hF => ?_) fun hb5 hF => ?_
 ·iterate 2 refine go ?_
  obtain ⟨y6, h7, hF⟩ := bs hF
  refine rgp (op_shl rfl rfl rfl h7 rfl rfl) ?_
  iterate 4 refine go ?_
  cases hF
  exact prt
 iterate 6 refine go ?_
 cases hF
 exact prt
theorem raise_This_ok {a0 : GClass} {r : (List GOwner)} (hF : raise_This a0 = some r) : FZ 187 [.agg (eGClass a0)] [.own 34 2 (List.map eGOwner r)] := by
 unfold raise_This at hF
 refine fn_of_body (n := 25) Tryz.func187 rfl rfl rfl fun w O => ?_
 refine go ?_
 refine rgp (bo 0) ?_
 iterate 7 refine go ?_
 obtain ⟨u3, h4, hF⟩ := bs hF
 refine rgp (op_make 1 rfl (k := .i64) (k' := .i64) (n := w_i64 ((a0.fParams.length : Int) + 1)) (m := w_i64 ((a0.fParams.length : Int) + 1)) (zs := eGOwner zGOwner) rfl rfl rfl (mkOk_spec h4).1 (mkOk_spec h4).2.1 (mkOk_spec h4).2.2 slc_28 elm_34 rfl zer_34 (by exact ⟨rfl, rfl, trivial⟩) rfl rfl (map_rep eGOwner _ _) rfl rfl) ?_
 iterate 5 refine go ?_
 refine rgp (op_len_ls (n := (List.replicate (w_i64 ((a0.fParams.length : Int) + 1) : Int).toNat zGOwner).length) rfl rfl rfl (List.length_map ..) slc_28 rfl rfl) ?_
 iterate 2 refine go ?_
 obtain ⟨x26, hF, hK27⟩ := bs hF
 refine aw_for (((((List.replicate (w_i64 ((a0.fParams.length : Int) + 1) : Int).toNat zGOwner).length : Int) : Int) - (0)).toNat + 1) (fun s1 => s1 = (sX 25 [(3, some (.ls 0))] [(0, some (.row 34 2 (List.map eGOwner x26)))] 1)) ?_ ?_
 ·refine rnd_loop (α := (List GOwner) × Int) (fun q => (sX 25 [(3, some (.ls 0)), pf 11 (.int .i64 ((List.replicate (w_i64 ((a0.fParams.length : Int) + 1) : Int).toNat zGOwner).length : Int)), pf 12 (.int .i64 q.2)] [(0, some (.row 34 2 (List.map eGOwner q.1)))] 1)) (fun k q => raise_This_L1 a0 k q.1 q.2 = some x26) ((List.replicate (w_i64 ((a0.fParams.length : Int) + 1) : Int).toNat zGOwner), 0) (impz [1]) hF (fun q h => by cases h) ?_
  clear hF
  rintro k ⟨x10, x11⟩ hF ih
  refine rnd_succ ?_
  iterate 3 refine go ?_
  refine aw_seq ?_
  refine cnd hF (fun hb19 hF => ?_) fun hb19 hF => ?_
  ·iterate 2 refine go ?_
   refine aw_seq ?_
   refine aw_block ?_
   iterate 8 refine go ?_
   refine rgp (bd ((eGOwner zGOwner)) (eGOwner ({ fKind := 3, fN := x11 } : GOwner)) zer_34 plc_34) ?_
   obtain ⟨y22, h23, hF⟩ := bs hF
   refine rgp (op_index_ls (k := .i64) rfl rfl rfl rfl (idx_map eGOwner h23) slc_28 rfl rfl) ?_
   refine rgp (op_store_le (n := 2) rfl rfl rfl rfl rfl (map_get eGOwner h23) (or_agg agg_34) (by rw [non_34]; rfl) rfl (map_set' eGOwner x10 _ ({ fKind := 3, fN := x11 } : GOwner)) rfl rfl) ?_
   refine reg_nil ?_
   refine piz (sX 25 [(3, some (.ls 0)), pf 11 (.int .i64 ((List.replicate (w_i64 ((a0.fParams.length : Int) + 1) : Int).toNat zGOwner).length : Int)), pf 12 (.int .i64 x11)] [(0, some (.row 34 2 (List.map eGOwner (x10.set (x11 : Int).toNat ({ fKind := 3, fN := x11 } : GOwner)))))] 1) [0] ?_
   iterate 5 refine go ?_
   refine rnr ?_
   exact rnd_back (ih ((x10.set (x11 : Int).toNat ({ fKind := 3, fN := x11 } : GOwner)), w_i64 (x11 + 1)) hF) (impz [0])
  refine aw_exit ?_
  iterate 2 refine post_then_exit ?_
  cases hF
  exact post_lp_break _ rfl (impz [0])
 rintro _ rfl
 have hF := hK27
 iterate 3 refine go ?_
 refine rgp (bd ((eGOwner zGOwner)) (eGOwner ({ fKind := 2, fN := 0 } : GOwner)) zer_34 plc_34) ?_
 obtain ⟨y28, h29, hF⟩ := bs hF
 refine rgp (op_index_ls (k := .i64) rfl rfl rfl rfl (idx_map eGOwner h29) slc_28 rfl rfl) ?_
 refine rgp (op_store_le (n := 2) rfl rfl rfl rfl rfl (map_get eGOwner h29) (or_agg agg_34) (by rw [non_34]; rfl) rfl (map_set' eGOwner x26 _ ({ fKind := 2, fN := 0 } : GOwner)) rfl rfl) ?_
 iterate 6 refine go ?_
 cases hF
 exact post_ret rfl rfl (.cons _ _ _ _ _ (.tmp _ _ rfl) (.own _ _ _ _ rfl nolent3) .nil) (.inl rfl)
theorem scope_This_ok {a0 : GClass} {r : GType} (hF : scope_This a0 = some r) : FZ 175 [.agg (eGClass a0)] [.p (.agg (eGType r))] := by
 unfold scope_This at hF
 refine fn_of_body (n := 15) Tryz.func175 rfl rfl rfl fun w O => ?_
 refine go ?_
 refine rgp (bo 0) ?_
 refine rgp (al 1 (eGType zGType) zer_37) ?_
 iterate 4 refine go ?_
 refine rgp (bd ((eGType zGType)) (eGType ({ fKind := 2, fClass := a0.fName, fN := 0, fOwn := (⟨zGOwner, zGOwner, zGOwner, zGOwner⟩ : A4 GOwner) } : GType)) zer_37 plc_37) ?_
 refine rgp (al 2 (eGType zGType) zer_37) ?_
 iterate 2 refine go ?_
 refine aw_seq ?_
 refine dr_start ⟨_, _, _⟩ rfl ?_
 refine dgo ?_
 refine dr_cons { need := [(7, .lp 2 3)], dst := some 8, val := some (.aw 2 3 4) } (fun m h => step_on (guard_no rfl) (op_slice_aw rfl h.1.1 arr_35 rfl rfl) rfl) ⟨⟨rfl, trivial⟩, trivial, trivial⟩ ?_
 refine dr_cons { need := [(1, .lp 0 0)], hneed := [(0, .box 32 (bxv (eGClass a0)))], dst := some 9, val := some (.pv (.agg (eGClass a0))) } (fun m h => step_on (guard_no rfl) (op_load_lp_agg (ps := eGClass a0) rfl h.1.1 h.2.1.1 rfl rfl rfl agg_32 rfl rfl) rfl) ⟨⟨rfl, trivial⟩, ⟨rfl, trivial⟩, trivial⟩ ?_
 obtain ⟨y1, h2, hF⟩ := bs hF
 refine dr_cons { need := [(9, .pv (.agg (eGClass a0)))], dst := some 10, val := some (.pv (.vs 2 (List.map eGOwner y1))) } (fun m h => step_on (guard_no rfl) (op_call 3 rfl (caps := []) (args := [.agg (eGClass a0)]) (rs := [.p (.vs 2 (List.map eGOwner y1))]) rfl rfl (evl_cons h.1.1 evl_nil) cal_187 (Fn.frozen (raise_This_ok h2)) rfl rfl rfl) rfl) ⟨⟨rfl, trivial⟩, trivial, trivial⟩ ?_
 refine dr_cons { need := [(8, .aw 2 3 4), (10, .pv (.vs 2 (List.map eGOwner y1)))], hneed := [(2, .box 37 (bxv (eGType ({ fKind := 2, fClass := a0.fName, fN := 0, fOwn := (⟨zGOwner, zGOwner, zGOwner, zGOwner⟩ : A4 GOwner) } : GType))))], dst := some 11, val := some (.pv (.int .i64 (Nat.min (List.map eGOwner y1).length 4 : Nat))), upd := [(2, some (.box 37 (bxv (eGType ({ ({ fKind := 2, fClass := a0.fName, fN := 0, fOwn := (⟨zGOwner, zGOwner, zGOwner, zGOwner⟩ : A4 GOwner) } : GType) with fOwn := (A4.cp (({ fKind := 2, fClass := a0.fName, fN := 0, fOwn := (⟨zGOwner, zGOwner, zGOwner, zGOwner⟩ : A4 GOwner) } : GType).fOwn) y1) } : GType)))))] } (fun m h => step_on (guard_no rfl) (op_copy_aw (news := List.map eGOwner y1) (cells' := bxv (eGType ({ ({ fKind := 2, fClass := a0.fName, fN := 0, fOwn := (⟨zGOwner, zGOwner, zGOwner, zGOwner⟩ : A4 GOwner) } : GType) with fOwn := (A4.cp (({ fKind := 2, fClass := a0.fName, fN := 0, fOwn := (⟨zGOwner, zGOwner, zGOwner, zGOwner⟩ : A4 GOwner) } : GType).fOwn) y1) } : GType))) rfl h.1.1 h.2.1.1 h.1.2.1 slc_28 rfl (cp4 (fun l => splice (bxv (eGType ({ fKind := 2, fClass := a0.fName, fN := 0, fOwn := (⟨zGOwner, zGOwner, zGOwner, zGOwner⟩ : A4 GOwner) } : GType))) 3 (((List.map eGOwner l).take 4).flatten.map .pv) = bxv (eGType ({ ({ fKind := 2, fClass := a0.fName, fN := 0, fOwn := (⟨zGOwner, zGOwner, zGOwner, zGOwner⟩ : A4 GOwner) } : GType) with fOwn := (A4.cp (({ fKind := 2, fClass := a0.fName, fN := 0, fOwn := (⟨zGOwner, zGOwner, zGOwner, zGOwner⟩ : A4 GOwner) } : GType).fOwn) l) } : GType))) y1 ⟨rfl, fun _ => rfl, fun _ _ => rfl, fun _ _ _ => rfl, fun _ _ _ _ _ => rfl⟩) rfl rfl) rfl) ⟨⟨rfl, rfl, trivial⟩, ⟨rfl, trivial⟩, trivial⟩ ?_
 iterate 2 refine dgo ?_
 refine dr_cons { need := [(13, .lp 2 2), (12, .pv (.int .i64 (w_i64 ((Nat.min (List.map eGOwner y1).length 4 : Nat) - 1))))], hneed := [(2, .box 37 (bxv (eGType ({ ({ fKind := 2, fClass := a0.fName, fN := 0, fOwn := (⟨zGOwner, zGOwner, zGOwner, zGOwner⟩ : A4 GOwner) } : GType) with fOwn := (A4.cp (({ fKind := 2, fClass := a0.fName, fN := 0, fOwn := (⟨zGOwner, zGOwner, zGOwner, zGOwner⟩ : A4 GOwner) } : GType).fOwn) y1) } : GType))))], upd := [(2, some (.box 37 (bxv (eGType ({ ({ ({ fKind := 2, fClass := a0.fName, fN := 0, fOwn := (⟨zGOwner, zGOwner, zGOwner, zGOwner⟩ : A4 GOwner) } : GType) with fOwn := (A4.cp (({ fKind := 2, fClass := a0.fName, fN := 0, fOwn := (⟨zGOwner, zGOwner, zGOwner, zGOwner⟩ : A4 GOwner) } : GType).fOwn) y1) } : GType) with fN := w_i64 ((Nat.min (List.map eGOwner y1).length 4 : Nat) - 1) } : GType)))))] } (fun m h => step_on (guard_no rfl) (op_store_lp (n := 1) rfl h.1.1 h.1.2.1 rfl h.2.1.1 (or_one one_3) (by rw [one_3]; rfl) rfl rfl rfl) rfl) ⟨⟨rfl, rfl, trivial⟩, ⟨rfl, trivial⟩, trivial⟩ ?_
 refine dr_nil mixed rfl (by kernel_rfl) ?_
 refine piz (sX 15 [(2, some (.lp 0 0)), (3, some (.lp 1 0))] [bf 0 37 (eGType zGType), bf 1 37 (eGType ({ ({ ({ fKind := 2, fClass := a0.fName, fN := 0, fOwn := (⟨zGOwner, zGOwner, zGOwner, zGOwner⟩ : A4 GOwner) } : GType) with fOwn := (A4.cp (({ fKind := 2, fClass := a0.fName, fN := 0, fOwn := (⟨zGOwner, zGOwner, zGOwner, zGOwner⟩ : A4 GOwner) } : GType).fOwn) y1) } : GType) with fN := w_i64 ((Nat.min (List.map eGOwner y1).length 4 : Nat) - 1) } : GType))] 2) [1, 2] ?_
 iterate 2 refine go ?_
 refine rgp (la (eGType ({ ({ ({ fKind := 2, fClass := a0.fName, fN := 0, fOwn := (⟨zGOwner, zGOwner, zGOwner, zGOwner⟩ : A4 GOwner) } : GType) with fOwn := (A4.cp (({ fKind := 2, fClass := a0.fName, fN := 0, fOwn := (⟨zGOwner, zGOwner, zGOwner, zGOwner⟩ : A4 GOwner) } : GType).fOwn) y1) } : GType) with fN := w_i64 ((Nat.min (List.map eGOwner y1).length 4 : Nat) - 1) } : GType)) agg_37) ?_
 iterate 3 refine go ?_
 cases hF
 exact post_ret rfl rfl (.cons _ _ _ _ _ (.agg _ _ _ _ _ 11 _ _ rfl rfl agg_37 rfl rfl rfl) (.p _) .nil) (.inl rfl)
theorem slices_IndexFunc_api_Var_ok {a0 : List GVar} {q1 : GVar → Option Bool} {r : Int} {q1_f : Nat} {q1_c : List PV} (q1_b : callB Tryz.prog q1_f = true) (q1_h : ∀ (x0 : GVar) (r : Bool), q1 x0 = some r → FZ q1_f ([.agg (eGVar x0)] ++ q1_c) [.p (.bool r)]) (hF : slices_IndexFunc_api_Var a0 q1 = some r) : FZ 189 [.vs 13 (List.map eGVar a0), .fn q1_f q1_c] [.p (.int .i64 r)] := by
 unfold slices_IndexFunc_api_Var at hF
 refine fn_of_body (n := 19) Tryz.func189 rfl rfl rfl fun w O => ?_
 iterate 9 refine go ?_
 obtain ⟨lr34, hF, hK35⟩ := bs hF
 refine aw_for ((a0.length - 0 : Int).toNat + 1) (fun s1 => ∃ q, lr34 = .next q ∧ s1 = (sX 19 [] [] 0)) ?_ ?_
 ·refine rnd_loop (α := Int) (fun q => (sX 19 [pf 0 (.vs 13 (List.map eGVar a0)), pf 1 (.fn q1_f q1_c), pf 7 (.int .i64 (a0.length : Int)), pf 8 (.int .i64 q)] [] 0)) (fun k q => slices_IndexFunc_api_Var_L1 a0 q1 k q = some lr34) 0 (impz []) hF (fun q h => by cases h) ?_
  clear hF
  rintro k x11 hF ih
  refine rnd_succ ?_
  iterate 3 refine go ?_
  refine aw_seq ?_
  refine cnd hF (fun hb23 hF => ?_) fun hb23 hF => ?_
  ·iterate 2 refine go ?_
   refine aw_seq ?_
   refine aw_block ?_
   iterate 8 refine go ?_
   obtain ⟨y28, h29, hF⟩ := bs hF
   refine rgp (ix (idx_map eGVar h29) slc_29) ?_
   refine rgp (lw (eGVar y28) agg_66) ?_
   obtain ⟨y30, h31, hF⟩ := bs hF
   refine rgp (op_call 0 rfl (caps := q1_c) (args := [.agg (eGVar y28)]) (rs := [.p (.bool y30)]) rfl rfl rfl q1_b (q1_h y28 _ h31) rfl rfl rfl) ?_
   refine go ?_
   refine cnd hF (fun hb32 hF => ?_) fun hb32 hF => ?_
   ·iterate 8 refine go ?_
    refine post_lp_ret ?_
    cases hF
    have hF := elim_stop hK35
    refine go ?_
    cases hF
    exact prt
   iterate 6 refine go ?_
   refine rnr ?_
   exact rnd_back (ih (w_i64 (x11 + 1)) hF) (impz [])
  refine aw_exit ?_
  iterate 2 refine post_then_exit ?_
  cases hF
  exact post_lp_break _ ⟨_, rfl, rfl⟩ (impz [])
 rintro _ ⟨⟨⟩, rfl, rfl⟩
 have hF := elim_next hK35
 clear hK35
 iterate 5 refine go ?_
 cases hF
 exact prt
theorem scope_Place_1_ok {a0 : GVar} {c0 : List UInt8} {r : Bool} (hF : scope_Place_1 a0 c0 = some r) : FZ 188 [.agg (eGVar a0), .vp (eS c0)] [.p (.bool r)] := by
 unfold scope_Place_1 at hF
 refine fn_of_body (n := 8) Tryz.func188 rfl rfl rfl fun w O => ?_
 refine go ?_
 refine rgp (bo 0) ?_
 iterate 6 refine go ?_
 refine rgp (op_str rfl rfl rfl rfl rfl rfl) ?_
 iterate 3 refine go ?_
 cases hF
 exact prt
theorem scope_Place_ok {a0 : GMethod} {a1 : List UInt8} {r : Int} (hF : scope_Place a0 a1 = some r) : FZ 176 [.agg (eGMethod a0), .str a1] [.p (.int .i64 r)] := by
 unfold scope_Place at hF
 refine fn_of_body (n := 27) Tryz.func176 rfl rfl rfl fun w O => ?_
 refine go ?_
 refine rgp (bo 0) ?_
 refine rgp (bo 1) ?_
 iterate 3 refine go ?_
 refine rgp (op_makeFunc rfl rfl rfl rfl) ?_
 iterate 7 refine go ?_
 obtain ⟨y5, h6, hF⟩ := bs hF
 refine rgp (op_callB 2 rfl (caps := []) (args := [.vs 13 (List.map eGVar a0.fParams), .fn 188 [.vp (eS a1)]]) [(1, some (.box 9 [.pv (.str a1)]))] rfl rfl rfl (FzH.spec ⟨rfl, trivial⟩) rfl rfl cal_189 (slices_IndexFunc_api_Var_ok (q1_f := 188) (q1_c := [.vp (eS a1)]) (q1_b := cal_188) (q1_h := fun _ r h => (scope_Place_1_ok h)) h6) rfl rfl rfl) ?_
 iterate 6 refine go ?_
 refine cnd hF (fun hb7 hF => ?_) fun hb7 hF => ?_
 ·iterate 6 refine go ?_
  cases hF
  exact prt
 iterate 6 refine go ?_
 obtain ⟨y12, h13, hF⟩ := bs hF
 refine rgp (op_callB 2 rfl (caps := []) (args := [.vs 13 (List.map eGVar a0.fLocals), .fn 188 [.vp (eS a1)]]) [(1, some (.box 9 [.pv (.str a1)]))] rfl rfl rfl (FzH.spec ⟨rfl, trivial⟩) rfl rfl cal_189 (slices_IndexFunc_api_Var_ok (q1_f := 188) (q1_c := [.vp (eS a1)]) (q1_b := cal_188) (q1_h := fun _ r h => (scope_Place_1_ok h)) h13) rfl rfl rfl) ?_
 iterate 7 refine go ?_
 refine cnd hF (fun hb14 hF => ?_) fun hb14 hF => ?_
 ·iterate 5 refine go ?_
  cases hF
  exact prt
 iterate 11 refine go ?_
 cases hF
 exact prt
theorem scope_Type_ok {a0 : GClass} {a1 : GMethod} {a2 : List UInt8} {r : GType × Bool} (hF : scope_Type a0 a1 a2 = some r) : FZ 151 [.agg (eGClass a0), .agg (eGMethod a1), .str a2] [.p (.agg (eGType r.1)), .p (.bool r.2)] := by
 unfold scope_Type at hF
 refine fn_of_body (n := 25) Tryz.func151 rfl rfl rfl fun w O => ?_
 refine go ?_
 refine rgp (bo 0) ?_
 refine rgp (bo 1) ?_
 refine rgp (al 2 (eGType zGType) zer_37) ?_
 iterate 5 refine go ?_
 refine rgp (op_str rfl rfl rfl rfl rfl rfl) ?_
 refine go ?_
 refine cnd hF (fun hb1 hF => ?_) fun hb1 hF => ?_
 ·refine go ?_
  refine rgp (la (eGClass a0) agg_32) ?_
  obtain ⟨y2, h3, hF⟩ := bs hF
  refine rgp (cl 3 [.agg (eGClass a0)] [.p (.agg (eGType y2))] (scope_This_ok h3)) ?_
  iterate 5 refine go ?_
  cases hF
  exact post_ret rfl rfl (.cons _ _ _ _ _ (.agg _ _ _ _ _ 11 _ _ rfl rfl agg_37 rfl rfl rfl) (.p _) (.cons _ _ _ _ _ (.tmp _ _ rfl) (.p _) .nil)) (.inl rfl)
 iterate 3 refine go ?_
 refine rgp (la (eGMethod a1) agg_40) ?_
 refine go ?_
 obtain ⟨y6, h7, hF⟩ := bs hF
 refine rgp (cl 3 [.agg (eGMethod a1), .str a2] [.p (.int .i64 y6)] (scope_Place_ok h7)) ?_
 iterate 7 refine go ?_
 refine cnd hF (fun hb8 hF => ?_) fun hb8 hF => ?_
 ·refine go ?_
  refine rgp (bd ((eGType zGType)) (eGType ({ fKind := 0, fClass := [], fN := 0, fOwn := (⟨zGOwner, zGOwner, zGOwner, zGOwner⟩ : A4 GOwner) } : GType)) zer_37 plc_37) ?_
  iterate 5 refine go ?_
  cases hF
  exact post_ret rfl rfl (.cons _ _ _ _ _ (.agg _ _ _ _ _ 11 _ _ rfl rfl agg_37 rfl rfl rfl) (.p _) (.cons _ _ _ _ _ (.tmp _ _ rfl) (.p _) .nil)) (.inl rfl)
 iterate 3 refine go ?_
 refine rgp (la (eGMethod a1) agg_40) ?_
 obtain ⟨y9, h10, hF⟩ := bs hF
 refine rgp (cl 3 [.agg (eGMethod a1)] [.p (.vs 13 (List.map eGVar y9))] (arena_Vars_ok h10)) ?_
 refine go ?_
 obtain ⟨y11, h12, hF⟩ := bs hF
 refine rgp (ix (idx_map eGVar h12) slc_29) ?_
 refine go ?_
 refine rgp (lw (eGType y11.fType) agg_37) ?_
 iterate 4 refine go ?_
 cases hF
 exact post_ret rfl rfl (.cons _ _ _ _ _ (.agg _ _ _ _ _ 11 _ _ rfl rfl agg_37 rfl rfl rfl) (.p _) (.cons _ _ _ _ _ (.tmp _ _ rfl) (.p _) .nil)) (.inl rfl)
theorem fit_must_ok {a0 : Bool} {a1 : Int} {r : Int} (hF : fit_must a0 a1 = some r) : FZ 152 [.bool a0, .int .i64 a1] [.p (.int .i64 r)] := by
 unfold fit_must at hF
 refine fn_of_body (n := 7) Tryz.func152 rfl rfl rfl fun w O => ?_
 iterate 7 refine go ?_
 refine cnd hF (fun hb1 hF => ?_) fun hb1 hF => ?_
 ·iterate 5 refine go ?_
  cases hF
  exact prt
 iterate 7 refine go ?_
 cases hF
 exact prt
theorem __fit_asker__object_w_ok {b0 : Gasker_fit} {r : Int × Gasker_fit} (hF : __fit_asker__object_w b0 = some r) : Abs.FnW globs_Tryz Tryz.prog 132 [.lp 0 0] [(0, some (.box 224 (bxv (eGasker_fit b0))))] 1 [(0, 0)] [.pv (.int .i64 r.1)] [(0, some (.box 224 (bxv (eGasker_fit r.2))))] 1 := by
 unfold __fit_asker__object_w at hF
 refine fnW_of_body (n := 43) (m := 1) [0] Tryz.func132 rfl rfl rfl ?_
 intro c w O θ hcx
 iterate 3 refine go ?_
 refine aw_seq ?_
 refine aw_imp (imp_names 1) ?_
 refine dr_start ⟨_, _, _⟩ rfl ?_
 refine dgo ?_
 refine dr_cons { need := [(6, .lp 0 0)], dst := some 7, val := some (.lp 0 0) } (fun m h => step_on (guard_no rfl) (op_nilCheck rfl h.1.1 rfl rfl rfl) rfl) ⟨⟨rfl, trivial⟩, trivial, trivial⟩ ?_
 refine dgo ?_
 refine dr_cons { need := [(8, .lp 0 1)], hneed := [(0, .box 224 (bxv (eGasker_fit b0)))], dst := some 9, val := some (.pv (.agg (eGClass b0.fc))) } (fun m h => step_on (guard_no rfl) (op_load_lp_agg (ps := eGClass b0.fc) rfl h.1.1 h.2.1.1 rfl rfl rfl agg_32 rfl rfl) rfl) ⟨⟨rfl, trivial⟩, ⟨rfl, trivial⟩, trivial⟩ ?_
 refine dgo ?_
 refine dr_cons { need := [(10, .lp 0 0)], dst := some 11, val := some (.lp 0 0) } (fun m h => step_on (guard_no rfl) (op_nilCheck rfl h.1.1 rfl rfl rfl) rfl) ⟨⟨rfl, trivial⟩, trivial, trivial⟩ ?_
 refine dgo ?_
 refine dr_cons { need := [(12, .lp 0 8)], hneed := [(0, .box 224 (bxv (eGasker_fit b0)))], dst := some 13, val := some (.pv (.agg (eGMethod b0.fm))) } (fun m h => step_on (guard_no rfl) (op_load_lp_agg (ps := eGMethod b0.fm) rfl h.1.1 h.2.1.1 rfl rfl rfl agg_40 rfl rfl) rfl) ⟨⟨rfl, trivial⟩, ⟨rfl, trivial⟩, trivial⟩ ?_
 refine dgo ?_
 refine dr_cons { need := [(14, .lp 0 0)], dst := some 15, val := some (.lp 0 0) } (fun m h => step_on (guard_no rfl) (op_nilCheck rfl h.1.1 rfl rfl rfl) rfl) ⟨⟨rfl, trivial⟩, trivial, trivial⟩ ?_
 iterate 3 refine dgo ?_
 obtain ⟨y3, h4, hF⟩ := bs hF
 refine dr_cons { need := [(18, .pv (.str b0.fs.fY)), (13, .pv (.agg (eGMethod b0.fm))), (9, .pv (.agg (eGClass b0.fc)))], dst := some 19, val := some (.tup [.pv (.agg (eGType y3.1)), .pv (.bool y3.2)]) } (fun m h => step_on (guard_no rfl) (op_call 2 rfl (caps := []) (args := [.agg (eGClass b0.fc), .agg (eGMethod b0.fm), .str b0.fs.fY]) (rs := [.p (.agg (eGType y3.1)), .p (.bool y3.2)]) rfl rfl (evl_cons h.1.2.2.1 (evl_cons h.1.2.1 (evl_cons h.1.1 evl_nil))) cal_151 (scope_Type_ok h4) rfl rfl rfl) rfl) ⟨⟨rfl, rfl, rfl, trivial⟩, trivial, trivial⟩ ?_
 refine dgo ?_
 refine dr_cons { need := [(5, .tup [.pv (.agg (eGType y3.1)), .pv (.bool y3.2)])], dst := some 20, val := some (.pv (.agg (eGType y3.1))) } (fun m h => step_on (guard_no rfl) (op_extract rfl h.1.1 rfl rfl rfl) rfl) ⟨⟨rfl, trivial⟩, trivial, trivial⟩ ?_
 refine dr_cons { need := [(5, .tup [.pv (.agg (eGType y3.1)), .pv (.bool y3.2)])], dst := some 21, val := some (.pv (.bool y3.2)) } (fun m h => step_on (guard_no rfl) (op_extract rfl h.1.1 rfl rfl rfl) rfl) ⟨⟨rfl, trivial⟩, trivial, trivial⟩ ?_
 refine dr_cons { names := [1], dst := some 3, val := some (.lp 1 0), upd := [(1, some (.box 37 (bxv (eGType zGType))))] } (fun m h => step_on (guard_no rfl) (op_alloc 1 (fresh_free h.2.2.1) (ps := (eGType zGType)) rfl zer_37 (by exact ⟨rfl, rfl, rfl, rfl, rfl, rfl, rfl, rfl, rfl, rfl, rfl, trivial⟩) rfl rfl) rfl) ⟨trivial, trivial, ⟨rfl, trivial⟩⟩ ?_
 refine dr_cons { need := [(3, .lp 1 0), (20, .pv (.agg (eGType y3.1)))], hneed := [(1, .box 37 (bxv (eGType zGType)))], upd := [(1, some (.box 37 (bxv (eGType y3.1))))] } (fun m h => step_on (guard_no rfl) (op_store_lp (n := 11) rfl h.1.1 h.1.2.1 rfl h.2.1.1 (or_agg agg_37) (by rw [non_37]; rfl) rfl rfl rfl) rfl) ⟨⟨rfl, rfl, trivial⟩, ⟨rfl, trivial⟩, trivial⟩ ?_
 refine dr_cons { need := [(21, .pv (.bool y3.2))], dst := some 4, val := some (.pv (.bool y3.2)) } (fun m h => step_on (guard_no rfl) (op_assign rfl h.1.1 rfl rfl) rfl) ⟨⟨rfl, trivial⟩, trivial, trivial⟩ ?_
 refine dr_nil mixed rfl (by kernel_rfl) ?_
 refine piz ⟨43, [(0, some (.lp 0 0)), (3, some (.lp 1 0)), (4, some (.pv (.bool y3.2)))], [(0, some (.box 224 (bxv (eGasker_fit b0)))), (1, some (.box 37 (bxv (eGType y3.1))))], 2, [], [], 0, [0]⟩ [0, 1] ?_
 iterate 6 refine go ?_
 refine cnd hF (fun hb5 hF => ?_) fun hb5 hF => ?_
 ·iterate 5 refine go ?_
  refine piz ⟨43, [(0, some (.lp 0 0)), (2, some (.pv (.int .i64 13)))], [(0, some (.box 224 (bxv (eGasker_fit b0))))], 1, [], [], 0, [0]⟩ [0] ?_
  cases hF
  exact post_retW hcx rfl (.cons _ _ _ _ (.tmp _ _ rfl) .nil) rfl (.inl rfl)
 iterate 4 refine go ?_
 refine rgp (la (eGType y3.1) agg_37) ?_
 refine rgp (op_nilCheck rfl rfl rfl rfl rfl) ?_
 iterate 9 refine go ?_
 refine cnd hF (fun hb6 hF => ?_) fun hb6 hF => ?_
 ·iterate 5 refine go ?_
  refine piz ⟨43, [(0, some (.lp 0 0)), (2, some (.pv (.int .i64 14)))], [(0, some (.box 224 (bxv (eGasker_fit ({ b0 with fo := y3.1 } : Gasker_fit)))))], 1, [], [], 0, [0]⟩ [0] ?_
  cases hF
  exact post_retW hcx rfl (.cons _ _ _ _ (.tmp _ _ rfl) .nil) rfl (.inl rfl)
 iterate 4 refine go ?_
 refine rgp (op_nilCheck rfl rfl rfl rfl rfl) ?_
 iterate 5 refine go ?_
 rcases ie hF with ⟨hb7, hF⟩ | ⟨hb7, hF⟩
 ·refine rgo_t hb7 ?_
  iterate 2 refine rgo_t hb7 ?_
  refine rpt hb7 ?_
  obtain ⟨y8, h9, hF⟩ := bs hF
  refine rgp (cl 2 [.bool true, .int .i64 22] [.p (.int .i64 y8)] (fit_must_ok h9)) ?_
  iterate 3 refine go ?_
  refine piz ⟨43, [(0, some (.lp 0 0)), (2, some (.pv (.int .i64 y8)))], [(0, some (.box 224 (bxv (eGasker_fit ({ b0 with fo := y3.1 } : Gasker_fit)))))], 1, [], [], 0, [0]⟩ [0] ?_
  cases hF
  exact post_retW hcx rfl (.cons _ _ _ _ (.tmp _ _ rfl) .nil) rfl (.inl rfl)
 refine rgn hb7 (la (eGType y3.1) agg_37) ?_
 obtain ⟨y10, h11, hF⟩ := bs hF
 refine rgn hb7 (cl 2 [.agg (eGType y3.1)] [.p (.bool y10)] (kind_Unique_ok h11)) ?_
 refine gn hb7 ?_
 refine rpf hb7 ?_
 obtain ⟨y12, h13, hF⟩ := bs hF
 refine rgp (cl 2 [.bool (!y10), .int .i64 22] [.p (.int .i64 y12)] (fit_must_ok h13)) ?_
 iterate 3 refine go ?_
 refine piz ⟨43, [(0, some (.lp 0 0)), (2, some (.pv (.int .i64 y12)))], [(0, some (.box 224 (bxv (eGasker_fit ({ b0 with fo := y3.1 } : Gasker_fit)))))], 1, [], [], 0, [0]⟩ [0] ?_
 cases hF
 exact post_retW hcx rfl (.cons _ _ _ _ (.tmp _ _ rfl) .nil) rfl (.inl rfl)
theorem above_up_ok {a0 : List GClass} {a1 : List UInt8} {r : (List GClass) × (List UInt8)} (hF : above_up a0 a1 = some r) : FZ 117 [.vs 7 (List.map eGClass a0), .str a1] [.clo 138 [.vp ((eL 7 eGClass) r.1)] 9 [.str r.2] []] := by
 unfold above_up at hF
 refine fn_of_body (n := 6) Tryz.func117 rfl rfl rfl fun w O => ?_
 refine go ?_
 refine rgp (bo 0) ?_
 refine rgp (bo 1) ?_
 iterate 3 refine go ?_
 refine rgp (op_makeFunc rfl rfl rfl rfl) ?_
 iterate 3 refine go ?_
 refine post_imp (imp_freeze_cap 4 0 [.pv (.vp ((eL 7 eGClass) a0)), .lp 1 0] rfl rfl rfl rfl ⟨.inr ⟨rfl, rfl⟩, .inl rfl, trivial⟩) ?_
 cases hF
 exact post_ret rfl rfl (.cons _ _ _ _ _ (.tmp _ _ rfl) (.clo 138 [.vp ((eL 7 eGClass) a0)] [] 1 9 [.str a1] rfl nolent3) .nil) (.inl rfl)
theorem slices_IndexFunc_api_Class_ok {a0 : List GClass} {q1 : GClass → Option Bool} {r : Int} {q1_f : Nat} {q1_c : List PV} (q1_b : callB Tryz.prog q1_f = true) (q1_h : ∀ (x0 : GClass) (r : Bool), q1 x0 = some r → FZ q1_f ([.agg (eGClass x0)] ++ q1_c) [.p (.bool r)]) (hF : slices_IndexFunc_api_Class a0 q1 = some r) : FZ 158 [.vs 7 (List.map eGClass a0), .fn q1_f q1_c] [.p (.int .i64 r)] := by
 unfold slices_IndexFunc_api_Class at hF
 refine fn_of_body (n := 19) Tryz.func158 rfl rfl rfl fun w O => ?_
 iterate 9 refine go ?_
 obtain ⟨lr34, hF, hK35⟩ := bs hF
 refine aw_for ((a0.length - 0 : Int).toNat + 1) (fun s1 => ∃ q, lr34 = .next q ∧ s1 = (sX 19 [] [] 0)) ?_ ?_
 ·refine rnd_loop (α := Int) (fun q => (sX 19 [pf 0 (.vs 7 (List.map eGClass a0)), pf 1 (.fn q1_f q1_c), pf 7 (.int .i64 (a0.length : Int)), pf 8 (.int .i64 q)] [] 0)) (fun k q => slices_IndexFunc_api_Class_L1 a0 q1 k q = some lr34) 0 (impz []) hF (fun q h => by cases h) ?_
  clear hF
  rintro k x11 hF ih
  refine rnd_succ ?_
  iterate 3 refine go ?_
  refine aw_seq ?_
  refine cnd hF (fun hb23 hF => ?_) fun hb23 hF => ?_
  ·iterate 2 refine go ?_
   refine aw_seq ?_
   refine aw_block ?_
   iterate 8 refine go ?_
   obtain ⟨y28, h29, hF⟩ := bs hF
   refine rgp (ix (idx_map eGClass h29) slc_22) ?_
   refine rgp (lw (eGClass y28) agg_32) ?_
   obtain ⟨y30, h31, hF⟩ := bs hF
   refine rgp (op_call 0 rfl (caps := q1_c) (args := [.agg (eGClass y28)]) (rs := [.p (.bool y30)]) rfl rfl rfl q1_b (q1_h y28 _ h31) rfl rfl rfl) ?_
   refine go ?_
   refine cnd hF (fun hb32 hF => ?_) fun hb32 hF => ?_
   ·iterate 8 refine go ?_
    refine post_lp_ret ?_
    cases hF
    have hF := elim_stop hK35
    refine go ?_
    cases hF
    exact prt
   iterate 6 refine go ?_
   refine rnr ?_
   exact rnd_back (ih (w_i64 (x11 + 1)) hF) (impz [])
  refine aw_exit ?_
  iterate 2 refine post_then_exit ?_
  cases hF
  exact post_lp_break _ ⟨_, rfl, rfl⟩ (impz [])
 rintro _ ⟨⟨⟩, rfl, rfl⟩
 have hF := elim_next hK35
 clear hK35
 iterate 5 refine go ?_
 cases hF
 exact prt
theorem table_Find_1_ok {a0 : GClass} {c0 : List UInt8} {r : Bool} (hF : table_Find_1 a0 c0 = some r) : FZ 159 [.agg (eGClass a0), .vp (eS c0)] [.p (.bool r)] := by
 unfold table_Find_1 at hF
 refine fn_of_body (n := 8) Tryz.func159 rfl rfl rfl fun w O => ?_
 refine go ?_
 refine rgp (bo 0) ?_
 iterate 6 refine go ?_
 refine rgp (op_str rfl rfl rfl rfl rfl rfl) ?_
 iterate 3 refine go ?_
 cases hF
 exact prt
theorem table_Find_ok {a0 : List GClass} {a1 : List UInt8} {r : Int} (hF : table_Find a0 a1 = some r) : FZ 139 [.vs 7 (List.map eGClass a0), .str a1] [.p (.int .i64 r)] := by
 unfold table_Find at hF
 refine fn_of_body (n := 8) Tryz.func139 rfl rfl rfl fun w O => ?_
 refine go ?_
 refine rgp (bo 0) ?_
 iterate 4 refine go ?_
 refine rgp (op_makeFunc rfl rfl rfl rfl) ?_
 obtain ⟨y2, h3, hF⟩ := bs hF
 refine rgp (op_callB 1 rfl (caps := []) (args := [.vs 7 (List.map eGClass a0), .fn 159 [.vp (eS a1)]]) [(0, some (.box 9 [.pv (.str a1)]))] rfl rfl rfl (FzH.spec ⟨rfl, trivial⟩) rfl rfl cal_158 (slices_IndexFunc_api_Class_ok (q1_f := 159) (q1_c := [.vp (eS a1)]) (q1_b := cal_159) (q1_h := fun _ r h => (table_Find_1_ok h)) h3) rfl rfl rfl) ?_
 iterate 3 refine go ?_
 cases hF
 exact prt
theorem above_up_1_it {rows : List (Int)} {sp : Nat} {c0 : List GClass} {c1 : List UInt8} (hF : above_up_1 rows sp c0 c1 = some (min (sp + 1) rows.length)) : It globs_Tryz Tryz.prog 138 1 [.vp ((eL 7 eGClass) c0)] (some (9, [.str c1])) [] (rows.map (fun z : Int => ([.int .i64 z] : List PV))) sp := by
 unfold above_up_1 at hF
 refine it_of_body (n := 29) Tryz.func138 rfl rfl rfl ?_
 intro l c hcx
 iterate 5 refine go ?_
 refine reg_nil ?_
 refine piz (sX 29 [pf 0 (.yld l), pf 1 (.vp ((eL 7 eGClass) c0)), (2, some (.lp 0 0)), pf 7 (.int .i64 (w_i64 ((c0.length : Int) + 1))), pf 8 (.int .i64 0)] [(0, some (.box 9 [.pv (.str c1)]))] 1) [0] ?_
 refine go ?_
 obtain ⟨lr65, hF, hK66⟩ := bs hF
 refine aw_for ((((w_i64 ((c0.length : Int) + 1)) : Int) - (0)).toNat + 1) (fun s1 => ∃ q, lr65 = .next q ∧ s1 = ⟨29, [], [], 0, [], [], q, []⟩) ?_ ?_
 ·refine rnd_loop (α := Nat × (List UInt8) × Int) (fun q => ⟨29, [(0, some (.pv (.yld l))), (1, some (.pv (.vp ((eL 7 eGClass) c0)))), (2, some (.lp 0 0)), (7, some (.pv (.int .i64 (w_i64 ((c0.length : Int) + 1))))), (8, some (.pv (.int .i64 q.2.2)))], [(0, some (.box 9 [.pv (.str q.2.1)]))], 1, [], [], q.1, []⟩) (fun k q => above_up_1_L1 c0 sp rows k q.1 q.2.1 q.2.2 = some lr65) (0, c1, 0) (impz [0]) hF (fun q h => by cases h) ?_
  clear hF
  rintro k ⟨x19, x20, x21⟩ hF ih
  refine rnd_succ ?_
  iterate 2 refine go ?_
  refine reg_nil ?_
  refine piz ⟨29, [(0, some (.pv (.yld l))), (1, some (.pv (.vp ((eL 7 eGClass) c0)))), (2, some (.lp 0 0)), (7, some (.pv (.int .i64 (w_i64 ((c0.length : Int) + 1))))), (8, some (.pv (.int .i64 x21))), (9, some (.pv (.bool (decide (x21 < (w_i64 ((c0.length : Int) + 1)))))))], [(0, some (.box 9 [.pv (.str x20)]))], 1, [], [], x19, []⟩ [0] ?_
  refine go ?_
  refine aw_seq ?_
  refine cnd hF (fun hb43 hF => ?_) fun hb43 hF => ?_
  ·iterate 2 refine go ?_
   refine aw_seq ?_
   refine aw_block ?_
   iterate 3 refine go ?_
   obtain ⟨y46, h47, hF⟩ := bs hF
   refine rgp (cl 1 [.vs 7 (List.map eGClass c0), .str x20] [.p (.int .i64 y46)] (table_Find_ok h47)) ?_
   refine go ?_
   refine reg_nil ?_
   refine piz ⟨29, [(0, some (.pv (.yld l))), (1, some (.pv (.vp ((eL 7 eGClass) c0)))), (2, some (.lp 0 0)), (4, some (.pv (.int .i64 y46))), (7, some (.pv (.int .i64 (w_i64 ((c0.length : Int) + 1))))), (8, some (.pv (.int .i64 x21)))], [(0, some (.box 9 [.pv (.str x20)]))], 1, [], [], x19, []⟩ [0] ?_
   refine go ?_
   refine aw_seq ?_
   refine aw_seq ?_
   obtain ⟨p53, hF, hK54⟩ := bs hF
   obtain ⟨x51, x52⟩ := p53
   refine ctx ⟨29, [(0, some (.pv (.yld l))), (1, some (.pv (.vp ((eL 7 eGClass) c0)))), (2, some (.lp 0 0)), (4, some (.pv (.int .i64 y46))), (7, some (.pv (.int .i64 (w_i64 ((c0.length : Int) + 1))))), (8, some (.pv (.int .i64 x21))), (20, some (.pv (.bool x52)))], [(0, some (.box 9 [.pv (.str x20)]))], 1, [], [], x51, []⟩ ?_ ?_
   ·iterate 4 refine go ?_
    rcases ie hF with ⟨hb48, hF⟩ | ⟨hb48, hF⟩
    ·refine rgo_t hb48 ?_
     iterate 3 refine rgo_t hb48 ?_
     refine rpt hb48 ?_
     cases hF
     exact rcz [0]
    iterate 2 (refine rgn hb48 (op_move rfl rfl rfl rfl) ?_)
    obtain ⟨u49, h50, hF⟩ := bs hF
    refine rgn hb48 (op_yield (row := (fun z : Int => ([.int .i64 z] : List PV)) y46) hcx rfl rfl rfl rfl (yck_row (fun z : Int => ([.int .i64 z] : List PV)) h50) (yck_spec h50).2 rfl rfl) ?_
    refine gn hb48 ?_
    refine rpf hb48 ?_
    cases hF
    exact rcz [0]
   have hF := hK54
   refine go ?_
   refine cnd hF (fun hb55 hF => ?_) fun hb55 hF => ?_
   ·iterate 5 refine go ?_
    refine post_lp_ret ?_
    cases hF
    have hF := elim_stop hK66
    exact post_it (it_len hF) rfl (.inl rfl)
   iterate 5 refine go ?_
   obtain ⟨y58, h59, hF⟩ := bs hF
   refine rgp (ix (idx_map eGClass h59) slc_22) ?_
   iterate 3 refine go ?_
   refine reg_nil ?_
   refine piz ⟨29, [(0, some (.pv (.yld l))), (1, some (.pv (.vp ((eL 7 eGClass) c0)))), (2, some (.lp 0 0)), (7, some (.pv (.int .i64 (w_i64 ((c0.length : Int) + 1))))), (8, some (.pv (.int .i64 x21)))], [(0, some (.box 9 [.pv (.str y58.fSuper)]))], 1, [], [], x51, []⟩ [0] ?_
   iterate 3 refine go ?_
   refine rgp (op_str rfl rfl rfl rfl rfl rfl) ?_
   refine reg_nil ?_
   refine piz ⟨29, [(0, some (.pv (.yld l))), (1, some (.pv (.vp ((eL 7 eGClass) c0)))), (2, some (.lp 0 0)), (7, some (.pv (.int .i64 (w_i64 ((c0.length : Int) + 1))))), (8, some (.pv (.int .i64 x21))), (27, some (.pv (.bool (y58.fSuper == []))))], [(0, some (.box 9 [.pv (.str y58.fSuper)]))], 1, [], [], x51, []⟩ [0] ?_
   refine go ?_
   refine cnd hF (fun hb60 hF => ?_) fun hb60 hF => ?_
   ·iterate 4 refine go ?_
    refine post_lp_ret ?_
    cases hF
    have hF := elim_stop hK66
    exact post_it (it_len hF) rfl (.inl rfl)
   iterate 6 refine go ?_
   refine rnr ?_
   exact rnd_back (ih (x51, y58.fSuper, w_i64 (x21 + 1)) hF) (impz [0])
  refine aw_exit ?_
  iterate 2 refine post_then_exit ?_
  cases hF
  exact post_lp_break _ ⟨_, rfl, rfl⟩ (impz [])
 rintro _ ⟨x64, rfl, rfl⟩
 have hF := elim_next hK66
 clear hK66
 exact post_it (it_len hF) rfl (.inr rfl)

theorem slices_Index_int_ok {a0 : List Int} {a1 : Int} {r : Int} (hF : slices_Index_int a0 a1 = some r) : FZ 140 [.vs 1 (List.map eI a0), .int .i64 a1] [.p (.int .i64 r)] := by
 unfold slices_Index_int at hF
 refine fn_of_body (n := 19) Tryz.func140 rfl rfl rfl fun w O => ?_
 iterate 9 refine go ?_
 obtain ⟨lr22, hF, hK23⟩ := bs hF
 refine aw_for ((a0.length - 0 : Int).toNat + 1) (fun s1 => ∃ q, lr22 = .next q ∧ s1 = (sX 19 [] [] 0)) ?_ ?_
 ·refine rnd_loop (α := Int) (fun q => (sX 19 [pf 0 (.vs 1 (List.map eI a0)), pf 1 (.int .i64 a1), pf 7 (.int .i64 (a0.length : Int)), pf 8 (.int .i64 q)] [] 0)) (fun k q => slices_Index_int_L1 a0 a1 k q = some lr22) 0 (impz []) hF (fun q h => by cases h) ?_
  clear hF
  rintro k x7 hF ih
  refine rnd_succ ?_
  iterate 3 refine go ?_
  refine aw_seq ?_
  refine cnd hF (fun hb15 hF => ?_) fun hb15 hF => ?_
  ·iterate 2 refine go ?_
   refine aw_seq ?_
   refine aw_block ?_
   iterate 8 refine go ?_
   obtain ⟨y18, h19, hF⟩ := bs hF
   refine rgp (ix (idx_map eI h19) slc_75) ?_
   iterate 3 refine go ?_
   refine cnd hF (fun hb20 hF => ?_) fun hb20 hF => ?_
   ·iterate 8 refine go ?_
    refine post_lp_ret ?_
    cases hF
    have hF := elim_stop hK23
    refine go ?_
    cases hF
    exact prt
   iterate 6 refine go ?_
   refine rnr ?_
   exact rnd_back (ih (w_i64 (x7 + 1)) hF) (impz [])
  refine aw_exit ?_
  iterate 2 refine post_then_exit ?_
  cases hF
  exact post_lp_break _ ⟨_, rfl, rfl⟩ (impz [])
 rintro _ ⟨⟨⟩, rfl, rfl⟩
 have hF := elim_next hK23
 clear hK23
 iterate 5 refine go ?_
 cases hF
 exact prt
theorem slices_Contains_int_ok {a0 : List Int} {a1 : Int} {r : Bool} (hF : slices_Contains_int a0 a1 = some r) : FZ 118 [.vs 1 (List.map eI a0), .int .i64 a1] [.p (.bool r)] := by
 unfold slices_Contains_int at hF
 refine fn_of_body (n := 9) Tryz.func118 rfl rfl rfl fun w O => ?_
 iterate 6 refine go ?_
 obtain ⟨y1, h2, hF⟩ := bs hF
 refine rgp (cl 0 [.vs 1 (List.map eI a0), .int .i64 a1] [.p (.int .i64 y1)] (slices_Index_int_ok h2)) ?_
 iterate 4 refine go ?_
 cases hF
 exact prt
theorem above_Chain_ok {a0 : List GClass} {a1 : List UInt8} {r : (List Int)} (hF : above_Chain a0 a1 = some r) : FZ 87 [.vs 7 (List.map eGClass a0), .str a1] [.own 3 1 (List.map eI r)] := by
 unfold above_Chain at hF
 refine fn_of_body (n := 19) Tryz.func87 rfl rfl rfl fun w O => ?_
 iterate 4 refine go ?_
 refine rgp (al 0 [.nils] zer_75) ?_
 refine reg_imp (imp_nil_box 0 0 75 3 1 1 rfl rfl rfl) ?_
 iterate 5 refine go ?_
 obtain ⟨y3, h4, hF⟩ := bs hF
 refine rgp (cl 2 [.vs 7 (List.map eGClass a0), .str a1] [.clo 138 [.vp ((eL 7 eGClass) y3.1)] 9 [.str y3.2] []] (above_up_ok h4)) ?_
 refine go ?_
 refine aw_block ?_
 refine aw_imp (s' := (sX 19 [(5, some (.lp 0 0)), (9, some (.fn 138 [.pv (.vp ((eL 7 eGClass) y3.1)), .lp 2 0]))] [(0, some (.box 75 [.ls 1])), (1, some (.row 3 1 (List.map eI []))), (2, some (.box 9 [.pv (.str y3.2)]))] 3)) (impz [0, 1, 2]) ?_
 obtain ⟨rows33, hR34, hF⟩ := bs hF
 obtain ⟨lr35, hL36, hF⟩ := bs hF
 refine aw_rangeFunc (X := Int) (Q := (List Int)) (E := (List Int)) (pre := [.vp ((eL 7 eGClass) y3.1)]) (bx := (some (9, [.str y3.2]))) (post := []) (kt := [5]) (psl := [10]) (some 2) (fun z : Int => ([.int .i64 z] : List PV)) rows33 above_Chain_B1 [] lr35 hL36 (fun q => (sX 19 [(5, some (.lp 0 0))] [(0, some (.box 75 [.ls 1])), (1, some (.row 3 1 (List.map eI q)))] 3)) (fun z => ((.exit 0), (sX 19 [(5, some (.lp 0 0))] [(0, some (.box 75 [.ls 1])), (1, some (.row 3 1 (List.map eI z)))] 2))) ⟨_, _, rfl, rfl, rfl⟩ cal_138 (fun sp => above_up_1_it (itR_up_ok hR34 sp)) (fun _ => rfl) rfl rfl (by decide) rfl (fun x q => ⟨19, [(5, some (.lp 0 0)), (6, some (.pv (.int .i64 x))), (10, some (.pv (.int .i64 x)))], [(0, some (.box 75 [.ls 1])), (1, some (.row 3 1 (List.map eI q)))], 3, [], [], 0, [5]⟩) (fun q => ⟨rfl, rfl, rfl, rfl⟩) (fun z => ⟨rfl, rfl, rfl, rfl⟩) (fun z => rfl) rfl rfl ⟨rfl, trivial⟩ ⟨⟨rfl, rfl, rfl⟩, ⟨rfl, rfl, rfl⟩, trivial⟩ ?_ ?_ ?_ ?_
 ·rintro l37 c38 x23 x13 hc39
  iterate 2 refine go ?_
  refine reg_nil ?_
  exact post_cut1 (impz [0, 1, 2])
 ·rintro l37 c38 x23 x13 r40 hc39 hF
  refine aw_block ?_
  iterate 4 refine go ?_
  obtain ⟨y26, h27, hF⟩ := bs hF
  refine rgp (op_callB 3 rfl (caps := []) (args := [.vs 1 (List.map eI x13), .int .i64 x23]) [(1, some (.row 3 1 (List.map eI x13)))] rfl rfl rfl (FzH.spec ⟨rfl, trivial⟩) rfl rfl cal_118 (slices_Contains_int_ok h27) rfl rfl rfl) ?_
  refine go ?_
  refine cnd hF (fun hb28 hF => ?_) fun hb28 hF => ?_
  ·refine aw_exit ?_
   refine post_then_exit ?_
   refine post_block_other rfl ?_
   cases hF
   exact post_rnd_exit x13 rfl rfl (impz [0, 1])
  iterate 5 refine go ?_
  refine rgp (op_lit (rows := List.map eI ([x23] : List Int)) (zs := [.int .i64 0]) rfl rfl slc_75 zer_3 (by exact ⟨rfl, trivial⟩) rfl rfl rfl rfl rfl rfl rfl rfl) ?_
  obtain ⟨u29, h30, hF⟩ := bs hF
  refine rgp (op_append 3 rfl rfl rfl rfl rfl slc_75 elm_3 zer_3 rfl rfl rfl (room_map (f := eI) (g := eI) h30) (List.map_append (f := eI) (l₁ := x13) (l₂ := [x23])).symm rfl rfl) ?_
  refine go ?_
  refine reg_nil ?_
  refine piz ⟨19, [(5, some (.lp 0 0))], [(0, some (.box 75 [.ls 1])), (1, some (.row 3 1 (List.map eI (x13 ++ [x23]))))], 2, [], [], 0, [5]⟩ [0, 3] ?_
  refine go ?_
  cases hF
  exact post_rnd (x13 ++ [x23]) rfl (impz [0, 1, 1000000])
 ·rintro x13 rfl
  have hF := elim_next hF
  iterate 7 refine go ?_
  cases hF
  exact post_ret rfl rfl (.cons _ _ _ _ _ (.tmp _ _ rfl) (.own _ _ _ _ rfl nolent3) .nil) (.inl rfl)
 rintro x32 rfl
 have hF := elim_stop hF
 show Post _ _ (.exit 0) _
 refine post_block_exit ?_
 iterate 6 refine go ?_
 cases hF
 exact post_ret rfl rfl (.cons _ _ _ _ _ (.tmp _ _ rfl) (.own _ _ _ _ rfl nolent3) .nil) (.inl rfl)
theorem method_first_1_w_ok {a0 : Gheld_method} {b0 : List UInt8} {b1 : List GClass} {b2 : GFound_method} {b3 : Bool} {r : Bool × GFound_method × Bool} (hF : method_first_1_w a0 b0 b1 b2 b3 = some r) : Abs.FnW globs_Tryz Tryz.prog 178 [.pv (.agg (eGheld_method a0)), .lp 0 0, .lp 1 0, .lp 2 0, .lp 3 0] [(0, some (.box 9 [.pv (.str b0)])), (1, some (.box 22 [.pv (.vs 7 (List.map eGClass b1))])), (2, some (.box 189 (bxv (eGFound_method b2)))), (3, some (.box 4 [.pv (.bool b3)]))] 4 [(0, 0), (1, 1), (2, 2), (3, 3)] [.pv (.bool r.1)] [(0, some (.box 9 [.pv (.str b0)])), (1, some (.box 22 [.pv (.vs 7 (List.map eGClass b1))])), (2, some (.box 189 (bxv (eGFound_method r.2.1)))), (3, some (.box 4 [.pv (.bool r.2.2)]))] 4 := by
 unfold method_first_1_w at hF
 refine fnW_of_body (n := 24) (m := 4) [1, 2, 3, 4] Tryz.func178 rfl rfl rfl ?_
 intro c w O θ hcx
 refine go ?_
 refine rgp (bo 4) ?_
 iterate 8 refine go ?_
 refine rgp (op_str rfl rfl rfl rfl rfl rfl) ?_
 refine go ?_
 refine cnd hF (fun hb1 hF => ?_) fun hb1 hF => ?_
 ·refine dr_start ⟨_, _, _⟩ rfl ?_
  iterate 3 refine dgo ?_
  obtain ⟨y2, h3, hF⟩ := bs hF
  refine dr_cons { need := [(12, .pv (.vs 7 (List.map eGClass b1))), (14, .pv (.int .i64 a0.fclass))], dst := some 15, val := some (.pv (.vp (eGClass y2))) } (fun m h => step_on (guard_no rfl) (op_index_vs (k := .i64) rfl h.1.1 h.1.2.1 (idx_map eGClass h3) slc_22 rfl rfl) rfl) ⟨⟨rfl, rfl, trivial⟩, trivial, trivial⟩ ?_
  refine dr_cons { need := [(15, .pv (.vp (eGClass y2)))], dst := some 16, val := some (.pv (.vp (List.drop 0 (eGClass y2)))) } (fun m h => step_on (guard_no rfl) (op_field_vp rfl h.1.1 fld_32_0 rfl rfl) rfl) ⟨⟨rfl, trivial⟩, trivial, trivial⟩ ?_
  refine dr_cons { need := [(16, .pv (.vp (List.drop 0 (eGClass y2))))], dst := some 17, val := some (.pv (.str y2.fName)) } (fun m h => step_on (guard_no rfl) (op_load_vp (p := .str y2.fName) rfl h.1.1 rfl one_9 rfl rfl) rfl) ⟨⟨rfl, trivial⟩, trivial, trivial⟩ ?_
  refine dgo ?_
  refine dr_cons { need := [(18, .lp 4 0)], hneed := [(4, .box 264 (bxv (eGheld_method a0)))], dst := some 19, val := some (.pv (.agg (eGMethod a0.fMethod))) } (fun m h => step_on (guard_no rfl) (op_load_lp_agg (ps := eGMethod a0.fMethod) rfl h.1.1 h.2.1.1 rfl rfl rfl agg_40 rfl rfl) rfl) ⟨⟨rfl, trivial⟩, ⟨rfl, trivial⟩, trivial⟩ ?_
  refine dr_cons { need := [(3, .lp 2 0)], hneed := [(2, .box 189 (bxv (eGFound_method b2)))], upd := [(2, some (.box 189 (bxv (eGFound_method zGFound_method))))] } (fun m h => step_on (guard_no rfl) (op_store_zc (n := 18) (ps := (eGFound_method zGFound_method)) rfl h.1.1 (by exact ⟨rfl, rfl, rfl, rfl, rfl, rfl, rfl, rfl, rfl, rfl, rfl, rfl, rfl, rfl, trivial, trivial, trivial, rfl, trivial⟩) h.2.1.1 (or_agg agg_189) (by rw [non_189]; rfl) rfl rfl rfl) rfl) ⟨⟨rfl, trivial⟩, ⟨rfl, trivial⟩, trivial⟩ ?_
  refine dgo ?_
  refine dr_cons { need := [(20, .lp 2 0), (17, .pv (.str y2.fName))], hneed := [(2, .box 189 (bxv (eGFound_method zGFound_method)))], upd := [(2, some (.box 189 (bxv (eGFound_method ({ zGFound_method with fClass := y2.fName } : GFound_method)))))] } (fun m h => step_on (guard_no rfl) (op_store_lp (n := 1) rfl h.1.1 h.1.2.1 rfl h.2.1.1 (or_one one_9) (by rw [one_9]; rfl) rfl rfl rfl) rfl) ⟨⟨rfl, rfl, trivial⟩, ⟨rfl, trivial⟩, trivial⟩ ?_
  refine dgo ?_
  refine dr_cons { need := [(21, .lp 2 1), (19, .pv (.agg (eGMethod a0.fMethod)))], hneed := [(2, .box 189 (bxv (eGFound_method ({ zGFound_method with fClass := y2.fName } : GFound_method))))], upd := [(2, some (.box 189 (bxv (eGFound_method ({ ({ zGFound_method with fClass := y2.fName } : GFound_method) with fMethod := a0.fMethod } : GFound_method)))))] } (fun m h => step_on (guard_no rfl) (op_store_lp (n := 17) rfl h.1.1 h.1.2.1 rfl h.2.1.1 (or_agg agg_40) (by rw [non_40]; rfl) rfl rfl rfl) rfl) ⟨⟨rfl, rfl, trivial⟩, ⟨rfl, trivial⟩, trivial⟩ ?_
  refine dr_cons { need := [(4, .lp 3 0)], hneed := [(3, .box 4 [.pv (.bool b3)])], upd := [(3, some (.box 4 [.pv (.bool true)]))] } (fun m h => step_on (guard_no rfl) (op_store_lp (n := 1) rfl h.1.1 rfl rfl h.2.1.1 (or_one one_4) (by rw [one_4]; rfl) rfl rfl rfl) rfl) ⟨⟨rfl, trivial⟩, ⟨rfl, trivial⟩, trivial⟩ ?_
  refine dr_nil mixed rfl (by kernel_rfl) ?_
  refine piz ⟨24, [(1, some (.lp 0 0)), (2, some (.lp 1 0)), (3, some (.lp 2 0)), (4, some (.lp 3 0))], [(0, some (.box 9 [.pv (.str b0)])), (1, some (.box 22 [.pv (.vs 7 (List.map eGClass b1))])), (2, some (.box 189 (bxv (eGFound_method ({ ({ zGFound_method with fClass := y2.fName } : GFound_method) with fMethod := a0.fMethod } : GFound_method))))), (3, some (.box 4 [.pv (.bool true)]))], 4, [], [], 0, [1, 2, 3, 4]⟩ [0, 1, 2, 3] ?_
  iterate 7 refine go ?_
  refine piz ⟨24, [(1, some (.lp 0 0)), (2, some (.lp 1 0)), (3, some (.lp 2 0)), (4, some (.lp 3 0)), (6, some (.pv (.bool (!true))))], [(0, some (.box 9 [.pv (.str b0)])), (1, some (.box 22 [.pv (.vs 7 (List.map eGClass b1))])), (2, some (.box 189 (bxv (eGFound_method ({ ({ zGFound_method with fClass := y2.fName } : GFound_method) with fMethod := a0.fMethod } : GFound_method))))), (3, some (.box 4 [.pv (.bool true)]))], 4, [], [], 0, [1, 2, 3, 4]⟩ [0, 1, 2, 3] ?_
  cases hF
  exact post_retW hcx rfl (.cons _ _ _ _ (.tmp _ _ rfl) .nil) rfl (.inl rfl)
 iterate 8 refine go ?_
 refine piz ⟨24, [(1, some (.lp 0 0)), (2, some (.lp 1 0)), (3, some (.lp 2 0)), (4, some (.lp 3 0)), (6, some (.pv (.bool (!b3))))], [(0, some (.box 9 [.pv (.str b0)])), (1, some (.box 22 [.pv (.vs 7 (List.map eGClass b1))])), (2, some (.box 189 (bxv (eGFound_method b2)))), (3, some (.box 4 [.pv (.bool b3)]))], 4, [], [], 0, [1, 2, 3, 4]⟩ [0, 1, 2, 3] ?_
 cases hF
 exact post_retW hcx rfl (.cons _ _ _ _ (.tmp _ _ rfl) .nil) rfl (.inl rfl)
theorem method_walk_w_ok {a0 : List GClass} {a1 : List Int} {b0 : List UInt8} {b1 : List GClass} {b2 : GFound_method} {b3 : Bool} {r : GFound_method × Bool} (hF : method_walk_w a0 a1 b0 b1 b2 b3 = some r) : Abs.FnW globs_Tryz Tryz.prog 177 [.pv (.vs 7 (List.map eGClass a0)), .pv (.vs 1 (List.map eI a1)), .fn 178 [.lp 0 0, .lp 1 0, .lp 2 0, .lp 3 0]] [(0, some (.box 9 [.pv (.str b0)])), (1, some (.box 22 [.pv (.vs 7 (List.map eGClass b1))])), (2, some (.box 189 (bxv (eGFound_method b2)))), (3, some (.box 4 [.pv (.bool b3)]))] 4 [(0, 0), (1, 1), (2, 2), (3, 3)] [] [(0, some (.box 9 [.pv (.str b0)])), (1, some (.box 22 [.pv (.vs 7 (List.map eGClass b1))])), (2, some (.box 189 (bxv (eGFound_method r.1)))), (3, some (.box 4 [.pv (.bool r.2)]))] 4 := by
 unfold method_walk_w at hF
 refine fnW_of_body (n := 34) (m := 4) [2] Tryz.func177 rfl rfl rfl ?_
 intro c w O θ hcx
 iterate 5 refine go ?_
 obtain ⟨lr168, hF, hK169⟩ := bs hF
 refine aw_for ((a1.length - 0 : Int).toNat + 1) (fun s1 => ∃ q, lr168 = .next q ∧ s1 = ⟨34, [(2, some (.fn 178 [.lp 0 0, .lp 1 0, .lp 2 0, .lp 3 0]))], [(0, some (.box 9 [.pv (.str b0)])), (1, some (.box 22 [.pv (.vs 7 (List.map eGClass b1))])), (2, some (.box 189 (bxv (eGFound_method q.1)))), (3, some (.box 4 [.pv (.bool q.2)]))], 4, [], [], 0, [2]⟩) ?_ ?_
 ·refine rnd_loop (α := GFound_method × Bool × Int) (fun q => ⟨34, [(0, some (.pv (.vs 7 (List.map eGClass a0)))), (2, some (.fn 178 [.lp 0 0, .lp 1 0, .lp 2 0, .lp 3 0])), (10, some (.pv (.vs 1 (List.map eI a1)))), (11, some (.pv (.int .i64 (a1.length : Int)))), (12, some (.pv (.int .i64 q.2.2)))], [(0, some (.box 9 [.pv (.str b0)])), (1, some (.box 22 [.pv (.vs 7 (List.map eGClass b1))])), (2, some (.box 189 (bxv (eGFound_method q.1)))), (3, some (.box 4 [.pv (.bool q.2.1)]))], 4, [], [], 0, [2]⟩) (fun k q => method_walk_w_L1 a0 a1 b0 b1 k q.1 q.2.1 q.2.2 = some lr168) (b2, b3, 0) (impz [0, 1, 2, 3]) hF (fun q h => by cases h) ?_
  clear hF
  rintro k ⟨x53, x54, x55⟩ hF ih
  refine rnd_succ ?_
  iterate 3 refine go ?_
  refine aw_seq ?_
  refine cnd hF (fun hb111 hF => ?_) fun hb111 hF => ?_
  ·iterate 2 refine go ?_
   refine aw_seq ?_
   refine aw_block ?_
   refine go ?_
   obtain ⟨y114, h115, hF⟩ := bs hF
   refine rgp (ix (idx_map eI h115) slc_75) ?_
   iterate 6 refine go ?_
   obtain ⟨y118, h119, hF⟩ := bs hF
   refine rgp (ix (idx_map eGClass h119) slc_22) ?_
   iterate 5 refine go ?_
   obtain ⟨lr161, hF, hK162⟩ := bs hF
   refine aw_for ((y118.fMethods.length - 0 : Int).toNat + 1) (fun s1 => ∃ q, lr161 = .next q ∧ s1 = ⟨34, [(0, some (.pv (.vs 7 (List.map eGClass a0)))), (2, some (.fn 178 [.lp 0 0, .lp 1 0, .lp 2 0, .lp 3 0])), (10, some (.pv (.vs 1 (List.map eI a1)))), (11, some (.pv (.int .i64 (a1.length : Int)))), (12, some (.pv (.int .i64 x55)))], [(0, some (.box 9 [.pv (.str b0)])), (1, some (.box 22 [.pv (.vs 7 (List.map eGClass b1))])), (2, some (.box 189 (bxv (eGFound_method q.1)))), (3, some (.box 4 [.pv (.bool q.2)]))], 4, [], [], 0, [2]⟩) ?_ ?_
   ·refine rnd_loop (α := GFound_method × Bool × Int) (fun q => ⟨34, [(0, some (.pv (.vs 7 (List.map eGClass a0)))), (2, some (.fn 178 [.lp 0 0, .lp 1 0, .lp 2 0, .lp 3 0])), (7, some (.pv (.int .i64 y114))), (10, some (.pv (.vs 1 (List.map eI a1)))), (11, some (.pv (.int .i64 (a1.length : Int)))), (12, some (.pv (.int .i64 x55))), (20, some (.pv (.vs 17 (List.map eGMethod y118.fMethods)))), (21, some (.pv (.int .i64 (y118.fMethods.length : Int)))), (22, some (.pv (.int .i64 q.2.2)))], [(0, some (.box 9 [.pv (.str b0)])), (1, some (.box 22 [.pv (.vs 7 (List.map eGClass b1))])), (2, some (.box 189 (bxv (eGFound_method q.1)))), (3, some (.box 4 [.pv (.bool q.2.1)]))], 4, [], [], 0, [2]⟩) (fun k q => method_walk_w_L2 b0 b1 y114 y118 k q.1 q.2.1 q.2.2 = some lr161) (x53, x54, 0) (impz [0, 1, 2, 3]) hF (fun q h => by cases h) ?_
    clear hF
    rintro k ⟨x130, x131, x132⟩ hF ih
    refine rnd_succ ?_
    iterate 3 refine go ?_
    refine aw_seq ?_
    refine cnd hF (fun hb146 hF => ?_) fun hb146 hF => ?_
    ·iterate 2 refine go ?_
     refine aw_seq ?_
     refine aw_block ?_
     refine go ?_
     obtain ⟨y149, h150, hF⟩ := bs hF
     refine rgp (ix (idx_map eGMethod h150) slc_30) ?_
     refine rgp (lw (eGMethod y149) agg_40) ?_
     refine rgp (al 4 (eGMethod zGMethod) zer_40) ?_
     iterate 4 refine go ?_
     refine rgp (la (eGMethod y149) agg_40) ?_
     refine go ?_
     refine rgp (bd ((eGheld_method zGheld_method)) (eGheld_method ({ fMethod := y149, fclass := y114 } : Gheld_method)) zer_264 plc_264) ?_
     obtain ⟨y153, h154, hF⟩ := bs hF
     refine rgp (op_callW (args := [.pv (.agg (eGheld_method ({ fMethod := y149, fclass := y114 } : Gheld_method))), .lp 0 0, .lp 1 0, .lp 2 0, .lp 3 0]) [0, 1, 2, 3] [0, 1, 2, 3] [] 5 rfl rfl rfl rfl rfl cal_178 (method_first_1_w_ok h154) rfl (by decide) ⟨rfl, rfl, rfl, rfl, trivial⟩ rfl (by decide) ⟨.inl rfl, .inl rfl, .inl rfl, .inl rfl, trivial⟩ (by kernel_rfl) (by kernel_rfl) rfl rfl rfl rfl) ?_
     iterate 2 refine go ?_
     refine cnd hF (fun hb155 hF => ?_) fun hb155 hF => ?_
     ·iterate 4 refine go ?_
      refine post_lp_ret ?_
      cases hF
      have hF := elim_stop hK162
      iterate 3 refine go ?_
      refine post_lp_ret ?_
      cases hF
      have hF := elim_stop hK169
      refine piz ⟨34, [(2, some (.fn 178 [.lp 0 0, .lp 1 0, .lp 2 0, .lp 3 0]))], [(0, some (.box 9 [.pv (.str b0)])), (1, some (.box 22 [.pv (.vs 7 (List.map eGClass b1))])), (2, some (.box 189 (bxv (eGFound_method y153.2.1)))), (3, some (.box 4 [.pv (.bool y153.2.2)]))], 4, [], [], 0, [2]⟩ [0, 1, 2, 3] ?_
      cases hF
      exact post_retW hcx rfl .nil rfl (.inl rfl)
     iterate 6 refine go ?_
     refine rnr ?_
     exact rnd_back (ih (y153.2.1, y153.2.2, w_i64 (x132 + 1)) hF) (impz [0, 1, 2, 3])
    refine aw_exit ?_
    iterate 2 refine post_then_exit ?_
    cases hF
    exact post_lp_break _ ⟨_, rfl, rfl⟩ (impz [0, 1, 2, 3])
   rintro _ ⟨⟨x159, x160⟩, rfl, rfl⟩
   have hF := elim_next hK162
   clear hK162
   iterate 5 refine go ?_
   refine rnr ?_
   exact rnd_back (ih (x159, x160, w_i64 (x55 + 1)) hF) (impz [0, 1, 2, 3])
  refine aw_exit ?_
  iterate 2 refine post_then_exit ?_
  cases hF
  exact post_lp_break _ ⟨_, rfl, rfl⟩ (impz [0, 1, 2, 3])
 rintro _ ⟨⟨x166, x167⟩, rfl, rfl⟩
 have hF := elim_next hK169
 clear hK169
 refine piz ⟨34, [(2, some (.fn 178 [.lp 0 0, .lp 1 0, .lp 2 0, .lp 3 0]))], [(0, some (.box 9 [.pv (.str b0)])), (1, some (.box 22 [.pv (.vs 7 (List.map eGClass b1))])), (2, some (.box 189 (bxv (eGFound_method x166)))), (3, some (.box 4 [.pv (.bool x167)]))], 4, [], [], 0, [2]⟩ [0, 1, 2, 3] ?_
 cases hF
 exact post_retW hcx rfl .nil rfl (.inr rfl)
theorem method_first_ok {a0 : List GClass} {a1 : List Int} {a2 : List UInt8} {r : GFound_method × Bool} (hF : method_first a0 a1 a2 = some r) : FZ 153 [.vs 7 (List.map eGClass a0), .vs 1 (List.map eI a1), .str a2] [.p (.agg (eGFound_method r.1)), .p (.bool r.2)] := by
 unfold method_first at hF
 refine fn_of_body (n := 17) Tryz.func153 rfl rfl rfl fun w O => ?_
 refine go ?_
 refine rgp (bo 0) ?_
 refine rgp (bo 1) ?_
 refine rgp (al 2 (eGFound_method zGFound_method) zer_189) ?_
 iterate 3 refine go ?_
 refine rgp (bd ((eGFound_method zGFound_method)) (eGFound_method ({ fClass := [], fMethod := zGMethod } : GFound_method)) zer_189 plc_189) ?_
 refine rgp (al 3 (eGFound_method zGFound_method) zer_189) ?_
 refine rgp (al 4 [.bool false] zer_4) ?_
 iterate 6 refine go ?_
 refine rgp (op_makeFunc rfl rfl rfl rfl) ?_
 obtain ⟨y3, h4, hF⟩ := bs hF
 refine rgp (op_callW (args := [.pv (.vs 7 (List.map eGClass a0)), .pv (.vs 1 (List.map eI a1)), .fn 178 [.lp 0 0, .lp 1 0, .lp 2 0, .lp 3 0]]) [1, 0, 3, 4] [1, 0, 3, 4] [] 5 rfl rfl rfl rfl rfl cal_177 (method_walk_w_ok h4) rfl (by decide) ⟨rfl, rfl, rfl, rfl, trivial⟩ rfl (by decide) ⟨.inl rfl, .inl rfl, .inl rfl, .inl rfl, trivial⟩ (by kernel_rfl) (by kernel_rfl) rfl rfl rfl rfl) ?_
 refine go ?_
 refine aw_seq ?_
 refine dr_start ⟨_, _, _⟩ rfl ?_
 refine dr_cons { need := [(8, .lp 3 0)], hneed := [(3, .box 189 (bxv (eGFound_method y3.1)))], dst := some 15, val := some (.pv (.agg (eGFound_method y3.1))) } (fun m h => step_on (guard_no rfl) (op_load_lp_agg (ps := eGFound_method y3.1) rfl h.1.1 h.2.1.1 rfl rfl rfl agg_189 rfl rfl) rfl) ⟨⟨rfl, trivial⟩, ⟨rfl, trivial⟩, trivial⟩ ?_
 refine dgo ?_
 refine dr_cons { need := [(6, .lp 2 0), (15, .pv (.agg (eGFound_method y3.1)))], hneed := [(2, .box 189 (bxv (eGFound_method zGFound_method)))], upd := [(2, some (.box 189 (bxv (eGFound_method y3.1))))] } (fun m h => step_on (guard_no rfl) (op_store_lp (n := 18) rfl h.1.1 h.1.2.1 rfl h.2.1.1 (or_agg agg_189) (by rw [non_189]; rfl) rfl rfl rfl) rfl) ⟨⟨rfl, rfl, trivial⟩, ⟨rfl, trivial⟩, trivial⟩ ?_
 refine dr_cons { need := [(16, .pv (.bool y3.2))], dst := some 7, val := some (.pv (.bool y3.2)) } (fun m h => step_on (guard_no rfl) (op_assign rfl h.1.1 rfl rfl) rfl) ⟨⟨rfl, trivial⟩, trivial, trivial⟩ ?_
 refine dr_nil mixed rfl (by kernel_rfl) ?_
 refine piz (sX 17 [(6, some (.lp 0 0)), pf 7 (.bool y3.2)] [bf 0 189 (eGFound_method y3.1)] 1) [2] ?_
 iterate 2 refine go ?_
 cases hF
 exact post_ret rfl rfl (.cons _ _ _ _ _ (.agg _ _ _ _ _ 18 _ _ rfl rfl agg_189 rfl rfl rfl) (.p _) (.cons _ _ _ _ _ (.tmp _ _ rfl) (.p _) .nil)) (.inl rfl)
theorem method_Find_ok {a0 : List GClass} {a1 : List UInt8} {a2 : List UInt8} {r : GFound_method × Bool} (hF : method_Find a0 a1 a2 = some r) : FZ 133 [.vs 7 (List.map eGClass a0), .str a1, .str a2] [.p (.agg (eGFound_method r.1)), .p (.bool r.2)] := by
 unfold method_Find at hF
 refine fn_of_body (n := 16) Tryz.func133 rfl rfl rfl fun w O => ?_
 refine go ?_
 refine rgp (al 0 (eGFound_method zGFound_method) zer_189) ?_
 iterate 6 refine go ?_
 obtain ⟨y1, h2, hF⟩ := bs hF
 refine rgp (cl 1 [.vs 7 (List.map eGClass a0), .str a1] [.p (.vs 1 (List.map eI y1))] (Fn.frozen (above_Chain_ok h2))) ?_
 refine go ?_
 obtain ⟨y3, h4, hF⟩ := bs hF
 refine rgp (cl 1 [.vs 7 (List.map eGClass a0), .vs 1 (List.map eI y1), .str a2] [.p (.agg (eGFound_method y3.1)), .p (.bool y3.2)] (method_first_ok h4)) ?_
 iterate 2 (refine rgp (op_extract rfl rfl rfl rfl rfl) ?_)
 iterate 4 refine go ?_
 cases hF
 exact post_ret rfl rfl (.cons _ _ _ _ _ (.agg _ _ _ _ _ 18 _ _ rfl rfl agg_189 rfl rfl rfl) (.p _) (.cons _ _ _ _ _ (.tmp _ _ rfl) (.p _) .nil)) (.inl rfl)
theorem fit_Callee_ok {a0 : List GClass} {a1 : GClass} {a2 : GMethod} {a3 : GStmt} {r : GFound_method × Bool} (hF : fit_Callee a0 a1 a2 a3 = some r) : FZ 106 [.vs 7 (List.map eGClass a0), .agg (eGClass a1), .agg (eGMethod a2), .agg (eGStmt a3)] [.p (.agg (eGFound_method r.1)), .p (.bool r.2)] := by
 unfold fit_Callee at hF
 refine fn_of_body (n := 37) Tryz.func106 rfl rfl rfl fun w O => ?_
 refine go ?_
 refine rgp (bo 0) ?_
 refine rgp (bo 1) ?_
 refine rgp (bo 2) ?_
 refine rgp (al 3 (eGFound_method zGFound_method) zer_189) ?_
 iterate 4 refine go ?_
 refine rgp (la (eGClass a1) agg_32) ?_
 refine rgp (la (eGMethod a2) agg_40) ?_
 refine rgp (la (eGStmt a3) agg_48) ?_
 refine rgp (bd ((eGasker_fit zGasker_fit)) (eGasker_fit ({ fp := a0, fc := a1, fm := a2, fs := a3, fx := zGType, fo := zGType } : Gasker_fit)) zer_224 plc_224) ?_
 refine rgp (bo 4) ?_
 iterate 2 refine go ?_
 refine aw_seq ?_
 refine aw_seq ?_
 obtain ⟨p6, hF, hK7⟩ := bs hF
 obtain ⟨x4, x5⟩ := p6
 refine ctx (sX 37 [pf 0 (.vs 7 (List.map eGClass a0)), (7, some (.lp 0 0)), (8, some (.lp 1 0)), (10, some (.lp 2 0)), pf 24 (.bool x5)] [bf 0 48 (eGStmt a3), bf 1 189 (eGFound_method zGFound_method), bf 2 224 (eGasker_fit x4)] 3) ?_ ?_
 ·iterate 5 refine go ?_
  rcases ie hF with ⟨hb1, hF⟩ | ⟨hb1, hF⟩
  ·refine rgo_t hb1 ?_
   iterate 2 refine rgo_t hb1 ?_
   refine rpt hb1 ?_
   cases hF
   exact rcz [2, 3, 4]
  refine gn hb1 ?_
  obtain ⟨y2, h3, hF⟩ := bs hF
  refine rgn hb1 (op_callW (args := [.lp 0 0]) [4] [4] [] 5 rfl rfl rfl rfl rfl cal_132 (__fit_asker__object_w_ok h3) rfl (by decide) ⟨rfl, trivial⟩ rfl (by decide) ⟨.inl rfl, trivial⟩ (by kernel_rfl) (by kernel_rfl) rfl rfl rfl rfl) ?_
  refine gn hb1 ?_
  refine rpf hb1 ?_
  cases hF
  exact rcz [2, 3, 4]
 have hF := hK7
 refine go ?_
 refine cnd hF (fun hb8 hF => ?_) fun hb8 hF => ?_
 ·refine go ?_
  refine rgp (bd ((eGFound_method zGFound_method)) (eGFound_method ({ fClass := [], fMethod := zGMethod } : GFound_method)) zer_189 plc_189) ?_
  iterate 5 refine go ?_
  cases hF
  exact post_ret rfl rfl (.cons _ _ _ _ _ (.agg _ _ _ _ _ 18 _ _ rfl rfl agg_189 rfl rfl rfl) (.p _) (.cons _ _ _ _ _ (.tmp _ _ rfl) (.p _) .nil)) (.inl rfl)
 iterate 2 refine go ?_
 refine aw_seq ?_
 refine dr_start ⟨_, _, _⟩ rfl ?_
 iterate 2 refine dgo ?_
 refine dr_cons { need := [(27, .lp 2 0)], dst := some 28, val := some (.lp 2 0) } (fun m h => step_on (guard_no rfl) (op_nilCheck rfl h.1.1 rfl rfl rfl) rfl) ⟨⟨rfl, trivial⟩, trivial, trivial⟩ ?_
 iterate 5 refine dgo ?_
 obtain ⟨y9, h10, hF⟩ := bs hF
 refine dr_cons { need := [(33, .pv (.str a3.fName)), (31, .pv (.str x4.fo.fClass)), (26, .pv (.vs 7 (List.map eGClass a0)))], dst := some 34, val := some (.tup [.pv (.agg (eGFound_method y9.1)), .pv (.bool y9.2)]) } (fun m h => step_on (guard_no rfl) (op_call 3 rfl (caps := []) (args := [.vs 7 (List.map eGClass a0), .str x4.fo.fClass, .str a3.fName]) (rs := [.p (.agg (eGFound_method y9.1)), .p (.bool y9.2)]) rfl rfl (evl_cons h.1.2.2.1 (evl_cons h.1.2.1 (evl_cons h.1.1 evl_nil))) cal_133 (method_Find_ok h10) rfl rfl rfl) rfl) ⟨⟨rfl, rfl, rfl, trivial⟩, trivial, trivial⟩ ?_
 refine dr_cons { need := [(34, .tup [.pv (.agg (eGFound_method y9.1)), .pv (.bool y9.2)])], dst := some 35, val := some (.pv (.agg (eGFound_method y9.1))) } (fun m h => step_on (guard_no rfl) (op_extract rfl h.1.1 rfl rfl rfl) rfl) ⟨⟨rfl, trivial⟩, trivial, trivial⟩ ?_
 refine dr_cons { need := [(34, .tup [.pv (.agg (eGFound_method y9.1)), .pv (.bool y9.2)])], dst := some 36, val := some (.pv (.bool y9.2)) } (fun m h => step_on (guard_no rfl) (op_extract rfl h.1.1 rfl rfl rfl) rfl) ⟨⟨rfl, trivial⟩, trivial, trivial⟩ ?_
 refine dr_cons { need := [(8, .lp 1 0), (35, .pv (.agg (eGFound_method y9.1)))], hneed := [(1, .box 189 (bxv (eGFound_method zGFound_method)))], upd := [(1, some (.box 189 (bxv (eGFound_method y9.1))))] } (fun m h => step_on (guard_no rfl) (op_store_lp (n := 18) rfl h.1.1 h.1.2.1 rfl h.2.1.1 (or_agg agg_189) (by rw [non_189]; rfl) rfl rfl rfl) rfl) ⟨⟨rfl, rfl, trivial⟩, ⟨rfl, trivial⟩, trivial⟩ ?_
 refine dr_cons { need := [(36, .pv (.bool y9.2))], dst := some 9, val := some (.pv (.bool y9.2)) } (fun m h => step_on (guard_no rfl) (op_assign rfl h.1.1 rfl rfl) rfl) ⟨⟨rfl, trivial⟩, trivial, trivial⟩ ?_
 refine dr_nil mixed rfl (by kernel_rfl) ?_
 refine piz (sX 37 [(8, some (.lp 0 0)), pf 9 (.bool y9.2)] [bf 0 189 (eGFound_method y9.1)] 1) [1] ?_
 iterate 2 refine go ?_
 cases hF
 exact post_ret rfl rfl (.cons _ _ _ _ _ (.agg _ _ _ _ _ 18 _ _ rfl rfl agg_189 rfl rfl rfl) (.p _) (.cons _ _ _ _ _ (.tmp _ _ rfl) (.p _) .nil)) (.inl rfl)
theorem __flow_walker__takes_ok {a0 : Gwalker_flow} {a1 : GStmt} {r : (List Int)} (hF : __flow_walker__takes a0 a1 = some r) : FZ 75 [.vp (eGwalker_flow a0), .agg (eGStmt a1)] [.p (.vs 1 (List.map eI_u64 r))] := by
 unfold __flow_walker__takes at hF
 refine fn_of_body (n := 100) Tryz.func75 rfl rfl rfl fun w O => ?_
 refine go ?_
 refine rgp (bo 0) ?_
 iterate 7 refine go ?_
 refine aw_block ?_
 refine aw_seq ?_
 obtain ⟨x2, hF, hK4⟩ := bs hF
 refine ctx (sX 100 [pf 0 (.vp (eGwalker_flow a0)), (3, some (.lp 0 0)), pf 11 (.int .i64 a1.fKind), pf 12 (.bool x2)] [bf 0 48 (eGStmt a1)] 1) ?_ ?_
 ·iterate 4 refine go ?_
  refine cnd hF (fun hb1 hF => ?_) fun hb1 hF => ?_
  ·refine go ?_
   cases hF
   exact pcz [0]
  iterate 3 refine go ?_
  cases hF
  exact rcz [0]
 have hF := hK4
 refine go ?_
 refine cnd hF (fun hb5 hF => ?_) fun hb5 hF => ?_
 ·iterate 4 refine go ?_
  obtain ⟨y6, h7, hF⟩ := bs hF
  refine rgp (cl 1 [.vp (eGwalker_flow a0), .str a1.fY] [.p (.int .u64 y6)] (__flow_walker__bit_ok h7)) ?_
  refine rgp (op_lit (rows := List.map eI_u64 ([y6] : List Int)) (zs := [.int .u64 0]) rfl rfl slc_156 zer_94 (by exact ⟨rfl, trivial⟩) rfl rfl rfl rfl rfl rfl rfl rfl) ?_
  iterate 5 refine go ?_
  cases hF
  exact prt
 iterate 4 refine go ?_
 refine cnd hF (fun hb8 hF => ?_) fun hb8 hF => ?_
 ·refine aw_seq ?_
  obtain ⟨x12, hF, hK14⟩ := bs hF
  refine ctx (sX 100 [pf 0 (.vp (eGwalker_flow a0)), (3, some (.lp 0 0)), pf 33 (.bool x12)] [bf 0 48 (eGStmt a1)] 1) ?_ ?_
  ·iterate 6 refine go ?_
   rcases ie hF with ⟨hb9, hF⟩ | ⟨hb9, hF⟩
   ·refine gn hb9 ?_
    refine rgn hb9 (op_nilCheck rfl rfl rfl rfl rfl) ?_
    iterate 2 refine gn hb9 ?_
    refine rgn hb9 (lw (eGType a0.fm.fRet) agg_37) ?_
    obtain ⟨y10, h11, hF⟩ := bs hF
    refine rgn hb9 (cl 1 [.agg (eGType a0.fm.fRet)] [.p (.bool y10)] (kind_Unique_ok h11)) ?_
    refine rpt hb9 ?_
    cases hF
    exact rcz [0]
   iterate 6 refine rgo_f hb9 ?_
   refine rpf hb9 ?_
   cases hF
   exact rcz [0]
  have hF := hK14
  refine go ?_
  refine cnd hF (fun hb15 hF => ?_) fun hb15 hF => ?_
  ·iterate 5 refine go ?_
   obtain ⟨y16, h17, hF⟩ := bs hF
   refine rgp (cl 1 [.vp (eGwalker_flow a0), .str a1.fE.fName] [.p (.int .u64 y16)] (__flow_walker__bit_ok h17)) ?_
   refine rgp (op_lit (rows := List.map eI_u64 ([y16] : List Int)) (zs := [.int .u64 0]) rfl rfl slc_156 zer_94 (by exact ⟨rfl, trivial⟩) rfl rfl rfl rfl rfl rfl rfl rfl) ?_
   iterate 5 refine go ?_
   cases hF
   exact prt
  iterate 7 refine go ?_
  refine post_imp (imp_nil_vs 4 1 rfl) ?_
  cases hF
  exact prt
 iterate 4 refine go ?_
 refine cnd hF (fun hb18 hF => ?_) fun hb18 hF => ?_
 ·refine aw_seq ?_
  refine aw_imp (imp_names 1) ?_
  refine dr_start ⟨_, _, _⟩ rfl ?_
  refine dgo ?_
  refine dr_cons { need := [(43, .pv (.vp (eGwalker_flow a0)))], dst := some 44, val := some (.pv (.vp (eGwalker_flow a0))) } (fun m h => step_on (guard_no rfl) (op_nilCheck rfl h.1.1 rfl rfl rfl) rfl) ⟨⟨rfl, trivial⟩, trivial, trivial⟩ ?_
  refine dr_cons { need := [(44, .pv (.vp (eGwalker_flow a0)))], dst := some 45, val := some (.pv (.vp (List.drop 0 (eGwalker_flow a0)))) } (fun m h => step_on (guard_no rfl) (op_field_vp rfl h.1.1 fld_133_0 rfl rfl) rfl) ⟨⟨rfl, trivial⟩, trivial, trivial⟩ ?_
  refine dr_cons { need := [(45, .pv (.vp (List.drop 0 (eGwalker_flow a0))))], dst := some 46, val := some (.pv (.vs 7 (List.map eGClass a0.fp))) } (fun m h => step_on (guard_no rfl) (op_load_vp (p := .vs 7 (List.map eGClass a0.fp)) rfl h.1.1 rfl one_22 rfl rfl) rfl) ⟨⟨rfl, trivial⟩, trivial, trivial⟩ ?_
  refine dgo ?_
  refine dr_cons { need := [(47, .pv (.vp (eGwalker_flow a0)))], dst := some 48, val := some (.pv (.vp (eGwalker_flow a0))) } (fun m h => step_on (guard_no rfl) (op_nilCheck rfl h.1.1 rfl rfl rfl) rfl) ⟨⟨rfl, trivial⟩, trivial, trivial⟩ ?_
  refine dr_cons { need := [(48, .pv (.vp (eGwalker_flow a0)))], dst := some 49, val := some (.pv (.vp (List.drop 1 (eGwalker_flow a0)))) } (fun m h => step_on (guard_no rfl) (op_field_vp rfl h.1.1 fld_133_1 rfl rfl) rfl) ⟨⟨rfl, trivial⟩, trivial, trivial⟩ ?_
  refine dr_cons { need := [(49, .pv (.vp (List.drop 1 (eGwalker_flow a0))))], dst := some 50, val := some (.pv (.agg (eGClass a0.fc))) } (fun m h => step_on (guard_no rfl) (op_load_vp_agg (ps := eGClass a0.fc) rfl h.1.1 rfl rfl agg_32 rfl rfl) rfl) ⟨⟨rfl, trivial⟩, trivial, trivial⟩ ?_
  refine dgo ?_
  refine dr_cons { need := [(51, .pv (.vp (eGwalker_flow a0)))], dst := some 52, val := some (.pv (.vp (eGwalker_flow a0))) } (fun m h => step_on (guard_no rfl) (op_nilCheck rfl h.1.1 rfl rfl rfl) rfl) ⟨⟨rfl, trivial⟩, trivial, trivial⟩ ?_
  refine dr_cons { need := [(52, .pv (.vp (eGwalker_flow a0)))], dst := some 53, val := some (.pv (.vp (List.drop 8 (eGwalker_flow a0)))) } (fun m h => step_on (guard_no rfl) (op_field_vp rfl h.1.1 fld_133_2 rfl rfl) rfl) ⟨⟨rfl, trivial⟩, trivial, trivial⟩ ?_
  refine dr_cons { need := [(53, .pv (.vp (List.drop 8 (eGwalker_flow a0))))], dst := some 54, val := some (.pv (.agg (eGMethod a0.fm))) } (fun m h => step_on (guard_no rfl) (op_load_vp_agg (ps := eGMethod a0.fm) rfl h.1.1 rfl rfl agg_40 rfl rfl) rfl) ⟨⟨rfl, trivial⟩, trivial, trivial⟩ ?_
  refine dr_cons { need := [(3, .lp 0 0)], hneed := [(0, .box 48 (bxv (eGStmt a1)))], dst := some 55, val := some (.pv (.agg (eGStmt a1))) } (fun m h => step_on (guard_no rfl) (op_load_lp_agg (ps := eGStmt a1) rfl h.1.1 h.2.1.1 rfl rfl rfl agg_48 rfl rfl) rfl) ⟨⟨rfl, trivial⟩, ⟨rfl, trivial⟩, trivial⟩ ?_
  obtain ⟨y21, h22, hF⟩ := bs hF
  refine dr_cons { need := [(55, .pv (.agg (eGStmt a1))), (54, .pv (.agg (eGMethod a0.fm))), (50, .pv (.agg (eGClass a0.fc))), (46, .pv (.vs 7 (List.map eGClass a0.fp)))], dst := some 56, val := some (.tup [.pv (.agg (eGFound_method y21.1)), .pv (.bool y21.2)]) } (fun m h => step_on (guard_no rfl) (op_call 2 rfl (caps := []) (args := [.vs 7 (List.map eGClass a0.fp), .agg (eGClass a0.fc), .agg (eGMethod a0.fm), .agg (eGStmt a1)]) (rs := [.p (.agg (eGFound_method y21.1)), .p (.bool y21.2)]) rfl rfl (evl_cons h.1.2.2.2.1 (evl_cons h.1.2.2.1 (evl_cons h.1.2.1 (evl_cons h.1.1 evl_nil)))) cal_106 (fit_Callee_ok h22) rfl rfl rfl) rfl) ⟨⟨rfl, rfl, rfl, rfl, trivial⟩, trivial, trivial⟩ ?_
  refine dgo ?_
  refine dr_cons { need := [(42, .tup [.pv (.agg (eGFound_method y21.1)), .pv (.bool y21.2)])], dst := some 57, val := some (.pv (.agg (eGFound_method y21.1))) } (fun m h => step_on (guard_no rfl) (op_extract rfl h.1.1 rfl rfl rfl) rfl) ⟨⟨rfl, trivial⟩, trivial, trivial⟩ ?_
  refine dr_cons { need := [(42, .tup [.pv (.agg (eGFound_method y21.1)), .pv (.bool y21.2)])], dst := some 58, val := some (.pv (.bool y21.2)) } (fun m h => step_on (guard_no rfl) (op_extract rfl h.1.1 rfl rfl rfl) rfl) ⟨⟨rfl, trivial⟩, trivial, trivial⟩ ?_
  refine dr_cons { names := [1], dst := some 5, val := some (.lp 1 0), upd := [(1, some (.box 189 (bxv (eGFound_method zGFound_method))))] } (fun m h => step_on (guard_no rfl) (op_alloc 1 (fresh_free h.2.2.1) (ps := (eGFound_method zGFound_method)) rfl zer_189 (by exact ⟨rfl, rfl, rfl, rfl, rfl, rfl, rfl, rfl, rfl, rfl, rfl, rfl, rfl, rfl, trivial, trivial, trivial, rfl, trivial⟩) rfl rfl) rfl) ⟨trivial, trivial, ⟨rfl, trivial⟩⟩ ?_
  refine dr_cons { need := [(5, .lp 1 0), (57, .pv (.agg (eGFound_method y21.1)))], hneed := [(1, .box 189 (bxv (eGFound_method zGFound_method)))], upd := [(1, some (.box 189 (bxv (eGFound_method y21.1))))] } (fun m h => step_on (guard_no rfl) (op_store_lp (n := 18) rfl h.1.1 h.1.2.1 rfl h.2.1.1 (or_agg agg_189) (by rw [non_189]; rfl) rfl rfl rfl) rfl) ⟨⟨rfl, rfl, trivial⟩, ⟨rfl, trivial⟩, trivial⟩ ?_
  refine dr_cons { need := [(58, .pv (.bool y21.2))], dst := some 6, val := some (.pv (.bool y21.2)) } (fun m h => step_on (guard_no rfl) (op_assign rfl h.1.1 rfl rfl) rfl) ⟨⟨rfl, trivial⟩, trivial, trivial⟩ ?_
  refine dr_nil mixed rfl (by kernel_rfl) ?_
  refine piz (sX 100 [pf 0 (.vp (eGwalker_flow a0)), (3, some (.lp 0 0)), (5, some (.lp 1 0)), pf 6 (.bool y21.2)] [bf 0 48 (eGStmt a1), bf 1 189 (eGFound_method y21.1)] 2) [0, 1] ?_
  iterate 3 refine go ?_
  refine reg_imp (imp_nil_own 7 94 1 2 rfl rfl) ?_
  iterate 5 refine go ?_
  refine rgp (op_len_vs (n := a1.fArgs.length) rfl rfl (lenR eLGExpr_map) slc_44 rfl rfl) ?_
  iterate 2 refine go ?_
  obtain ⟨x98, hF, hK99⟩ := bs hF
  refine aw_for ((a1.fArgs.length - 0 : Int).toNat + 1) (fun s1 => s1 = (sX 100 [(7, some (.ls 0))] [(0, some (.row 94 1 (List.map eI_u64 x98)))] 1)) ?_ ?_
  ·refine rnd_loop (α := (List Int) × Int) (fun q => (sX 100 [pf 0 (.vp (eGwalker_flow a0)), (5, some (.lp 0 0)), pf 6 (.bool y21.2), (7, some (.ls 1)), pf 60 (.vs 4 (eLGExpr a1.fArgs)), pf 61 (.int .i64 (a1.fArgs.length : Int)), pf 62 (.int .i64 q.2)] [bf 0 189 (eGFound_method y21.1), (1, some (.row 94 1 (List.map eI_u64 q.1)))] 2)) (fun k q => __flow_walker__takes_L1 a0 a1 y21 k q.1 q.2 = some x98) ([], 0) (impz [1, 2]) hF (fun q h => by cases h) ?_
   clear hF
   rintro k ⟨x46, x47⟩ hF ih
   refine rnd_succ ?_
   iterate 3 refine go ?_
   refine aw_seq ?_
   refine cnd hF (fun hb73 hF => ?_) fun hb73 hF => ?_
   ·iterate 2 refine go ?_
    refine aw_seq ?_
    obtain ⟨x93, hF, hK95⟩ := bs hF
    refine ctx (sX 100 [pf 0 (.vp (eGwalker_flow a0)), (5, some (.lp 0 0)), pf 6 (.bool y21.2), (7, some (.ls 1)), pf 60 (.vs 4 (eLGExpr a1.fArgs)), pf 61 (.int .i64 (a1.fArgs.length : Int)), pf 62 (.int .i64 x47)] [bf 0 189 (eGFound_method y21.1), (1, some (.row 94 1 (List.map eI_u64 x93)))] 2) ?_ ?_
    ·refine aw_block ?_
     iterate 2 refine go ?_
     obtain ⟨y76, h77, hF⟩ := bs hF
     refine rgp (ix (idxR eLGExpr_map h77) slc_44) ?_
     refine rgp (lw (eGExpr y76) agg_46) ?_
     refine rgp (al 2 (eGExpr zGExpr) zer_46) ?_
     iterate 3 refine go ?_
     refine aw_seq ?_
     obtain ⟨x85, hF, hK87⟩ := bs hF
     refine ctx (sX 100 [pf 0 (.vp (eGwalker_flow a0)), (5, some (.lp 0 0)), pf 6 (.bool y21.2), (7, some (.ls 1)), (9, some (.lp 2 0)), pf 60 (.vs 4 (eLGExpr a1.fArgs)), pf 61 (.int .i64 (a1.fArgs.length : Int)), pf 62 (.int .i64 x47), pf 90 (.bool x85)] [bf 0 189 (eGFound_method y21.1), (1, some (.row 94 1 (List.map eI_u64 x46))), bf 2 46 (eGExpr y76)] 3) ?_ ?_
     ·iterate 3 refine go ?_
      rcases ie hF with ⟨hb78, hF⟩ | ⟨hb78, hF⟩
      ·iterate 6 refine gn hb78 ?_
       refine rpt hb78 ?_
       refine go ?_
       rcases ie hF with ⟨hb79, hF⟩ | ⟨hb79, hF⟩
       ·iterate 3 refine gn hb79 ?_
        refine rpt hb79 ?_
        refine go ?_
        rcases ie hF with ⟨hb80, hF⟩ | ⟨hb80, hF⟩
        ·iterate 4 refine gn hb80 ?_
         obtain ⟨y81, h82, hF⟩ := bs hF
         refine rgn hb80 (ix (idx_map eGVar h82) slc_29) ?_
         refine gn hb80 ?_
         refine rgn hb80 (lw (eGType y81.fType) agg_37) ?_
         obtain ⟨y83, h84, hF⟩ := bs hF
         refine rgn hb80 (cl 3 [.agg (eGType y81.fType)] [.p (.bool y83)] (kind_Unique_ok h84)) ?_
         refine rpt hb80 ?_
         cases hF
         exact rcz [0, 1, 2]
        iterate 8 refine rgo_f hb80 ?_
        refine rpf hb80 ?_
        cases hF
        exact rcz [0, 1, 2]
       iterate 3 refine rgo_f hb79 ?_
       refine rpf hb79 ?_
       refine go ?_
       iterate 8 refine rgo_f rfl ?_
       refine rpf rfl ?_
       cases hF
       exact rcz [0, 1, 2]
      iterate 6 refine rgo_f hb78 ?_
      refine rpf hb78 ?_
      refine go ?_
      iterate 3 refine rgo_f rfl ?_
      refine rpf rfl ?_
      refine go ?_
      iterate 8 refine rgo_f rfl ?_
      refine rpf rfl ?_
      cases hF
      exact rcz [0, 1, 2]
     have hF := hK87
     refine go ?_
     refine cnd hF (fun hb88 hF => ?_) fun hb88 hF => ?_
     ·iterate 5 refine go ?_
      obtain ⟨y89, h90, hF⟩ := bs hF
      refine rgp (cl 3 [.vp (eGwalker_flow a0), .str y76.fName] [.p (.int .u64 y89)] (__flow_walker__bit_ok h90)) ?_
      refine rgp (op_lit (rows := List.map eI_u64 ([y89] : List Int)) (zs := [.int .u64 0]) rfl rfl slc_156 zer_94 (by exact ⟨rfl, trivial⟩) rfl rfl rfl rfl rfl rfl rfl rfl) ?_
      obtain ⟨u91, h92, hF⟩ := bs hF
      refine rgp (op_append 3 rfl rfl rfl rfl rfl slc_156 elm_94 zer_94 rfl rfl rfl (room_map (f := eI_u64) (g := eI_u64) h92) (List.map_append (f := eI_u64) (l₁ := x46) (l₂ := [y89])).symm rfl rfl) ?_
      refine go ?_
      refine reg_nil ?_
      refine piz (sX 100 [pf 0 (.vp (eGwalker_flow a0)), (5, some (.lp 0 0)), pf 6 (.bool y21.2), (7, some (.ls 1)), pf 60 (.vs 4 (eLGExpr a1.fArgs)), pf 61 (.int .i64 (a1.fArgs.length : Int)), pf 62 (.int .i64 x47)] [bf 0 189 (eGFound_method y21.1), (1, some (.row 94 1 (List.map eI_u64 (x46 ++ [y89]))))] 2) [0, 3] ?_
      refine go ?_
      cases hF
      exact pcz [0, 1]
     iterate 2 refine go ?_
     cases hF
     exact pcz [0, 1]
    have hF := hK95
    iterate 4 refine go ?_
    refine rnr ?_
    exact rnd_back (ih (x93, w_i64 (x47 + 1)) hF) (impz [0, 1])
   refine aw_exit ?_
   iterate 2 refine post_then_exit ?_
   cases hF
   exact post_lp_break _ rfl (impz [1])
  rintro _ rfl
  have hF := hK99
  iterate 8 refine go ?_
  refine post_imp (imp_freeze [(0, some (.row 94 1 (List.map eI_u64 x98)))] [(4, some (.pv (.vs 1 (List.map eI_u64 x98))))] (FzH.spec ⟨rfl, trivial⟩) ⟨⟨_, rfl, rfl⟩, trivial⟩) ?_
  cases hF
  exact prt
 iterate 7 refine go ?_
 refine post_imp (imp_nil_vs 4 1 rfl) ?_
 cases hF
 exact prt
theorem __flow_walker__step_ok {a0 : Gwalker_flow} {a1 : GStmt} {a2 : Int} {r : Int × Int} (hF : __flow_walker__step a0 a1 a2 = some r) : FZ 40 [.vp (eGwalker_flow a0), .agg (eGStmt a1), .int .u64 a2] [.p (.int .u64 r.1), .p (.int .i64 r.2)] := by
 unfold __flow_walker__step at hF
 refine fn_of_body (n := 59) Tryz.func40 rfl rfl rfl fun w O => ?_
 refine go ?_
 refine rgp (bo 0) ?_
 iterate 9 refine go ?_
 refine rgp (la (eGStmt a1) agg_48) ?_
 obtain ⟨y3, h4, hF⟩ := bs hF
 refine rgp (cl 1 [.vp (eGwalker_flow a0), .agg (eGStmt a1)] [.p (.vs 1 (List.map eI_u64 y3))] (__flow_walker__takes_ok h4)) ?_
 iterate 3 refine go ?_
 obtain ⟨lr43, hF, hK44⟩ := bs hF
 refine aw_for ((y3.length - 0 : Int).toNat + 1) (fun s1 => s1 = (sX 59 [pf 0 (.vp (eGwalker_flow a0)), pf 2 (.int .u64 lr43.1), (4, some (.lp 0 0)), pf 8 (.int .i64 lr43.2)] [bf 0 48 (eGStmt a1)] 1)) ?_ ?_
 ·refine rnd_loop (α := Int × Int × Int) (fun q => (sX 59 [pf 0 (.vp (eGwalker_flow a0)), pf 2 (.int .u64 q.1), (4, some (.lp 0 0)), pf 8 (.int .i64 q.2.1), pf 15 (.vs 1 (List.map eI_u64 y3)), pf 16 (.int .i64 (y3.length : Int)), pf 17 (.int .i64 q.2.2)] [bf 0 48 (eGStmt a1)] 1)) (fun k q => __flow_walker__step_L1 y3 k q.1 q.2.1 q.2.2 = some lr43) (a2, 0, 0) (impz [0]) hF (fun q h => by cases h) ?_
  clear hF
  rintro k ⟨x14, x15, x16⟩ hF ih
  refine rnd_succ ?_
  iterate 3 refine go ?_
  refine aw_seq ?_
  refine cnd hF (fun hb29 hF => ?_) fun hb29 hF => ?_
  ·iterate 2 refine go ?_
   refine aw_seq ?_
   refine aw_block ?_
   refine go ?_
   obtain ⟨y32, h33, hF⟩ := bs hF
   refine rgp (ix (idx_map eI_u64 h33) slc_156) ?_
   iterate 3 refine go ?_
   refine aw_seq ?_
   obtain ⟨x35, hF, hK37⟩ := bs hF
   refine ctx (sX 59 [pf 0 (.vp (eGwalker_flow a0)), pf 2 (.int .u64 x14), (4, some (.lp 0 0)), pf 8 (.int .i64 x35), pf 10 (.int .u64 y32), pf 15 (.vs 1 (List.map eI_u64 y3)), pf 16 (.int .i64 (y3.length : Int)), pf 17 (.int .i64 x16)] [bf 0 48 (eGStmt a1)] 1) ?_ ?_
   ·iterate 3 refine go ?_
    refine rgp (op_int2 (k := .u64) (m := x14) (n := y32) rfl rfl rfl rfl rfl rfl) ?_
    iterate 3 refine go ?_
    refine cnd hF (fun hb34 hF => ?_) fun hb34 hF => ?_
    ·iterate 2 refine go ?_
     cases hF
     exact rcz [0]
    refine go ?_
    cases hF
    exact pcz [0]
   have hF := hK37
   iterate 4 refine go ?_
   refine rgp (op_int2 (k := .u64) (m := x14) (n := y32) rfl rfl rfl rfl rfl rfl) ?_
   refine go ?_
   refine reg_nil ?_
   refine piz (sX 59 [pf 0 (.vp (eGwalker_flow a0)), pf 2 (.int .u64 (notI .u64 x14 y32)), (4, some (.lp 0 0)), pf 8 (.int .i64 x35), pf 15 (.vs 1 (List.map eI_u64 y3)), pf 16 (.int .i64 (y3.length : Int)), pf 17 (.int .i64 x16)] [bf 0 48 (eGStmt a1)] 1) [0] ?_
   iterate 5 refine go ?_
   refine rnr ?_
   exact rnd_back (ih (notI .u64 x14 y32, x35, w_i64 (x16 + 1)) hF) (impz [0])
  refine aw_exit ?_
  iterate 2 refine post_then_exit ?_
  cases hF
  exact post_lp_break _ rfl (impz [0])
 rintro _ rfl
 have hF := hK44
 obtain ⟨x41, x42⟩ := lr43
 refine go ?_
 refine aw_seq ?_
 obtain ⟨x54, hF, hK56⟩ := bs hF
 refine ctx (sX 59 [pf 0 (.vp (eGwalker_flow a0)), pf 2 (.int .u64 x41), (4, some (.lp 0 0)), pf 8 (.int .i64 x54)] [bf 0 48 (eGStmt a1)] 1) ?_ ?_
 ·iterate 4 refine go ?_
  obtain ⟨y47, h48, hF⟩ := bs hF
  refine rgp (cl 1 [.vp (eGwalker_flow a0), .str a1.fY] [.p (.int .u64 y47)] (__flow_walker__bit_ok h48)) ?_
  iterate 2 refine go ?_
  refine aw_seq ?_
  obtain ⟨x50, hF, hK52⟩ := bs hF
  refine ctx (sX 59 [pf 0 (.vp (eGwalker_flow a0)), pf 2 (.int .u64 x41), (4, some (.lp 0 0)), pf 8 (.int .i64 x42), pf 43 (.bool x50)] [bf 0 48 (eGStmt a1)] 1) ?_ ?_
  ·iterate 5 refine go ?_
   rcases ie hF with ⟨hb49, hF⟩ | ⟨hb49, hF⟩
   ·iterate 2 refine gn hb49 ?_
    refine rgn hb49 (op_int2 (k := .u64) (m := x41) (n := y47) rfl rfl rfl rfl rfl rfl) ?_
    iterate 2 refine gn hb49 ?_
    refine rpt hb49 ?_
    cases hF
    exact rcz [0]
   iterate 5 refine rgo_f hb49 ?_
   refine rpf hb49 ?_
   cases hF
   exact rcz [0]
  have hF := hK52
  refine go ?_
  refine cnd hF (fun hb53 hF => ?_) fun hb53 hF => ?_
  ·iterate 2 refine go ?_
   cases hF
   exact rcz [0]
  refine go ?_
  cases hF
  exact pcz [0]
 have hF := hK56
 iterate 5 refine go ?_
 obtain ⟨y59, h60, hF⟩ := bs hF
 refine rgp (cl 1 [.vp (eGwalker_flow a0), .str a1.fX] [.p (.int .u64 y59)] (__flow_walker__bit_ok h60)) ?_
 iterate 8 refine go ?_
 refine cnd hF (fun hb61 hF => ?_) fun hb61 hF => ?_
 ·iterate 3 refine go ?_
  refine rgp (op_int2 (k := .u64) (m := x41) (n := y59) rfl rfl rfl rfl rfl rfl) ?_
  iterate 6 refine go ?_
  cases hF
  exact post_ret rfl rfl (.cons _ _ _ _ _ (.tmp _ _ rfl) (.p _) (.cons _ _ _ _ _ (.tmp _ _ rfl) (.p _) .nil)) (.inl rfl)
 iterate 5 refine go ?_
 refine rgp (op_int2 (k := .u64) (m := x41) (n := y59) rfl rfl rfl rfl rfl rfl) ?_
 iterate 5 refine go ?_
 cases hF
 exact post_ret rfl rfl (.cons _ _ _ _ _ (.tmp _ _ rfl) (.p _) (.cons _ _ _ _ _ (.tmp _ _ rfl) (.p _) .nil)) (.inl rfl)
theorem __flow_walker__loop_w_ok (__flow_walker__body_w_rec : (List GStmt) → Int → Bool → Gwalker_flow → Option (Int × Gwalker_flow)) (__flow_walker__body_w_ih : ∀ (a1 : List GStmt) (a2 : Int) (a3 : Bool) (b0 : Gwalker_flow) (r : Int × Gwalker_flow), __flow_walker__body_w_rec a1 a2 a3 b0 = some r → Abs.FnW globs_Tryz Tryz.prog 88 [.lp 0 0, .pv (.vs 23 (eLGStmt a1)), .pv (.int .u64 a2), .pv (.bool a3)] [(0, some (.box 133 (bxv (eGwalker_flow b0))))] 1 [(0, 0)] [.pv (.int .u64 r.1)] [(0, some (.box 133 (bxv (eGwalker_flow r.2))))] 1) {a1 : GStmt} {a2 : Int} {a3 : Bool} {b0 : Gwalker_flow} {r : Int × Gwalker_flow} (hF : __flow_walker__loop_w __flow_walker__body_w_rec a1 a2 a3 b0 = some r) : Abs.FnW globs_Tryz Tryz.prog 119 [.lp 0 0, .pv (.agg (eGStmt a1)), .pv (.int .u64 a2), .pv (.bool a3)] [(0, some (.box 133 (bxv (eGwalker_flow b0))))] 1 [(0, 0)] [.pv (.int .u64 r.1)] [(0, some (.box 133 (bxv (eGwalker_flow r.2))))] 1 := by
 unfold __flow_walker__loop_w at hF
 refine fnW_of_body (n := 41) (m := 1) [0] Tryz.func119 rfl rfl rfl ?_
 intro c w O θ hcx
 refine go ?_
 refine rgp (bo 1) ?_
 iterate 4 refine go ?_
 refine rgp (op_nilCheck rfl rfl rfl rfl rfl) ?_
 iterate 4 refine go ?_
 refine aw_seq ?_
 obtain ⟨lr24, hF, hK25⟩ := bs hF
 refine aw_for 66 (fun s1 => s1 = ⟨41, [(0, some (.lp 0 0)), (2, some (.pv (.int .u64 lr24.2))), (3, some (.pv (.bool a3))), (5, some (.lp 1 0)), (9, some (.pv (.int .i64 b0.fn)))], [(0, some (.box 133 (bxv (eGwalker_flow lr24.1)))), (1, some (.box 48 (bxv (eGStmt a1))))], 2, [], [], 0, [0]⟩) ?_ ?_
 ·refine rnd_loop (α := Gwalker_flow × Int) (fun q => ⟨41, [(0, some (.lp 0 0)), (2, some (.pv (.int .u64 q.2))), (3, some (.pv (.bool a3))), (5, some (.lp 1 0)), (9, some (.pv (.int .i64 b0.fn)))], [(0, some (.box 133 (bxv (eGwalker_flow q.1)))), (1, some (.box 48 (bxv (eGStmt a1))))], 2, [], [], 0, [0]⟩) (fun k q => __flow_walker__loop_w_L1 a1 b0 __flow_walker__body_w_rec k q.1 q.2 = some lr24) (b0, a2) (impz [0, 1]) hF (fun q h => by cases h) ?_
  clear hF
  rintro k ⟨x6, x7⟩ hF ih
  refine rnd_succ ?_
  refine aw_block ?_
  iterate 3 refine go ?_
  refine rgp (op_nilCheck rfl rfl rfl rfl rfl) ?_
  iterate 9 refine go ?_
  obtain ⟨y17, h18, hF⟩ := bs hF
  refine rgp (op_callW (args := [.lp 0 0, .pv (.vs 23 (eLGStmt a1.fBody)), .pv (.int .u64 x7), .pv (.bool false)]) [0] [0] [] 2 rfl rfl rfl rfl rfl cal_88 (__flow_walker__body_w_ih _ _ _ _ _ h18) rfl (by decide) ⟨rfl, trivial⟩ rfl (by decide) ⟨.inl rfl, trivial⟩ (by kernel_rfl) (by kernel_rfl) rfl rfl rfl rfl) ?_
  refine rgp (op_int2 (k := .u64) (m := x7) (n := y17.1) rfl rfl rfl rfl rfl rfl) ?_
  iterate 8 refine go ?_
  refine cnd hF (fun hb19 hF => ?_) fun hb19 hF => ?_
  ·refine aw_exit ?_
   refine post_then_exit ?_
   refine post_block_other rfl ?_
   refine post_then_exit ?_
   cases hF
   exact post_lp_break _ rfl (impz [0, 1])
  iterate 5 refine go ?_
  refine reg_nil ?_
  refine piz ⟨41, [(0, some (.lp 0 0)), (2, some (.pv (.int .u64 (andI .u64 x7 y17.1)))), (3, some (.pv (.bool a3))), (5, some (.lp 1 0)), (9, some (.pv (.int .i64 b0.fn)))], [(0, some (.box 133 (bxv (eGwalker_flow y17.2)))), (1, some (.box 48 (bxv (eGStmt a1))))], 2, [], [], 0, [0]⟩ [0, 1] ?_
  refine go ?_
  refine post_round ?_
  exact rnd_back (ih (y17.2, andI .u64 x7 y17.1) hF) (impz [0, 1])
 rintro _ rfl
 have hF := hK25
 obtain ⟨x22, x23⟩ := lr24
 iterate 4 refine go ?_
 refine rgp (op_nilCheck rfl rfl rfl rfl rfl) ?_
 iterate 9 refine go ?_
 obtain ⟨y26, h27, hF⟩ := bs hF
 refine rgp (op_callW (args := [.lp 0 0, .pv (.vs 23 (eLGStmt a1.fBody)), .pv (.int .u64 x23), .pv (.bool a3)]) [0] [0] [] 2 rfl rfl rfl rfl rfl cal_88 (__flow_walker__body_w_ih _ _ _ _ _ h27) rfl (by decide) ⟨rfl, trivial⟩ rfl (by decide) ⟨.inl rfl, trivial⟩ (by kernel_rfl) (by kernel_rfl) rfl rfl rfl rfl) ?_
 iterate 6 refine go ?_
 refine piz ⟨41, [(0, some (.lp 0 0)), (8, some (.pv (.int .u64 x23)))], [(0, some (.box 133 (bxv (eGwalker_flow y26.2))))], 1, [], [], 0, [0]⟩ [0] ?_
 cases hF
 exact post_retW hcx rfl (.cons _ _ _ _ (.tmp _ _ rfl) .nil) rfl (.inl rfl)
theorem __flow_walker__body_w_ring : ∀ (n : Nat) (a1 : List GStmt) (a2 : Int) (a3 : Bool) (b0 : Gwalker_flow) (r : Int × Gwalker_flow), __flow_walker__body_w n a1 a2 a3 b0 = some r → Abs.FnW globs_Tryz Tryz.prog 88 [.lp 0 0, .pv (.vs 23 (eLGStmt a1)), .pv (.int .u64 a2), .pv (.bool a3)] [(0, some (.box 133 (bxv (eGwalker_flow b0))))] 1 [(0, 0)] [.pv (.int .u64 r.1)] [(0, some (.box 133 (bxv (eGwalker_flow r.2))))] 1 := by
 intro n
 induction n with
 | zero => exact fun _ _ _ _ _ h => by simp [__flow_walker__body_w] at h
 | succ n ih =>
  have __flow_walker__body_w_ih := ih
  clear ih
  intro a1 a2 a3 b0 r hF
  unfold __flow_walker__body_w at hF
  revert hF __flow_walker__body_w_ih
  generalize __flow_walker__body_w n = __flow_walker__body_w_rec
  intro __flow_walker__body_w_ih hF
  refine fnW_of_body (n := 93) (m := 1) [0] Tryz.func88 rfl rfl rfl ?_
  intro c w O θ hcx
  iterate 6 refine go ?_
  refine rgp (op_len_vs (n := a1.length) rfl rfl (lenR eLGStmt_map) slc_38 rfl rfl) ?_
  iterate 2 refine go ?_
  obtain ⟨lr132, hF, hK133⟩ := bs hF
  refine aw_for ((a1.length - 0 : Int).toNat + 1) (fun s1 => s1 = ⟨93, [(0, some (.lp 0 0)), (2, some (.pv (.int .u64 lr132.2)))], [(0, some (.box 133 (bxv (eGwalker_flow lr132.1))))], 1, [], [], 0, [0]⟩) ?_ ?_
  ·refine rnd_loop (α := Gwalker_flow × Int × Int) (fun q => ⟨93, [(0, some (.lp 0 0)), (2, some (.pv (.int .u64 q.2.1))), (3, some (.pv (.bool a3))), (16, some (.pv (.vs 23 (eLGStmt a1)))), (17, some (.pv (.int .i64 (a1.length : Int)))), (18, some (.pv (.int .i64 q.2.2)))], [(0, some (.box 133 (bxv (eGwalker_flow q.1))))], 1, [], [], 0, [0]⟩) (fun k q => __flow_walker__body_w_L1 a1 a3 __flow_walker__body_w_rec k q.1 q.2.1 q.2.2 = some lr132) (b0, a2, 0) (impz [0]) hF (fun q h => by cases h) ?_
   clear hF
   rintro k ⟨x41, x42, x43⟩ hF ih
   refine rnd_succ ?_
   iterate 3 refine go ?_
   refine aw_seq ?_
   refine cnd hF (fun hb87 hF => ?_) fun hb87 hF => ?_
   ·iterate 2 refine go ?_
    refine aw_seq ?_
    obtain ⟨p125, hF, hK126⟩ := bs hF
    obtain ⟨x123, x124⟩ := p125
    refine ctx ⟨93, [(0, some (.lp 0 0)), (2, some (.pv (.int .u64 x124))), (3, some (.pv (.bool a3))), (16, some (.pv (.vs 23 (eLGStmt a1)))), (17, some (.pv (.int .i64 (a1.length : Int)))), (18, some (.pv (.int .i64 x43)))], [(0, some (.box 133 (bxv (eGwalker_flow x123))))], 1, [], [], 0, [0]⟩ ?_ ?_
    ·refine aw_block ?_
     refine go ?_
     obtain ⟨y90, h91, hF⟩ := bs hF
     refine rgp (ix (idxR eLGStmt_map h91) slc_38) ?_
     refine rgp (lw (eGStmt y90) agg_48) ?_
     refine rgp (al 1 (eGStmt zGStmt) zer_48) ?_
     iterate 4 refine go ?_
     refine rgp (op_nilCheck rfl rfl rfl rfl rfl) ?_
     iterate 6 refine go ?_
     refine rgp (op_nilCheck rfl rfl rfl rfl rfl) ?_
     iterate 3 refine go ?_
     refine rgp (op_nilCheck rfl rfl rfl rfl rfl) ?_
     iterate 5 refine go ?_
     refine rgp (la (eGStmt y90) agg_48) ?_
     refine go ?_
     obtain ⟨y94, h95, hF⟩ := bs hF
     refine rgp (op_callB 2 rfl (caps := []) (args := [.vp (eGwalker_flow ({ x41 with fn := w_i64 (x41.fn + 1) } : Gwalker_flow)), .agg (eGStmt y90), .int .u64 x42]) [(0, some (.box 133 (bxv (eGwalker_flow ({ x41 with fn := w_i64 (x41.fn + 1) } : Gwalker_flow)))))] rfl rfl rfl (FzH.spec ⟨rfl, trivial⟩) rfl rfl cal_40 (__flow_walker__step_ok h95) rfl rfl rfl) ?_
     refine go ?_
     iterate 2 (refine rgp (op_extract rfl rfl rfl rfl rfl) ?_)
     iterate 3 refine go ?_
     refine aw_seq ?_
     obtain ⟨x103, hF, hK105⟩ := bs hF
     refine ctx ⟨93, [(0, some (.lp 0 0)), (2, some (.pv (.int .u64 x42))), (3, some (.pv (.bool a3))), (10, some (.lp 1 0)), (12, some (.pv (.int .u64 y94.1))), (16, some (.pv (.vs 23 (eLGStmt a1)))), (17, some (.pv (.int .i64 (a1.length : Int)))), (18, some (.pv (.int .i64 x43)))], [(0, some (.box 133 (bxv (eGwalker_flow x103)))), (1, some (.box 48 (bxv (eGStmt y90))))], 2, [], [], 0, [0]⟩ ?_ ?_
     ·refine aw_seq ?_
      obtain ⟨x99, hF, hK101⟩ := bs hF
      refine ctx ⟨93, [(0, some (.lp 0 0)), (2, some (.pv (.int .u64 x42))), (3, some (.pv (.bool a3))), (10, some (.lp 1 0)), (11, some (.pv (.int .i64 x41.fn))), (12, some (.pv (.int .u64 y94.1))), (16, some (.pv (.vs 23 (eLGStmt a1)))), (17, some (.pv (.int .i64 (a1.length : Int)))), (18, some (.pv (.int .i64 x43))), (55, some (.pv (.bool x99)))], [(0, some (.box 133 (bxv (eGwalker_flow ({ x41 with fn := w_i64 (x41.fn + 1) } : Gwalker_flow))))), (1, some (.box 48 (bxv (eGStmt y90))))], 2, [], [], 0, [0]⟩ ?_ ?_
      ·iterate 4 refine go ?_
       rcases ie hF with ⟨hb96, hF⟩ | ⟨hb96, hF⟩
       ·iterate 2 refine gn hb96 ?_
        refine rpt hb96 ?_
        refine go ?_
        rcases ie hF with ⟨hb97, hF⟩ | ⟨hb97, hF⟩
        ·refine gn hb97 ?_
         refine rpt hb97 ?_
         refine go ?_
         rcases ie hF with ⟨hb98, hF⟩ | ⟨hb98, hF⟩
         ·refine gn hb98 ?_
          refine rgn hb98 (op_nilCheck rfl rfl rfl rfl rfl) ?_
          iterate 3 refine gn hb98 ?_
          refine rpt hb98 ?_
          cases hF
          exact rcz [0, 1]
         iterate 5 refine rgo_f hb98 ?_
         refine rpf hb98 ?_
         cases hF
         exact rcz [0, 1]
        refine rgo_f hb97 ?_
        refine rpf hb97 ?_
        refine go ?_
        iterate 5 refine rgo_f rfl ?_
        refine rpf rfl ?_
        cases hF
        exact rcz [0, 1]
       iterate 2 refine rgo_f hb96 ?_
       refine rpf hb96 ?_
       refine go ?_
       refine rgo_f rfl ?_
       refine rpf rfl ?_
       refine go ?_
       iterate 5 refine rgo_f rfl ?_
       refine rpf rfl ?_
       cases hF
       exact rcz [0, 1]
      have hF := hK101
      refine go ?_
      refine cnd hF (fun hb102 hF => ?_) fun hb102 hF => ?_
      ·iterate 3 refine go ?_
       refine rgp (op_nilCheck rfl rfl rfl rfl rfl) ?_
       iterate 2 refine go ?_
       cases hF
       exact rcz [0, 1]
      refine go ?_
      cases hF
      exact pcz [0, 1]
     have hF := hK105
     refine go ?_
     refine aw_seq ?_
     obtain ⟨x107, hF, hK109⟩ := bs hF
     refine ctx ⟨93, [(0, some (.lp 0 0)), (3, some (.pv (.bool a3))), (10, some (.lp 1 0)), (12, some (.pv (.int .u64 x107))), (16, some (.pv (.vs 23 (eLGStmt a1)))), (17, some (.pv (.int .i64 (a1.length : Int)))), (18, some (.pv (.int .i64 x43)))], [(0, some (.box 133 (bxv (eGwalker_flow x103)))), (1, some (.box 48 (bxv (eGStmt y90))))], 2, [], [], 0, [0]⟩ ?_ ?_
     ·iterate 4 refine go ?_
      refine cnd hF (fun hb106 hF => ?_) fun hb106 hF => ?_
      ·iterate 2 refine go ?_
       cases hF
       exact rcz [0, 1]
      refine go ?_
      cases hF
      exact pcz [0, 1]
     have hF := hK109
     iterate 9 refine go ?_
     refine aw_block ?_
     iterate 4 refine go ?_
     refine cnd hF (fun hb110 hF => ?_) fun hb110 hF => ?_
     ·iterate 2 refine go ?_
      refine reg_nil ?_
      refine piz ⟨93, [(0, some (.lp 0 0)), (2, some (.pv (.int .u64 18446744073709551615))), (3, some (.pv (.bool a3))), (16, some (.pv (.vs 23 (eLGStmt a1)))), (17, some (.pv (.int .i64 (a1.length : Int)))), (18, some (.pv (.int .i64 x43)))], [(0, some (.box 133 (bxv (eGwalker_flow x103))))], 1, [], [], 0, [0]⟩ [0] ?_
      iterate 2 refine go ?_
      cases hF
      exact pcz [0]
     iterate 4 refine go ?_
     refine cnd hF (fun hb111 hF => ?_) fun hb111 hF => ?_
     ·iterate 6 refine go ?_
      obtain ⟨y114, h115, hF⟩ := bs hF
      refine rgp (op_callW (args := [.lp 0 0, .pv (.vs 23 (eLGStmt y90.fBody)), .pv (.int .u64 x107), .pv (.bool a3)]) [0] [0] [] 2 rfl rfl rfl rfl rfl cal_88 (__flow_walker__body_w_ih _ _ _ _ _ h115) rfl (by decide) ⟨rfl, trivial⟩ rfl (by decide) ⟨.inl rfl, trivial⟩ (by kernel_rfl) (by kernel_rfl) rfl rfl rfl rfl) ?_
      iterate 8 refine go ?_
      obtain ⟨y118, h119, hF⟩ := bs hF
      refine rgp (op_callW (args := [.lp 0 0, .pv (.vs 23 (eLGStmt y90.fElse)), .pv (.int .u64 x107), .pv (.bool a3)]) [0] [0] [] 2 rfl rfl rfl rfl rfl cal_88 (__flow_walker__body_w_ih _ _ _ _ _ h119) rfl (by decide) ⟨rfl, trivial⟩ rfl (by decide) ⟨.inl rfl, trivial⟩ (by kernel_rfl) (by kernel_rfl) rfl rfl rfl rfl) ?_
      iterate 5 refine go ?_
      refine rgp (op_int2 (k := .u64) (m := y114.1) (n := y118.1) rfl rfl rfl rfl rfl rfl) ?_
      refine go ?_
      refine reg_nil ?_
      refine piz ⟨93, [(0, some (.lp 0 0)), (2, some (.pv (.int .u64 (andI .u64 y114.1 y118.1)))), (3, some (.pv (.bool a3))), (16, some (.pv (.vs 23 (eLGStmt a1)))), (17, some (.pv (.int .i64 (a1.length : Int)))), (18, some (.pv (.int .i64 x43)))], [(0, some (.box 133 (bxv (eGwalker_flow y118.2))))], 1, [], [], 0, [0]⟩ [0] ?_
      iterate 2 refine go ?_
      cases hF
      exact pcz [0]
     iterate 4 refine go ?_
     refine cnd hF (fun hb120 hF => ?_) fun hb120 hF => ?_
     ·iterate 2 refine go ?_
      refine rgp (la (eGStmt y90) agg_48) ?_
      iterate 2 refine go ?_
      obtain ⟨y121, h122, hF⟩ := bs hF
      refine rgp (op_callW (args := [.lp 0 0, .pv (.agg (eGStmt y90)), .pv (.int .u64 x107), .pv (.bool a3)]) [0] [0] [] 2 rfl rfl rfl rfl rfl cal_119 (__flow_walker__loop_w_ok __flow_walker__body_w_rec __flow_walker__body_w_ih h122) rfl (by decide) ⟨rfl, trivial⟩ rfl (by decide) ⟨.inl rfl, trivial⟩ (by kernel_rfl) (by kernel_rfl) rfl rfl rfl rfl) ?_
      refine go ?_
      refine reg_nil ?_
      refine piz ⟨93, [(0, some (.lp 0 0)), (2, some (.pv (.int .u64 y121.1))), (3, some (.pv (.bool a3))), (16, some (.pv (.vs 23 (eLGStmt a1)))), (17, some (.pv (.int .i64 (a1.length : Int)))), (18, some (.pv (.int .i64 x43)))], [(0, some (.box 133 (bxv (eGwalker_flow y121.2))))], 1, [], [], 0, [0]⟩ [0] ?_
      iterate 2 refine go ?_
      cases hF
      exact pcz [0]
     iterate 3 refine go ?_
     cases hF
     exact pcz [0]
    have hF := hK126
    iterate 4 refine go ?_
    refine rnr ?_
    exact rnd_back (ih (x123, x124, w_i64 (x43 + 1)) hF) (impz [0])
   refine aw_exit ?_
   iterate 2 refine post_then_exit ?_
   cases hF
   exact post_lp_break _ rfl (impz [0])
  rintro _ rfl
  have hF := hK133
  obtain ⟨x130, x131⟩ := lr132
  iterate 6 refine go ?_
  refine piz ⟨93, [(0, some (.lp 0 0)), (8, some (.pv (.int .u64 x131)))], [(0, some (.box 133 (bxv (eGwalker_flow x130))))], 1, [], [], 0, [0]⟩ [0] ?_
  cases hF
  exact post_retW hcx rfl (.cons _ _ _ _ (.tmp _ _ rfl) .nil) rfl (.inl rfl)
theorem __flow_walker__body_w_ok {n : Nat} {a1 : List GStmt} {a2 : Int} {a3 : Bool} {b0 : Gwalker_flow} {r : Int × Gwalker_flow} (hF : __flow_walker__body_w n a1 a2 a3 b0 = some r) : Abs.FnW globs_Tryz Tryz.prog 88 [.lp 0 0, .pv (.vs 23 (eLGStmt a1)), .pv (.int .u64 a2), .pv (.bool a3)] [(0, some (.box 133 (bxv (eGwalker_flow b0))))] 1 [(0, 0)] [.pv (.int .u64 r.1)] [(0, some (.box 133 (bxv (eGwalker_flow r.2))))] 1 := __flow_walker__body_w_ring n a1 a2 a3 b0 r hF
theorem flow_walk_w_ok {a0 : List GClass} {a1 : GClass} {a2 : GMethod} {r : Gwalker_flow × Int} (hF : flow_walk_w a0 a1 a2 = some r) : Abs.FnW globs_Tryz Tryz.prog 59 [.pv (.vs 7 (List.map eGClass a0)), .pv (.agg (eGClass a1)), .pv (.agg (eGMethod a2))] [] 0 [] [.lp 0 0, .pv (.int .u64 r.2)] [(0, some (.box 133 (bxv (eGwalker_flow r.1))))] 1 := by
 unfold flow_walk_w at hF
 refine fnW_of_body (n := 26) (m := 0) [] Tryz.func59 rfl rfl rfl ?_
 intro c w O θ hcx
 refine go ?_
 refine rgp (bo 0) ?_
 refine rgp (bo 1) ?_
 iterate 5 refine go ?_
 refine rgp (la (eGClass a1) agg_32) ?_
 refine rgp (la (eGMethod a2) agg_40) ?_
 obtain ⟨y3, h4, hF⟩ := bs hF
 refine rgp (op_callW (args := [.pv (.vs 7 (List.map eGClass a0)), .pv (.agg (eGClass a1)), .pv (.agg (eGMethod a2))]) [] [2] [] 3 rfl rfl rfl rfl rfl cal_38 (flow_made_w_ok h4) rfl (by decide) trivial rfl (by decide) ⟨.inr rfl, trivial⟩ (by kernel_rfl) (by kernel_rfl) rfl rfl rfl rfl) ?_
 refine go ?_
 iterate 2 (refine rgp (op_extract rfl rfl rfl rfl rfl) ?_)
 iterate 5 refine go ?_
 refine rgp (op_nilCheck rfl rfl rfl rfl rfl) ?_
 iterate 9 refine go ?_
 obtain ⟨y5, h6, hF⟩ := bs hF
 refine rgp (op_callW (args := [.lp 0 0, .pv (.vs 23 (eLGStmt a2.fBody)), .pv (.int .u64 y3.2), .pv (.bool true)]) [2] [2] [] 3 rfl rfl rfl rfl rfl cal_88 (__flow_walker__body_w_ok h6) rfl (by decide) ⟨rfl, trivial⟩ rfl (by decide) ⟨.inl rfl, trivial⟩ (by kernel_rfl) (by kernel_rfl) rfl rfl rfl rfl) ?_
 iterate 4 refine go ?_
 refine piz (sX 26 [(6, some (.lp 0 0)), pf 7 (.int .u64 y5.1)] [bf 0 133 (eGwalker_flow y5.2)] 1) [2] ?_
 cases hF
 exact post_retW hcx rfl (.cons _ _ _ _ (.tmp _ _ rfl) (.cons _ _ _ _ (.tmp _ _ rfl) .nil)) rfl (.inl rfl)
theorem arena_body_ok {a0 : GMethod} {r : GMethod} (hF : arena_body a0 = some r) : FZ 89 [.agg (eGMethod a0)] [.p (.fn 120 [.vp (eGMethod r)])] := by
 unfold arena_body at hF
 refine fn_of_body (n := 4) Tryz.func89 rfl rfl rfl fun w O => ?_
 refine go ?_
 refine rgp (bo 0) ?_
 iterate 3 refine go ?_
 refine rgp (op_makeFunc rfl rfl rfl rfl) ?_
 iterate 3 refine go ?_
 refine post_imp (imp_freeze [(0, some (.box 40 (bxv (eGMethod a0))))] [(2, some (.pv (.fn 120 [.vp (eGMethod a0)])))] (FzH.spec ⟨rfl, trivial⟩) ⟨⟨_, rfl, rfl⟩, trivial⟩) ?_
 cases hF
 exact post_ret rfl rfl (.cons _ _ _ _ _ (.tmp _ _ rfl) (.p _) .nil) (.inl rfl)
theorem arena_inner_y_ring {rows : List (Int × GStmt)} {sp : Nat} : ∀ (n : Nat) (k0 : Nat) (a0 : List GStmt) (a1 : Int) (r : Bool × Nat), arena_inner_y rows sp n k0 a0 a1 = some r → ItF globs_Tryz Tryz.prog 121 2 (fun l => [.vs 23 (eLGStmt a0), .int .i64 a1, .yld l]) (rows.map (fun z : Int × GStmt => ([.int .i64 z.1, .vp (eGStmt z.2)] : List PV))) sp k0 (r.2) [.bool r.1] := by
 intro n
 induction n with
 | zero => exact fun _ _ _ _ h => by simp [arena_inner_y] at h
 | succ n ih =>
  have arena_inner_y_ih := ih
  clear ih
  intro k0 a0 a1 r hF
  unfold arena_inner_y at hF
  revert hF arena_inner_y_ih
  generalize arena_inner_y rows sp n = arena_inner_y_rec
  intro arena_inner_y_ih hF
  refine itf_of_body (n := 45) Tryz.func121 rfl rfl (fun _ => rfl) ?_
  intro l c w O I hcx hfx hIO
  iterate 6 refine go ?_
  refine rgp (op_len_vs (n := a0.length) rfl rfl (lenR eLGStmt_map) slc_38 rfl rfl) ?_
  iterate 2 refine go ?_
  obtain ⟨lr80, hF, hK81⟩ := bs hF
  refine aw_for ((a0.length - 0 : Int).toNat + 1) (fun s1 => ∃ q, lr80 = .next q ∧ s1 = ⟨45, [], [], 0, [], [], q, []⟩) ?_ ?_
  ·refine rnd_loop (α := Nat × Int) (fun q => ⟨45, [(0, some (.pv (.vs 23 (eLGStmt a0)))), (1, some (.pv (.int .i64 a1))), (2, some (.pv (.yld l))), (9, some (.pv (.int .i64 (a0.length : Int)))), (10, some (.pv (.int .i64 q.2)))], [], 0, [], [], q.1, []⟩) (fun k q => arena_inner_y_L1 a0 a1 sp rows arena_inner_y_rec k q.1 q.2 = some lr80) (k0, 0) (impz []) hF (fun q h => by cases h) ?_
   clear hF
   rintro k ⟨x25, x26⟩ hF ih
   refine rnd_succ ?_
   iterate 3 refine go ?_
   refine aw_seq ?_
   refine cnd hF (fun hb53 hF => ?_) fun hb53 hF => ?_
   ·iterate 2 refine go ?_
    refine aw_seq ?_
    refine aw_block ?_
    iterate 4 refine go ?_
    refine aw_seq ?_
    obtain ⟨p74, hF, hK75⟩ := bs hF
    obtain ⟨x72, x73⟩ := p74
    refine ctx ⟨45, [(0, some (.pv (.vs 23 (eLGStmt a0)))), (1, some (.pv (.int .i64 a1))), (2, some (.pv (.yld l))), (9, some (.pv (.int .i64 (a0.length : Int)))), (10, some (.pv (.int .i64 x26))), (43, some (.pv (.bool x73)))], [], 0, [], [], x72, []⟩ ?_ ?_
    ·iterate 5 refine go ?_
     obtain ⟨y58, h59, hF⟩ := bs hF
     refine rgp (ix (idxR eLGStmt_map h59) slc_38) ?_
     obtain ⟨u60, h61, hF⟩ := bs hF
     refine rgp (op_yield (row := (fun z : Int × GStmt => ([.int .i64 z.1, .vp (eGStmt z.2)] : List PV)) (a1, y58)) hcx rfl rfl rfl rfl (yck_row (fun z : Int × GStmt => ([.int .i64 z.1, .vp (eGStmt z.2)] : List PV)) h61) (yck_spec h61).2 rfl rfl) ?_
     iterate 2 refine go ?_
     rcases ie hF with ⟨hb62, hF⟩ | ⟨hb62, hF⟩
     ·refine rgo_t hb62 ?_
      iterate 9 refine rgo_t hb62 ?_
      refine rpt hb62 ?_
      refine go ?_
      iterate 10 refine rgo_t rfl ?_
      refine rpt rfl ?_
      cases hF
      exact rcz []
     iterate 2 (refine rgn hb62 (op_move rfl rfl rfl rfl) ?_)
     obtain ⟨y63, h64, hF⟩ := bs hF
     refine rgn hb62 (ix (idxR eLGStmt_map h64) slc_38) ?_
     iterate 5 refine gn hb62 ?_
     obtain ⟨y65, h66, hF⟩ := bs hF
     refine rgn hb62 (op_callY (args := fun l => [.vs 23 (eLGStmt y63.fBody), .int .i64 (w_i64 (a1 + 1)), .yld l]) hcx rfl rfl rfl cal_121 (arena_inner_y_ih _ _ _ _ h66) rfl rfl) ?_
     refine gn hb62 ?_
     refine rpf hb62 ?_
     refine go ?_
     rcases ie hF with ⟨hb67, hF⟩ | ⟨hb67, hF⟩
     ·refine rgo_t hb67 ?_
      iterate 9 refine rgo_t hb67 ?_
      refine rpt hb67 ?_
      cases hF
      exact rcz []
     iterate 2 (refine rgn hb67 (op_move rfl rfl rfl rfl) ?_)
     obtain ⟨y68, h69, hF⟩ := bs hF
     refine rgn hb67 (ix (idxR eLGStmt_map h69) slc_38) ?_
     iterate 5 refine gn hb67 ?_
     obtain ⟨y70, h71, hF⟩ := bs hF
     refine rgn hb67 (op_callY (args := fun l => [.vs 23 (eLGStmt y68.fElse), .int .i64 (w_i64 (a1 + 1)), .yld l]) hcx rfl rfl rfl cal_121 (arena_inner_y_ih _ _ _ _ h71) rfl rfl) ?_
     refine gn hb67 ?_
     refine rpf hb67 ?_
     cases hF
     exact rcz []
    have hF := hK75
    refine go ?_
    refine cnd hF (fun hb76 hF => ?_) fun hb76 hF => ?_
    ·iterate 7 refine go ?_
     refine post_lp_ret ?_
     cases hF
     have hF := elim_stop hK81
     refine go ?_
     cases hF
     exact post_itf hfx hIO rfl rfl (.cons _ _ _ _ (.tmp _ _ rfl) .nil) (.inl rfl)
    iterate 6 refine go ?_
    refine rnr ?_
    exact rnd_back (ih (x72, w_i64 (x26 + 1)) hF) (impz [])
   refine aw_exit ?_
   iterate 2 refine post_then_exit ?_
   cases hF
   exact post_lp_break _ ⟨_, rfl, rfl⟩ (impz [])
  rintro _ ⟨x79, rfl, rfl⟩
  have hF := elim_next hK81
  clear hK81
  iterate 5 refine go ?_
  cases hF
  exact post_itf hfx hIO rfl rfl (.cons _ _ _ _ (.tmp _ _ rfl) .nil) (.inl rfl)
theorem arena_inner_y_ok {rows : List (Int × GStmt)} {sp n : Nat} {k0 : Nat} {a0 : List GStmt} {a1 : Int} {r : Bool × Nat} (hF : arena_inner_y rows sp n k0 a0 a1 = some r) : ItF globs_Tryz Tryz.prog 121 2 (fun l => [.vs 23 (eLGStmt a0), .int .i64 a1, .yld l]) (rows.map (fun z : Int × GStmt => ([.int .i64 z.1, .vp (eGStmt z.2)] : List PV))) sp k0 (r.2) [.bool r.1] := arena_inner_y_ring n k0 a0 a1 r hF
theorem arena_body_1_it {rows : List (Int × GStmt)} {sp : Nat} {c0 : GMethod} (hF : arena_body_1 rows sp c0 = some (min (sp + 1) rows.length)) : It globs_Tryz Tryz.prog 120 2 [.vp (eGMethod c0)] none [] (rows.map (fun z : Int × GStmt => ([.int .i64 z.1, .vp (eGStmt z.2)] : List PV))) sp := by
 unfold arena_body_1 at hF
 refine it_of_body (n := 7) Tryz.func120 rfl rfl rfl ?_
 intro l c hcx
 iterate 4 refine go ?_
 obtain ⟨y1, h2, hF⟩ := bs hF
 refine rgp (op_callY (args := fun l => [.vs 23 (eLGStmt c0.fBody), .int .i64 0, .yld l]) hcx rfl rfl rfl cal_121 (arena_inner_y_ok h2) rfl rfl) ?_
 refine reg_nil ?_
 exact post_it (it_len hF) rfl (.inr rfl)

theorem arena_Stmts_ok {a0 : List GClass} {r : (List GLine_arena)} (hF : arena_Stmts a0 = some r) : FZ 60 [.vs 7 (List.map eGClass a0)] [.own 134 26 (List.map eGLine_arena r)] := by
 unfold arena_Stmts at hF
 refine fn_of_body (n := 42) Tryz.func60 rfl rfl rfl fun w O => ?_
 iterate 4 refine go ?_
 refine rgp (al 0 [.nils] zer_135) ?_
 refine reg_imp (imp_nil_box 0 0 135 134 26 1 rfl rfl rfl) ?_
 iterate 7 refine go ?_
 obtain ⟨x334, hF, hK335⟩ := bs hF
 refine aw_for ((a0.length - 0 : Int).toNat + 1) (fun s1 => s1 = (sX 42 [(3, some (.lp 0 0))] [(0, some (.box 135 [.ls 1])), (1, some (.row 134 26 (List.map eGLine_arena x334)))] 2)) ?_ ?_
 ·refine rnd_loop (α := (List GLine_arena) × Int) (fun q => (sX 42 [(3, some (.lp 0 0)), pf 10 (.vs 7 (List.map eGClass a0)), pf 11 (.int .i64 (a0.length : Int)), pf 12 (.int .i64 q.2)] [(0, some (.box 135 [.ls 1])), (1, some (.row 134 26 (List.map eGLine_arena q.1)))] 2)) (fun k q => arena_Stmts_L1 a0 k q.1 q.2 = some x334) ([], 0) (impz [0, 1]) hF (fun q h => by cases h) ?_
  clear hF
  rintro k ⟨x110, x111⟩ hF ih
  refine rnd_succ ?_
  iterate 3 refine go ?_
  refine aw_seq ?_
  refine cnd hF (fun hb223 hF => ?_) fun hb223 hF => ?_
  ·iterate 2 refine go ?_
   refine aw_seq ?_
   refine aw_block ?_
   iterate 2 refine go ?_
   obtain ⟨y226, h227, hF⟩ := bs hF
   refine rgp (ix (idx_map eGClass h227) slc_22) ?_
   refine rgp (lw (eGClass y226) agg_32) ?_
   refine rgp (al 2 [.int .i64 0] zer_3) ?_
   refine rgp (al 3 (eGClass zGClass) zer_32) ?_
   iterate 9 refine go ?_
   obtain ⟨x330, hF, hK331⟩ := bs hF
   refine aw_for ((y226.fMethods.length - 0 : Int).toNat + 1) (fun s1 => s1 = (sX 42 [(3, some (.lp 0 0)), pf 10 (.vs 7 (List.map eGClass a0)), pf 11 (.int .i64 (a0.length : Int)), pf 12 (.int .i64 x111)] [(0, some (.box 135 [.ls 1])), (1, some (.row 134 26 (List.map eGLine_arena x330)))] 2)) ?_ ?_
   ·refine rnd_loop (α := (List GLine_arena) × Int) (fun q => (sX 42 [(3, some (.lp 0 0)), (4, some (.lp 2 0)), pf 10 (.vs 7 (List.map eGClass a0)), pf 11 (.int .i64 (a0.length : Int)), pf 12 (.int .i64 x111), pf 18 (.vs 17 (List.map eGMethod y226.fMethods)), pf 19 (.int .i64 (y226.fMethods.length : Int)), pf 20 (.int .i64 q.2)] [(0, some (.box 135 [.ls 1])), (1, some (.row 134 26 (List.map eGLine_arena q.1))), (2, some (.box 3 [.pv (.int .i64 x111)]))] 3)) (fun k q => arena_Stmts_L2 x111 y226 k q.1 q.2 = some x330) (x110, 0) (impz [0, 1, 2]) hF (fun q h => by cases h) ?_
    clear hF
    rintro k ⟨x260, x261⟩ hF ih
    refine rnd_succ ?_
    iterate 3 refine go ?_
    refine aw_seq ?_
    refine cnd hF (fun hb296 hF => ?_) fun hb296 hF => ?_
    ·iterate 2 refine go ?_
     refine aw_seq ?_
     refine aw_block ?_
     iterate 2 refine go ?_
     obtain ⟨y299, h300, hF⟩ := bs hF
     refine rgp (ix (idx_map eGMethod h300) slc_30) ?_
     refine rgp (lw (eGMethod y299) agg_40) ?_
     refine rgp (al 3 [.int .i64 0] zer_3) ?_
     refine rgp (al 4 (eGMethod zGMethod) zer_40) ?_
     iterate 4 refine go ?_
     refine rgp (la (eGMethod y299) agg_40) ?_
     obtain ⟨y303, h304, hF⟩ := bs hF
     refine rgp (cl 5 [.agg (eGMethod y299)] [.p (.fn 120 [.vp (eGMethod y303)])] (arena_body_ok h304)) ?_
     refine go ?_
     refine aw_block ?_
     refine aw_imp (s' := (sX 42 [(3, some (.lp 0 0)), (4, some (.lp 2 0)), (6, some (.lp 3 0)), pf 10 (.vs 7 (List.map eGClass a0)), pf 11 (.int .i64 (a0.length : Int)), pf 12 (.int .i64 x111), pf 18 (.vs 17 (List.map eGMethod y226.fMethods)), pf 19 (.int .i64 (y226.fMethods.length : Int)), pf 20 (.int .i64 x261), pf 26 (.fn 120 [.vp (eGMethod y303)])] [(0, some (.box 135 [.ls 1])), (1, some (.row 134 26 (List.map eGLine_arena x260))), (2, some (.box 3 [.pv (.int .i64 x111)])), (3, some (.box 3 [.pv (.int .i64 x261)]))] 4)) (impz [0, 1, 2, 3]) ?_
     obtain ⟨rows320, hR321, hF⟩ := bs hF
     obtain ⟨lr322, hL323, hF⟩ := bs hF
     refine aw_rangeFunc (X := (Int × GStmt)) (Q := (List GLine_arena)) (E := Unit) (pre := [.vp (eGMethod y303)]) (bx := none) (post := []) (kt := [3, 4, 6, 10, 11, 12, 18, 19, 20]) (psl := [27, 28]) none (fun z : Int × GStmt => ([.int .i64 z.1, .vp (eGStmt z.2)] : List PV)) rows320 (arena_Stmts_B3 x111 x261) x260 lr322 hL323 (fun q => (sX 42 [(3, some (.lp 0 0)), (4, some (.lp 2 0)), (6, some (.lp 3 0)), pf 10 (.vs 7 (List.map eGClass a0)), pf 11 (.int .i64 (a0.length : Int)), pf 12 (.int .i64 x111), pf 18 (.vs 17 (List.map eGMethod y226.fMethods)), pf 19 (.int .i64 (y226.fMethods.length : Int)), pf 20 (.int .i64 x261)] [(0, some (.box 135 [.ls 1])), (1, some (.row 134 26 (List.map eGLine_arena q))), (2, some (.box 3 [.pv (.int .i64 x111)])), (3, some (.box 3 [.pv (.int .i64 x261)]))] 4)) (fun _ => (.ret, (sX 42 [] [] 0))) ⟨rfl, rfl⟩ cal_120 (fun sp => arena_body_1_it (itR_stmts_ok hR321 sp)) (fun _ => rfl) rfl rfl (by decide) rfl (fun x q => ⟨42, [(3, some (.lp 0 0)), (4, some (.lp 2 0)), (6, some (.lp 3 0)), (8, some (.pv (.int .i64 x.1))), (9, some (.pv (.vp (eGStmt x.2)))), (10, some (.pv (.vs 7 (List.map eGClass a0)))), (11, some (.pv (.int .i64 (a0.length : Int)))), (12, some (.pv (.int .i64 x111))), (18, some (.pv (.vs 17 (List.map eGMethod y226.fMethods)))), (19, some (.pv (.int .i64 (y226.fMethods.length : Int)))), (20, some (.pv (.int .i64 x261))), (28, some (.pv (.vp (eGStmt x.2))))], [(0, some (.box 135 [.ls 1])), (1, some (.row 134 26 (List.map eGLine_arena q))), (2, some (.box 3 [.pv (.int .i64 x111)])), (3, some (.box 3 [.pv (.int .i64 x261)]))], 4, [], [], 0, [3, 4, 6, 10, 11, 12, 18, 19, 20]⟩) (fun q => ⟨rfl, rfl, rfl, rfl⟩) (fun z => ⟨rfl, rfl, rfl, rfl⟩) (fun z => rfl) rfl rfl ⟨rfl, rfl, rfl, rfl, rfl, rfl, rfl, rfl, rfl, trivial⟩ ⟨⟨rfl, rfl, rfl⟩, ⟨rfl, rfl, rfl⟩, ⟨rfl, rfl, rfl⟩, ⟨rfl, rfl, rfl⟩, trivial⟩ ?_ ?_ ?_ ?_
     ·rintro l324 c325 ⟨x315, x316⟩ x309 hc326
      iterate 5 refine go ?_
      refine reg_nil ?_
      exact post_cut1 (impz [0, 1, 2, 3])
     ·rintro l324 c325 ⟨x315, x316⟩ x309 r327 hc326 hF
      rw [arena_Stmts_B3] at hF
      refine aw_block ?_
      refine aw_imp (imp_names 1) ?_
      refine dr_start ⟨_, _, _⟩ rfl ?_
      iterate 5 refine dgo ?_
      refine dr_cons { need := [(33, .pv (.vp (eGStmt x316)))], dst := some 34, val := some (.pv (.vp (eGStmt x316))) } (fun m h => step_on (guard_no rfl) (op_nilCheck rfl h.1.1 rfl rfl rfl) rfl) ⟨⟨rfl, trivial⟩, trivial, trivial⟩ ?_
      refine dr_cons { need := [(34, .pv (.vp (eGStmt x316)))], dst := some 35, val := some (.pv (.agg (eGStmt x316))) } (fun m h => step_on (guard_no rfl) (op_load_vp_agg (ps := eGStmt x316) rfl h.1.1 rfl rfl agg_48 rfl rfl) rfl) ⟨⟨rfl, trivial⟩, trivial, trivial⟩ ?_
      refine dr_cons { need := [(35, .pv (.agg (eGStmt x316))), (32, .pv (.int .i64 x315)), (31, .pv (.int .i64 x261)), (30, .pv (.int .i64 x111))], dst := some 36, val := some (.pv (.agg (eGLine_arena ({ fClass := x111, fMethod := x261, fDeep := x315, fS := x316 } : GLine_arena)))) } (fun m h => step_on (guard_no rfl) (op_build (zs := (eGLine_arena zGLine_arena)) (r := eGLine_arena ({ fClass := x111, fMethod := x261, fDeep := x315, fS := x316 } : GLine_arena)) rfl zer_134 (by exact ⟨rfl, rfl, rfl, rfl, rfl, rfl, rfl, rfl, rfl, rfl, rfl, rfl, rfl, rfl, rfl, rfl, rfl, rfl, rfl, rfl, rfl, trivial, trivial, trivial, trivial, rfl, trivial⟩) plc_134 (evs_cons h.1.2.2.2.1 (evs_cons h.1.2.2.1 (evs_cons h.1.2.1 (evs_cons h.1.1 evs_nil)))) rfl rfl rfl) rfl) ⟨⟨rfl, rfl, rfl, rfl, trivial⟩, trivial, trivial⟩ ?_
      refine dr_cons { need := [(36, .pv (.agg (eGLine_arena ({ fClass := x111, fMethod := x261, fDeep := x315, fS := x316 } : GLine_arena))))], dst := some 37, val := some (.pv (.vs 26 (List.map eGLine_arena [({ fClass := x111, fMethod := x261, fDeep := x315, fS := x316 } : GLine_arena)]))) } (fun m h => step_on (guard_no rfl) (op_lit (rows := List.map eGLine_arena ([({ fClass := x111, fMethod := x261, fDeep := x315, fS := x316 } : GLine_arena)] : List GLine_arena)) (zs := (eGLine_arena zGLine_arena)) rfl rfl slc_135 zer_134 (by exact ⟨rfl, rfl, rfl, rfl, rfl, rfl, rfl, rfl, rfl, rfl, rfl, rfl, rfl, rfl, rfl, rfl, rfl, rfl, rfl, rfl, rfl, trivial, trivial, trivial, trivial, rfl, trivial⟩) rfl rfl rfl (evs_cons h.1.1 evs_nil) rfl rfl rfl rfl) rfl) ⟨⟨rfl, trivial⟩, trivial, trivial⟩ ?_
      obtain ⟨u317, h318, hF⟩ := bs hF
      refine dr_cons { need := [(29, .ls 1), (37, .pv (.vs 26 (List.map eGLine_arena [({ fClass := x111, fMethod := x261, fDeep := x315, fS := x316 } : GLine_arena)])))], hneed := [(1, .row 134 26 (List.map eGLine_arena x309))], names := [4], dst := some 38, val := some (.ls 4), upd := [(4, some (.row 134 26 (List.map eGLine_arena (x309 ++ [({ fClass := x111, fMethod := x261, fDeep := x315, fS := x316 } : GLine_arena)])))), (1, none)] } (fun m h => step_on (guard_no rfl) (op_append 4 (fresh_free h.2.2.1) rfl h.1.1 h.2.1.1 h.1.2.1 slc_135 elm_134 zer_134 rfl rfl rfl (room_map (f := eGLine_arena) (g := eGLine_arena) h318) (List.map_append (f := eGLine_arena) (l₁ := x309) (l₂ := [({ fClass := x111, fMethod := x261, fDeep := x315, fS := x316 } : GLine_arena)])).symm rfl rfl) rfl) ⟨⟨rfl, rfl, trivial⟩, ⟨rfl, trivial⟩, ⟨rfl, trivial⟩⟩ ?_
      refine dr_cons { need := [(3, .lp 0 0), (38, .ls 4)], hneed := [(0, .box 135 [.ls 1])], upd := [(0, some (.box 135 [.ls 4]))] } (fun m h => step_on (guard_no rfl) (op_store_lp (n := 1) rfl h.1.1 h.1.2.1 rfl h.2.1.1 (or_one one_135) (by rw [one_135]; rfl) rfl rfl rfl) rfl) ⟨⟨rfl, rfl, trivial⟩, ⟨rfl, trivial⟩, trivial⟩ ?_
      refine dr_nil mixed rfl (by kernel_rfl) ?_
      refine piz ⟨42, [(3, some (.lp 0 0)), (4, some (.lp 2 0)), (6, some (.lp 3 0)), (10, some (.pv (.vs 7 (List.map eGClass a0)))), (11, some (.pv (.int .i64 (a0.length : Int)))), (12, some (.pv (.int .i64 x111))), (18, some (.pv (.vs 17 (List.map eGMethod y226.fMethods)))), (19, some (.pv (.int .i64 (y226.fMethods.length : Int)))), (20, some (.pv (.int .i64 x261)))], [(0, some (.box 135 [.ls 1])), (1, some (.row 134 26 (List.map eGLine_arena (x309 ++ [({ fClass := x111, fMethod := x261, fDeep := x315, fS := x316 } : GLine_arena)])))), (2, some (.box 3 [.pv (.int .i64 x111)])), (3, some (.box 3 [.pv (.int .i64 x261)]))], 4, [], [], 0, [3, 4, 6, 10, 11, 12, 18, 19, 20]⟩ [0, 4, 2, 3] ?_
      refine go ?_
      cases hF
      exact post_rnd (x309 ++ [({ fClass := x111, fMethod := x261, fDeep := x315, fS := x316 } : GLine_arena)]) rfl (impz [0, 1, 2, 3])
     ·rintro x309 rfl
      have hF := elim_next hF
      iterate 6 refine go ?_
      refine rnr ?_
      exact rnd_back (ih (x309, w_i64 (x261 + 1)) hF) (impz [0, 1, 2])
     rintro ⟨⟩ rfl
     have hF := elim_stop hF
     cases hF
    refine aw_exit ?_
    iterate 2 refine post_then_exit ?_
    cases hF
    exact post_lp_break _ rfl (impz [0, 1])
   rintro _ rfl
   have hF := hK331
   iterate 5 refine go ?_
   refine rnr ?_
   exact rnd_back (ih (x330, w_i64 (x111 + 1)) hF) (impz [0, 1])
  refine aw_exit ?_
  iterate 2 refine post_then_exit ?_
  cases hF
  exact post_lp_break _ rfl (impz [0, 1])
 rintro _ rfl
 have hF := hK335
 iterate 6 refine go ?_
 cases hF
 exact post_ret rfl rfl (.cons _ _ _ _ _ (.tmp _ _ rfl) (.own _ _ _ _ rfl nolent3) .nil) (.inl rfl)
end Go.Proofs.YthhdlpggmmfaiaaGreat
