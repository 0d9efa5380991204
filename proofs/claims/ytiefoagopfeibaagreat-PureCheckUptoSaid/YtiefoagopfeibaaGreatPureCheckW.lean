/- A part of the proof that the law PureCheck gives true for every input. -/
import Derived.Test.YtiefoagopfeibaaGreatPureCheckT
import Derived.Test.YtiefoagopfeibaaGreatPureCheckB
import Derived.Test.YtiefoagopfeibaaGreatPureCheckX
import Derived.Test.YtiefoagopfeibaaGreatPureCheckI
import Derived.Test.YtiefoagopfeibaaGreatPureCheckW1
/- Each Go function computes its plain function. -/
namespace Go.Proofs.YtiefoagopfeibaaGreat
open Go.RowKit Go.Abs
set_option maxRecDepth 100000
set_option maxHeartbeats 4000000
theorem __pure_walker__call_w_ok {a1 : List UInt8} {a2 : List UInt8} {b0_0 : List GClass} {b1 : Nat × (List UInt8 → Option Int)} {b2 : List (A2 Int)} {r : (Nat × (List UInt8 → Option Int)) × (List (A2 Int))} (hF : __pure_walker__call_w a1 a2 b0_0 b1 b2 = some r) : Abs.FnW globs_Tryz Tryz.prog 26 [.lp 0 0, .pv (.str a1), .pv (.str a2)] [(0, some (.box 81 [.pv (.vs 7 (List.map eGClass b0_0)), .ls 1, .ls 2])), (1, some (.dict Tryz.prog 79 b1.1 b1.2)), (2, some (.row 59 2 (List.map (eA2 eI) b2)))] 3 [(0, 0)] [] [(0, some (.box 81 [.pv (.vs 7 (List.map eGClass b0_0)), .ls 1, .ls 2])), (1, some (.dict Tryz.prog 79 r.1.1 r.1.2)), (2, some (.row 59 2 (List.map (eA2 eI) r.2)))] 3 := by
 unfold __pure_walker__call_w at hF
 refine fnW_of_body (n := 89) (m := 3) [0] Tryz.func26 rfl rfl rfl ?_
 intro c w O θ hcx
 refine go ?_
 refine rgp (bo 3) ?_
 iterate 3 refine go ?_
 refine rgp (op_nilCheck rfl rfl rfl rfl rfl) ?_
 iterate 5 refine go ?_
 obtain ⟨lr166, hF, hK167⟩ := bs hF
 refine aw_for ((b0_0.length - 0 : Int).toNat + 1) (fun s1 => s1 = ⟨89, [(0, some (.lp 0 0))], [(0, some (.box 81 [.pv (.vs 7 (List.map eGClass b0_0)), .ls 1, .ls 2])), (1, some (.dict Tryz.prog 79 lr166.1 lr166.2.1)), (2, some (.row 59 2 (List.map (eA2 eI) lr166.2.2)))], 3, [], [], 0, [0]⟩) ?_ ?_
 ·refine rnd_loop (α := Nat × (List UInt8 → Option Int) × (List (A2 Int)) × Int) (fun q => ⟨89, [(0, some (.lp 0 0)), (1, some (.pv (.str a1))), (5, some (.lp 3 0)), (15, some (.pv (.vs 7 (List.map eGClass b0_0)))), (16, some (.pv (.int .i64 (b0_0.length : Int)))), (17, some (.pv (.int .i64 q.2.2.2)))], [(0, some (.box 81 [.pv (.vs 7 (List.map eGClass b0_0)), .ls 1, .ls 2])), (1, some (.dict Tryz.prog 79 q.1 q.2.1)), (2, some (.row 59 2 (List.map (eA2 eI) q.2.2.1))), (3, some (.box 9 [.pv (.str a2)]))], 4, [], [], 0, [0]⟩) (fun k q => __pure_walker__call_w_L1 a1 a2 b0_0 k q.1 q.2.1 q.2.2.1 q.2.2.2 = some lr166) (b1.1, b1.2, b2, 0) (impz [0, 1, 2, 3]) hF (fun q h => by cases h) ?_
  clear hF
  rintro k ⟨x51, x52, x53, x54⟩ hF ih
  refine rnd_succ ?_
  iterate 3 refine go ?_
  refine aw_seq ?_
  refine cnd hF (fun hb109 hF => ?_) fun hb109 hF => ?_
  ·iterate 2 refine go ?_
   refine aw_seq ?_
   refine aw_block ?_
   refine go ?_
   obtain ⟨y112, h113, hF⟩ := bs hF
   refine rgp (ix (idx_map eGClass h113) slc_22) ?_
   refine rgp (lw (eGClass y112) agg_32) ?_
   refine rgp (al 4 (eGClass zGClass) zer_32) ?_
   iterate 2 refine go ?_
   refine aw_seq ?_
   refine aw_seq ?_
   refine dr_start ⟨_, _, _⟩ rfl ?_
   refine dgo ?_
   refine dr_cons { need := [(21, .lp 0 0)], dst := some 22, val := some (.lp 0 0) } (fun m h => step_on (guard_no rfl) (op_nilCheck rfl h.1.1 rfl rfl rfl) rfl) ⟨⟨rfl, trivial⟩, trivial, trivial⟩ ?_
   iterate 5 refine dgo ?_
   obtain ⟨y116, h117, hF⟩ := bs hF
   refine dr_cons { need := [(27, .pv (.str a1)), (26, .pv (.str y112.fName)), (24, .pv (.vs 7 (List.map eGClass b0_0)))], dst := some 28, val := some (.pv (.bool y116)) } (fun m h => step_on (guard_no rfl) (op_call 5 rfl (caps := []) (args := [.vs 7 (List.map eGClass b0_0), .str y112.fName, .str a1]) (rs := [.p (.bool y116)]) rfl rfl (evl_cons h.1.2.2.1 (evl_cons h.1.2.1 (evl_cons h.1.1 evl_nil))) cal_50 (above_Below_ok h117) rfl rfl rfl) rfl) ⟨⟨rfl, rfl, rfl, trivial⟩, trivial, trivial⟩ ?_
   refine dr_cons { need := [(28, .pv (.bool y116))], dst := some 29, val := some (.pv (.bool (!y116))) } (fun m h => step_on (guard_no rfl) (op_not rfl h.1.1 rfl rfl) rfl) ⟨⟨rfl, trivial⟩, trivial, trivial⟩ ?_
   refine dr_nil mixed rfl (by kernel_rfl) ?_
   refine piz ⟨89, [(0, some (.lp 0 0)), (1, some (.pv (.str a1))), (5, some (.lp 3 0)), (7, some (.lp 4 0)), (15, some (.pv (.vs 7 (List.map eGClass b0_0)))), (16, some (.pv (.int .i64 (b0_0.length : Int)))), (17, some (.pv (.int .i64 x54))), (29, some (.pv (.bool (!y116))))], [(0, some (.box 81 [.pv (.vs 7 (List.map eGClass b0_0)), .ls 1, .ls 2])), (1, some (.dict Tryz.prog 79 x51 x52)), (2, some (.row 59 2 (List.map (eA2 eI) x53))), (3, some (.box 9 [.pv (.str a2)])), (4, some (.box 32 (bxv (eGClass y112))))], 5, [], [], 0, [0]⟩ [0, 1, 2, 3, 4] ?_
   refine go ?_
   refine cnd hF (fun hb118 hF => ?_) fun hb118 hF => ?_
   ·cases hF
   iterate 2 refine go ?_
   refine aw_seq ?_
   refine aw_imp (imp_names 1) ?_
   refine dr_start ⟨_, _, _⟩ rfl ?_
   refine dgo ?_
   refine dr_cons { need := [(31, .lp 0 0)], dst := some 32, val := some (.lp 0 0) } (fun m h => step_on (guard_no rfl) (op_nilCheck rfl h.1.1 rfl rfl rfl) rfl) ⟨⟨rfl, trivial⟩, trivial, trivial⟩ ?_
   iterate 5 refine dgo ?_
   obtain ⟨y121, h122, hF⟩ := bs hF
   refine dr_cons { need := [(37, .pv (.str a2)), (36, .pv (.str y112.fName)), (34, .pv (.vs 7 (List.map eGClass b0_0)))], dst := some 38, val := some (.tup [.pv (.agg (eGFound_method y121.1)), .pv (.bool y121.2)]) } (fun m h => step_on (guard_no rfl) (op_call 6 rfl (caps := []) (args := [.vs 7 (List.map eGClass b0_0), .str y112.fName, .str a2]) (rs := [.p (.agg (eGFound_method y121.1)), .p (.bool y121.2)]) rfl rfl (evl_cons h.1.2.2.1 (evl_cons h.1.2.1 (evl_cons h.1.1 evl_nil))) cal_47 (method_Find_ok h122) rfl rfl rfl) rfl) ⟨⟨rfl, rfl, rfl, trivial⟩, trivial, trivial⟩ ?_
   refine dgo ?_
   refine dr_cons { need := [(30, .tup [.pv (.agg (eGFound_method y121.1)), .pv (.bool y121.2)])], dst := some 39, val := some (.pv (.agg (eGFound_method y121.1))) } (fun m h => step_on (guard_no rfl) (op_extract rfl h.1.1 rfl rfl rfl) rfl) ⟨⟨rfl, trivial⟩, trivial, trivial⟩ ?_
   refine dr_cons { need := [(30, .tup [.pv (.agg (eGFound_method y121.1)), .pv (.bool y121.2)])], dst := some 40, val := some (.pv (.bool y121.2)) } (fun m h => step_on (guard_no rfl) (op_extract rfl h.1.1 rfl rfl rfl) rfl) ⟨⟨rfl, trivial⟩, trivial, trivial⟩ ?_
   refine dr_cons { names := [5], dst := some 8, val := some (.lp 5 0), upd := [(5, some (.box 71 (bxv (eGFound_method zGFound_method))))] } (fun m h => step_on (guard_no rfl) (op_alloc 5 (fresh_free h.2.2.1) (ps := (eGFound_method zGFound_method)) rfl zer_71 (by exact ⟨rfl, rfl, rfl, rfl, rfl, rfl, rfl, rfl, rfl, rfl, rfl, rfl, rfl, rfl, trivial, trivial, trivial, rfl, trivial⟩) rfl rfl) rfl) ⟨trivial, trivial, ⟨rfl, trivial⟩⟩ ?_
   refine dr_cons { need := [(8, .lp 5 0), (39, .pv (.agg (eGFound_method y121.1)))], hneed := [(5, .box 71 (bxv (eGFound_method zGFound_method)))], upd := [(5, some (.box 71 (bxv (eGFound_method y121.1))))] } (fun m h => step_on (guard_no rfl) (op_store_lp (n := 18) rfl h.1.1 h.1.2.1 rfl h.2.1.1 (or_agg agg_71) (by rw [non_71]; rfl) rfl rfl rfl) rfl) ⟨⟨rfl, rfl, trivial⟩, ⟨rfl, trivial⟩, trivial⟩ ?_
   refine dr_cons { need := [(40, .pv (.bool y121.2))], dst := some 9, val := some (.pv (.bool y121.2)) } (fun m h => step_on (guard_no rfl) (op_assign rfl h.1.1 rfl rfl) rfl) ⟨⟨rfl, trivial⟩, trivial, trivial⟩ ?_
   refine dr_nil mixed rfl (by kernel_rfl) ?_
   refine piz ⟨89, [(0, some (.lp 0 0)), (1, some (.pv (.str a1))), (5, some (.lp 3 0)), (8, some (.lp 4 0)), (9, some (.pv (.bool y121.2))), (15, some (.pv (.vs 7 (List.map eGClass b0_0)))), (16, some (.pv (.int .i64 (b0_0.length : Int)))), (17, some (.pv (.int .i64 x54)))], [(0, some (.box 81 [.pv (.vs 7 (List.map eGClass b0_0)), .ls 1, .ls 2])), (1, some (.dict Tryz.prog 79 x51 x52)), (2, some (.row 59 2 (List.map (eA2 eI) x53))), (3, some (.box 9 [.pv (.str a2)])), (4, some (.box 71 (bxv (eGFound_method y121.1))))], 5, [], [], 0, [0]⟩ [0, 1, 2, 3, 5] ?_
   iterate 6 refine go ?_
   refine cnd hF (fun hb123 hF => ?_) fun hb123 hF => ?_
   ·cases hF
   iterate 2 refine go ?_
   refine aw_seq ?_
   refine dr_start ⟨_, _, _⟩ rfl ?_
   refine dgo ?_
   refine dr_cons { need := [(43, .lp 0 0)], dst := some 44, val := some (.lp 0 0) } (fun m h => step_on (guard_no rfl) (op_nilCheck rfl h.1.1 rfl rfl rfl) rfl) ⟨⟨rfl, trivial⟩, trivial, trivial⟩ ?_
   iterate 4 refine dgo ?_
   obtain ⟨y126, h127, hF⟩ := bs hF
   refine dr_cons { need := [(48, .pv (.str y121.1.fClass)), (46, .pv (.vs 7 (List.map eGClass b0_0)))], dst := some 49, val := some (.pv (.int .i64 y126)) } (fun m h => step_on (guard_no rfl) (op_call 5 rfl (caps := []) (args := [.vs 7 (List.map eGClass b0_0), .str y121.1.fClass]) (rs := [.p (.int .i64 y126)]) rfl rfl (evl_cons h.1.2.1 (evl_cons h.1.1 evl_nil)) cal_51 (table_Find_ok h127) rfl rfl rfl) rfl) ⟨⟨rfl, rfl, trivial⟩, trivial, trivial⟩ ?_
   refine dr_cons { need := [(49, .pv (.int .i64 y126))], dst := some 10, val := some (.pv (.int .i64 y126)) } (fun m h => step_on (guard_no rfl) (op_assign rfl h.1.1 rfl rfl) rfl) ⟨⟨rfl, trivial⟩, trivial, trivial⟩ ?_
   refine dr_nil mixed rfl (by kernel_rfl) ?_
   refine piz ⟨89, [(0, some (.lp 0 0)), (1, some (.pv (.str a1))), (5, some (.lp 3 0)), (10, some (.pv (.int .i64 y126))), (15, some (.pv (.vs 7 (List.map eGClass b0_0)))), (16, some (.pv (.int .i64 (b0_0.length : Int)))), (17, some (.pv (.int .i64 x54)))], [(0, some (.box 81 [.pv (.vs 7 (List.map eGClass b0_0)), .ls 1, .ls 2])), (1, some (.dict Tryz.prog 79 x51 x52)), (2, some (.row 59 2 (List.map (eA2 eI) x53))), (3, some (.box 9 [.pv (.str a2)]))], 4, [], [], 0, [0]⟩ [0, 1, 2, 3] ?_
   iterate 4 refine go ?_
   refine rgp (op_nilCheck rfl rfl rfl rfl rfl) ?_
   iterate 3 refine go ?_
   obtain ⟨y133, h134, hF⟩ := bs hF
   refine rgp (ix (idx_map eGClass h134) slc_22) ?_
   iterate 2 refine go ?_
   refine rgp (op_makeFunc rfl rfl rfl rfl) ?_
   obtain ⟨y136, h137, hF⟩ := bs hF
   refine rgp (op_callB 4 rfl (caps := []) (args := [.vs 17 (List.map eGMethod y133.fMethods), .fn 53 [.vp (eS a2)]]) [(3, some (.box 9 [.pv (.str a2)]))] rfl rfl rfl (FzH.spec ⟨rfl, trivial⟩) rfl rfl cal_52 (slices_IndexFunc_api_Method_ok (q1_f := 53) (q1_c := [.vp (eS a2)]) (q1_b := cal_53) (q1_h := fun _ r h => (__pure_walker__call_1_ok h)) h137) rfl rfl rfl) ?_
   refine rgp (op_buildArr (zs := ((eA2 eI) (⟨0, 0⟩ : A2 Int))) (r := (eA2 eI) (⟨y126, y136⟩ : A2 Int)) rfl zer_59 (by exact ⟨rfl, rfl, trivial⟩) arr_59 rfl rfl rfl rfl) ?_
   refine rgp (al 4 ((eA2 eI) (⟨0, 0⟩ : A2 Int)) zer_59) ?_
   iterate 2 refine go ?_
   refine aw_seq ?_
   refine aw_imp (imp_names 1) ?_
   refine dr_start ⟨_, _, _⟩ rfl ?_
   refine dgo ?_
   refine dr_cons { need := [(62, .lp 0 0)], dst := some 63, val := some (.lp 0 0) } (fun m h => step_on (guard_no rfl) (op_nilCheck rfl h.1.1 rfl rfl rfl) rfl) ⟨⟨rfl, trivial⟩, trivial, trivial⟩ ?_
   iterate 2 refine dgo ?_
   refine dr_cons { need := [(11, .lp 4 0)], hneed := [(4, .box 59 (bxv ((eA2 eI) (⟨y126, y136⟩ : A2 Int))))], dst := some 66, val := some (.pv (.agg ((eA2 eI) (⟨y126, y136⟩ : A2 Int)))) } (fun m h => step_on (guard_no rfl) (op_load_lp_agg (ps := (eA2 eI) (⟨y126, y136⟩ : A2 Int)) rfl h.1.1 h.2.1.1 rfl rfl rfl agg_59 rfl rfl) rfl) ⟨⟨rfl, trivial⟩, ⟨rfl, trivial⟩, trivial⟩ ?_
   obtain ⟨y144, h145, hF⟩ := bs hF
   refine dr_cons { need := [(65, .ls 1), (66, .pv (.agg ((eA2 eI) (⟨y126, y136⟩ : A2 Int))))], hneed := [(1, .dict Tryz.prog 79 x51 x52)], dst := some 67, val := some (.pv (.int .i64 y144)) } (fun m h => step_on (guard_no rfl) (op_lookup2 rfl h.1.1 h.2.1.1 h.1.2.1 Tryz_map2_79 zer_3 h145 rfl rfl) rfl) ⟨⟨rfl, rfl, trivial⟩, ⟨rfl, trivial⟩, trivial⟩ ?_
   refine dgo ?_
   obtain ⟨u146, h147, hF⟩ := bs hF
   refine dr_cons { need := [(65, .ls 1), (66, .pv (.agg ((eA2 eI) (⟨y126, y136⟩ : A2 Int))))], hneed := [(1, .dict Tryz.prog 79 x51 x52)], names := [5], dst := some 69, val := some (.tup [.any, .ls 5]), upd := [(1, some (.dictE Tryz.prog 79 x51 x52 (kb2 ((⟨y126, y136⟩ : A2 Int).a0) ((⟨y126, y136⟩ : A2 Int).a1)) 5)), (5, none)] } (fun m h => step_on (guard_no rfl) (op_mapEntry2 5 (fresh_free h.2.2.1) rfl h.1.1 h.2.1.1 h.1.2.1 Tryz_map2_79 zer_3 (ment_spec h147) rfl rfl) rfl) ⟨⟨rfl, rfl, trivial⟩, ⟨rfl, trivial⟩, ⟨rfl, trivial⟩⟩ ?_
   refine dr_cons { need := [(69, .tup [.any, .ls 5])], dst := some 70, val := some (.ls 5) } (fun m h => step_on (guard_no rfl) (op_extract rfl h.1.1 rfl rfl rfl) rfl) ⟨⟨rfl, trivial⟩, trivial, trivial⟩ ?_
   obtain ⟨u148, h149, hF⟩ := bs hF
   refine dr_cons { need := [(65, .ls 1), (70, .ls 5), (68, .pv (.int .i64 (w_i64 (y144 + 1))))], hneed := [(1, .dictE Tryz.prog 79 x51 x52 (kb2 ((⟨y126, y136⟩ : A2 Int).a0) ((⟨y126, y136⟩ : A2 Int).a1)) 5)], upd := [(1, some (.dict Tryz.prog 79 (x51 + 1) (mset2 x52 (kb2 ((⟨y126, y136⟩ : A2 Int).a0) ((⟨y126, y136⟩ : A2 Int).a1)) (w_i64 (y144 + 1)))))] } (fun m h => step_on (guard_no rfl) (op_entryStore rfl h.1.1 h.2.1.1 h.1.2.1 h.1.2.2.1 (chk64_spec h149) rfl) rfl) ⟨⟨rfl, rfl, rfl, trivial⟩, ⟨rfl, trivial⟩, trivial⟩ ?_
   refine dr_nil2 5 7 1 (.dictE Tryz.prog 79 x51 x52 (kb2 ((⟨y126, y136⟩ : A2 Int).a0) ((⟨y126, y136⟩ : A2 Int).a1)) 5) mixed rfl rfl rfl rfl rfl rfl rfl (fun m h => step_on (guard_no rfl) (op_lookup2E rfl h.1.1 h.2.1.1 h.1.2.1 Tryz_map2_79 zer_3 h145 rfl rfl) rfl) (by kernel_rfl) ?_
   refine piz ⟨89, [(0, some (.lp 0 0)), (1, some (.pv (.str a1))), (5, some (.lp 3 0)), (11, some (.lp 4 0)), (15, some (.pv (.vs 7 (List.map eGClass b0_0)))), (16, some (.pv (.int .i64 (b0_0.length : Int)))), (17, some (.pv (.int .i64 x54)))], [(0, some (.box 81 [.pv (.vs 7 (List.map eGClass b0_0)), .ls 1, .ls 2])), (1, some (.dict Tryz.prog 79 (x51 + 1) (mset2 x52 (kb2 ((⟨y126, y136⟩ : A2 Int).a0) ((⟨y126, y136⟩ : A2 Int).a1)) (w_i64 (y144 + 1))))), (2, some (.row 59 2 (List.map (eA2 eI) x53))), (3, some (.box 9 [.pv (.str a2)])), (4, some (.box 59 (bxv ((eA2 eI) (⟨y126, y136⟩ : A2 Int)))))], 5, [], [], 0, [0]⟩ [0, 1, 2, 3, 4] ?_
   refine go ?_
   refine aw_seq ?_
   refine dr_start ⟨_, _, _⟩ rfl ?_
   refine dgo ?_
   refine dr_cons { need := [(71, .lp 0 0)], dst := some 72, val := some (.lp 0 0) } (fun m h => step_on (guard_no rfl) (op_nilCheck rfl h.1.1 rfl rfl rfl) rfl) ⟨⟨rfl, trivial⟩, trivial, trivial⟩ ?_
   iterate 2 refine dgo ?_
   refine dr_cons { need := [(11, .lp 4 0)], hneed := [(4, .box 59 (bxv ((eA2 eI) (⟨y126, y136⟩ : A2 Int))))], dst := some 75, val := some (.pv (.agg ((eA2 eI) (⟨y126, y136⟩ : A2 Int)))) } (fun m h => step_on (guard_no rfl) (op_load_lp_agg (ps := (eA2 eI) (⟨y126, y136⟩ : A2 Int)) rfl h.1.1 h.2.1.1 rfl rfl rfl agg_59 rfl rfl) rfl) ⟨⟨rfl, trivial⟩, ⟨rfl, trivial⟩, trivial⟩ ?_
   obtain ⟨y152, h153, hF⟩ := bs hF
   refine dr_cons { need := [(74, .ls 1), (75, .pv (.agg ((eA2 eI) (⟨y126, y136⟩ : A2 Int))))], hneed := [(1, .dict Tryz.prog 79 (x51 + 1) (mset2 x52 (kb2 ((⟨y126, y136⟩ : A2 Int).a0) ((⟨y126, y136⟩ : A2 Int).a1)) (w_i64 (y144 + 1))))], dst := some 76, val := some (.pv (.int .i64 y152)) } (fun m h => step_on (guard_no rfl) (op_lookup2 rfl h.1.1 h.2.1.1 h.1.2.1 Tryz_map2_79 zer_3 h153 rfl rfl) rfl) ⟨⟨rfl, rfl, trivial⟩, ⟨rfl, trivial⟩, trivial⟩ ?_
   refine dgo ?_
   refine dr_nil mixed rfl (by kernel_rfl) ?_
   refine piz ⟨89, [(0, some (.lp 0 0)), (1, some (.pv (.str a1))), (5, some (.lp 3 0)), (11, some (.lp 4 0)), (15, some (.pv (.vs 7 (List.map eGClass b0_0)))), (16, some (.pv (.int .i64 (b0_0.length : Int)))), (17, some (.pv (.int .i64 x54))), (77, some (.pv (.bool (y152 == 1))))], [(0, some (.box 81 [.pv (.vs 7 (List.map eGClass b0_0)), .ls 1, .ls 2])), (1, some (.dict Tryz.prog 79 (x51 + 1) (mset2 x52 (kb2 ((⟨y126, y136⟩ : A2 Int).a0) ((⟨y126, y136⟩ : A2 Int).a1)) (w_i64 (y144 + 1))))), (2, some (.row 59 2 (List.map (eA2 eI) x53))), (3, some (.box 9 [.pv (.str a2)])), (4, some (.box 59 (bxv ((eA2 eI) (⟨y126, y136⟩ : A2 Int)))))], 5, [], [], 0, [0]⟩ [0, 1, 2, 3, 4] ?_
   refine go ?_
   refine cnd hF (fun hb154 hF => ?_) fun hb154 hF => ?_
   ·refine aw_imp (imp_names 1) ?_
    refine dr_start ⟨_, _, _⟩ rfl ?_
    iterate 2 refine dgo ?_
    refine dr_cons { need := [(79, .lp 0 0)], dst := some 80, val := some (.lp 0 0) } (fun m h => step_on (guard_no rfl) (op_nilCheck rfl h.1.1 rfl rfl rfl) rfl) ⟨⟨rfl, trivial⟩, trivial, trivial⟩ ?_
    iterate 2 refine dgo ?_
    refine dr_cons { need := [(11, .lp 4 0)], hneed := [(4, .box 59 (bxv ((eA2 eI) (⟨y126, y136⟩ : A2 Int))))], dst := some 83, val := some (.pv (.agg ((eA2 eI) (⟨y126, y136⟩ : A2 Int)))) } (fun m h => step_on (guard_no rfl) (op_load_lp_agg (ps := (eA2 eI) (⟨y126, y136⟩ : A2 Int)) rfl h.1.1 h.2.1.1 rfl rfl rfl agg_59 rfl rfl) rfl) ⟨⟨rfl, trivial⟩, ⟨rfl, trivial⟩, trivial⟩ ?_
    refine dr_cons { need := [(83, .pv (.agg ((eA2 eI) (⟨y126, y136⟩ : A2 Int))))], dst := some 84, val := some (.pv (.vs 2 (List.map (eA2 eI) [(⟨y126, y136⟩ : A2 Int)]))) } (fun m h => step_on (guard_no rfl) (op_lit (rows := List.map (eA2 eI) ([(⟨y126, y136⟩ : A2 Int)] : List (A2 Int))) (zs := ((eA2 eI) (⟨0, 0⟩ : A2 Int))) rfl rfl slc_57 zer_59 (by exact ⟨rfl, rfl, trivial⟩) rfl rfl rfl (evs_cons h.1.1 evs_nil) rfl rfl rfl rfl) rfl) ⟨⟨rfl, trivial⟩, trivial, trivial⟩ ?_
    obtain ⟨u157, h158, hF⟩ := bs hF
    refine dr_cons { need := [(82, .ls 2), (84, .pv (.vs 2 (List.map (eA2 eI) [(⟨y126, y136⟩ : A2 Int)])))], hneed := [(2, .row 59 2 (List.map (eA2 eI) x53))], names := [5], dst := some 85, val := some (.ls 5), upd := [(5, some (.row 59 2 (List.map (eA2 eI) (x53 ++ [(⟨y126, y136⟩ : A2 Int)])))), (2, none)] } (fun m h => step_on (guard_no rfl) (op_append 5 (fresh_free h.2.2.1) rfl h.1.1 h.2.1.1 h.1.2.1 slc_57 elm_59 zer_59 rfl rfl rfl (room_map (f := (eA2 eI)) (g := (eA2 eI)) h158) (List.map_append (f := (eA2 eI)) (l₁ := x53) (l₂ := [(⟨y126, y136⟩ : A2 Int)])).symm rfl rfl) rfl) ⟨⟨rfl, rfl, trivial⟩, ⟨rfl, trivial⟩, ⟨rfl, trivial⟩⟩ ?_
    refine dr_cons { need := [(78, .lp 0 0)], dst := some 86, val := some (.lp 0 0) } (fun m h => step_on (guard_no rfl) (op_nilCheck rfl h.1.1 rfl rfl rfl) rfl) ⟨⟨rfl, trivial⟩, trivial, trivial⟩ ?_
    refine dgo ?_
    refine dr_cons { need := [(87, .lp 0 2), (85, .ls 5)], hneed := [(0, .box 81 [.pv (.vs 7 (List.map eGClass b0_0)), .ls 1, .ls 2])], upd := [(0, some (.box 81 [.pv (.vs 7 (List.map eGClass b0_0)), .ls 1, .ls 5]))] } (fun m h => step_on (guard_no rfl) (op_store_lp (n := 1) rfl h.1.1 h.1.2.1 rfl h.2.1.1 (or_one one_57) (by rw [one_57]; rfl) rfl rfl rfl) rfl) ⟨⟨rfl, rfl, trivial⟩, ⟨rfl, trivial⟩, trivial⟩ ?_
    refine dr_nil mixed rfl (by kernel_rfl) ?_
    refine piz ⟨89, [(0, some (.lp 0 0)), (1, some (.pv (.str a1))), (5, some (.lp 3 0)), (15, some (.pv (.vs 7 (List.map eGClass b0_0)))), (16, some (.pv (.int .i64 (b0_0.length : Int)))), (17, some (.pv (.int .i64 x54)))], [(0, some (.box 81 [.pv (.vs 7 (List.map eGClass b0_0)), .ls 1, .ls 2])), (1, some (.dict Tryz.prog 79 (x51 + 1) (mset2 x52 (kb2 ((⟨y126, y136⟩ : A2 Int).a0) ((⟨y126, y136⟩ : A2 Int).a1)) (w_i64 (y144 + 1))))), (2, some (.row 59 2 (List.map (eA2 eI) (x53 ++ [(⟨y126, y136⟩ : A2 Int)])))), (3, some (.box 9 [.pv (.str a2)]))], 4, [], [], 0, [0]⟩ [0, 1, 5, 3] ?_
    iterate 5 refine go ?_
    refine rnr ?_
    exact rnd_back (ih ((x51 + 1), mset2 x52 (kb2 ((⟨y126, y136⟩ : A2 Int).a0) ((⟨y126, y136⟩ : A2 Int).a1)) (w_i64 (y144 + 1)), (x53 ++ [(⟨y126, y136⟩ : A2 Int)]), w_i64 (x54 + 1)) hF) (impz [0, 1, 2, 3])
   cases hF
  refine aw_exit ?_
  iterate 2 refine post_then_exit ?_
  cases hF
  exact post_lp_break _ rfl (impz [0, 1, 2])
 rintro _ rfl
 have hF := hK167
 obtain ⟨x163, x164, x165⟩ := lr166
 refine piz ⟨89, [(0, some (.lp 0 0))], [(0, some (.box 81 [.pv (.vs 7 (List.map eGClass b0_0)), .ls 1, .ls 2])), (1, some (.dict Tryz.prog 79 x163 x164)), (2, some (.row 59 2 (List.map (eA2 eI) x165)))], 3, [], [], 0, [0]⟩ [0, 1, 2] ?_
 cases hF
 exact post_retW hcx rfl .nil rfl (.inr rfl)
theorem __pure_walker__body_w_ring : ∀ (n : Nat) (a1 : GClass) (a2 : GMethod) (a3 : List GStmt) (b0_0 : List GClass) (b1 : Nat × (List UInt8 → Option Int)) (b2 : List (A2 Int)) (r : (Nat × (List UInt8 → Option Int)) × (List (A2 Int))), __pure_walker__body_w n a1 a2 a3 b0_0 b1 b2 = some r → Abs.FnW globs_Tryz Tryz.prog 27 [.lp 0 0, .pv (.agg (eGClass a1)), .pv (.agg (eGMethod a2)), .pv (.vs 23 (eLGStmt a3))] [(0, some (.box 81 [.pv (.vs 7 (List.map eGClass b0_0)), .ls 1, .ls 2])), (1, some (.dict Tryz.prog 79 b1.1 b1.2)), (2, some (.row 59 2 (List.map (eA2 eI) b2)))] 3 [(0, 0)] [] [(0, some (.box 81 [.pv (.vs 7 (List.map eGClass b0_0)), .ls 1, .ls 2])), (1, some (.dict Tryz.prog 79 r.1.1 r.1.2)), (2, some (.row 59 2 (List.map (eA2 eI) r.2)))] 3 := by
 intro n
 induction n with
 | zero => exact fun _ _ _ _ _ _ _ h => by simp [__pure_walker__body_w] at h
 | succ n ih =>
  have __pure_walker__body_w_ih := ih
  clear ih
  intro a1 a2 a3 b0_0 b1 b2 r hF
  unfold __pure_walker__body_w at hF
  revert hF __pure_walker__body_w_ih
  generalize __pure_walker__body_w n = __pure_walker__body_w_rec
  intro __pure_walker__body_w_ih hF
  refine fnW_of_body (n := 56) (m := 3) [0] Tryz.func27 rfl rfl rfl ?_
  intro c w O θ hcx
  refine go ?_
  refine rgp (bo 3) ?_
  refine rgp (bo 4) ?_
  iterate 3 refine go ?_
  refine rgp (op_len_vs (n := a3.length) rfl rfl (lenR eLGStmt_map) slc_38 rfl rfl) ?_
  iterate 2 refine go ?_
  obtain ⟨lr106, hF, hK107⟩ := bs hF
  refine aw_for ((a3.length - 0 : Int).toNat + 1) (fun s1 => s1 = ⟨56, [(0, some (.lp 0 0))], [(0, some (.box 81 [.pv (.vs 7 (List.map eGClass b0_0)), .ls 1, .ls 2])), (1, some (.dict Tryz.prog 79 lr106.1 lr106.2.1)), (2, some (.row 59 2 (List.map (eA2 eI) lr106.2.2)))], 3, [], [], 0, [0]⟩) ?_ ?_
  ·refine rnd_loop (α := Nat × (List UInt8 → Option Int) × (List (A2 Int)) × Int) (fun q => ⟨56, [(0, some (.lp 0 0)), (5, some (.lp 3 0)), (6, some (.lp 4 0)), (12, some (.pv (.vs 23 (eLGStmt a3)))), (13, some (.pv (.int .i64 (a3.length : Int)))), (14, some (.pv (.int .i64 q.2.2.2)))], [(0, some (.box 81 [.pv (.vs 7 (List.map eGClass b0_0)), .ls 1, .ls 2])), (1, some (.dict Tryz.prog 79 q.1 q.2.1)), (2, some (.row 59 2 (List.map (eA2 eI) q.2.2.1))), (3, some (.box 32 (bxv (eGClass a1)))), (4, some (.box 40 (bxv (eGMethod a2))))], 5, [], [], 0, [0]⟩) (fun k q => __pure_walker__body_w_L1 a1 a2 a3 b0_0 __pure_walker__body_w_rec k q.1 q.2.1 q.2.2.1 q.2.2.2 = some lr106) (b1.1, b1.2, b2, 0) (impz [0, 1, 2, 3, 4]) hF (fun q h => by cases h) ?_
   clear hF
   rintro k ⟨x31, x32, x33, x34⟩ hF ih
   refine rnd_succ ?_
   iterate 3 refine go ?_
   refine aw_seq ?_
   refine cnd hF (fun hb69 hF => ?_) fun hb69 hF => ?_
   ·iterate 2 refine go ?_
    refine aw_seq ?_
    refine aw_block ?_
    refine go ?_
    obtain ⟨y72, h73, hF⟩ := bs hF
    refine rgp (ix (idxR eLGStmt_map h73) slc_38) ?_
    refine rgp (lw (eGStmt y72) agg_48) ?_
    refine rgp (al 5 (eGStmt zGStmt) zer_48) ?_
    iterate 2 refine go ?_
    refine aw_seq ?_
    obtain ⟨p89, hF, hK90⟩ := bs hF
    obtain ⟨x86, x87, x88⟩ := p89
    refine ctx ⟨56, [(0, some (.lp 0 0)), (5, some (.lp 3 0)), (6, some (.lp 4 0)), (9, some (.lp 5 0)), (12, some (.pv (.vs 23 (eLGStmt a3)))), (13, some (.pv (.int .i64 (a3.length : Int)))), (14, some (.pv (.int .i64 x34)))], [(0, some (.box 81 [.pv (.vs 7 (List.map eGClass b0_0)), .ls 1, .ls 2])), (1, some (.dict Tryz.prog 79 x86 x87)), (2, some (.row 59 2 (List.map (eA2 eI) x88))), (3, some (.box 32 (bxv (eGClass a1)))), (4, some (.box 40 (bxv (eGMethod a2)))), (5, some (.box 48 (bxv (eGStmt y72))))], 6, [], [], 0, [0]⟩ ?_ ?_
    ·refine go ?_
     refine rgp (la (eGClass a1) agg_32) ?_
     refine rgp (la (eGMethod a2) agg_40) ?_
     iterate 2 refine go ?_
     obtain ⟨y76, h77, hF⟩ := bs hF
     refine rgp (cl 6 [.agg (eGClass a1), .agg (eGMethod a2), .str y72.fY] [.p (.agg (eGType y76.1)), .p (.bool y76.2)] (scope_Type_ok h77)) ?_
     refine go ?_
     iterate 2 (refine rgp (op_extract rfl rfl rfl rfl rfl) ?_)
     refine rgp (al 6 (eGType zGType) zer_37) ?_
     iterate 3 refine go ?_
     refine aw_seq ?_
     obtain ⟨x80, hF, hK82⟩ := bs hF
     refine ctx ⟨56, [(0, some (.lp 0 0)), (5, some (.lp 3 0)), (6, some (.lp 4 0)), (9, some (.lp 5 0)), (10, some (.lp 6 0)), (12, some (.pv (.vs 23 (eLGStmt a3)))), (13, some (.pv (.int .i64 (a3.length : Int)))), (14, some (.pv (.int .i64 x34))), (36, some (.pv (.bool x80)))], [(0, some (.box 81 [.pv (.vs 7 (List.map eGClass b0_0)), .ls 1, .ls 2])), (1, some (.dict Tryz.prog 79 x31 x32)), (2, some (.row 59 2 (List.map (eA2 eI) x33))), (3, some (.box 32 (bxv (eGClass a1)))), (4, some (.box 40 (bxv (eGMethod a2)))), (5, some (.box 48 (bxv (eGStmt y72)))), (6, some (.box 37 (bxv (eGType y76.1))))], 7, [], [], 0, [0]⟩ ?_ ?_
     ·iterate 3 refine go ?_
      rcases ie hF with ⟨hb78, hF⟩ | ⟨hb78, hF⟩
      ·iterate 3 refine gn hb78 ?_
       refine rpt hb78 ?_
       refine go ?_
       rcases ie hF with ⟨hb79, hF⟩ | ⟨hb79, hF⟩
       ·iterate 3 refine gn hb79 ?_
        refine rpt hb79 ?_
        cases hF
        exact rcz [0, 1, 2, 3, 4, 5, 6]
       iterate 3 refine rgo_f hb79 ?_
       refine rpf hb79 ?_
       cases hF
       exact rcz [0, 1, 2, 3, 4, 5, 6]
      cases hF
     have hF := hK82
     refine go ?_
     refine cnd hF (fun hb83 hF => ?_) fun hb83 hF => ?_
     ·iterate 6 refine go ?_
      obtain ⟨y84, h85, hF⟩ := bs hF
      refine rgp (op_callW (args := [.lp 0 0, .pv (.str y76.1.fClass), .pv (.str y72.fName)]) [0, 1, 2] [0, 7, 8] [1, 2] 9 rfl rfl rfl rfl rfl cal_26 (__pure_walker__call_w_ok h85) rfl (by decide) ⟨rfl, rfl, rfl, trivial⟩ rfl (by decide) ⟨.inl rfl, .inr rfl, .inr rfl, trivial⟩ (by kernel_rfl) (by kernel_rfl) rfl rfl rfl rfl) ?_
      cases hF
      exact rcz [0, 7, 8, 3, 4, 5]
     refine go ?_
     cases hF
     exact pcz [0, 1, 2, 3, 4, 5]
    have hF := hK90
    iterate 3 refine go ?_
    refine rgp (la (eGClass a1) agg_32) ?_
    refine rgp (la (eGMethod a2) agg_40) ?_
    iterate 2 refine go ?_
    obtain ⟨y93, h94, hF⟩ := bs hF
    refine rgp (op_callW (args := [.lp 0 0, .pv (.agg (eGClass a1)), .pv (.agg (eGMethod a2)), .pv (.vs 23 (eLGStmt y72.fBody))]) [0, 1, 2] [0, 6, 7] [1, 2] 8 rfl rfl rfl rfl rfl cal_27 (__pure_walker__body_w_ih _ _ _ _ _ _ _ h94) rfl (by decide) ⟨rfl, rfl, rfl, trivial⟩ rfl (by decide) ⟨.inl rfl, .inr rfl, .inr rfl, trivial⟩ (by kernel_rfl) (by kernel_rfl) rfl rfl rfl rfl) ?_
    iterate 3 refine go ?_
    refine rgp (la (eGClass a1) agg_32) ?_
    refine rgp (la (eGMethod a2) agg_40) ?_
    iterate 2 refine go ?_
    obtain ⟨y97, h98, hF⟩ := bs hF
    refine rgp (op_callW (args := [.lp 0 0, .pv (.agg (eGClass a1)), .pv (.agg (eGMethod a2)), .pv (.vs 23 (eLGStmt y72.fElse))]) [0, 6, 7] [0, 8, 9] [6, 7] 10 rfl rfl rfl rfl rfl cal_27 (__pure_walker__body_w_ih _ _ _ _ _ _ _ h98) rfl (by decide) ⟨rfl, rfl, rfl, trivial⟩ rfl (by decide) ⟨.inl rfl, .inr rfl, .inr rfl, trivial⟩ (by kernel_rfl) (by kernel_rfl) rfl rfl rfl rfl) ?_
    refine reg_nil ?_
    refine piz ⟨56, [(0, some (.lp 0 0)), (5, some (.lp 3 0)), (6, some (.lp 4 0)), (12, some (.pv (.vs 23 (eLGStmt a3)))), (13, some (.pv (.int .i64 (a3.length : Int)))), (14, some (.pv (.int .i64 x34)))], [(0, some (.box 81 [.pv (.vs 7 (List.map eGClass b0_0)), .ls 1, .ls 2])), (1, some (.dict Tryz.prog 79 y97.1.1 y97.1.2)), (2, some (.row 59 2 (List.map (eA2 eI) y97.2))), (3, some (.box 32 (bxv (eGClass a1)))), (4, some (.box 40 (bxv (eGMethod a2))))], 5, [], [], 0, [0]⟩ [0, 8, 9, 3, 4] ?_
    iterate 5 refine go ?_
    refine rnr ?_
    exact rnd_back (ih (y97.1.1, y97.1.2, y97.2, w_i64 (x34 + 1)) hF) (impz [0, 1, 2, 3, 4])
   refine aw_exit ?_
   iterate 2 refine post_then_exit ?_
   cases hF
   exact post_lp_break _ rfl (impz [0, 1, 2])
  rintro _ rfl
  have hF := hK107
  obtain ⟨x103, x104, x105⟩ := lr106
  refine piz ⟨56, [(0, some (.lp 0 0))], [(0, some (.box 81 [.pv (.vs 7 (List.map eGClass b0_0)), .ls 1, .ls 2])), (1, some (.dict Tryz.prog 79 x103 x104)), (2, some (.row 59 2 (List.map (eA2 eI) x105)))], 3, [], [], 0, [0]⟩ [0, 1, 2] ?_
  cases hF
  exact post_retW hcx rfl .nil rfl (.inr rfl)
theorem __pure_walker__body_w_ok {n : Nat} {a1 : GClass} {a2 : GMethod} {a3 : List GStmt} {b0_0 : List GClass} {b1 : Nat × (List UInt8 → Option Int)} {b2 : List (A2 Int)} {r : (Nat × (List UInt8 → Option Int)) × (List (A2 Int))} (hF : __pure_walker__body_w n a1 a2 a3 b0_0 b1 b2 = some r) : Abs.FnW globs_Tryz Tryz.prog 27 [.lp 0 0, .pv (.agg (eGClass a1)), .pv (.agg (eGMethod a2)), .pv (.vs 23 (eLGStmt a3))] [(0, some (.box 81 [.pv (.vs 7 (List.map eGClass b0_0)), .ls 1, .ls 2])), (1, some (.dict Tryz.prog 79 b1.1 b1.2)), (2, some (.row 59 2 (List.map (eA2 eI) b2)))] 3 [(0, 0)] [] [(0, some (.box 81 [.pv (.vs 7 (List.map eGClass b0_0)), .ls 1, .ls 2])), (1, some (.dict Tryz.prog 79 r.1.1 r.1.2)), (2, some (.row 59 2 (List.map (eA2 eI) r.2)))] 3 := __pure_walker__body_w_ring n a1 a2 a3 b0_0 b1 b2 r hF

theorem pure_Runs_ok {a0 : List GClass} {a1 : List UInt8} {a2 : List UInt8} {r : (List (A2 Int))} (hF : pure_Runs a0 a1 a2 = some r) : FZ 14 [.vs 7 (List.map eGClass a0), .str a1, .str a2] [.own 59 2 (List.map (eA2 eI) r)] := by
 unfold pure_Runs at hF
 refine fn_of_body (n := 66) Tryz.func14 rfl rfl rfl fun w O => ?_
 iterate 5 refine go ?_
 refine rgp (op_makeMap2 0 rfl rfl Tryz_map2_79 rfl rfl) ?_
 refine rgp (op_buildM (zs := [.vs 7 (List.map eGClass zGwalker_pure.fp), .nilm, .nils]) (r := [.pv (.vs 7 (List.map eGClass a0)), .ls 0, .pv .nils]) rfl zer_81 (by exact ⟨trivial, rfl, rfl, trivial⟩) plc_81 rfl rfl rfl rfl) ?_
 refine rgp (bo 1) ?_
 refine reg_imp (imp_nil_box 1 2 81 59 2 2 rfl rfl rfl) ?_
 iterate 6 refine go ?_
 obtain ⟨y3, h4, hF⟩ := bs hF
 refine rgp (op_callW (args := [.lp 0 0, .pv (.str a1), .pv (.str a2)]) [1, 0, 2] [1, 3, 4] [0, 2] 5 rfl rfl rfl rfl rfl cal_26 (__pure_walker__call_w_ok h4) rfl (by decide) ⟨rfl, rfl, rfl, trivial⟩ rfl (by decide) ⟨.inl rfl, .inr rfl, .inr rfl, trivial⟩ (by kernel_rfl) (by kernel_rfl) rfl rfl rfl rfl) ?_
 iterate 5 refine go ?_
 obtain ⟨lr83, hF, hK84⟩ := bs hF
 refine aw_for ((a0.map fun c => c.fMethods.length).foldr (· + ·) 0 + 1) (fun s1 => s1 = (sX 66 [(7, some (.lp 0 0))] [(0, some (.box 81 [.pv (.vs 7 (List.map eGClass a0)), .ls 1, .ls 2])), (1, some (.dict Tryz.prog 79 lr83.1 lr83.2.1)), (2, some (.row 59 2 (List.map (eA2 eI) lr83.2.2)))] 3)) ?_ ?_
 ·refine rnd_loop (α := Nat × (List UInt8 → Option Int) × (List (A2 Int)) × Int) (fun q => (sX 66 [pf 0 (.vs 7 (List.map eGClass a0)), (7, some (.lp 0 0)), pf 8 (.int .i64 q.2.2.2)] [(0, some (.box 81 [.pv (.vs 7 (List.map eGClass a0)), .ls 1, .ls 2])), (1, some (.dict Tryz.prog 79 q.1 q.2.1)), (2, some (.row 59 2 (List.map (eA2 eI) q.2.2.1)))] 3)) (fun k q => pure_Runs_L1 a0 a1 k q.1 q.2.1 q.2.2.1 q.2.2.2 = some lr83) (y3.1.1, y3.1.2, y3.2, 0) (impz [1, 3, 4]) hF (fun q h => by cases h) ?_
  clear hF
  rintro k ⟨x26, x27, x28, x29⟩ hF ih
  refine rnd_succ ?_
  iterate 4 refine go ?_
  refine rgp (op_nilCheck rfl rfl rfl rfl rfl) ?_
  iterate 2 refine go ?_
  refine rgp (op_len_ls (n := x28.length) rfl rfl rfl (List.length_map ..) slc_57 rfl rfl) ?_
  iterate 2 refine go ?_
  refine cnd hF (fun hb55 hF => ?_) fun hb55 hF => ?_
  ·iterate 2 refine go ?_
   refine aw_seq ?_
   refine aw_block ?_
   iterate 3 refine go ?_
   refine rgp (op_nilCheck rfl rfl rfl rfl rfl) ?_
   iterate 3 refine go ?_
   obtain ⟨y60, h61, hF⟩ := bs hF
   refine rgp (op_index_ls (k := .i64) rfl rfl rfl rfl (idx_map (eA2 eI) h61) slc_57 rfl rfl) ?_
   refine rgp (op_arr_le (k := .i64) (m := 0) (n := 2) rfl rfl rfl arr_59 rfl rfl rfl rfl) ?_
   refine rgp (op_load_le (p := .int .i64 y60.a0) rfl rfl rfl (map_get (eA2 eI) h61) rfl one_3 rfl rfl) ?_
   obtain ⟨y62, h63, hF⟩ := bs hF
   refine rgp (ix (idx_map eGClass h63) slc_22) ?_
   refine rgp (lw (eGClass y62) agg_32) ?_
   refine rgp (al 3 (eGClass zGClass) zer_32) ?_
   iterate 2 refine go ?_
   refine aw_seq ?_
   refine aw_imp (imp_names 1) ?_
   refine dr_start ⟨_, _, _⟩ rfl ?_
   iterate 3 refine dgo ?_
   refine dr_cons { need := [(41, .lp 0 0)], dst := some 42, val := some (.lp 0 0) } (fun m h => step_on (guard_no rfl) (op_nilCheck rfl h.1.1 rfl rfl rfl) rfl) ⟨⟨rfl, trivial⟩, trivial, trivial⟩ ?_
   iterate 3 refine dgo ?_
   obtain ⟨y68, h69, hF⟩ := bs hF
   refine dr_cons { need := [(44, .ls 2), (45, .pv (.int .i64 x29))], hneed := [(2, .row 59 2 (List.map (eA2 eI) x28))], dst := some 46, val := some (.le 2 2 (x29 : Int).toNat 0) } (fun m h => step_on (guard_no rfl) (op_index_ls (k := .i64) rfl h.1.1 h.1.2.1 h.2.1.1 (idx_map (eA2 eI) h69) slc_57 rfl rfl) rfl) ⟨⟨rfl, rfl, trivial⟩, ⟨rfl, trivial⟩, trivial⟩ ?_
   refine dr_cons { need := [(46, .le 2 2 (x29 : Int).toNat 0)], dst := some 47, val := some (.le 2 2 (x29 : Int).toNat 1) } (fun m h => step_on (guard_no rfl) (op_arr_le (k := .i64) (m := 1) (n := 2) rfl h.1.1 rfl arr_59 rfl rfl rfl rfl) rfl) ⟨⟨rfl, trivial⟩, trivial, trivial⟩ ?_
   refine dr_cons { need := [(47, .le 2 2 (x29 : Int).toNat 1)], hneed := [(2, .row 59 2 (List.map (eA2 eI) x28))], dst := some 48, val := some (.pv (.int .i64 y68.a1)) } (fun m h => step_on (guard_no rfl) (op_load_le (p := .int .i64 y68.a1) rfl h.1.1 h.2.1.1 (map_get (eA2 eI) h69) rfl one_3 rfl rfl) rfl) ⟨⟨rfl, trivial⟩, ⟨rfl, trivial⟩, trivial⟩ ?_
   obtain ⟨y70, h71, hF⟩ := bs hF
   refine dr_cons { need := [(40, .pv (.vs 17 (List.map eGMethod y62.fMethods))), (48, .pv (.int .i64 y68.a1))], dst := some 49, val := some (.pv (.vp (eGMethod y70))) } (fun m h => step_on (guard_no rfl) (op_index_vs (k := .i64) rfl h.1.1 h.1.2.1 (idx_map eGMethod h71) slc_30 rfl rfl) rfl) ⟨⟨rfl, rfl, trivial⟩, trivial, trivial⟩ ?_
   refine dr_cons { need := [(49, .pv (.vp (eGMethod y70)))], dst := some 50, val := some (.pv (.agg (eGMethod y70))) } (fun m h => step_on (guard_no rfl) (op_load_vp_agg (ps := eGMethod y70) rfl h.1.1 rfl rfl agg_40 rfl rfl) rfl) ⟨⟨rfl, trivial⟩, trivial, trivial⟩ ?_
   refine dr_cons { names := [4], dst := some 10, val := some (.lp 4 0), upd := [(4, some (.box 40 (bxv (eGMethod zGMethod))))] } (fun m h => step_on (guard_no rfl) (op_alloc 4 (fresh_free h.2.2.1) (ps := (eGMethod zGMethod)) rfl zer_40 (by exact ⟨rfl, rfl, rfl, rfl, rfl, rfl, rfl, rfl, rfl, rfl, rfl, rfl, rfl, trivial, trivial, trivial, rfl, trivial⟩) rfl rfl) rfl) ⟨trivial, trivial, ⟨rfl, trivial⟩⟩ ?_
   refine dr_cons { need := [(10, .lp 4 0), (50, .pv (.agg (eGMethod y70)))], hneed := [(4, .box 40 (bxv (eGMethod zGMethod)))], upd := [(4, some (.box 40 (bxv (eGMethod y70))))] } (fun m h => step_on (guard_no rfl) (op_store_lp (n := 17) rfl h.1.1 h.1.2.1 rfl h.2.1.1 (or_agg agg_40) (by rw [non_40]; rfl) rfl rfl rfl) rfl) ⟨⟨rfl, rfl, trivial⟩, ⟨rfl, trivial⟩, trivial⟩ ?_
   refine dr_nil mixed rfl (by kernel_rfl) ?_
   refine piz (sX 66 [pf 0 (.vs 7 (List.map eGClass a0)), (7, some (.lp 0 0)), pf 8 (.int .i64 x29), (9, some (.lp 3 0)), (10, some (.lp 4 0))] [(0, some (.box 81 [.pv (.vs 7 (List.map eGClass a0)), .ls 1, .ls 2])), (1, some (.dict Tryz.prog 79 x26 x27)), (2, some (.row 59 2 (List.map (eA2 eI) x28))), bf 3 32 (eGClass y62), bf 4 40 (eGMethod y70)] 5) [0, 1, 2, 3, 4] ?_
   iterate 3 refine go ?_
   refine rgp (la (eGClass y62) agg_32) ?_
   refine rgp (la (eGMethod y70) agg_40) ?_
   iterate 2 refine go ?_
   obtain ⟨y74, h75, hF⟩ := bs hF
   refine rgp (op_callW (args := [.lp 0 0, .pv (.agg (eGClass y62)), .pv (.agg (eGMethod y70)), .pv (.vs 23 (eLGStmt y70.fBody))]) [0, 1, 2] [0, 5, 6] [1, 2] 7 rfl rfl rfl rfl rfl cal_27 (__pure_walker__body_w_ok h75) rfl (by decide) ⟨rfl, rfl, rfl, trivial⟩ rfl (by decide) ⟨.inl rfl, .inr rfl, .inr rfl, trivial⟩ (by kernel_rfl) (by kernel_rfl) rfl rfl rfl rfl) ?_
   refine reg_nil ?_
   refine piz (sX 66 [pf 0 (.vs 7 (List.map eGClass a0)), (7, some (.lp 0 0)), pf 8 (.int .i64 x29)] [(0, some (.box 81 [.pv (.vs 7 (List.map eGClass a0)), .ls 1, .ls 2])), (1, some (.dict Tryz.prog 79 y74.1.1 y74.1.2)), (2, some (.row 59 2 (List.map (eA2 eI) y74.2)))] 3) [0, 5, 6] ?_
   iterate 6 refine go ?_
   refine rnr ?_
   exact rnd_back (ih (y74.1.1, y74.1.2, y74.2, w_i64 (x29 + 1)) hF) (impz [0, 1, 2])
  refine aw_exit ?_
  iterate 2 refine post_then_exit ?_
  cases hF
  exact post_lp_break _ rfl (impz [0, 1, 2])
 rintro _ rfl
 have hF := hK84
 obtain ⟨x80, x81, x82⟩ := lr83
 iterate 3 refine go ?_
 refine rgp (op_nilCheck rfl rfl rfl rfl rfl) ?_
 iterate 2 refine go ?_
 obtain ⟨y87, h88, hF⟩ := bs hF
 refine rgp (op_callW (args := [.ls 0, .pv (.fn 29 [])]) [2] [2] [] 3 rfl rfl rfl rfl rfl cal_28 (sortP_ok h88) rfl (by decide) ⟨rfl, trivial⟩ rfl (by decide) ⟨.inl rfl, trivial⟩ (by kernel_rfl) (by kernel_rfl) rfl rfl rfl rfl) ?_
 iterate 3 refine go ?_
 refine rgp (op_nilCheck rfl rfl rfl rfl rfl) ?_
 iterate 5 refine go ?_
 cases hF
 exact post_ret rfl rfl (.cons _ _ _ _ _ (.tmp _ _ rfl) (.own _ _ _ _ rfl nolent3) .nil) (.inl rfl)
theorem law22_awake_ok  {r : Bool} (hF : law22_awake = some r) : FZ 7 [] [.p (.bool r)] := by
 unfold law22_awake at hF
 refine fn_of_body (n := 17) Tryz.func7 rfl rfl rfl fun w O => ?_
 iterate 4 refine go ?_
 obtain ⟨y3, h4, hF⟩ := bs hF
 refine rgp (cl 0 [.str [99, 108, 97, 115, 115, 32, 65, 32, 123, 32, 105, 110, 116, 32, 110, 59, 32, 112, 117, 114, 101, 32, 118, 111, 105, 100, 32, 109, 40, 41, 32, 123, 32, 116, 104, 105, 115, 46, 110, 32, 61, 32, 49, 59, 32, 125, 32, 118, 111, 105, 100, 32, 107, 40, 41, 32, 123, 32, 116, 104, 105, 115, 46, 109, 40, 41, 59, 32, 125, 32, 125]] [.p (.vs 7 (List.map eGClass y3.1)), .p (.agg (eGFault y3.2))] (Fn.frozen (ref09_Of_ok h4))) ?_
 refine go ?_
 iterate 2 (refine rgp (op_extract rfl rfl rfl rfl rfl) ?_)
 refine rgp (al 0 (eGFault zGFault) zer_55) ?_
 iterate 5 refine go ?_
 obtain ⟨y5, h6, hF⟩ := bs hF
 refine rgp (cl 1 [.vs 7 (List.map eGClass y3.1)] [.p (.agg (eGFault y5))] (pure_Check_ok h6)) ?_
 refine rgp (bd ((eGFault zGFault)) (eGFault ({ fErr := 20, fAt := 33 } : GFault)) zer_55 plc_55) ?_
 refine rgp (op_eqAgg_eql (r := bGFault y5 ({ fErr := 20, fAt := 33 } : GFault)) rfl rfl rfl eqt_55 rfl rfl rfl rfl rfl) ?_
 refine go ?_
 rcases ie hF with ⟨hb7, hF⟩ | ⟨hb7, hF⟩
 ·refine gn hb7 ?_
  obtain ⟨y8, h9, hF⟩ := bs hF
  refine rgn hb7 (cl 1 [.vs 7 (List.map eGClass y3.1), .str [65], .str [107]] [.p (.vs 2 (List.map (eA2 eI) y8))] (Fn.frozen (pure_Runs_ok h9))) ?_
  iterate 2 refine gn hb7 ?_
  refine rpt hb7 ?_
  iterate 3 refine go ?_
  cases hF
  exact prt
 cases hF
theorem ref12_lines_ring : ∀ n : Nat, (∀ (a0 : List GStmt) (a1 : GLine_ref12) (r : (List GLine_ref12)), ref12_lines n a0 a1 = some r → FZ 22 [.vs 23 (eLGStmt a0), .agg (eGLine_ref12 a1)] [.own 50 26 (List.map eGLine_ref12 r)]) := by
 intro n
 induction n with
 | zero => exact (fun _ _ _ h => by simp [ref12_lines] at h)
 | succ n ih =>
  have ref12_lines_ih := ih
  clear ih
  intro a0 a1 r hF
  unfold ref12_lines at hF
  revert hF ref12_lines_ih
  generalize ref12_lines n = ref12_lines_rec
  intro ref12_lines_ih hF
  refine fn_of_body (n := 47) Tryz.func22 rfl rfl rfl fun w O => ?_
  refine go ?_
  refine rgp (bo 0) ?_
  iterate 4 refine go ?_
  refine reg_imp (imp_nil_own 5 50 26 1 rfl rfl) ?_
  iterate 5 refine go ?_
  obtain ⟨x106, hF, hK107⟩ := bs hF
  refine aw_for ((a0.length - 0 : Int).toNat + 1) (fun s1 => s1 = (sX 47 [(5, some (.ls 0))] [(0, some (.row 50 26 (List.map eGLine_ref12 x106)))] 1)) ?_ ?_
  ·refine rnd_loop (α := (List GLine_ref12) × Int) (fun q => (sX 47 [pf 0 (.vs 23 (eLGStmt a0)), (3, some (.lp 0 0)), (5, some (.ls 1)), pf 6 (.int .i64 q.2)] [bf 0 50 (eGLine_ref12 a1), (1, some (.row 50 26 (List.map eGLine_ref12 q.1)))] 2)) (fun k q => ref12_lines_L1 a0 a1 ref12_lines_rec k q.1 q.2 = some x106) ([], 0) (impz [0, 1]) hF (fun q h => by cases h) ?_
   clear hF
   rintro k ⟨x34, x35⟩ hF ih
   refine rnd_succ ?_
   iterate 4 refine go ?_
   refine rgp (op_len_vs (n := a0.length) rfl rfl (lenR eLGStmt_map) slc_38 rfl rfl) ?_
   iterate 2 refine go ?_
   refine cnd hF (fun hb71 hF => ?_) fun hb71 hF => ?_
   ·iterate 2 refine go ?_
    refine aw_seq ?_
    refine aw_block ?_
    refine go ?_
    refine rgp (la (eGLine_ref12 a1) agg_50) ?_
    refine rgp (al 2 (eGLine_ref12 zGLine_ref12) zer_50) ?_
    iterate 5 refine go ?_
    obtain ⟨y74, h75, hF⟩ := bs hF
    refine rgp (ix (idxR eLGStmt_map h75) slc_38) ?_
    refine rgp (lw (eGStmt y74) agg_48) ?_
    iterate 5 refine go ?_
    refine rgp (la (eGLine_ref12 ({ a1 with fS := y74 } : GLine_ref12)) agg_50) ?_
    refine rgp (op_lit (rows := List.map eGLine_ref12 ([({ a1 with fS := y74 } : GLine_ref12)] : List GLine_ref12)) (zs := (eGLine_ref12 zGLine_ref12)) rfl rfl slc_25 zer_50 (by exact ⟨rfl, rfl, rfl, rfl, rfl, rfl, rfl, rfl, rfl, rfl, rfl, rfl, rfl, rfl, rfl, rfl, rfl, rfl, rfl, rfl, rfl, trivial, trivial, trivial, trivial, rfl, trivial⟩) rfl rfl rfl rfl rfl rfl rfl rfl) ?_
    obtain ⟨u78, h79, hF⟩ := bs hF
    refine rgp (op_append 3 rfl rfl rfl rfl rfl slc_25 elm_50 zer_50 rfl rfl rfl (room_map (f := eGLine_ref12) (g := eGLine_ref12) h79) (List.map_append (f := eGLine_ref12) (l₁ := x34) (l₂ := [({ a1 with fS := y74 } : GLine_ref12)])).symm rfl rfl) ?_
    iterate 9 refine go ?_
    refine aw_seq ?_
    refine aw_imp (imp_names 1) ?_
    refine dr_start ⟨_, _, _⟩ rfl ?_
    iterate 3 refine dgo ?_
    obtain ⟨y86, h87, hF⟩ := bs hF
    refine dr_cons { need := [(29, .pv (.vs 23 (eLGStmt a0))), (30, .pv (.int .i64 x35))], dst := some 31, val := some (.pv (.vp (eGStmt y86))) } (fun m h => step_on (guard_no rfl) (op_index_vs (k := .i64) rfl h.1.1 h.1.2.1 (idxR eLGStmt_map h87) slc_38 rfl rfl) rfl) ⟨⟨rfl, rfl, trivial⟩, trivial, trivial⟩ ?_
    refine dr_cons { need := [(31, .pv (.vp (eGStmt y86)))], dst := some 32, val := some (.pv (.vp (List.drop 20 (eGStmt y86)))) } (fun m h => step_on (guard_no rfl) (op_field_vp rfl h.1.1 fld_48_7 rfl rfl) rfl) ⟨⟨rfl, trivial⟩, trivial, trivial⟩ ?_
    refine dr_cons { need := [(32, .pv (.vp (List.drop 20 (eGStmt y86))))], dst := some 33, val := some (.pv (.vs 23 (eLGStmt y86.fBody))) } (fun m h => step_on (guard_no rfl) (op_load_vp (p := .vs 23 (eLGStmt y86.fBody)) rfl h.1.1 rfl one_38 rfl rfl) rfl) ⟨⟨rfl, trivial⟩, trivial, trivial⟩ ?_
    refine dr_cons { need := [(7, .lp 2 0)], hneed := [(2, .box 50 (bxv (eGLine_ref12 ({ ({ a1 with fS := y74 } : GLine_ref12) with fDeep := w_i64 ((({ a1 with fS := y74 } : GLine_ref12).fDeep) + 1) } : GLine_ref12))))], dst := some 34, val := some (.pv (.agg (eGLine_ref12 ({ ({ a1 with fS := y74 } : GLine_ref12) with fDeep := w_i64 ((({ a1 with fS := y74 } : GLine_ref12).fDeep) + 1) } : GLine_ref12)))) } (fun m h => step_on (guard_no rfl) (op_load_lp_agg (ps := eGLine_ref12 ({ ({ a1 with fS := y74 } : GLine_ref12) with fDeep := w_i64 ((({ a1 with fS := y74 } : GLine_ref12).fDeep) + 1) } : GLine_ref12)) rfl h.1.1 h.2.1.1 rfl rfl rfl agg_50 rfl rfl) rfl) ⟨⟨rfl, trivial⟩, ⟨rfl, trivial⟩, trivial⟩ ?_
    obtain ⟨y88, h89, hF⟩ := bs hF
    refine dr_cons { need := [(34, .pv (.agg (eGLine_ref12 ({ ({ a1 with fS := y74 } : GLine_ref12) with fDeep := w_i64 ((({ a1 with fS := y74 } : GLine_ref12).fDeep) + 1) } : GLine_ref12)))), (33, .pv (.vs 23 (eLGStmt y86.fBody)))], dst := some 35, val := some (.pv (.vs 26 (List.map eGLine_ref12 y88))) } (fun m h => step_on (guard_no rfl) (op_call 5 rfl (caps := []) (args := [.vs 23 (eLGStmt y86.fBody), .agg (eGLine_ref12 ({ ({ a1 with fS := y74 } : GLine_ref12) with fDeep := w_i64 ((({ a1 with fS := y74 } : GLine_ref12).fDeep) + 1) } : GLine_ref12))]) (rs := [.p (.vs 26 (List.map eGLine_ref12 y88))]) rfl rfl (evl_cons h.1.2.1 (evl_cons h.1.1 evl_nil)) cal_22 (Fn.frozen (ref12_lines_ih _ _ _ h89)) rfl rfl rfl) rfl) ⟨⟨rfl, rfl, trivial⟩, trivial, trivial⟩ ?_
    obtain ⟨u90, h91, hF⟩ := bs hF
    refine dr_cons { need := [(28, .ls 3), (35, .pv (.vs 26 (List.map eGLine_ref12 y88)))], hneed := [(3, .row 50 26 (List.map eGLine_ref12 (x34 ++ [({ a1 with fS := y74 } : GLine_ref12)])))], names := [4], dst := some 36, val := some (.ls 4), upd := [(4, some (.row 50 26 (List.map eGLine_ref12 ((x34 ++ [({ a1 with fS := y74 } : GLine_ref12)]) ++ y88)))), (3, none)] } (fun m h => step_on (guard_no rfl) (op_append 4 (fresh_free h.2.2.1) rfl h.1.1 h.2.1.1 h.1.2.1 slc_25 elm_50 zer_50 rfl rfl rfl (room_map (f := eGLine_ref12) (g := eGLine_ref12) h91) (List.map_append (f := eGLine_ref12) (l₁ := (x34 ++ [({ a1 with fS := y74 } : GLine_ref12)])) (l₂ := y88)).symm rfl rfl) rfl) ⟨⟨rfl, rfl, trivial⟩, ⟨rfl, trivial⟩, ⟨rfl, trivial⟩⟩ ?_
    refine dr_cons { need := [(36, .ls 4)], dst := some 5, val := some (.ls 4) } (fun m h => step_on (guard_no rfl) (op_assign rfl h.1.1 rfl rfl) rfl) ⟨⟨rfl, trivial⟩, trivial, trivial⟩ ?_
    refine dr_nil mixed rfl (by kernel_rfl) ?_
    refine piz (sX 47 [pf 0 (.vs 23 (eLGStmt a0)), (3, some (.lp 0 0)), (5, some (.ls 1)), pf 6 (.int .i64 x35), (7, some (.lp 2 0))] [bf 0 50 (eGLine_ref12 a1), (1, some (.row 50 26 (List.map eGLine_ref12 ((x34 ++ [({ a1 with fS := y74 } : GLine_ref12)]) ++ y88)))), bf 2 50 (eGLine_ref12 ({ ({ a1 with fS := y74 } : GLine_ref12) with fDeep := w_i64 ((({ a1 with fS := y74 } : GLine_ref12).fDeep) + 1) } : GLine_ref12))] 3) [0, 4, 2] ?_
    refine go ?_
    refine aw_imp (imp_names 1) ?_
    refine dr_start ⟨_, _, _⟩ rfl ?_
    iterate 3 refine dgo ?_
    obtain ⟨y98, h99, hF⟩ := bs hF
    refine dr_cons { need := [(38, .pv (.vs 23 (eLGStmt a0))), (39, .pv (.int .i64 x35))], dst := some 40, val := some (.pv (.vp (eGStmt y98))) } (fun m h => step_on (guard_no rfl) (op_index_vs (k := .i64) rfl h.1.1 h.1.2.1 (idxR eLGStmt_map h99) slc_38 rfl rfl) rfl) ⟨⟨rfl, rfl, trivial⟩, trivial, trivial⟩ ?_
    refine dr_cons { need := [(40, .pv (.vp (eGStmt y98)))], dst := some 41, val := some (.pv (.vp (List.drop 21 (eGStmt y98)))) } (fun m h => step_on (guard_no rfl) (op_field_vp rfl h.1.1 fld_48_8 rfl rfl) rfl) ⟨⟨rfl, trivial⟩, trivial, trivial⟩ ?_
    refine dr_cons { need := [(41, .pv (.vp (List.drop 21 (eGStmt y98))))], dst := some 42, val := some (.pv (.vs 23 (eLGStmt y98.fElse))) } (fun m h => step_on (guard_no rfl) (op_load_vp (p := .vs 23 (eLGStmt y98.fElse)) rfl h.1.1 rfl one_38 rfl rfl) rfl) ⟨⟨rfl, trivial⟩, trivial, trivial⟩ ?_
    refine dr_cons { need := [(7, .lp 2 0)], hneed := [(2, .box 50 (bxv (eGLine_ref12 ({ ({ a1 with fS := y74 } : GLine_ref12) with fDeep := w_i64 ((({ a1 with fS := y74 } : GLine_ref12).fDeep) + 1) } : GLine_ref12))))], dst := some 43, val := some (.pv (.agg (eGLine_ref12 ({ ({ a1 with fS := y74 } : GLine_ref12) with fDeep := w_i64 ((({ a1 with fS := y74 } : GLine_ref12).fDeep) + 1) } : GLine_ref12)))) } (fun m h => step_on (guard_no rfl) (op_load_lp_agg (ps := eGLine_ref12 ({ ({ a1 with fS := y74 } : GLine_ref12) with fDeep := w_i64 ((({ a1 with fS := y74 } : GLine_ref12).fDeep) + 1) } : GLine_ref12)) rfl h.1.1 h.2.1.1 rfl rfl rfl agg_50 rfl rfl) rfl) ⟨⟨rfl, trivial⟩, ⟨rfl, trivial⟩, trivial⟩ ?_
    obtain ⟨y100, h101, hF⟩ := bs hF
    refine dr_cons { need := [(43, .pv (.agg (eGLine_ref12 ({ ({ a1 with fS := y74 } : GLine_ref12) with fDeep := w_i64 ((({ a1 with fS := y74 } : GLine_ref12).fDeep) + 1) } : GLine_ref12)))), (42, .pv (.vs 23 (eLGStmt y98.fElse)))], dst := some 44, val := some (.pv (.vs 26 (List.map eGLine_ref12 y100))) } (fun m h => step_on (guard_no rfl) (op_call 4 rfl (caps := []) (args := [.vs 23 (eLGStmt y98.fElse), .agg (eGLine_ref12 ({ ({ a1 with fS := y74 } : GLine_ref12) with fDeep := w_i64 ((({ a1 with fS := y74 } : GLine_ref12).fDeep) + 1) } : GLine_ref12))]) (rs := [.p (.vs 26 (List.map eGLine_ref12 y100))]) rfl rfl (evl_cons h.1.2.1 (evl_cons h.1.1 evl_nil)) cal_22 (Fn.frozen (ref12_lines_ih _ _ _ h101)) rfl rfl rfl) rfl) ⟨⟨rfl, rfl, trivial⟩, trivial, trivial⟩ ?_
    obtain ⟨u102, h103, hF⟩ := bs hF
    refine dr_cons { need := [(37, .ls 1), (44, .pv (.vs 26 (List.map eGLine_ref12 y100)))], hneed := [(1, .row 50 26 (List.map eGLine_ref12 ((x34 ++ [({ a1 with fS := y74 } : GLine_ref12)]) ++ y88)))], names := [3], dst := some 45, val := some (.ls 3), upd := [(3, some (.row 50 26 (List.map eGLine_ref12 (((x34 ++ [({ a1 with fS := y74 } : GLine_ref12)]) ++ y88) ++ y100)))), (1, none)] } (fun m h => step_on (guard_no rfl) (op_append 3 (fresh_free h.2.2.1) rfl h.1.1 h.2.1.1 h.1.2.1 slc_25 elm_50 zer_50 rfl rfl rfl (room_map (f := eGLine_ref12) (g := eGLine_ref12) h103) (List.map_append (f := eGLine_ref12) (l₁ := ((x34 ++ [({ a1 with fS := y74 } : GLine_ref12)]) ++ y88)) (l₂ := y100)).symm rfl rfl) rfl) ⟨⟨rfl, rfl, trivial⟩, ⟨rfl, trivial⟩, ⟨rfl, trivial⟩⟩ ?_
    refine dr_cons { need := [(45, .ls 3)], dst := some 5, val := some (.ls 3) } (fun m h => step_on (guard_no rfl) (op_assign rfl h.1.1 rfl rfl) rfl) ⟨⟨rfl, trivial⟩, trivial, trivial⟩ ?_
    refine dr_nil mixed rfl (by kernel_rfl) ?_
    refine piz (sX 47 [pf 0 (.vs 23 (eLGStmt a0)), (3, some (.lp 0 0)), (5, some (.ls 1)), pf 6 (.int .i64 x35)] [bf 0 50 (eGLine_ref12 a1), (1, some (.row 50 26 (List.map eGLine_ref12 (((x34 ++ [({ a1 with fS := y74 } : GLine_ref12)]) ++ y88) ++ y100))))] 2) [0, 3] ?_
    iterate 6 refine go ?_
    refine rnr ?_
    exact rnd_back (ih ((((x34 ++ [({ a1 with fS := y74 } : GLine_ref12)]) ++ y88) ++ y100), w_i64 (x35 + 1)) hF) (impz [0, 1])
   refine aw_exit ?_
   iterate 2 refine post_then_exit ?_
   cases hF
   exact post_lp_break _ rfl (impz [1])
  rintro _ rfl
  have hF := hK107
  iterate 6 refine go ?_
  cases hF
  exact post_ret rfl rfl (.cons _ _ _ _ _ (.tmp _ _ rfl) (.own _ _ _ _ rfl nolent3) .nil) (.inl rfl)
theorem ref12_lines_ok {n : Nat} {a0 : List GStmt} {a1 : GLine_ref12} {r : (List GLine_ref12)} (hF : ref12_lines n a0 a1 = some r) : FZ 22 [.vs 23 (eLGStmt a0), .agg (eGLine_ref12 a1)] [.own 50 26 (List.map eGLine_ref12 r)] := (ref12_lines_ring n) _ _ _ hF

theorem ref12_Stmts_ok {a0 : List GClass} {r : (List GLine_ref12)} (hF : ref12_Stmts a0 = some r) : FZ 8 [.vs 7 (List.map eGClass a0)] [.own 50 26 (List.map eGLine_ref12 r)] := by
 unfold ref12_Stmts at hF
 refine fn_of_body (n := 38) Tryz.func8 rfl rfl rfl fun w O => ?_
 iterate 5 refine go ?_
 refine reg_imp (imp_nil_own 3 50 26 0 rfl rfl) ?_
 iterate 5 refine go ?_
 obtain ⟨x229, hF, hK230⟩ := bs hF
 refine aw_for ((a0.length - 0 : Int).toNat + 1) (fun s1 => s1 = (sX 38 [(3, some (.ls 0))] [(0, some (.row 50 26 (List.map eGLine_ref12 x229)))] 1)) ?_ ?_
 ·refine rnd_loop (α := (List GLine_ref12) × Int) (fun q => (sX 38 [pf 0 (.vs 7 (List.map eGClass a0)), (3, some (.ls 0)), pf 4 (.int .i64 q.2)] [(0, some (.row 50 26 (List.map eGLine_ref12 q.1)))] 1)) (fun k q => ref12_Stmts_L1 a0 k q.1 q.2 = some x229) ([], 0) (impz [0]) hF (fun q h => by cases h) ?_
  clear hF
  rintro k ⟨x75, x76⟩ hF ih
  refine rnd_succ ?_
  iterate 7 refine go ?_
  refine cnd hF (fun hb153 hF => ?_) fun hb153 hF => ?_
  ·iterate 2 refine go ?_
   refine aw_seq ?_
   refine aw_block ?_
   iterate 3 refine go ?_
   obtain ⟨x223, hF, hK224⟩ := bs hF
   refine aw_for (Option.getD (Option.bind (idx a0 x76) fun (y225 : GClass) => some ((y225.fMethods.length - 0 : Int).toNat + 1)) 1) (fun s1 => s1 = (sX 38 [pf 0 (.vs 7 (List.map eGClass a0)), (3, some (.ls 0)), pf 4 (.int .i64 x76)] [(0, some (.row 50 26 (List.map eGLine_ref12 x223)))] 1)) ?_ ?_
   ·refine rnd_loop (α := (List GLine_ref12) × Int) (fun q => (sX 38 [pf 0 (.vs 7 (List.map eGClass a0)), (3, some (.ls 0)), pf 4 (.int .i64 x76), pf 5 (.int .i64 q.2)] [(0, some (.row 50 26 (List.map eGLine_ref12 q.1)))] 1)) (fun k q => ref12_Stmts_L2 a0 x76 k q.1 q.2 = some x223) (x75, 0) (impz [0]) hF (fun q h => by cases h) ?_
    clear hF
    rintro k ⟨x175, x176⟩ hF ih
    refine rnd_succ ?_
    iterate 5 refine go ?_
    obtain ⟨y202, h203, hF⟩ := bs hF
    refine rgp (ix (idx_map eGClass h203) slc_22) ?_
    iterate 5 refine go ?_
    refine cnd hF (fun hb204 hF => ?_) fun hb204 hF => ?_
    ·iterate 2 refine go ?_
     refine aw_seq ?_
     refine aw_block ?_
     iterate 4 refine go ?_
     obtain ⟨y213, h214, hF⟩ := bs hF
     refine rgp (ix (idx_map eGClass h214) slc_22) ?_
     iterate 3 refine go ?_
     obtain ⟨y215, h216, hF⟩ := bs hF
     refine rgp (ix (idx_map eGMethod h216) slc_30) ?_
     iterate 4 refine go ?_
     refine rgp (bd ((eGLine_ref12 zGLine_ref12)) (eGLine_ref12 ({ fClass := x76, fMethod := x176, fDeep := 0, fS := zGStmt } : GLine_ref12)) zer_50 plc_50) ?_
     obtain ⟨y217, h218, hF⟩ := bs hF
     refine rgp (cl 1 [.vs 23 (eLGStmt y215.fBody), .agg (eGLine_ref12 ({ fClass := x76, fMethod := x176, fDeep := 0, fS := zGStmt } : GLine_ref12))] [.p (.vs 26 (List.map eGLine_ref12 y217))] (Fn.frozen (ref12_lines_ok h218))) ?_
     obtain ⟨u219, h220, hF⟩ := bs hF
     refine rgp (op_append 1 rfl rfl rfl rfl rfl slc_25 elm_50 zer_50 rfl rfl rfl (room_map (f := eGLine_ref12) (g := eGLine_ref12) h220) (List.map_append (f := eGLine_ref12) (l₁ := x175) (l₂ := y217)).symm rfl rfl) ?_
     refine go ?_
     refine reg_nil ?_
     refine piz (sX 38 [pf 0 (.vs 7 (List.map eGClass a0)), (3, some (.ls 0)), pf 4 (.int .i64 x76), pf 5 (.int .i64 x176)] [(0, some (.row 50 26 (List.map eGLine_ref12 (x175 ++ y217))))] 1) [1] ?_
     iterate 6 refine go ?_
     refine rnr ?_
     exact rnd_back (ih ((x175 ++ y217), w_i64 (x176 + 1)) hF) (impz [0])
    refine aw_exit ?_
    iterate 2 refine post_then_exit ?_
    cases hF
    exact post_lp_break _ rfl (impz [0])
   rintro _ rfl
   have hF := hK224
   iterate 6 refine go ?_
   refine rnr ?_
   exact rnd_back (ih (x223, w_i64 (x76 + 1)) hF) (impz [0])
  refine aw_exit ?_
  iterate 2 refine post_then_exit ?_
  cases hF
  exact post_lp_break _ rfl (impz [0])
 rintro _ rfl
 have hF := hK230
 iterate 6 refine go ?_
 cases hF
 exact post_ret rfl rfl (.cons _ _ _ _ _ (.tmp _ _ rfl) (.own _ _ _ _ rfl nolent3) .nil) (.inl rfl)
theorem ref21_Place_ok {a0 : List GClass} {a1 : GLine_ref12} {r : GPlace_ref20} (hF : ref21_Place a0 a1 = some r) : FZ 9 [.vs 7 (List.map eGClass a0), .agg (eGLine_ref12 a1)] [.p (.agg (eGPlace_ref20 r))] := by
 unfold ref21_Place at hF
 refine fn_of_body (n := 22) Tryz.func9 rfl rfl rfl fun w O => ?_
 refine go ?_
 refine rgp (bo 0) ?_
 refine rgp (al 1 (eGPlace_ref20 zGPlace_ref20) zer_42) ?_
 refine go ?_
 refine aw_seq ?_
 refine dr_start ⟨_, _, _⟩ rfl ?_
 iterate 4 refine dgo ?_
 obtain ⟨y1, h2, hF⟩ := bs hF
 refine dr_cons { need := [(6, .pv (.vs 7 (List.map eGClass a0))), (8, .pv (.int .i64 a1.fClass))], dst := some 9, val := some (.pv (.vp (eGClass y1))) } (fun m h => step_on (guard_no rfl) (op_index_vs (k := .i64) rfl h.1.1 h.1.2.1 (idx_map eGClass h2) slc_22 rfl rfl) rfl) ⟨⟨rfl, rfl, trivial⟩, trivial, trivial⟩ ?_
 refine dr_cons { need := [(9, .pv (.vp (eGClass y1)))], dst := some 10, val := some (.pv (.agg (eGClass y1))) } (fun m h => step_on (guard_no rfl) (op_load_vp_agg (ps := eGClass y1) rfl h.1.1 rfl rfl agg_32 rfl rfl) rfl) ⟨⟨rfl, trivial⟩, trivial, trivial⟩ ?_
 iterate 3 refine dgo ?_
 obtain ⟨y3, h4, hF⟩ := bs hF
 refine dr_cons { need := [(11, .pv (.vs 7 (List.map eGClass a0))), (13, .pv (.int .i64 a1.fClass))], dst := some 14, val := some (.pv (.vp (eGClass y3))) } (fun m h => step_on (guard_no rfl) (op_index_vs (k := .i64) rfl h.1.1 h.1.2.1 (idx_map eGClass h4) slc_22 rfl rfl) rfl) ⟨⟨rfl, rfl, trivial⟩, trivial, trivial⟩ ?_
 refine dr_cons { need := [(14, .pv (.vp (eGClass y3)))], dst := some 15, val := some (.pv (.vp (List.drop 5 (eGClass y3)))) } (fun m h => step_on (guard_no rfl) (op_field_vp rfl h.1.1 fld_32_5 rfl rfl) rfl) ⟨⟨rfl, trivial⟩, trivial, trivial⟩ ?_
 refine dr_cons { need := [(15, .pv (.vp (List.drop 5 (eGClass y3))))], dst := some 16, val := some (.pv (.vs 17 (List.map eGMethod y3.fMethods))) } (fun m h => step_on (guard_no rfl) (op_load_vp (p := .vs 17 (List.map eGMethod y3.fMethods)) rfl h.1.1 rfl one_30 rfl rfl) rfl) ⟨⟨rfl, trivial⟩, trivial, trivial⟩ ?_
 iterate 2 refine dgo ?_
 obtain ⟨y5, h6, hF⟩ := bs hF
 refine dr_cons { need := [(16, .pv (.vs 17 (List.map eGMethod y3.fMethods))), (18, .pv (.int .i64 a1.fMethod))], dst := some 19, val := some (.pv (.vp (eGMethod y5))) } (fun m h => step_on (guard_no rfl) (op_index_vs (k := .i64) rfl h.1.1 h.1.2.1 (idx_map eGMethod h6) slc_30 rfl rfl) rfl) ⟨⟨rfl, rfl, trivial⟩, trivial, trivial⟩ ?_
 refine dr_cons { need := [(19, .pv (.vp (eGMethod y5)))], dst := some 20, val := some (.pv (.agg (eGMethod y5))) } (fun m h => step_on (guard_no rfl) (op_load_vp_agg (ps := eGMethod y5) rfl h.1.1 rfl rfl agg_40 rfl rfl) rfl) ⟨⟨rfl, trivial⟩, trivial, trivial⟩ ?_
 refine dr_cons { need := [(20, .pv (.agg (eGMethod y5))), (10, .pv (.agg (eGClass y1))), (5, .pv (.vs 7 (List.map eGClass a0)))], dst := some 21, val := some (.pv (.agg (eGPlace_ref20 ({ fP := a0, fC := y1, fM := y5 } : GPlace_ref20)))) } (fun m h => step_on (guard_no rfl) (op_build (zs := (eGPlace_ref20 zGPlace_ref20)) (r := eGPlace_ref20 ({ fP := a0, fC := y1, fM := y5 } : GPlace_ref20)) rfl zer_42 (by exact ⟨trivial, rfl, trivial, rfl, trivial, trivial, trivial, rfl, rfl, rfl, rfl, rfl, rfl, rfl, rfl, rfl, rfl, rfl, rfl, rfl, rfl, trivial, trivial, trivial, rfl, trivial⟩) plc_42 (evs_cons h.1.2.2.1 (evs_cons h.1.2.1 (evs_cons h.1.1 evs_nil))) rfl rfl rfl) rfl) ⟨⟨rfl, rfl, rfl, trivial⟩, trivial, trivial⟩ ?_
 refine dr_cons { need := [(4, .lp 1 0), (21, .pv (.agg (eGPlace_ref20 ({ fP := a0, fC := y1, fM := y5 } : GPlace_ref20))))], hneed := [(1, .box 42 (bxv (eGPlace_ref20 zGPlace_ref20)))], upd := [(1, some (.box 42 (bxv (eGPlace_ref20 ({ fP := a0, fC := y1, fM := y5 } : GPlace_ref20)))))] } (fun m h => step_on (guard_no rfl) (op_store_lp (n := 25) rfl h.1.1 h.1.2.1 rfl h.2.1.1 (or_agg agg_42) (by rw [non_42]; rfl) rfl rfl rfl) rfl) ⟨⟨rfl, rfl, trivial⟩, ⟨rfl, trivial⟩, trivial⟩ ?_
 refine dr_nil mixed rfl (by kernel_rfl) ?_
 refine piz (sX 22 [(4, some (.lp 0 0))] [bf 0 42 (eGPlace_ref20 ({ fP := a0, fC := y1, fM := y5 } : GPlace_ref20))] 1) [1] ?_
 iterate 2 refine go ?_
 cases hF
 exact post_ret rfl rfl (.cons _ _ _ _ _ (.agg _ _ _ _ _ 25 _ _ rfl rfl agg_42 rfl rfl rfl) (.p _) .nil) (.inl rfl)
theorem ref15_This_ok {a0 : GClass} {r : (List GOwner)} (hF : ref15_This a0 = some r) : FZ 146 [.agg (eGClass a0)] [.own 34 2 (List.map eGOwner r)] := by
 unfold ref15_This at hF
 refine fn_of_body (n := 21) Tryz.func146 rfl rfl rfl fun w O => ?_
 refine go ?_
 refine rgp (bo 0) ?_
 iterate 3 refine go ?_
 refine rgp (bd ((eGOwner zGOwner)) (eGOwner ({ fKind := 2, fN := 0 } : GOwner)) zer_34 plc_34) ?_
 refine rgp (op_litOwn 1 rfl (rows := List.map eGOwner ([({ fKind := 2, fN := 0 } : GOwner)] : List GOwner)) (zs := (eGOwner zGOwner)) rfl rfl slc_28 zer_34 (by exact ⟨rfl, rfl, trivial⟩) rfl rfl rfl rfl rfl rfl rfl rfl) ?_
 iterate 6 refine go ?_
 obtain ⟨x22, hF, hK23⟩ := bs hF
 refine aw_for ((a0.fParams.length - 0 : Int).toNat + 1) (fun s1 => s1 = (sX 21 [(3, some (.ls 0))] [(0, some (.row 34 2 (List.map eGOwner x22)))] 1)) ?_ ?_
 ·refine rnd_loop (α := (List GOwner) × Int) (fun q => (sX 21 [(1, some (.lp 0 0)), (3, some (.ls 1)), pf 4 (.int .i64 q.2)] [bf 0 32 (eGClass a0), (1, some (.row 34 2 (List.map eGOwner q.1)))] 2)) (fun k q => ref15_This_L1 a0 k q.1 q.2 = some x22) ([({ fKind := 2, fN := 0 } : GOwner)], 0) (impz [0, 1]) hF (fun q h => by cases h) ?_
  clear hF
  rintro k ⟨x6, x7⟩ hF ih
  refine rnd_succ ?_
  iterate 8 refine go ?_
  refine cnd hF (fun hb15 hF => ?_) fun hb15 hF => ?_
  ·iterate 2 refine go ?_
   refine aw_seq ?_
   refine aw_block ?_
   iterate 4 refine go ?_
   refine rgp (bd ((eGOwner zGOwner)) (eGOwner ({ fKind := 3, fN := w_i64 (x7 + 1) } : GOwner)) zer_34 plc_34) ?_
   refine rgp (op_lit (rows := List.map eGOwner ([({ fKind := 3, fN := w_i64 (x7 + 1) } : GOwner)] : List GOwner)) (zs := (eGOwner zGOwner)) rfl rfl slc_28 zer_34 (by exact ⟨rfl, rfl, trivial⟩) rfl rfl rfl rfl rfl rfl rfl rfl) ?_
   obtain ⟨u18, h19, hF⟩ := bs hF
   refine rgp (op_append 2 rfl rfl rfl rfl rfl slc_28 elm_34 zer_34 rfl rfl rfl (room_map (f := eGOwner) (g := eGOwner) h19) (List.map_append (f := eGOwner) (l₁ := x6) (l₂ := [({ fKind := 3, fN := w_i64 (x7 + 1) } : GOwner)])).symm rfl rfl) ?_
   refine go ?_
   refine reg_nil ?_
   refine piz (sX 21 [(1, some (.lp 0 0)), (3, some (.ls 1)), pf 4 (.int .i64 x7)] [bf 0 32 (eGClass a0), (1, some (.row 34 2 (List.map eGOwner (x6 ++ [({ fKind := 3, fN := w_i64 (x7 + 1) } : GOwner)]))))] 2) [0, 2] ?_
   iterate 6 refine go ?_
   refine rnr ?_
   exact rnd_back (ih ((x6 ++ [({ fKind := 3, fN := w_i64 (x7 + 1) } : GOwner)]), w_i64 (x7 + 1)) hF) (impz [0, 1])
  refine aw_exit ?_
  iterate 2 refine post_then_exit ?_
  cases hF
  exact post_lp_break _ rfl (impz [1])
 rintro _ rfl
 have hF := hK23
 iterate 6 refine go ?_
 cases hF
 exact post_ret rfl rfl (.cons _ _ _ _ _ (.tmp _ _ rfl) (.own _ _ _ _ rfl nolent3) .nil) (.inl rfl)
theorem ref18_This_ok {a0 : GClass} {r : GType} (hF : ref18_This a0 = some r) : FZ 110 [.agg (eGClass a0)] [.p (.agg (eGType r))] := by
 unfold ref18_This at hF
 refine fn_of_body (n := 29) Tryz.func110 rfl rfl rfl fun w O => ?_
 refine go ?_
 refine rgp (bo 0) ?_
 refine rgp (al 1 (eGType zGType) zer_37) ?_
 iterate 7 refine go ?_
 refine rgp (op_min2 rfl rfl rfl rfl rfl) ?_
 refine rgp (bd ((eGType zGType)) (eGType ({ fKind := 2, fClass := a0.fName, fN := (if (a0.fParams.length : Int) < 3 then (a0.fParams.length : Int) else 3), fOwn := (⟨zGOwner, zGOwner, zGOwner, zGOwner⟩ : A4 GOwner) } : GType)) zer_37 plc_37) ?_
 refine rgp (al 2 (eGType zGType) zer_37) ?_
 iterate 3 refine go ?_
 refine rgp (la (eGClass a0) agg_32) ?_
 obtain ⟨y3, h4, hF⟩ := bs hF
 refine rgp (cl 3 [.agg (eGClass a0)] [.p (.vs 2 (List.map eGOwner y3))] (Fn.frozen (ref15_This_ok h4))) ?_
 iterate 6 refine go ?_
 obtain ⟨x34, hF, hK35⟩ := bs hF
 refine aw_for 5 (fun s1 => s1 = (sX 29 [(2, some (.lp 0 0)), (3, some (.lp 1 0))] [bf 0 37 (eGType zGType), bf 1 37 (eGType x34)] 2)) ?_ ?_
 ·refine rnd_loop (α := GType × Int) (fun q => (sX 29 [(2, some (.lp 0 0)), (3, some (.lp 1 0)), pf 4 (.vs 2 (List.map eGOwner y3)), pf 5 (.int .i64 q.2)] [bf 0 37 (eGType zGType), bf 1 37 (eGType q.1)] 2)) (fun k q => ref18_This_L1 y3 k q.1 q.2 = some x34) (({ fKind := 2, fClass := a0.fName, fN := (if (a0.fParams.length : Int) < 3 then (a0.fParams.length : Int) else 3), fOwn := (⟨zGOwner, zGOwner, zGOwner, zGOwner⟩ : A4 GOwner) } : GType), 0) (impz [1, 2]) hF (fun q h => by cases h) ?_
  clear hF
  rintro k ⟨x10, x11⟩ hF ih
  refine rnd_succ ?_
  iterate 7 refine go ?_
  refine cnd hF (fun hb23 hF => ?_) fun hb23 hF => ?_
  ·iterate 2 refine go ?_
   refine aw_seq ?_
   refine aw_block ?_
   iterate 4 refine go ?_
   obtain ⟨y28, h29, hF⟩ := bs hF
   refine rgp (ix (idx_map eGOwner h29) slc_28) ?_
   refine rgp (lw (eGOwner y28) agg_34) ?_
   refine go ?_
   obtain ⟨y30, h31, hF⟩ := bs hF
   refine rgp (op_arr_lpN (l := (x10.fOwn).l) rfl rfl rfl arr_35 rfl h31 rfl rfl) ?_
   refine rgp (op_store_lpV (cells' := bxv (eGType ({ x10 with fOwn := (A4.set x10.fOwn (x11 : Int).toNat y28) } : GType))) (n := 2) rfl rfl rfl rfl rfl (or_agg agg_34) (by rw [non_34]; rfl) (by rcases idx_l4 h31 with e | e | e | e <;> rw [e] <;> exact Nat.le_of_ble_eq_true rfl) (by rcases idx_l4 h31 with e | e | e | e <;> rw [e] <;> rfl) rfl rfl) ?_
   refine reg_nil ?_
   refine piz (sX 29 [(2, some (.lp 0 0)), (3, some (.lp 1 0)), pf 4 (.vs 2 (List.map eGOwner y3)), pf 5 (.int .i64 x11)] [bf 0 37 (eGType zGType), bf 1 37 (eGType ({ x10 with fOwn := (A4.set x10.fOwn (x11 : Int).toNat y28) } : GType))] 2) [0, 1] ?_
   iterate 6 refine go ?_
   refine rnr ?_
   exact rnd_back (ih (({ x10 with fOwn := (A4.set x10.fOwn (x11 : Int).toNat y28) } : GType), w_i64 (x11 + 1)) hF) (impz [0, 1])
  refine aw_exit ?_
  iterate 2 refine post_then_exit ?_
  cases hF
  exact post_lp_break _ rfl (impz [0, 1])
 rintro _ rfl
 have hF := hK35
 iterate 2 refine go ?_
 refine rgp (la (eGType x34) agg_37) ?_
 iterate 3 refine go ?_
 cases hF
 exact post_ret rfl rfl (.cons _ _ _ _ _ (.agg _ _ _ _ _ 11 _ _ rfl rfl agg_37 rfl rfl rfl) (.p _) .nil) (.inl rfl)
theorem ref12_Vars_ok {a0 : GMethod} {r : (List GVar)} (hF : ref12_Vars a0 = some r) : FZ 112 [.agg (eGMethod a0)] [.own 99 13 (List.map eGVar r)] := by
 unfold ref12_Vars at hF
 refine fn_of_body (n := 10) Tryz.func112 rfl rfl rfl fun w O => ?_
 refine go ?_
 refine rgp (bo 0) ?_
 iterate 2 refine go ?_
 refine aw_seq ?_
 refine aw_imp (imp_names 3) ?_
 refine dr_start ⟨_, _, _⟩ rfl ?_
 refine dr_cons { names := [1], dst := some 3, val := some (.ls 1), upd := [(1, some (.row 99 13 (List.map eGVar ([] : List GVar))))] } (fun m h => step_on (guard_no rfl) (op_litOwn 1 (fresh_free h.2.2.1) (rows := List.map eGVar ([] : List GVar)) (zs := (eGVar zGVar)) rfl rfl slc_29 zer_99 (by exact ⟨rfl, rfl, rfl, rfl, rfl, rfl, rfl, rfl, rfl, rfl, rfl, rfl, rfl, trivial⟩) rfl rfl rfl evs_nil rfl rfl rfl rfl) rfl) ⟨trivial, trivial, ⟨rfl, trivial⟩⟩ ?_
 iterate 2 refine dgo ?_
 obtain ⟨u1, h2, hF⟩ := bs hF
 refine dr_cons { need := [(3, .ls 1), (5, .pv (.vs 13 (List.map eGVar a0.fParams)))], hneed := [(1, .row 99 13 (List.map eGVar ([] : List GVar)))], names := [2], dst := some 6, val := some (.ls 2), upd := [(2, some (.row 99 13 (List.map eGVar (([] : List GVar) ++ a0.fParams)))), (1, none)] } (fun m h => step_on (guard_no rfl) (op_append 2 (fresh_free h.2.2.1) rfl h.1.1 h.2.1.1 h.1.2.1 slc_29 elm_99 zer_99 rfl rfl rfl (room_map (f := eGVar) (g := eGVar) h2) (List.map_append (f := eGVar) (l₁ := ([] : List GVar)) (l₂ := a0.fParams)).symm rfl rfl) rfl) ⟨⟨rfl, rfl, trivial⟩, ⟨rfl, trivial⟩, ⟨rfl, trivial⟩⟩ ?_
 iterate 2 refine dgo ?_
 obtain ⟨u3, h4, hF⟩ := bs hF
 refine dr_cons { need := [(6, .ls 2), (8, .pv (.vs 13 (List.map eGVar a0.fLocals)))], hneed := [(2, .row 99 13 (List.map eGVar (([] : List GVar) ++ a0.fParams)))], names := [3], dst := some 9, val := some (.ls 3), upd := [(3, some (.row 99 13 (List.map eGVar ((([] : List GVar) ++ a0.fParams) ++ a0.fLocals)))), (2, none)] } (fun m h => step_on (guard_no rfl) (op_append 3 (fresh_free h.2.2.1) rfl h.1.1 h.2.1.1 h.1.2.1 slc_29 elm_99 zer_99 rfl rfl rfl (room_map (f := eGVar) (g := eGVar) h4) (List.map_append (f := eGVar) (l₁ := (([] : List GVar) ++ a0.fParams)) (l₂ := a0.fLocals)).symm rfl rfl) rfl) ⟨⟨rfl, rfl, trivial⟩, ⟨rfl, trivial⟩, ⟨rfl, trivial⟩⟩ ?_
 refine dr_cons { need := [(9, .ls 3)], dst := some 2, val := some (.ls 3) } (fun m h => step_on (guard_no rfl) (op_assign rfl h.1.1 rfl rfl) rfl) ⟨⟨rfl, trivial⟩, trivial, trivial⟩ ?_
 refine dr_nil mixed rfl (by kernel_rfl) ?_
 refine piz (sX 10 [(2, some (.ls 0))] [(0, some (.row 99 13 (List.map eGVar ((([] : List GVar) ++ a0.fParams) ++ a0.fLocals))))] 1) [3] ?_
 iterate 2 refine go ?_
 cases hF
 exact post_ret rfl rfl (.cons _ _ _ _ _ (.tmp _ _ rfl) (.own _ _ _ _ rfl nolent3) .nil) (.inl rfl)
theorem ref18_Place_ok {a0 : GMethod} {a1 : List UInt8} {r : Int} (hF : ref18_Place a0 a1 = some r) : FZ 111 [.agg (eGMethod a0), .str a1] [.p (.int .i64 r)] := by
 unfold ref18_Place at hF
 refine fn_of_body (n := 23) Tryz.func111 rfl rfl rfl fun w O => ?_
 refine go ?_
 refine rgp (bo 0) ?_
 iterate 3 refine go ?_
 refine rgp (la (eGMethod a0) agg_40) ?_
 obtain ⟨y3, h4, hF⟩ := bs hF
 refine rgp (cl 1 [.agg (eGMethod a0)] [.p (.vs 13 (List.map eGVar y3))] (Fn.frozen (ref12_Vars_ok h4))) ?_
 iterate 6 refine go ?_
 obtain ⟨lr26, hF, hK27⟩ := bs hF
 refine aw_for ((y3.length - 0 : Int).toNat + 1) (fun s1 => ∃ q, lr26 = .next q ∧ s1 = (sX 23 [] [] 0)) ?_ ?_
 ·refine rnd_loop (α := Int) (fun q => (sX 23 [pf 1 (.str a1), pf 5 (.vs 13 (List.map eGVar y3)), pf 6 (.int .i64 q)] [] 0)) (fun k q => ref18_Place_L1 a1 y3 k q = some lr26) 0 (impz []) hF (fun q h => by cases h) ?_
  clear hF
  rintro k x11 hF ih
  refine rnd_succ ?_
  iterate 7 refine go ?_
  refine cnd hF (fun hb19 hF => ?_) fun hb19 hF => ?_
  ·iterate 2 refine go ?_
   refine aw_seq ?_
   refine aw_block ?_
   iterate 3 refine go ?_
   obtain ⟨y22, h23, hF⟩ := bs hF
   refine rgp (ix (idx_map eGVar h23) slc_29) ?_
   iterate 3 refine go ?_
   refine rgp (op_str rfl rfl rfl rfl rfl rfl) ?_
   refine go ?_
   refine cnd hF (fun hb24 hF => ?_) fun hb24 hF => ?_
   ·iterate 8 refine go ?_
    refine post_lp_ret ?_
    cases hF
    have hF := elim_stop hK27
    refine go ?_
    cases hF
    exact prt
   iterate 7 refine go ?_
   refine rnr ?_
   exact rnd_back (ih (w_i64 (x11 + 1)) hF) (impz [])
  refine aw_exit ?_
  iterate 2 refine post_then_exit ?_
  cases hF
  exact post_lp_break _ ⟨_, rfl, rfl⟩ (impz [])
 rintro _ ⟨⟨⟩, rfl, rfl⟩
 have hF := elim_next hK27
 clear hK27
 iterate 5 refine go ?_
 cases hF
 exact prt
theorem ref18_Type_ok {a0 : GClass} {a1 : GMethod} {a2 : List UInt8} {r : GType × Bool} (hF : ref18_Type a0 a1 a2 = some r) : FZ 61 [.agg (eGClass a0), .agg (eGMethod a1), .str a2] [.p (.agg (eGType r.1)), .p (.bool r.2)] := by
 unfold ref18_Type at hF
 refine fn_of_body (n := 25) Tryz.func61 rfl rfl rfl fun w O => ?_
 refine go ?_
 refine rgp (bo 0) ?_
 refine rgp (bo 1) ?_
 refine rgp (al 2 (eGType zGType) zer_37) ?_
 iterate 5 refine go ?_
 refine rgp (op_str rfl rfl rfl rfl rfl rfl) ?_
 refine go ?_
 refine cnd hF (fun hb1 hF => ?_) fun hb1 hF => ?_
 ·refine go ?_
  refine rgp (la (eGClass a0) agg_32) ?_
  obtain ⟨y2, h3, hF⟩ := bs hF
  refine rgp (cl 3 [.agg (eGClass a0)] [.p (.agg (eGType y2))] (ref18_This_ok h3)) ?_
  iterate 5 refine go ?_
  cases hF
  exact post_ret rfl rfl (.cons _ _ _ _ _ (.agg _ _ _ _ _ 11 _ _ rfl rfl agg_37 rfl rfl rfl) (.p _) (.cons _ _ _ _ _ (.tmp _ _ rfl) (.p _) .nil)) (.inl rfl)
 iterate 3 refine go ?_
 refine rgp (la (eGMethod a1) agg_40) ?_
 refine go ?_
 obtain ⟨y6, h7, hF⟩ := bs hF
 refine rgp (cl 3 [.agg (eGMethod a1), .str a2] [.p (.int .i64 y6)] (ref18_Place_ok h7)) ?_
 iterate 7 refine go ?_
 refine cnd hF (fun hb8 hF => ?_) fun hb8 hF => ?_
 ·refine go ?_
  refine rgp (bd ((eGType zGType)) (eGType ({ fKind := 0, fClass := [], fN := 0, fOwn := (⟨zGOwner, zGOwner, zGOwner, zGOwner⟩ : A4 GOwner) } : GType)) zer_37 plc_37) ?_
  iterate 5 refine go ?_
  cases hF
  exact post_ret rfl rfl (.cons _ _ _ _ _ (.agg _ _ _ _ _ 11 _ _ rfl rfl agg_37 rfl rfl rfl) (.p _) (.cons _ _ _ _ _ (.tmp _ _ rfl) (.p _) .nil)) (.inl rfl)
 iterate 3 refine go ?_
 refine rgp (la (eGMethod a1) agg_40) ?_
 obtain ⟨y9, h10, hF⟩ := bs hF
 refine rgp (cl 3 [.agg (eGMethod a1)] [.p (.vs 13 (List.map eGVar y9))] (Fn.frozen (ref12_Vars_ok h10))) ?_
 refine go ?_
 obtain ⟨y11, h12, hF⟩ := bs hF
 refine rgp (ix (idx_map eGVar h12) slc_29) ?_
 refine go ?_
 refine rgp (lw (eGType y11.fType) agg_37) ?_
 iterate 4 refine go ?_
 cases hF
 exact post_ret rfl rfl (.cons _ _ _ _ _ (.agg _ _ _ _ _ 11 _ _ rfl rfl agg_37 rfl rfl rfl) (.p _) (.cons _ _ _ _ _ (.tmp _ _ rfl) (.p _) .nil)) (.inl rfl)
theorem ref05_Unique_ok {a0 : GType} {r : Bool} (hF : ref05_Unique a0 = some r) : FZ 66 [.agg (eGType a0)] [.p (.bool r)] := by
 unfold ref05_Unique at hF
 refine fn_of_body (n := 13) Tryz.func66 rfl rfl rfl fun w O => ?_
 refine go ?_
 refine rgp (bo 0) ?_
 iterate 7 refine go ?_
 rcases ie hF with ⟨hb1, hF⟩ | ⟨hb1, hF⟩
 ·refine gn hb1 ?_
  refine rgn hb1 (op_arr_lp (k := .i64) (m := 0) (n := 4) rfl rfl rfl arr_35 rfl rfl rfl rfl) ?_
  iterate 3 refine gn hb1 ?_
  refine rpt hb1 ?_
  iterate 3 refine go ?_
  cases hF
  exact prt
 iterate 5 refine rgo_f hb1 ?_
 refine rpf hb1 ?_
 iterate 3 refine go ?_
 cases hF
 exact prt
theorem ref20_object_ok {a0 : GPlace_ref20} {a1 : GStmt} {r : GType × Int} (hF : ref20_object a0 a1 = some r) : FZ 48 [.agg (eGPlace_ref20 a0), .agg (eGStmt a1)] [.p (.agg (eGType r.1)), .p (.int .i64 r.2)] := by
 unfold ref20_object at hF
 refine fn_of_body (n := 34) Tryz.func48 rfl rfl rfl fun w O => ?_
 refine go ?_
 refine rgp (bo 0) ?_
 refine rgp (bo 1) ?_
 refine rgp (al 2 (eGType zGType) zer_37) ?_
 iterate 4 refine go ?_
 refine rgp (la (eGClass a0.fC) agg_32) ?_
 refine go ?_
 refine rgp (la (eGMethod a0.fM) agg_40) ?_
 iterate 2 refine go ?_
 obtain ⟨y3, h4, hF⟩ := bs hF
 refine rgp (cl 3 [.agg (eGClass a0.fC), .agg (eGMethod a0.fM), .str a1.fY] [.p (.agg (eGType y3.1)), .p (.bool y3.2)] (ref18_Type_ok h4)) ?_
 refine go ?_
 iterate 2 (refine rgp (op_extract rfl rfl rfl rfl rfl) ?_)
 refine rgp (al 3 (eGType zGType) zer_37) ?_
 iterate 8 refine go ?_
 refine cnd hF (fun hb5 hF => ?_) fun hb5 hF => ?_
 ·refine go ?_
  refine rgp (la (eGType y3.1) agg_37) ?_
  iterate 5 refine go ?_
  cases hF
  exact post_ret rfl rfl (.cons _ _ _ _ _ (.agg _ _ _ _ _ 11 _ _ rfl rfl agg_37 rfl rfl rfl) (.p _) (.cons _ _ _ _ _ (.tmp _ _ rfl) (.p _) .nil)) (.inl rfl)
 iterate 8 refine go ?_
 refine cnd hF (fun hb6 hF => ?_) fun hb6 hF => ?_
 ·refine go ?_
  refine rgp (la (eGType y3.1) agg_37) ?_
  iterate 5 refine go ?_
  cases hF
  exact post_ret rfl rfl (.cons _ _ _ _ _ (.agg _ _ _ _ _ 11 _ _ rfl rfl agg_37 rfl rfl rfl) (.p _) (.cons _ _ _ _ _ (.tmp _ _ rfl) (.p _) .nil)) (.inl rfl)
 iterate 2 refine go ?_
 refine aw_seq ?_
 refine aw_seq ?_
 obtain ⟨x12, hF, hK14⟩ := bs hF
 refine ctx (sX 34 [(4, some (.lp 0 0)), (6, some (.lp 1 0)), pf 31 (.bool x12)] [bf 0 37 (eGType zGType), bf 1 37 (eGType y3.1)] 2) ?_ ?_
 ·refine go ?_
  refine rgp (la (eGType y3.1) agg_37) ?_
  obtain ⟨y9, h10, hF⟩ := bs hF
  refine rgp (cl 4 [.agg (eGType y3.1)] [.p (.bool y9)] (ref05_Unique_ok h10)) ?_
  refine go ?_
  rcases ie hF with ⟨hb11, hF⟩ | ⟨hb11, hF⟩
  ·iterate 3 refine gn hb11 ?_
   refine rpt hb11 ?_
   cases hF
   exact rcz [2, 3]
  iterate 3 refine rgo_f hb11 ?_
  refine rpf hb11 ?_
  cases hF
  exact rcz [2, 3]
 have hF := hK14
 refine go ?_
 refine cnd hF (fun hb15 hF => ?_) fun hb15 hF => ?_
 ·refine go ?_
  refine rgp (la (eGType y3.1) agg_37) ?_
  iterate 5 refine go ?_
  cases hF
  exact post_ret rfl rfl (.cons _ _ _ _ _ (.agg _ _ _ _ _ 11 _ _ rfl rfl agg_37 rfl rfl rfl) (.p _) (.cons _ _ _ _ _ (.tmp _ _ rfl) (.p _) .nil)) (.inl rfl)
 iterate 3 refine go ?_
 refine rgp (la (eGType y3.1) agg_37) ?_
 iterate 4 refine go ?_
 cases hF
 exact post_ret rfl rfl (.cons _ _ _ _ _ (.agg _ _ _ _ _ 11 _ _ rfl rfl agg_37 rfl rfl rfl) (.p _) (.cons _ _ _ _ _ (.tmp _ _ rfl) (.p _) .nil)) (.inl rfl)
theorem ref13_Find_ok {a0 : List GClass} {a1 : List UInt8} {r : Int} (hF : ref13_Find a0 a1 = some r) : FZ 59 [.vs 7 (List.map eGClass a0), .str a1] [.p (.int .i64 r)] := by
 unfold ref13_Find at hF
 refine fn_of_body (n := 20) Tryz.func59 rfl rfl rfl fun w O => ?_
 iterate 7 refine go ?_
 obtain ⟨lr22, hF, hK23⟩ := bs hF
 refine aw_for ((a0.length - 0 : Int).toNat + 1) (fun s1 => ∃ q, lr22 = .next q ∧ s1 = (sX 20 [] [] 0)) ?_ ?_
 ·refine rnd_loop (α := Int) (fun q => (sX 20 [pf 0 (.vs 7 (List.map eGClass a0)), pf 1 (.str a1), pf 5 (.int .i64 q)] [] 0)) (fun k q => ref13_Find_L1 a0 a1 k q = some lr22) 0 (impz []) hF (fun q h => by cases h) ?_
  clear hF
  rintro k x7 hF ih
  refine rnd_succ ?_
  iterate 7 refine go ?_
  refine cnd hF (fun hb15 hF => ?_) fun hb15 hF => ?_
  ·iterate 2 refine go ?_
   refine aw_seq ?_
   refine aw_block ?_
   iterate 3 refine go ?_
   obtain ⟨y18, h19, hF⟩ := bs hF
   refine rgp (ix (idx_map eGClass h19) slc_22) ?_
   iterate 3 refine go ?_
   refine rgp (op_str rfl rfl rfl rfl rfl rfl) ?_
   refine go ?_
   refine cnd hF (fun hb20 hF => ?_) fun hb20 hF => ?_
   ·iterate 8 refine go ?_
    refine post_lp_ret ?_
    cases hF
    have hF := elim_stop hK23
    refine go ?_
    cases hF
    exact prt
   iterate 7 refine go ?_
   refine rnr ?_
   exact rnd_back (ih (w_i64 (x7 + 1)) hF) (impz [])
  refine aw_exit ?_
  iterate 2 refine post_then_exit ?_
  cases hF
  exact post_lp_break _ ⟨_, rfl, rfl⟩ (impz [])
 rintro _ ⟨⟨⟩, rfl, rfl⟩
 have hF := elim_next hK23
 clear hK23
 iterate 5 refine go ?_
 cases hF
 exact prt
theorem ref14_has_ok {a0 : List Int} {a1 : Int} {r : Bool} (hF : ref14_has a0 a1 = some r) : FZ 78 [.vs 1 (List.map eI a0), .int .i64 a1] [.p (.bool r)] := by
 unfold ref14_has at hF
 refine fn_of_body (n := 18) Tryz.func78 rfl rfl rfl fun w O => ?_
 iterate 7 refine go ?_
 obtain ⟨lr22, hF, hK23⟩ := bs hF
 refine aw_for ((a0.length - 0 : Int).toNat + 1) (fun s1 => ∃ q, lr22 = .next q ∧ s1 = (sX 18 [] [] 0)) ?_ ?_
 ·refine rnd_loop (α := Int) (fun q => (sX 18 [pf 0 (.vs 1 (List.map eI a0)), pf 1 (.int .i64 a1), pf 5 (.int .i64 q)] [] 0)) (fun k q => ref14_has_L1 a0 a1 k q = some lr22) 0 (impz []) hF (fun q h => by cases h) ?_
  clear hF
  rintro k x7 hF ih
  refine rnd_succ ?_
  iterate 7 refine go ?_
  refine cnd hF (fun hb15 hF => ?_) fun hb15 hF => ?_
  ·iterate 2 refine go ?_
   refine aw_seq ?_
   refine aw_block ?_
   iterate 3 refine go ?_
   obtain ⟨y18, h19, hF⟩ := bs hF
   refine rgp (ix (idx_map eI h19) slc_96) ?_
   iterate 4 refine go ?_
   refine cnd hF (fun hb20 hF => ?_) fun hb20 hF => ?_
   ·iterate 7 refine go ?_
    refine post_lp_ret ?_
    cases hF
    have hF := elim_stop hK23
    refine go ?_
    cases hF
    exact prt
   iterate 7 refine go ?_
   refine rnr ?_
   exact rnd_back (ih (w_i64 (x7 + 1)) hF) (impz [])
  refine aw_exit ?_
  iterate 2 refine post_then_exit ?_
  cases hF
  exact post_lp_break _ ⟨_, rfl, rfl⟩ (impz [])
 rintro _ ⟨⟨⟩, rfl, rfl⟩
 have hF := elim_next hK23
 clear hK23
 iterate 5 refine go ?_
 cases hF
 exact prt
theorem ref14_Chain_ok {a0 : List GClass} {a1 : List UInt8} {r : (List Int)} (hF : ref14_Chain a0 a1 = some r) : FZ 39 [.vs 7 (List.map eGClass a0), .str a1] [.own 3 1 (List.map eI r)] := by
 unfold ref14_Chain at hF
 refine fn_of_body (n := 37) Tryz.func39 rfl rfl rfl fun w O => ?_
 iterate 5 refine go ?_
 refine reg_imp (imp_nil_own 5 3 1 0 rfl rfl) ?_
 iterate 4 refine go ?_
 obtain ⟨y3, h4, hF⟩ := bs hF
 refine rgp (cl 1 [.vs 7 (List.map eGClass a0), .str a1] [.p (.int .i64 y3)] (ref13_Find_ok h4)) ?_
 iterate 2 refine go ?_
 refine aw_seq ?_
 obtain ⟨lr72, hF, hK73⟩ := bs hF
 refine aw_for (a0.length + 2) (fun s1 => ∃ q, lr72 = .next q ∧ s1 = (sX 37 [(5, some (.ls 0))] [(0, some (.row 3 1 (List.map eI q)))] 1)) ?_ ?_
 ·refine rnd_loop (α := (List Int) × Int) (fun q => (sX 37 [pf 0 (.vs 7 (List.map eGClass a0)), (5, some (.ls 0)), pf 6 (.int .i64 q.2)] [(0, some (.row 3 1 (List.map eI q.1)))] 1)) (fun k q => ref14_Chain_L1 a0 k q.1 q.2 = some lr72) ([], y3) (impz [0]) hF (fun q h => by cases h) ?_
  clear hF
  rintro k ⟨x25, x26⟩ hF ih
  refine rnd_succ ?_
  refine aw_seq ?_
  refine aw_seq ?_
  obtain ⟨x52, hF, hK54⟩ := bs hF
  refine ctx (sX 37 [pf 0 (.vs 7 (List.map eGClass a0)), (5, some (.ls 0)), pf 6 (.int .i64 x26), pf 17 (.bool x52)] [(0, some (.row 3 1 (List.map eI x25)))] 1) ?_ ?_
  ·iterate 4 refine go ?_
   rcases ie hF with ⟨hb49, hF⟩ | ⟨hb49, hF⟩
   ·iterate 2 refine gn hb49 ?_
    obtain ⟨y50, h51, hF⟩ := bs hF
    refine rgn hb49 (op_callB 1 rfl (caps := []) (args := [.vs 1 (List.map eI x25), .int .i64 x26]) [(0, some (.row 3 1 (List.map eI x25)))] rfl rfl rfl (FzH.spec ⟨rfl, trivial⟩) rfl rfl cal_78 (ref14_has_ok h51) rfl rfl rfl) ?_
    refine gn hb49 ?_
    refine rpt hb49 ?_
    cases hF
    exact rcz [0]
   iterate 4 refine rgo_f hb49 ?_
   refine rpf hb49 ?_
   cases hF
   exact rcz [0]
  have hF := hK54
  refine go ?_
  refine cnd hF (fun hb55 hF => ?_) fun hb55 hF => ?_
  ·iterate 2 refine go ?_
   refine aw_block ?_
   iterate 3 refine go ?_
   refine rgp (op_lit (rows := List.map eI ([x26] : List Int)) (zs := [.int .i64 0]) rfl rfl slc_96 zer_3 (by exact ⟨rfl, trivial⟩) rfl rfl rfl rfl rfl rfl rfl rfl) ?_
   obtain ⟨u58, h59, hF⟩ := bs hF
   refine rgp (op_append 1 rfl rfl rfl rfl rfl slc_96 elm_3 zer_3 rfl rfl rfl (room_map (f := eI) (g := eI) h59) (List.map_append (f := eI) (l₁ := x25) (l₂ := [x26])).symm rfl rfl) ?_
   iterate 6 refine go ?_
   obtain ⟨y62, h63, hF⟩ := bs hF
   refine rgp (ix (idx_map eGClass h63) slc_22) ?_
   iterate 2 refine go ?_
   refine rgp (op_str rfl rfl rfl rfl rfl rfl) ?_
   refine go ?_
   refine cnd hF (fun hb64 hF => ?_) fun hb64 hF => ?_
   ·iterate 8 refine go ?_
    refine post_lp_ret ?_
    cases hF
    have hF := elim_stop hK73
    refine go ?_
    cases hF
    exact post_ret rfl rfl (.cons _ _ _ _ _ (.tmp _ _ rfl) (.own _ _ _ _ rfl nolent3) .nil) (.inl rfl)
   iterate 6 refine go ?_
   obtain ⟨y65, h66, hF⟩ := bs hF
   refine rgp (ix (idx_map eGClass h66) slc_22) ?_
   iterate 2 refine go ?_
   obtain ⟨y67, h68, hF⟩ := bs hF
   refine rgp (cl 2 [.vs 7 (List.map eGClass a0), .str y65.fSuper] [.p (.int .i64 y67)] (ref13_Find_ok h68)) ?_
   refine go ?_
   refine reg_nil ?_
   refine piz (sX 37 [pf 0 (.vs 7 (List.map eGClass a0)), (5, some (.ls 0)), pf 6 (.int .i64 y67)] [(0, some (.row 3 1 (List.map eI (x25 ++ [x26]))))] 1) [1] ?_
   refine go ?_
   refine post_round ?_
   exact rnd_back (ih ((x25 ++ [x26]), y67) hF) (impz [0])
  refine aw_exit ?_
  iterate 2 refine post_then_exit ?_
  cases hF
  exact post_lp_break _ ⟨_, rfl, rfl⟩ (impz [0])
 rintro _ ⟨x71, rfl, rfl⟩
 have hF := elim_next hK73
 clear hK73
 iterate 6 refine go ?_
 cases hF
 exact post_ret rfl rfl (.cons _ _ _ _ _ (.tmp _ _ rfl) (.own _ _ _ _ rfl nolent3) .nil) (.inl rfl)
theorem ref17_own_ok {a0 : GClass} {a1 : List UInt8} {r : GFound_ref17 × Bool} (hF : ref17_own a0 a1 = some r) : FZ 77 [.agg (eGClass a0), .str a1] [.p (.agg (eGFound_ref17 r.1)), .p (.bool r.2)] := by
 unfold ref17_own at hF
 refine fn_of_body (n := 31) Tryz.func77 rfl rfl rfl fun w O => ?_
 refine go ?_
 refine rgp (bo 0) ?_
 refine rgp (al 1 (eGFound_ref17 zGFound_ref17) zer_62) ?_
 iterate 6 refine go ?_
 obtain ⟨lr28, hF, hK29⟩ := bs hF
 refine aw_for ((a0.fMethods.length - 0 : Int).toNat + 1) (fun s1 => ∃ q, lr28 = .next q ∧ s1 = (sX 31 [(4, some (.lp 0 0))] [bf 0 62 (eGFound_ref17 zGFound_ref17)] 1)) ?_ ?_
 ·refine rnd_loop (α := Int) (fun q => (sX 31 [pf 1 (.str a1), (2, some (.lp 0 0)), (4, some (.lp 1 0)), pf 6 (.int .i64 q)] [bf 0 32 (eGClass a0), bf 1 62 (eGFound_ref17 zGFound_ref17)] 2)) (fun k q => ref17_own_L1 a0 a1 k q = some lr28) 0 (impz [0, 1]) hF (fun q h => by cases h) ?_
  clear hF
  rintro k x9 hF ih
  refine rnd_succ ?_
  iterate 8 refine go ?_
  refine cnd hF (fun hb19 hF => ?_) fun hb19 hF => ?_
  ·iterate 2 refine go ?_
   refine aw_seq ?_
   refine aw_block ?_
   iterate 4 refine go ?_
   obtain ⟨y22, h23, hF⟩ := bs hF
   refine rgp (ix (idx_map eGMethod h23) slc_30) ?_
   iterate 3 refine go ?_
   refine rgp (op_str rfl rfl rfl rfl rfl rfl) ?_
   refine go ?_
   refine cnd hF (fun hb24 hF => ?_) fun hb24 hF => ?_
   ·refine aw_seq ?_
    refine dr_start ⟨_, _, _⟩ rfl ?_
    iterate 5 refine dgo ?_
    obtain ⟨y25, h26, hF⟩ := bs hF
    refine dr_cons { need := [(25, .pv (.vs 17 (List.map eGMethod a0.fMethods))), (26, .pv (.int .i64 x9))], dst := some 27, val := some (.pv (.vp (eGMethod y25))) } (fun m h => step_on (guard_no rfl) (op_index_vs (k := .i64) rfl h.1.1 h.1.2.1 (idx_map eGMethod h26) slc_30 rfl rfl) rfl) ⟨⟨rfl, rfl, trivial⟩, trivial, trivial⟩ ?_
    refine dr_cons { need := [(27, .pv (.vp (eGMethod y25)))], dst := some 28, val := some (.pv (.agg (eGMethod y25))) } (fun m h => step_on (guard_no rfl) (op_load_vp_agg (ps := eGMethod y25) rfl h.1.1 rfl rfl agg_40 rfl rfl) rfl) ⟨⟨rfl, trivial⟩, trivial, trivial⟩ ?_
    refine dr_cons { need := [(28, .pv (.agg (eGMethod y25))), (23, .pv (.str a0.fName))], dst := some 29, val := some (.pv (.agg (eGFound_ref17 ({ fClass := a0.fName, fMethod := y25 } : GFound_ref17)))) } (fun m h => step_on (guard_no rfl) (op_build (zs := (eGFound_ref17 zGFound_ref17)) (r := eGFound_ref17 ({ fClass := a0.fName, fMethod := y25 } : GFound_ref17)) rfl zer_62 (by exact ⟨rfl, rfl, rfl, rfl, rfl, rfl, rfl, rfl, rfl, rfl, rfl, rfl, rfl, rfl, trivial, trivial, trivial, rfl, trivial⟩) plc_62 (evs_cons h.1.2.1 (evs_cons h.1.1 evs_nil)) rfl rfl rfl) rfl) ⟨⟨rfl, rfl, trivial⟩, trivial, trivial⟩ ?_
    refine dr_cons { need := [(4, .lp 1 0), (29, .pv (.agg (eGFound_ref17 ({ fClass := a0.fName, fMethod := y25 } : GFound_ref17))))], hneed := [(1, .box 62 (bxv (eGFound_ref17 zGFound_ref17)))], upd := [(1, some (.box 62 (bxv (eGFound_ref17 ({ fClass := a0.fName, fMethod := y25 } : GFound_ref17)))))] } (fun m h => step_on (guard_no rfl) (op_store_lp (n := 18) rfl h.1.1 h.1.2.1 rfl h.2.1.1 (or_agg agg_62) (by rw [non_62]; rfl) rfl rfl rfl) rfl) ⟨⟨rfl, rfl, trivial⟩, ⟨rfl, trivial⟩, trivial⟩ ?_
    refine dr_cons { dst := some 5, val := some (.pv (.bool true)) } (fun m h => step_on (guard_no rfl) (op_assign rfl rfl rfl rfl) rfl) ⟨trivial, trivial, trivial⟩ ?_
    refine dr_nil mixed rfl (by kernel_rfl) ?_
    refine piz (sX 31 [(4, some (.lp 0 0)), pf 5 (.bool true)] [bf 0 62 (eGFound_ref17 ({ fClass := a0.fName, fMethod := y25 } : GFound_ref17))] 1) [1] ?_
    iterate 5 refine go ?_
    refine post_lp_ret ?_
    cases hF
    have hF := elim_stop hK29
    refine go ?_
    cases hF
    exact post_ret rfl rfl (.cons _ _ _ _ _ (.agg _ _ _ _ _ 18 _ _ rfl rfl agg_62 rfl rfl rfl) (.p _) (.cons _ _ _ _ _ (.tmp _ _ rfl) (.p _) .nil)) (.inl rfl)
   iterate 7 refine go ?_
   refine rnr ?_
   exact rnd_back (ih (w_i64 (x9 + 1)) hF) (impz [0, 1])
  refine aw_exit ?_
  iterate 2 refine post_then_exit ?_
  cases hF
  exact post_lp_break _ ⟨_, rfl, rfl⟩ (impz [1])
 rintro _ ⟨⟨⟩, rfl, rfl⟩
 have hF := elim_next hK29
 clear hK29
 iterate 2 refine go ?_
 refine rgp (bd ((eGFound_ref17 zGFound_ref17)) (eGFound_ref17 ({ fClass := [], fMethod := zGMethod } : GFound_ref17)) zer_62 plc_62) ?_
 iterate 4 refine go ?_
 cases hF
 exact post_ret rfl rfl (.cons _ _ _ _ _ (.agg _ _ _ _ _ 18 _ _ rfl rfl agg_62 rfl rfl rfl) (.p _) (.cons _ _ _ _ _ (.tmp _ _ rfl) (.p _) .nil)) (.inl rfl)
theorem ref17_among_ok {a0 : List GClass} {a1 : List Int} {a2 : List UInt8} {r : GFound_ref17 × Bool} (hF : ref17_among a0 a1 a2 = some r) : FZ 38 [.vs 7 (List.map eGClass a0), .vs 1 (List.map eI a1), .str a2] [.p (.agg (eGFound_ref17 r.1)), .p (.bool r.2)] := by
 unfold ref17_among at hF
 refine fn_of_body (n := 32) Tryz.func38 rfl rfl rfl fun w O => ?_
 refine go ?_
 refine rgp (al 0 (eGFound_ref17 zGFound_ref17) zer_62) ?_
 iterate 6 refine go ?_
 obtain ⟨lr46, hF, hK47⟩ := bs hF
 refine aw_for ((a1.length - 0 : Int).toNat + 1) (fun s1 => ∃ q, lr46 = .next q ∧ s1 = (sX 32 [(6, some (.lp 0 0))] [bf 0 62 (eGFound_ref17 zGFound_ref17)] 1)) ?_ ?_
 ·refine rnd_loop (α := Int) (fun q => (sX 32 [pf 0 (.vs 7 (List.map eGClass a0)), pf 1 (.vs 1 (List.map eI a1)), pf 2 (.str a2), (6, some (.lp 0 0)), pf 8 (.int .i64 q)] [bf 0 62 (eGFound_ref17 zGFound_ref17)] 1)) (fun k q => ref17_among_L1 a0 a1 a2 k q = some lr46) 0 (impz [0]) hF (fun q h => by cases h) ?_
  clear hF
  rintro k x15 hF ih
  refine rnd_succ ?_
  iterate 7 refine go ?_
  refine cnd hF (fun hb31 hF => ?_) fun hb31 hF => ?_
  ·iterate 2 refine go ?_
   refine aw_seq ?_
   refine aw_block ?_
   iterate 4 refine go ?_
   obtain ⟨y38, h39, hF⟩ := bs hF
   refine rgp (ix (idx_map eI h39) slc_96) ?_
   refine go ?_
   obtain ⟨y40, h41, hF⟩ := bs hF
   refine rgp (ix (idx_map eGClass h41) slc_22) ?_
   refine rgp (lw (eGClass y40) agg_32) ?_
   refine go ?_
   obtain ⟨y42, h43, hF⟩ := bs hF
   refine rgp (cl 1 [.agg (eGClass y40), .str a2] [.p (.agg (eGFound_ref17 y42.1)), .p (.bool y42.2)] (ref17_own_ok h43)) ?_
   refine go ?_
   iterate 2 (refine rgp (op_extract rfl rfl rfl rfl rfl) ?_)
   refine rgp (al 1 (eGFound_ref17 zGFound_ref17) zer_62) ?_
   iterate 6 refine go ?_
   refine cnd hF (fun hb44 hF => ?_) fun hb44 hF => ?_
   ·refine go ?_
    refine rgp (la (eGFound_ref17 y42.1) agg_62) ?_
    iterate 7 refine go ?_
    refine post_lp_ret ?_
    cases hF
    have hF := elim_stop hK47
    refine go ?_
    cases hF
    exact post_ret rfl rfl (.cons _ _ _ _ _ (.agg _ _ _ _ _ 18 _ _ rfl rfl agg_62 rfl rfl rfl) (.p _) (.cons _ _ _ _ _ (.tmp _ _ rfl) (.p _) .nil)) (.inl rfl)
   iterate 7 refine go ?_
   refine rnr ?_
   exact rnd_back (ih (w_i64 (x15 + 1)) hF) (impz [0])
  refine aw_exit ?_
  iterate 2 refine post_then_exit ?_
  cases hF
  exact post_lp_break _ ⟨_, rfl, rfl⟩ (impz [0])
 rintro _ ⟨⟨⟩, rfl, rfl⟩
 have hF := elim_next hK47
 clear hK47
 iterate 2 refine go ?_
 refine rgp (bd ((eGFound_ref17 zGFound_ref17)) (eGFound_ref17 ({ fClass := [], fMethod := zGMethod } : GFound_ref17)) zer_62 plc_62) ?_
 iterate 4 refine go ?_
 cases hF
 exact post_ret rfl rfl (.cons _ _ _ _ _ (.agg _ _ _ _ _ 18 _ _ rfl rfl agg_62 rfl rfl rfl) (.p _) (.cons _ _ _ _ _ (.tmp _ _ rfl) (.p _) .nil)) (.inl rfl)
theorem ref17_Find_ok {a0 : List GClass} {a1 : List UInt8} {a2 : List UInt8} {r : GFound_ref17 × Bool} (hF : ref17_Find a0 a1 a2 = some r) : FZ 17 [.vs 7 (List.map eGClass a0), .str a1, .str a2] [.p (.agg (eGFound_ref17 r.1)), .p (.bool r.2)] := by
 unfold ref17_Find at hF
 refine fn_of_body (n := 16) Tryz.func17 rfl rfl rfl fun w O => ?_
 refine go ?_
 refine rgp (al 0 (eGFound_ref17 zGFound_ref17) zer_62) ?_
 iterate 6 refine go ?_
 obtain ⟨y1, h2, hF⟩ := bs hF
 refine rgp (cl 1 [.vs 7 (List.map eGClass a0), .str a1] [.p (.vs 1 (List.map eI y1))] (Fn.frozen (ref14_Chain_ok h2))) ?_
 refine go ?_
 obtain ⟨y3, h4, hF⟩ := bs hF
 refine rgp (cl 1 [.vs 7 (List.map eGClass a0), .vs 1 (List.map eI y1), .str a2] [.p (.agg (eGFound_ref17 y3.1)), .p (.bool y3.2)] (ref17_among_ok h4)) ?_
 iterate 2 (refine rgp (op_extract rfl rfl rfl rfl rfl) ?_)
 iterate 4 refine go ?_
 cases hF
 exact post_ret rfl rfl (.cons _ _ _ _ _ (.agg _ _ _ _ _ 18 _ _ rfl rfl agg_62 rfl rfl rfl) (.p _) (.cons _ _ _ _ _ (.tmp _ _ rfl) (.p _) .nil)) (.inl rfl)
theorem ref20_Callee_ok {a0 : GPlace_ref20} {a1 : GStmt} {r : GFound_ref17 × Bool} (hF : ref20_Callee a0 a1 = some r) : FZ 24 [.agg (eGPlace_ref20 a0), .agg (eGStmt a1)] [.p (.agg (eGFound_ref17 r.1)), .p (.bool r.2)] := by
 unfold ref20_Callee at hF
 refine fn_of_body (n := 31) Tryz.func24 rfl rfl rfl fun w O => ?_
 refine go ?_
 refine rgp (bo 0) ?_
 refine rgp (bo 1) ?_
 refine rgp (al 2 (eGFound_ref17 zGFound_ref17) zer_62) ?_
 iterate 3 refine go ?_
 refine rgp (la (eGPlace_ref20 a0) agg_42) ?_
 refine rgp (la (eGStmt a1) agg_48) ?_
 obtain ⟨y3, h4, hF⟩ := bs hF
 refine rgp (cl 3 [.agg (eGPlace_ref20 a0), .agg (eGStmt a1)] [.p (.agg (eGType y3.1)), .p (.int .i64 y3.2)] (ref20_object_ok h4)) ?_
 refine go ?_
 iterate 2 (refine rgp (op_extract rfl rfl rfl rfl rfl) ?_)
 refine rgp (al 3 (eGType zGType) zer_37) ?_
 iterate 3 refine go ?_
 refine aw_seq ?_
 refine aw_seq ?_
 obtain ⟨x6, hF, hK8⟩ := bs hF
 refine ctx (sX 31 [(2, some (.lp 0 0)), (3, some (.lp 1 0)), (4, some (.lp 2 0)), (6, some (.lp 3 0)), pf 20 (.bool x6)] [bf 0 42 (eGPlace_ref20 a0), bf 1 48 (eGStmt a1), bf 2 62 (eGFound_ref17 zGFound_ref17), bf 3 37 (eGType y3.1)] 4) ?_ ?_
 ·iterate 4 refine go ?_
  rcases ie hF with ⟨hb5, hF⟩ | ⟨hb5, hF⟩
  ·refine rgo_t hb5 ?_
   iterate 2 refine rgo_t hb5 ?_
   refine rpt hb5 ?_
   cases hF
   exact rcz [0, 1, 2, 3]
  iterate 3 refine gn hb5 ?_
  refine rpf hb5 ?_
  cases hF
  exact rcz [0, 1, 2, 3]
 have hF := hK8
 refine go ?_
 refine cnd hF (fun hb9 hF => ?_) fun hb9 hF => ?_
 ·refine go ?_
  refine rgp (bd ((eGFound_ref17 zGFound_ref17)) (eGFound_ref17 ({ fClass := [], fMethod := zGMethod } : GFound_ref17)) zer_62 plc_62) ?_
  iterate 5 refine go ?_
  cases hF
  exact post_ret rfl rfl (.cons _ _ _ _ _ (.agg _ _ _ _ _ 18 _ _ rfl rfl agg_62 rfl rfl rfl) (.p _) (.cons _ _ _ _ _ (.tmp _ _ rfl) (.p _) .nil)) (.inl rfl)
 iterate 9 refine go ?_
 obtain ⟨y10, h11, hF⟩ := bs hF
 refine rgp (cl 4 [.vs 7 (List.map eGClass a0.fP), .str y3.1.fClass, .str a1.fName] [.p (.agg (eGFound_ref17 y10.1)), .p (.bool y10.2)] (ref17_Find_ok h11)) ?_
 iterate 2 (refine rgp (op_extract rfl rfl rfl rfl rfl) ?_)
 iterate 4 refine go ?_
 cases hF
 exact post_ret rfl rfl (.cons _ _ _ _ _ (.agg _ _ _ _ _ 18 _ _ rfl rfl agg_62 rfl rfl rfl) (.p _) (.cons _ _ _ _ _ (.tmp _ _ rfl) (.p _) .nil)) (.inl rfl)
theorem ref22_Changes_ok {a0 : GPlace_ref20} {a1 : GStmt} {r : Bool} (hF : ref22_Changes a0 a1 = some r) : FZ 11 [.agg (eGPlace_ref20 a0), .agg (eGStmt a1)] [.p (.bool r)] := by
 unfold ref22_Changes at hF
 refine fn_of_body (n := 35) Tryz.func11 rfl rfl rfl fun w O => ?_
 refine go ?_
 refine rgp (bo 0) ?_
 refine rgp (bo 1) ?_
 iterate 3 refine go ?_
 refine rgp (la (eGPlace_ref20 a0) agg_42) ?_
 refine rgp (la (eGStmt a1) agg_48) ?_
 obtain ⟨y3, h4, hF⟩ := bs hF
 refine rgp (cl 2 [.agg (eGPlace_ref20 a0), .agg (eGStmt a1)] [.p (.agg (eGFound_ref17 y3.1)), .p (.bool y3.2)] (ref20_Callee_ok h4)) ?_
 refine go ?_
 iterate 2 (refine rgp (op_extract rfl rfl rfl rfl rfl) ?_)
 refine rgp (al 2 (eGFound_ref17 zGFound_ref17) zer_62) ?_
 iterate 8 refine go ?_
 rcases ie hF with ⟨hb5, hF⟩ | ⟨hb5, hF⟩
 ·refine rgo_t hb5 ?_
  iterate 2 refine rgo_t hb5 ?_
  refine rpt hb5 ?_
  refine go ?_
  iterate 3 refine rgo_t rfl ?_
  refine rpt rfl ?_
  refine go ?_
  iterate 2 refine rgo_t rfl ?_
  iterate 4 refine go ?_
  refine rgo_t rfl ?_
  refine rpt rfl ?_
  iterate 3 refine go ?_
  cases hF
  exact prt
 iterate 3 refine gn hb5 ?_
 refine rpf hb5 ?_
 refine go ?_
 rcases ie hF with ⟨hb6, hF⟩ | ⟨hb6, hF⟩
 ·refine rgo_t hb6 ?_
  iterate 2 refine rgo_t hb6 ?_
  refine rpt hb6 ?_
  refine go ?_
  iterate 2 refine rgo_t rfl ?_
  iterate 4 refine go ?_
  refine rgo_t rfl ?_
  refine rpt rfl ?_
  iterate 3 refine go ?_
  cases hF
  exact prt
 iterate 3 refine gn hb6 ?_
 refine rpf hb6 ?_
 refine go ?_
 rcases ie hF with ⟨hb7, hF⟩ | ⟨hb7, hF⟩
 ·refine rgo_t hb7 ?_
  refine rgo_t hb7 ?_
  iterate 4 refine go ?_
  refine rgo_t hb7 ?_
  refine rpt hb7 ?_
  iterate 3 refine go ?_
  cases hF
  exact prt
 iterate 2 (refine rgn hb7 (op_move rfl rfl rfl rfl) ?_)
 rcases ie hF with ⟨hb8, hF⟩ | ⟨hb8, hF⟩
 ·iterate 4 refine gn hb8 ?_
  refine rgn hb7 (op_pick_t rfl rfl hb8 rfl rfl rfl) ?_
  refine rpf hb7 ?_
  iterate 3 refine go ?_
  cases hF
  exact prt
 iterate 4 refine rgo_f hb8 ?_
 refine rgn hb7 (op_pick_f rfl rfl hb8 rfl rfl rfl) ?_
 refine rpf hb7 ?_
 iterate 3 refine go ?_
 cases hF
 exact prt
theorem ref22_Check_ok {a0 : List GClass} {r : GFault} (hF : ref22_Check a0 = some r) : FZ 13 [.vs 7 (List.map eGClass a0)] [.p (.agg (eGFault r))] := by
 unfold ref22_Check at hF
 refine fn_of_body (n := 40) Tryz.func13 rfl rfl rfl fun w O => ?_
 refine go ?_
 refine rgp (al 0 (eGFault zGFault) zer_55) ?_
 iterate 3 refine go ?_
 obtain ⟨y3, h4, hF⟩ := bs hF
 refine rgp (cl 1 [.vs 7 (List.map eGClass a0)] [.p (.vs 26 (List.map eGLine_ref12 y3))] (Fn.frozen (ref12_Stmts_ok h4))) ?_
 iterate 6 refine go ?_
 obtain ⟨lr68, hF, hK69⟩ := bs hF
 refine aw_for ((y3.length - 0 : Int).toNat + 1) (fun s1 => ∃ q, lr68 = .next q ∧ s1 = (sX 40 [(2, some (.lp 0 0))] [bf 0 55 (eGFault zGFault)] 1)) ?_ ?_
 ·refine rnd_loop (α := Int) (fun q => (sX 40 [pf 0 (.vs 7 (List.map eGClass a0)), (2, some (.lp 0 0)), pf 3 (.vs 26 (List.map eGLine_ref12 y3)), pf 4 (.int .i64 q)] [bf 0 55 (eGFault zGFault)] 1)) (fun k q => ref22_Check_L1 a0 y3 k q = some lr68) 0 (impz [0]) hF (fun q h => by cases h) ?_
  clear hF
  rintro k x25 hF ih
  refine rnd_succ ?_
  iterate 7 refine go ?_
  refine cnd hF (fun hb47 hF => ?_) fun hb47 hF => ?_
  ·iterate 2 refine go ?_
   refine aw_seq ?_
   refine aw_block ?_
   iterate 4 refine go ?_
   obtain ⟨y52, h53, hF⟩ := bs hF
   refine rgp (ix (idx_map eGLine_ref12 h53) slc_25) ?_
   refine rgp (lw (eGLine_ref12 y52) agg_50) ?_
   obtain ⟨y54, h55, hF⟩ := bs hF
   refine rgp (cl 1 [.vs 7 (List.map eGClass a0), .agg (eGLine_ref12 y52)] [.p (.agg (eGPlace_ref20 y54))] (ref21_Place_ok h55)) ?_
   refine rgp (al 1 (eGPlace_ref20 zGPlace_ref20) zer_42) ?_
   iterate 2 refine go ?_
   refine aw_seq ?_
   obtain ⟨x61, hF, hK63⟩ := bs hF
   refine ctx (sX 40 [pf 0 (.vs 7 (List.map eGClass a0)), (2, some (.lp 0 0)), pf 3 (.vs 26 (List.map eGLine_ref12 y3)), pf 4 (.int .i64 x25), pf 31 (.bool x61)] [bf 0 55 (eGFault zGFault)] 1) ?_ ?_
   ·refine dr_start ⟨_, _, _⟩ rfl ?_
    iterate 4 refine dgo ?_
    rcases ie hF with ⟨hb56, hF⟩ | ⟨hb56, hF⟩
    ·refine dr_cons { need := [(23, .pv (.bool y54.fM.fPure)), (5, .lp 1 0)], hneed := [(1, .box 42 (bxv (eGPlace_ref20 y54)))], dst := some 24, val := some (.pv (.agg (eGPlace_ref20 y54))) } (fun m h => step_on (guard_on rfl rfl rfl h.1.1 hb56) (op_load_lp_agg (ps := eGPlace_ref20 y54) rfl h.1.2.1 h.2.1.1 rfl rfl rfl agg_42 rfl rfl) rfl) ⟨⟨rfl, rfl, trivial⟩, ⟨rfl, trivial⟩, trivial⟩ ?_
     refine dr_cons { need := [(23, .pv (.bool y54.fM.fPure)), (3, .pv (.vs 26 (List.map eGLine_ref12 y3)))], dst := some 25, val := some (.pv (.vs 26 (List.map eGLine_ref12 y3))) } (fun m h => step_on (guard_on rfl rfl rfl h.1.1 hb56) (op_move rfl h.1.2.1 rfl rfl) rfl) ⟨⟨rfl, rfl, trivial⟩, trivial, trivial⟩ ?_
     refine dr_cons { need := [(23, .pv (.bool y54.fM.fPure)), (4, .pv (.int .i64 x25))], dst := some 26, val := some (.pv (.int .i64 x25)) } (fun m h => step_on (guard_on rfl rfl rfl h.1.1 hb56) (op_move rfl h.1.2.1 rfl rfl) rfl) ⟨⟨rfl, rfl, trivial⟩, trivial, trivial⟩ ?_
     obtain ⟨y57, h58, hF⟩ := bs hF
     refine dr_cons { need := [(23, .pv (.bool y54.fM.fPure)), (25, .pv (.vs 26 (List.map eGLine_ref12 y3))), (26, .pv (.int .i64 x25))], dst := some 27, val := some (.pv (.vp (eGLine_ref12 y57))) } (fun m h => step_on (guard_on rfl rfl rfl h.1.1 hb56) (op_index_vs (k := .i64) rfl h.1.2.1 h.1.2.2.1 (idx_map eGLine_ref12 h58) slc_25 rfl rfl) rfl) ⟨⟨rfl, rfl, rfl, trivial⟩, trivial, trivial⟩ ?_
     refine dr_cons { need := [(23, .pv (.bool y54.fM.fPure)), (27, .pv (.vp (eGLine_ref12 y57)))], dst := some 28, val := some (.pv (.vp (List.drop 3 (eGLine_ref12 y57)))) } (fun m h => step_on (guard_on rfl rfl rfl h.1.1 hb56) (op_field_vp rfl h.1.2.1 fld_50_3 rfl rfl) rfl) ⟨⟨rfl, rfl, trivial⟩, trivial, trivial⟩ ?_
     refine dr_cons { need := [(23, .pv (.bool y54.fM.fPure)), (28, .pv (.vp (List.drop 3 (eGLine_ref12 y57))))], dst := some 29, val := some (.pv (.agg (eGStmt y57.fS))) } (fun m h => step_on (guard_on rfl rfl rfl h.1.1 hb56) (op_load_vp_agg (ps := eGStmt y57.fS) rfl h.1.2.1 rfl rfl agg_48 rfl rfl) rfl) ⟨⟨rfl, rfl, trivial⟩, trivial, trivial⟩ ?_
     obtain ⟨y59, h60, hF⟩ := bs hF
     refine dr_cons { need := [(23, .pv (.bool y54.fM.fPure)), (29, .pv (.agg (eGStmt y57.fS))), (24, .pv (.agg (eGPlace_ref20 y54)))], dst := some 30, val := some (.pv (.bool y59)) } (fun m h => step_on (guard_on rfl rfl rfl h.1.1 hb56) (op_call 2 rfl (caps := []) (args := [.agg (eGPlace_ref20 y54), .agg (eGStmt y57.fS)]) (rs := [.p (.bool y59)]) rfl rfl (evl_cons h.1.2.2.1 (evl_cons h.1.2.1 evl_nil)) cal_11 (ref22_Changes_ok h60) rfl rfl rfl) rfl) ⟨⟨rfl, rfl, rfl, trivial⟩, trivial, trivial⟩ ?_
     refine dr_cons { need := [(23, .pv (.bool y54.fM.fPure)), (30, .pv (.bool y59))], dst := some 31, val := some (.pv (.bool y59)) } (fun m h => step_on (guard_no rfl) (op_pick_t rfl h.1.1 hb56 h.1.2.1 rfl rfl) rfl) ⟨⟨rfl, rfl, trivial⟩, trivial, trivial⟩ ?_
     refine dr_nil mixed rfl (by kernel_rfl) ?_
     refine piz (sX 40 [pf 0 (.vs 7 (List.map eGClass a0)), (2, some (.lp 0 0)), pf 3 (.vs 26 (List.map eGLine_ref12 y3)), pf 4 (.int .i64 x25), pf 31 (.bool y59)] [bf 0 55 (eGFault zGFault)] 1) [0] ?_
     cases hF
     exact pcz [0]
    iterate 7 refine dro_f hb56 ?_
    refine drpf hb56 ?_
    refine dr_nil mixed rfl (by kernel_rfl) ?_
    refine piz (sX 40 [pf 0 (.vs 7 (List.map eGClass a0)), (2, some (.lp 0 0)), pf 3 (.vs 26 (List.map eGLine_ref12 y3)), pf 4 (.int .i64 x25), pf 31 (.bool false)] [bf 0 55 (eGFault zGFault)] 1) [0] ?_
    cases hF
    exact pcz [0]
   have hF := hK63
   refine go ?_
   refine cnd hF (fun hb64 hF => ?_) fun hb64 hF => ?_
   ·iterate 3 refine go ?_
    obtain ⟨y65, h66, hF⟩ := bs hF
    refine rgp (ix (idx_map eGLine_ref12 h66) slc_25) ?_
    iterate 3 refine go ?_
    refine rgp (bd ((eGFault zGFault)) (eGFault ({ fErr := 20, fAt := y65.fS.fAt } : GFault)) zer_55 plc_55) ?_
    iterate 6 refine go ?_
    refine post_lp_ret ?_
    cases hF
    have hF := elim_stop hK69
    refine go ?_
    cases hF
    exact post_ret rfl rfl (.cons _ _ _ _ _ (.agg _ _ _ _ _ 2 _ _ rfl rfl agg_55 rfl rfl rfl) (.p _) .nil) (.inl rfl)
   iterate 7 refine go ?_
   refine rnr ?_
   exact rnd_back (ih (w_i64 (x25 + 1)) hF) (impz [0])
  refine aw_exit ?_
  iterate 2 refine post_then_exit ?_
  cases hF
  exact post_lp_break _ ⟨_, rfl, rfl⟩ (impz [0])
 rintro _ ⟨⟨⟩, rfl, rfl⟩
 have hF := elim_next hK69
 clear hK69
 iterate 2 refine go ?_
 refine rgp (bd ((eGFault zGFault)) (eGFault ({ fErr := 0, fAt := 0 } : GFault)) zer_55 plc_55) ?_
 iterate 3 refine go ?_
 cases hF
 exact post_ret rfl rfl (.cons _ _ _ _ _ (.agg _ _ _ _ _ 2 _ _ rfl rfl agg_55 rfl rfl rfl) (.p _) .nil) (.inl rfl)
theorem law22_PureCheck_ok {a0 : List GClass} {r : Bool} (hF : law22_PureCheck a0 = some r) : FZ 3 [.vs 7 (List.map eGClass a0)] [.p (.bool r)] := by
 unfold law22_PureCheck at hF
 refine fn_of_body (n := 50) Tryz.func3 rfl rfl rfl fun w O => ?_
 iterate 6 refine go ?_
 obtain ⟨y3, h4, hF⟩ := bs hF
 refine rgp (cl 0 [.vs 7 (List.map eGClass a0)] [.p (.bool y3)] (ref10_Heavy_ok h4)) ?_
 refine go ?_
 refine cnd hF (fun hb5 hF => ?_) fun hb5 hF => ?_
 ·refine go ?_
  obtain ⟨y6, h7, hF⟩ := bs hF
  refine rgp (cl 0 [] [.p (.bool y6)] (law22_awake_ok h7)) ?_
  iterate 4 refine go ?_
  cases hF
  exact prt
 iterate 4 refine go ?_
 obtain ⟨y10, h11, hF⟩ := bs hF
 refine rgp (cl 0 [.vs 7 (List.map eGClass a0)] [.p (.vs 26 (List.map eGLine_ref12 y10))] (Fn.frozen (ref12_Stmts_ok h11))) ?_
 iterate 6 refine go ?_
 obtain ⟨lr93, hF, hK94⟩ := bs hF
 refine aw_for ((y10.length - 0 : Int).toNat + 1) (fun s1 => ∃ q, lr93 = .next q ∧ s1 = (sX 50 [pf 0 (.vs 7 (List.map eGClass a0))] [] 0)) ?_ ?_
 ·refine rnd_loop (α := Int) (fun q => (sX 50 [pf 0 (.vs 7 (List.map eGClass a0)), pf 3 (.vs 26 (List.map eGLine_ref12 y10)), pf 4 (.int .i64 q)] [] 0)) (fun k q => law22_PureCheck_L1 a0 y10 k q = some lr93) 0 (impz []) hF (fun q h => by cases h) ?_
  clear hF
  rintro k x38 hF ih
  refine rnd_succ ?_
  iterate 7 refine go ?_
  refine cnd hF (fun hb66 hF => ?_) fun hb66 hF => ?_
  ·iterate 2 refine go ?_
   refine aw_seq ?_
   refine aw_block ?_
   iterate 4 refine go ?_
   obtain ⟨y71, h72, hF⟩ := bs hF
   refine rgp (ix (idx_map eGLine_ref12 h72) slc_25) ?_
   refine rgp (lw (eGLine_ref12 y71) agg_50) ?_
   obtain ⟨y73, h74, hF⟩ := bs hF
   refine rgp (cl 0 [.vs 7 (List.map eGClass a0), .agg (eGLine_ref12 y71)] [.p (.agg (eGPlace_ref20 y73))] (ref21_Place_ok h74)) ?_
   refine rgp (al 0 (eGPlace_ref20 zGPlace_ref20) zer_42) ?_
   iterate 2 refine go ?_
   refine aw_seq ?_
   refine dr_start ⟨_, _, _⟩ rfl ?_
   iterate 2 refine dgo ?_
   refine dr_cons { need := [(24, .lp 0 1)], hneed := [(0, .box 42 (bxv (eGPlace_ref20 y73)))], dst := some 25, val := some (.pv (.agg (eGClass y73.fC))) } (fun m h => step_on (guard_no rfl) (op_load_lp_agg (ps := eGClass y73.fC) rfl h.1.1 h.2.1.1 rfl rfl rfl agg_32 rfl rfl) rfl) ⟨⟨rfl, trivial⟩, ⟨rfl, trivial⟩, trivial⟩ ?_
   refine dgo ?_
   refine dr_cons { need := [(26, .lp 0 8)], hneed := [(0, .box 42 (bxv (eGPlace_ref20 y73)))], dst := some 27, val := some (.pv (.agg (eGMethod y73.fM))) } (fun m h => step_on (guard_no rfl) (op_load_lp_agg (ps := eGMethod y73.fM) rfl h.1.1 h.2.1.1 rfl rfl rfl agg_40 rfl rfl) rfl) ⟨⟨rfl, trivial⟩, ⟨rfl, trivial⟩, trivial⟩ ?_
   iterate 2 refine dgo ?_
   obtain ⟨y83, h84, hF⟩ := bs hF
   refine dr_cons { need := [(28, .pv (.vs 26 (List.map eGLine_ref12 y10))), (29, .pv (.int .i64 x38))], dst := some 30, val := some (.pv (.vp (eGLine_ref12 y83))) } (fun m h => step_on (guard_no rfl) (op_index_vs (k := .i64) rfl h.1.1 h.1.2.1 (idx_map eGLine_ref12 h84) slc_25 rfl rfl) rfl) ⟨⟨rfl, rfl, trivial⟩, trivial, trivial⟩ ?_
   refine dr_cons { need := [(30, .pv (.vp (eGLine_ref12 y83)))], dst := some 31, val := some (.pv (.vp (List.drop 3 (eGLine_ref12 y83)))) } (fun m h => step_on (guard_no rfl) (op_field_vp rfl h.1.1 fld_50_3 rfl rfl) rfl) ⟨⟨rfl, trivial⟩, trivial, trivial⟩ ?_
   refine dr_cons { need := [(31, .pv (.vp (List.drop 3 (eGLine_ref12 y83))))], dst := some 32, val := some (.pv (.agg (eGStmt y83.fS))) } (fun m h => step_on (guard_no rfl) (op_load_vp_agg (ps := eGStmt y83.fS) rfl h.1.1 rfl rfl agg_48 rfl rfl) rfl) ⟨⟨rfl, trivial⟩, trivial, trivial⟩ ?_
   obtain ⟨y85, h86, hF⟩ := bs hF
   refine dr_cons { need := [(32, .pv (.agg (eGStmt y83.fS))), (27, .pv (.agg (eGMethod y73.fM))), (25, .pv (.agg (eGClass y73.fC))), (23, .pv (.vs 7 (List.map eGClass a0)))], dst := some 33, val := some (.pv (.bool y85)) } (fun m h => step_on (guard_no rfl) (op_call 1 rfl (caps := []) (args := [.vs 7 (List.map eGClass a0), .agg (eGClass y73.fC), .agg (eGMethod y73.fM), .agg (eGStmt y83.fS)]) (rs := [.p (.bool y85)]) rfl rfl (evl_cons h.1.2.2.2.1 (evl_cons h.1.2.2.1 (evl_cons h.1.2.1 (evl_cons h.1.1 evl_nil)))) cal_10 (pure_Changes_ok h86) rfl rfl rfl) rfl) ⟨⟨rfl, rfl, rfl, rfl, trivial⟩, trivial, trivial⟩ ?_
   refine dr_cons { need := [(5, .lp 0 0)], hneed := [(0, .box 42 (bxv (eGPlace_ref20 y73)))], dst := some 34, val := some (.pv (.agg (eGPlace_ref20 y73))) } (fun m h => step_on (guard_no rfl) (op_load_lp_agg (ps := eGPlace_ref20 y73) rfl h.1.1 h.2.1.1 rfl rfl rfl agg_42 rfl rfl) rfl) ⟨⟨rfl, trivial⟩, ⟨rfl, trivial⟩, trivial⟩ ?_
   iterate 2 refine dgo ?_
   obtain ⟨y87, h88, hF⟩ := bs hF
   refine dr_cons { need := [(35, .pv (.vs 26 (List.map eGLine_ref12 y10))), (36, .pv (.int .i64 x38))], dst := some 37, val := some (.pv (.vp (eGLine_ref12 y87))) } (fun m h => step_on (guard_no rfl) (op_index_vs (k := .i64) rfl h.1.1 h.1.2.1 (idx_map eGLine_ref12 h88) slc_25 rfl rfl) rfl) ⟨⟨rfl, rfl, trivial⟩, trivial, trivial⟩ ?_
   refine dr_cons { need := [(37, .pv (.vp (eGLine_ref12 y87)))], dst := some 38, val := some (.pv (.vp (List.drop 3 (eGLine_ref12 y87)))) } (fun m h => step_on (guard_no rfl) (op_field_vp rfl h.1.1 fld_50_3 rfl rfl) rfl) ⟨⟨rfl, trivial⟩, trivial, trivial⟩ ?_
   refine dr_cons { need := [(38, .pv (.vp (List.drop 3 (eGLine_ref12 y87))))], dst := some 39, val := some (.pv (.agg (eGStmt y87.fS))) } (fun m h => step_on (guard_no rfl) (op_load_vp_agg (ps := eGStmt y87.fS) rfl h.1.1 rfl rfl agg_48 rfl rfl) rfl) ⟨⟨rfl, trivial⟩, trivial, trivial⟩ ?_
   obtain ⟨y89, h90, hF⟩ := bs hF
   refine dr_cons { need := [(39, .pv (.agg (eGStmt y87.fS))), (34, .pv (.agg (eGPlace_ref20 y73)))], dst := some 40, val := some (.pv (.bool y89)) } (fun m h => step_on (guard_no rfl) (op_call 1 rfl (caps := []) (args := [.agg (eGPlace_ref20 y73), .agg (eGStmt y87.fS)]) (rs := [.p (.bool y89)]) rfl rfl (evl_cons h.1.2.1 (evl_cons h.1.1 evl_nil)) cal_11 (ref22_Changes_ok h90) rfl rfl rfl) rfl) ⟨⟨rfl, rfl, trivial⟩, trivial, trivial⟩ ?_
   refine dr_cons { need := [(33, .pv (.bool y85)), (40, .pv (.bool y89))], dst := some 41, val := some (.pv (.bool (!(y85 == y89)))) } (fun m h => step_on (guard_no rfl) (op_eqBool_neq rfl h.1.1 h.1.2.1 und_4 rfl rfl) rfl) ⟨⟨rfl, rfl, trivial⟩, trivial, trivial⟩ ?_
   refine dr_nil mixed rfl (by kernel_rfl) ?_
   refine piz (sX 50 [pf 0 (.vs 7 (List.map eGClass a0)), pf 3 (.vs 26 (List.map eGLine_ref12 y10)), pf 4 (.int .i64 x38), pf 41 (.bool (!(y85 == y89)))] [] 0) [] ?_
   refine go ?_
   refine cnd hF (fun hb91 hF => ?_) fun hb91 hF => ?_
   ·iterate 7 refine go ?_
    refine post_lp_ret ?_
    cases hF
    have hF := elim_stop hK94
    refine go ?_
    cases hF
    exact prt
   iterate 7 refine go ?_
   refine rnr ?_
   exact rnd_back (ih (w_i64 (x38 + 1)) hF) (impz [])
  refine aw_exit ?_
  iterate 2 refine post_then_exit ?_
  cases hF
  exact post_lp_break _ ⟨_, rfl, rfl⟩ (impz [])
 rintro _ ⟨⟨⟩, rfl, rfl⟩
 have hF := elim_next hK94
 clear hK94
 iterate 3 refine go ?_
 obtain ⟨y95, h96, hF⟩ := bs hF
 refine rgp (cl 0 [.vs 7 (List.map eGClass a0)] [.p (.agg (eGFault y95))] (pure_Check_ok h96)) ?_
 refine go ?_
 obtain ⟨y97, h98, hF⟩ := bs hF
 refine rgp (cl 0 [.vs 7 (List.map eGClass a0)] [.p (.agg (eGFault y97))] (ref22_Check_ok h98)) ?_
 refine rgp (op_eqAgg_eql (r := bGFault y95 y97) rfl rfl rfl eqt_55 rfl rfl rfl rfl rfl) ?_
 refine go ?_
 rcases ie hF with ⟨hb99, hF⟩ | ⟨hb99, hF⟩
 ·obtain ⟨y100, h101, hF⟩ := bs hF
  refine rgn hb99 (cl 0 [] [.p (.bool y100)] (law22_awake_ok h101)) ?_
  refine rpt hb99 ?_
  iterate 3 refine go ?_
  cases hF
  exact prt
 refine rgo_f hb99 ?_
 refine rpf hb99 ?_
 iterate 3 refine go ?_
 cases hF
 exact prt
end Go.Proofs.YtiefoagopfeibaaGreat
