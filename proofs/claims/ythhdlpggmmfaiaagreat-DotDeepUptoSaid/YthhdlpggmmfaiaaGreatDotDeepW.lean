/- A part of the proof that the law DotDeep gives true for every input. -/
import Derived.Test.YthhdlpggmmfaiaaGreatDotDeepT
import Derived.Test.YthhdlpggmmfaiaaGreatDotDeepB
import Derived.Test.YthhdlpggmmfaiaaGreatDotDeepS
import Derived.Test.YthhdlpggmmfaiaaGreatDotDeepX
import Derived.Test.YthhdlpggmmfaiaaGreatDotDeepI
import Derived.Test.YthhdlpggmmfaiaaGreatDotDeepW0
/- Each Go function computes its plain function. -/
namespace Go.Proofs.YthhdlpggmmfaiaaGreat
open Go.RowKit Go.Abs
set_option maxRecDepth 100000
set_option maxHeartbeats 4000000
theorem ref09_class_ok {a0 : List GToken} {a1 : Int} {a2 : Int} {r : GGot_ref09} (hF : ref09_class a0 a1 a2 = some r) : FZ 72 [.vs 3 (List.map eGToken a0), .int .i64 a1, .int .i64 a2] [.p (.agg (eGGot_ref09 r))] := by
 unfold ref09_class at hF
 refine fn_of_body (n := 100) Tryz.func72 rfl rfl rfl fun w O => ?_
 refine go ?_
 refine rgp (al 0 (eGGot_ref09 zGGot_ref09) zer_153) ?_
 iterate 4 refine go ?_
 obtain ⟨y3, h4, hF⟩ := bs hF
 refine rgp (cl 1 [.vs 3 (List.map eGToken a0), .int .i64 a1] [.p (.agg (eGToken y3))] (ref09_tok_ok h4)) ?_
 refine rgp (op_field1 (p := .int .i64 y3.fAt) rfl rfl ftb_149_2 one_3 rfl rfl rfl) ?_
 refine rgp (op_buildM (zs := [.str zGClass.fName, .vs 1 (List.map eS zGClass.fParams), .str zGClass.fSuper, .vs 2 (List.map eGOwner zGClass.fAbove), .nils, .nils, .int .i64 zGClass.fAt]) (r := [.pv (.str zGClass.fName), .pv (.vs 1 (List.map eS zGClass.fParams)), .pv (.str zGClass.fSuper), .pv (.vs 2 (List.map eGOwner zGClass.fAbove)), .pv .nils, .pv .nils, .pv (.int .i64 y3.fAt)]) rfl zer_32 (by exact ⟨rfl, trivial, rfl, trivial, rfl, rfl, rfl, trivial⟩) plc_32 rfl rfl rfl rfl) ?_
 refine rgp (al 1 (eGClass zGClass) zer_32) ?_
 refine go ?_
 refine reg_imp (imp_nil_box 1 4 32 66 13 2 rfl rfl rfl) ?_
 refine reg_imp (imp_nil_box 1 5 32 40 17 3 rfl rfl rfl) ?_
 iterate 6 refine go ?_
 obtain ⟨y7, h8, hF⟩ := bs hF
 refine rgp (cl 4 [.vs 3 (List.map eGToken a0), .int .i64 (w_i64 (a1 + 1))] [.p (.agg (eGToken y7))] (ref09_tok_ok h8)) ?_
 refine rgp (op_field1 (p := .int .i64 y7.fKind) rfl rfl ftb_149_0 one_3 rfl rfl rfl) ?_
 iterate 2 refine go ?_
 refine cnd hF (fun hb9 hF => ?_) fun hb9 hF => ?_
 ·cases hF
 iterate 6 refine go ?_
 obtain ⟨y12, h13, hF⟩ := bs hF
 refine rgp (cl 4 [.vs 3 (List.map eGToken a0), .int .i64 (w_i64 (a1 + 1))] [.p (.agg (eGToken y12))] (ref09_tok_ok h13)) ?_
 refine rgp (op_field1 (p := .str y12.fText) rfl rfl ftb_149_1 one_9 rfl rfl rfl) ?_
 iterate 12 refine go ?_
 obtain ⟨y16, h17, hF⟩ := bs hF
 refine rgp (cl 4 [.vs 3 (List.map eGToken a0), .int .i64 (w_i64 (a1 + 2)), .str [60]] [.p (.bool y16)] (ref09_is_ok h17)) ?_
 refine go ?_
 refine cnd hF (fun hb18 hF => ?_) fun hb18 hF => ?_
 ·cases hF
 iterate 6 refine go ?_
 obtain ⟨y21, h22, hF⟩ := bs hF
 refine rgp (cl 4 [.vs 3 (List.map eGToken a0), .int .i64 (w_i64 (a1 + 2)), .str [101, 120, 116, 101, 110, 100, 115]] [.p (.bool y21)] (ref09_is_ok h22)) ?_
 refine go ?_
 refine cnd hF (fun hb23 hF => ?_) fun hb23 hF => ?_
 ·cases hF
 iterate 6 refine go ?_
 obtain ⟨y26, h27, hF⟩ := bs hF
 refine rgp (cl 4 [.vs 3 (List.map eGToken a0), .int .i64 (w_i64 (a1 + 2)), .str [123]] [.p (.bool y26)] (ref09_is_ok h27)) ?_
 iterate 2 refine go ?_
 refine cnd hF (fun hb28 hF => ?_) fun hb28 hF => ?_
 ·cases hF
 iterate 7 refine go ?_
 refine aw_seq ?_
 obtain ⟨lr103, hF, hK104⟩ := bs hF
 refine aw_for (a0.length + 64) (fun s1 => s1 = (sX 100 [pf 1 (.int .i64 lr103.1), (6, some (.lp 0 0)), (7, some (.lp 1 0))] [bf 0 153 (eGGot_ref09 zGGot_ref09), (1, some (.box 32 [.pv (.str lr103.2.1), .pv (.vs 1 (List.map eS lr103.2.2.1)), .pv (.str lr103.2.2.2.1), .pv (.vs 2 (List.map eGOwner lr103.2.2.2.2.1)), .ls 2, .ls 3, .pv (.int .i64 lr103.2.2.2.2.2.2.2)])), (2, some (.row 66 13 (List.map eGVar lr103.2.2.2.2.2.1))), (3, some (.row 40 17 (List.map eGMethod lr103.2.2.2.2.2.2.1)))] 4)) ?_ ?_
 ·refine rnd_loop (α := Int × (List UInt8) × (List (List UInt8)) × (List UInt8) × (List GOwner) × (List GVar) × (List GMethod) × Int) (fun q => (sX 100 [pf 0 (.vs 3 (List.map eGToken a0)), pf 1 (.int .i64 q.1), pf 2 (.int .i64 a2), (6, some (.lp 0 0)), (7, some (.lp 1 0))] [bf 0 153 (eGGot_ref09 zGGot_ref09), (1, some (.box 32 [.pv (.str q.2.1), .pv (.vs 1 (List.map eS q.2.2.1)), .pv (.str q.2.2.2.1), .pv (.vs 2 (List.map eGOwner q.2.2.2.2.1)), .ls 2, .ls 3, .pv (.int .i64 q.2.2.2.2.2.2.2)])), (2, some (.row 66 13 (List.map eGVar q.2.2.2.2.2.1))), (3, some (.row 40 17 (List.map eGMethod q.2.2.2.2.2.2.1)))] 4)) (fun k q => ref09_class_L1 a0 a2 k q.1 q.2.1 q.2.2.1 q.2.2.2.1 q.2.2.2.2.1 q.2.2.2.2.2.1 q.2.2.2.2.2.2.1 q.2.2.2.2.2.2.2 = some lr103) (w_i64 ((w_i64 (a1 + 2)) + 1), y12.fText, zGClass.fParams, zGClass.fSuper, zGClass.fAbove, [], [], y3.fAt) (impz [0, 1, 2, 3]) hF (fun q h => by cases h) ?_
  clear hF
  rintro k ⟨x43, x44, x45, x46, x47, x48, x49, x50⟩ hF ih
  refine rnd_succ ?_
  iterate 4 refine go ?_
  obtain ⟨y75, h76, hF⟩ := bs hF
  refine rgp (cl 4 [.vs 3 (List.map eGToken a0), .int .i64 x43, .str [125]] [.p (.bool y75)] (ref09_is_ok h76)) ?_
  iterate 2 refine go ?_
  refine cnd hF (fun hb77 hF => ?_) fun hb77 hF => ?_
  ·iterate 2 refine go ?_
   refine aw_block ?_
   refine aw_seq ?_
   refine aw_imp (imp_names 5) ?_
   refine dr_start ⟨_, _, _⟩ rfl ?_
   iterate 2 refine dgo ?_
   refine dr_cons { need := [(7, .lp 1 0)], hneed := [(1, .box 32 [.pv (.str x44), .pv (.vs 1 (List.map eS x45)), .pv (.str x46), .pv (.vs 2 (List.map eGOwner x47)), .ls 2, .ls 3, .pv (.int .i64 x50)])], dst := some 81, val := some (.agg [.pv (.str x44), .pv (.vs 1 (List.map eS x45)), .pv (.str x46), .pv (.vs 2 (List.map eGOwner x47)), .ls 2, .ls 3, .pv (.int .i64 x50)]) } (fun m h => step_on (guard_no rfl) (op_load_lp_aggM (cs := [.pv (.str x44), .pv (.vs 1 (List.map eS x45)), .pv (.str x46), .pv (.vs 2 (List.map eGOwner x47)), .ls 2, .ls 3, .pv (.int .i64 x50)]) rfl h.1.1 h.2.1.1 rfl rfl agg_32 rfl rfl) rfl) ⟨⟨rfl, trivial⟩, ⟨rfl, trivial⟩, trivial⟩ ?_
   refine dgo ?_
   refine dr_cons { need := [(7, .lp 1 0)], hneed := [(1, .box 32 [.pv (.str x44), .pv (.vs 1 (List.map eS x45)), .pv (.str x46), .pv (.vs 2 (List.map eGOwner x47)), .ls 2, .ls 3, .pv (.int .i64 x50)])], dst := some 83, val := some (.agg [.pv (.str x44), .pv (.vs 1 (List.map eS x45)), .pv (.str x46), .pv (.vs 2 (List.map eGOwner x47)), .ls 2, .ls 3, .pv (.int .i64 x50)]) } (fun m h => step_on (guard_no rfl) (op_load_lp_aggM (cs := [.pv (.str x44), .pv (.vs 1 (List.map eS x45)), .pv (.str x46), .pv (.vs 2 (List.map eGOwner x47)), .ls 2, .ls 3, .pv (.int .i64 x50)]) rfl h.1.1 h.2.1.1 rfl rfl agg_32 rfl rfl) rfl) ⟨⟨rfl, trivial⟩, ⟨rfl, trivial⟩, trivial⟩ ?_
   obtain ⟨y82, h83, hF⟩ := bs hF
   refine dr_cons { need := [(83, .agg [.pv (.str x44), .pv (.vs 1 (List.map eS x45)), .pv (.str x46), .pv (.vs 2 (List.map eGOwner x47)), .ls 2, .ls 3, .pv (.int .i64 x50)])], hneed := [(2, .row 66 13 (List.map eGVar x48)), (3, .row 40 17 (List.map eGMethod x49))], dst := some 84, val := some (.pv (.int .i64 y82)) } (fun m h => step_on (guard_no rfl) (op_callB 9 rfl (caps := []) (args := [.agg (eGClass ({ fName := x44, fParams := x45, fSuper := x46, fAbove := x47, fFields := x48, fMethods := x49, fAt := x50 } : GClass))]) [(2, some (.row 66 13 (List.map eGVar x48))), (3, some (.row 40 17 (List.map eGMethod x49)))] rfl rfl (evl_cons h.1.1 evl_nil) (FzH.spec ⟨h.2.1.1, h.2.1.2.1, trivial⟩) rfl rfl cal_34 (ref09_Stmts_ok h83) rfl rfl rfl) rfl) ⟨⟨rfl, trivial⟩, ⟨rfl, rfl, trivial⟩, trivial⟩ ?_
   refine dk 85 [(82, .pv (.int .i64 a2)), (84, .pv (.int .i64 y82))] (.pv (.int .i64 (w_i64 (a2 + y82)))) (fun m h => ⟨_, op_int (k := .i64) (m := a2) (n := y82) rfl h.1.1 h.1.2.1 rfl rfl rfl, rfl⟩) ?_
   obtain ⟨y84, h85, hF⟩ := bs hF
   refine dr_cons { need := [(85, .pv (.int .i64 (w_i64 (a2 + y82)))), (81, .agg [.pv (.str x44), .pv (.vs 1 (List.map eS x45)), .pv (.str x46), .pv (.vs 2 (List.map eGOwner x47)), .ls 2, .ls 3, .pv (.int .i64 x50)]), (80, .pv (.int .i64 x43)), (79, .pv (.vs 3 (List.map eGToken a0)))], hneed := [(2, .row 66 13 (List.map eGVar x48)), (3, .row 40 17 (List.map eGMethod x49))], names := [4, 5, 6, 7], dst := some 86, val := some (.agg [.pv (.str y84.1), .pv (.vs 1 (List.map eS y84.2.1)), .pv (.str y84.2.2.1), .pv (.vs 2 (List.map eGOwner y84.2.2.2.1)), .ls 5, .ls 6, .pv (.int .i64 y84.2.2.2.2.2.2.1), .pv (.str y84.2.2.2.2.2.2.2.1), .pv (.bool y84.2.2.2.2.2.2.2.2.1), .pv (.int .i64 y84.2.2.2.2.2.2.2.2.2.1), .pv (.str y84.2.2.2.2.2.2.2.2.2.2.1), .pv (.int .i64 y84.2.2.2.2.2.2.2.2.2.2.2.1), .pv (.int .i64 y84.2.2.2.2.2.2.2.2.2.2.2.2.1), .pv (.int .i64 y84.2.2.2.2.2.2.2.2.2.2.2.2.2.1), .pv (.int .i64 y84.2.2.2.2.2.2.2.2.2.2.2.2.2.2.1), .pv (.int .i64 y84.2.2.2.2.2.2.2.2.2.2.2.2.2.2.2.1), .pv (.int .i64 y84.2.2.2.2.2.2.2.2.2.2.2.2.2.2.2.2.1), .pv (.int .i64 y84.2.2.2.2.2.2.2.2.2.2.2.2.2.2.2.2.2.1), .pv (.int .i64 y84.2.2.2.2.2.2.2.2.2.2.2.2.2.2.2.2.2.2.1), .pv (.int .i64 y84.2.2.2.2.2.2.2.2.2.2.2.2.2.2.2.2.2.2.2.1), .pv (.vs 13 (List.map eGVar y84.2.2.2.2.2.2.2.2.2.2.2.2.2.2.2.2.2.2.2.2.1)), .pv (.vs 13 (List.map eGVar y84.2.2.2.2.2.2.2.2.2.2.2.2.2.2.2.2.2.2.2.2.2.1)), .ls 7, .pv (.int .i64 y84.2.2.2.2.2.2.2.2.2.2.2.2.2.2.2.2.2.2.2.2.2.2.2.1), .pv (.vs 13 (List.map eGVar y84.2.2.2.2.2.2.2.2.2.2.2.2.2.2.2.2.2.2.2.2.2.2.2.2.1)), .pv (.vs 1 (List.map eS y84.2.2.2.2.2.2.2.2.2.2.2.2.2.2.2.2.2.2.2.2.2.2.2.2.2.1)), .pv (.int .i64 y84.2.2.2.2.2.2.2.2.2.2.2.2.2.2.2.2.2.2.2.2.2.2.2.2.2.2.1), .pv (.int .i64 y84.2.2.2.2.2.2.2.2.2.2.2.2.2.2.2.2.2.2.2.2.2.2.2.2.2.2.2.1), .pv (.int .i64 y84.2.2.2.2.2.2.2.2.2.2.2.2.2.2.2.2.2.2.2.2.2.2.2.2.2.2.2.2)]), upd := [(4, some (.box 153 [.pv (.str y84.1), .pv (.vs 1 (List.map eS y84.2.1)), .pv (.str y84.2.2.1), .pv (.vs 2 (List.map eGOwner y84.2.2.2.1)), .ls 5, .ls 6, .pv (.int .i64 y84.2.2.2.2.2.2.1), .pv (.str y84.2.2.2.2.2.2.2.1), .pv (.bool y84.2.2.2.2.2.2.2.2.1), .pv (.int .i64 y84.2.2.2.2.2.2.2.2.2.1), .pv (.str y84.2.2.2.2.2.2.2.2.2.2.1), .pv (.int .i64 y84.2.2.2.2.2.2.2.2.2.2.2.1), .pv (.int .i64 y84.2.2.2.2.2.2.2.2.2.2.2.2.1), .pv (.int .i64 y84.2.2.2.2.2.2.2.2.2.2.2.2.2.1), .pv (.int .i64 y84.2.2.2.2.2.2.2.2.2.2.2.2.2.2.1), .pv (.int .i64 y84.2.2.2.2.2.2.2.2.2.2.2.2.2.2.2.1), .pv (.int .i64 y84.2.2.2.2.2.2.2.2.2.2.2.2.2.2.2.2.1), .pv (.int .i64 y84.2.2.2.2.2.2.2.2.2.2.2.2.2.2.2.2.2.1), .pv (.int .i64 y84.2.2.2.2.2.2.2.2.2.2.2.2.2.2.2.2.2.2.1), .pv (.int .i64 y84.2.2.2.2.2.2.2.2.2.2.2.2.2.2.2.2.2.2.2.1), .pv (.vs 13 (List.map eGVar y84.2.2.2.2.2.2.2.2.2.2.2.2.2.2.2.2.2.2.2.2.1)), .pv (.vs 13 (List.map eGVar y84.2.2.2.2.2.2.2.2.2.2.2.2.2.2.2.2.2.2.2.2.2.1)), .ls 7, .pv (.int .i64 y84.2.2.2.2.2.2.2.2.2.2.2.2.2.2.2.2.2.2.2.2.2.2.2.1), .pv (.vs 13 (List.map eGVar y84.2.2.2.2.2.2.2.2.2.2.2.2.2.2.2.2.2.2.2.2.2.2.2.2.1)), .pv (.vs 1 (List.map eS y84.2.2.2.2.2.2.2.2.2.2.2.2.2.2.2.2.2.2.2.2.2.2.2.2.2.1)), .pv (.int .i64 y84.2.2.2.2.2.2.2.2.2.2.2.2.2.2.2.2.2.2.2.2.2.2.2.2.2.2.1), .pv (.int .i64 y84.2.2.2.2.2.2.2.2.2.2.2.2.2.2.2.2.2.2.2.2.2.2.2.2.2.2.2.1), .pv (.int .i64 y84.2.2.2.2.2.2.2.2.2.2.2.2.2.2.2.2.2.2.2.2.2.2.2.2.2.2.2.2)])), (5, some (.row 66 13 (List.map eGVar y84.2.2.2.2.1))), (6, some (.row 40 17 (List.map eGMethod y84.2.2.2.2.2.1))), (7, some (.row 48 23 (eLGStmt y84.2.2.2.2.2.2.2.2.2.2.2.2.2.2.2.2.2.2.2.2.2.2.1))), (2, none), (3, none)] } (fun m h => step_on (guard_no rfl) (op_callW (args := [.pv (.vs 3 (List.map eGToken a0)), .pv (.int .i64 x43), .agg [.pv (.str x44), .pv (.vs 1 (List.map eS x45)), .pv (.str x46), .pv (.vs 2 (List.map eGOwner x47)), .ls 0, .ls 1, .pv (.int .i64 x50)], .pv (.int .i64 (w_i64 (a2 + y82)))]) [2, 3] [4, 5, 6, 7] [2, 3] 9 rfl rfl (evl_cons h.1.2.2.2.1 (evl_cons h.1.2.2.1 (evl_cons h.1.2.1 (evl_cons h.1.1 evl_nil)))) rfl rfl cal_104 (ref09_member_ok h85) rfl (by decide) ⟨h.2.1.1, h.2.1.2.1, trivial⟩ rfl (by decide) ⟨.inr (freshG_free h.2.2.1), .inr (freshG_free h.2.2.2.1), .inr (freshG_free h.2.2.2.2.1), .inr (freshG_free h.2.2.2.2.2.1), trivial⟩ (by kernel_rfl) (by kernel_rfl) rfl rfl rfl rfl) rfl) ⟨⟨rfl, rfl, rfl, rfl, trivial⟩, ⟨rfl, rfl, trivial⟩, ⟨rfl, rfl, rfl, rfl, trivial⟩⟩ ?_
   refine dr_cons { names := [8], dst := some 10, val := some (.lp 8 0), upd := [(8, some (.box 153 (bxv (eGGot_ref09 zGGot_ref09))))] } (fun m h => step_on (guard_no rfl) (op_alloc 8 (fresh_free h.2.2.1) (ps := (eGGot_ref09 zGGot_ref09)) rfl zer_153 (by exact ⟨rfl, trivial, rfl, trivial, trivial, trivial, rfl, rfl, rfl, rfl, rfl, rfl, rfl, rfl, rfl, rfl, rfl, rfl, rfl, rfl, trivial, trivial, trivial, rfl, trivial, trivial, rfl, rfl, rfl, trivial⟩) rfl rfl) rfl) ⟨trivial, trivial, ⟨rfl, trivial⟩⟩ ?_
   refine dr_cons { need := [(10, .lp 8 0), (86, .agg [.pv (.str y84.1), .pv (.vs 1 (List.map eS y84.2.1)), .pv (.str y84.2.2.1), .pv (.vs 2 (List.map eGOwner y84.2.2.2.1)), .ls 5, .ls 6, .pv (.int .i64 y84.2.2.2.2.2.2.1), .pv (.str y84.2.2.2.2.2.2.2.1), .pv (.bool y84.2.2.2.2.2.2.2.2.1), .pv (.int .i64 y84.2.2.2.2.2.2.2.2.2.1), .pv (.str y84.2.2.2.2.2.2.2.2.2.2.1), .pv (.int .i64 y84.2.2.2.2.2.2.2.2.2.2.2.1), .pv (.int .i64 y84.2.2.2.2.2.2.2.2.2.2.2.2.1), .pv (.int .i64 y84.2.2.2.2.2.2.2.2.2.2.2.2.2.1), .pv (.int .i64 y84.2.2.2.2.2.2.2.2.2.2.2.2.2.2.1), .pv (.int .i64 y84.2.2.2.2.2.2.2.2.2.2.2.2.2.2.2.1), .pv (.int .i64 y84.2.2.2.2.2.2.2.2.2.2.2.2.2.2.2.2.1), .pv (.int .i64 y84.2.2.2.2.2.2.2.2.2.2.2.2.2.2.2.2.2.1), .pv (.int .i64 y84.2.2.2.2.2.2.2.2.2.2.2.2.2.2.2.2.2.2.1), .pv (.int .i64 y84.2.2.2.2.2.2.2.2.2.2.2.2.2.2.2.2.2.2.2.1), .pv (.vs 13 (List.map eGVar y84.2.2.2.2.2.2.2.2.2.2.2.2.2.2.2.2.2.2.2.2.1)), .pv (.vs 13 (List.map eGVar y84.2.2.2.2.2.2.2.2.2.2.2.2.2.2.2.2.2.2.2.2.2.1)), .ls 7, .pv (.int .i64 y84.2.2.2.2.2.2.2.2.2.2.2.2.2.2.2.2.2.2.2.2.2.2.2.1), .pv (.vs 13 (List.map eGVar y84.2.2.2.2.2.2.2.2.2.2.2.2.2.2.2.2.2.2.2.2.2.2.2.2.1)), .pv (.vs 1 (List.map eS y84.2.2.2.2.2.2.2.2.2.2.2.2.2.2.2.2.2.2.2.2.2.2.2.2.2.1)), .pv (.int .i64 y84.2.2.2.2.2.2.2.2.2.2.2.2.2.2.2.2.2.2.2.2.2.2.2.2.2.2.1), .pv (.int .i64 y84.2.2.2.2.2.2.2.2.2.2.2.2.2.2.2.2.2.2.2.2.2.2.2.2.2.2.2.1), .pv (.int .i64 y84.2.2.2.2.2.2.2.2.2.2.2.2.2.2.2.2.2.2.2.2.2.2.2.2.2.2.2.2)])], hneed := [(8, .box 153 (bxv (eGGot_ref09 zGGot_ref09)))], upd := [(8, some (.box 153 [.pv (.str y84.1), .pv (.vs 1 (List.map eS y84.2.1)), .pv (.str y84.2.2.1), .pv (.vs 2 (List.map eGOwner y84.2.2.2.1)), .ls 5, .ls 6, .pv (.int .i64 y84.2.2.2.2.2.2.1), .pv (.str y84.2.2.2.2.2.2.2.1), .pv (.bool y84.2.2.2.2.2.2.2.2.1), .pv (.int .i64 y84.2.2.2.2.2.2.2.2.2.1), .pv (.str y84.2.2.2.2.2.2.2.2.2.2.1), .pv (.int .i64 y84.2.2.2.2.2.2.2.2.2.2.2.1), .pv (.int .i64 y84.2.2.2.2.2.2.2.2.2.2.2.2.1), .pv (.int .i64 y84.2.2.2.2.2.2.2.2.2.2.2.2.2.1), .pv (.int .i64 y84.2.2.2.2.2.2.2.2.2.2.2.2.2.2.1), .pv (.int .i64 y84.2.2.2.2.2.2.2.2.2.2.2.2.2.2.2.1), .pv (.int .i64 y84.2.2.2.2.2.2.2.2.2.2.2.2.2.2.2.2.1), .pv (.int .i64 y84.2.2.2.2.2.2.2.2.2.2.2.2.2.2.2.2.2.1), .pv (.int .i64 y84.2.2.2.2.2.2.2.2.2.2.2.2.2.2.2.2.2.2.1), .pv (.int .i64 y84.2.2.2.2.2.2.2.2.2.2.2.2.2.2.2.2.2.2.2.1), .pv (.vs 13 (List.map eGVar y84.2.2.2.2.2.2.2.2.2.2.2.2.2.2.2.2.2.2.2.2.1)), .pv (.vs 13 (List.map eGVar y84.2.2.2.2.2.2.2.2.2.2.2.2.2.2.2.2.2.2.2.2.2.1)), .ls 7, .pv (.int .i64 y84.2.2.2.2.2.2.2.2.2.2.2.2.2.2.2.2.2.2.2.2.2.2.2.1), .pv (.vs 13 (List.map eGVar y84.2.2.2.2.2.2.2.2.2.2.2.2.2.2.2.2.2.2.2.2.2.2.2.2.1)), .pv (.vs 1 (List.map eS y84.2.2.2.2.2.2.2.2.2.2.2.2.2.2.2.2.2.2.2.2.2.2.2.2.2.1)), .pv (.int .i64 y84.2.2.2.2.2.2.2.2.2.2.2.2.2.2.2.2.2.2.2.2.2.2.2.2.2.2.1), .pv (.int .i64 y84.2.2.2.2.2.2.2.2.2.2.2.2.2.2.2.2.2.2.2.2.2.2.2.2.2.2.2.1), .pv (.int .i64 y84.2.2.2.2.2.2.2.2.2.2.2.2.2.2.2.2.2.2.2.2.2.2.2.2.2.2.2.2)]))] } (fun m h => step_on (guard_no rfl) (op_store_lp (n := 29) rfl h.1.1 h.1.2.1 rfl h.2.1.1 (or_agg agg_153) (by rw [non_153]; rfl) rfl rfl rfl) rfl) ⟨⟨rfl, rfl, trivial⟩, ⟨rfl, trivial⟩, trivial⟩ ?_
   refine dr_nil mixed rfl (by kernel_rfl) ?_
   refine post_imp (imp_any 1 4 rfl) ?_
   refine post_imp (imp_any 1 5 rfl) ?_
   refine piz (sX 100 [pf 0 (.vs 3 (List.map eGToken a0)), pf 2 (.int .i64 a2), (6, some (.lp 0 0)), (7, some (.lp 1 0)), (10, some (.lp 2 0))] [bf 0 153 (eGGot_ref09 zGGot_ref09), (1, some (.box 32 [.pv (.str x44), .pv (.vs 1 (List.map eS x45)), .pv (.str x46), .pv (.vs 2 (List.map eGOwner x47)), .any, .any, .pv (.int .i64 x50)])), (2, some (.box 153 [.pv (.str y84.1), .pv (.vs 1 (List.map eS y84.2.1)), .pv (.str y84.2.2.1), .pv (.vs 2 (List.map eGOwner y84.2.2.2.1)), .ls 3, .ls 4, .pv (.int .i64 y84.2.2.2.2.2.2.1), .pv (.str y84.2.2.2.2.2.2.2.1), .pv (.bool y84.2.2.2.2.2.2.2.2.1), .pv (.int .i64 y84.2.2.2.2.2.2.2.2.2.1), .pv (.str y84.2.2.2.2.2.2.2.2.2.2.1), .pv (.int .i64 y84.2.2.2.2.2.2.2.2.2.2.2.1), .pv (.int .i64 y84.2.2.2.2.2.2.2.2.2.2.2.2.1), .pv (.int .i64 y84.2.2.2.2.2.2.2.2.2.2.2.2.2.1), .pv (.int .i64 y84.2.2.2.2.2.2.2.2.2.2.2.2.2.2.1), .pv (.int .i64 y84.2.2.2.2.2.2.2.2.2.2.2.2.2.2.2.1), .pv (.int .i64 y84.2.2.2.2.2.2.2.2.2.2.2.2.2.2.2.2.1), .pv (.int .i64 y84.2.2.2.2.2.2.2.2.2.2.2.2.2.2.2.2.2.1), .pv (.int .i64 y84.2.2.2.2.2.2.2.2.2.2.2.2.2.2.2.2.2.2.1), .pv (.int .i64 y84.2.2.2.2.2.2.2.2.2.2.2.2.2.2.2.2.2.2.2.1), .pv (.vs 13 (List.map eGVar y84.2.2.2.2.2.2.2.2.2.2.2.2.2.2.2.2.2.2.2.2.1)), .pv (.vs 13 (List.map eGVar y84.2.2.2.2.2.2.2.2.2.2.2.2.2.2.2.2.2.2.2.2.2.1)), .ls 5, .pv (.int .i64 y84.2.2.2.2.2.2.2.2.2.2.2.2.2.2.2.2.2.2.2.2.2.2.2.1), .pv (.vs 13 (List.map eGVar y84.2.2.2.2.2.2.2.2.2.2.2.2.2.2.2.2.2.2.2.2.2.2.2.2.1)), .pv (.vs 1 (List.map eS y84.2.2.2.2.2.2.2.2.2.2.2.2.2.2.2.2.2.2.2.2.2.2.2.2.2.1)), .pv (.int .i64 y84.2.2.2.2.2.2.2.2.2.2.2.2.2.2.2.2.2.2.2.2.2.2.2.2.2.2.1), .pv (.int .i64 y84.2.2.2.2.2.2.2.2.2.2.2.2.2.2.2.2.2.2.2.2.2.2.2.2.2.2.2.1), .pv (.int .i64 y84.2.2.2.2.2.2.2.2.2.2.2.2.2.2.2.2.2.2.2.2.2.2.2.2.2.2.2.2)])), (3, some (.row 66 13 (List.map eGVar y84.2.2.2.2.1))), (4, some (.row 40 17 (List.map eGMethod y84.2.2.2.2.2.1))), (5, some (.row 48 23 (eLGStmt y84.2.2.2.2.2.2.2.2.2.2.2.2.2.2.2.2.2.2.2.2.2.2.1)))] 6) [0, 1, 8, 5, 6, 7] ?_
   iterate 8 refine go ?_
   refine cnd hF (fun hb86 hF => ?_) fun hb86 hF => ?_
   ·cases hF
   iterate 4 refine go ?_
   refine rgp (op_load_lp_aggM (cs := [.pv (.str y84.1), .pv (.vs 1 (List.map eS y84.2.1)), .pv (.str y84.2.2.1), .pv (.vs 2 (List.map eGOwner y84.2.2.2.1)), .ls 3, .ls 4, .pv (.int .i64 y84.2.2.2.2.2.2.1)]) rfl rfl rfl rfl rfl agg_32 rfl rfl) ?_
   iterate 6 refine go ?_
   refine reg_nil ?_
   refine piz (sX 100 [pf 0 (.vs 3 (List.map eGToken a0)), pf 1 (.int .i64 y84.2.2.2.2.2.2.2.2.2.2.2.2.2.2.2.2.2.2.2.2.2.2.2.2.2.2.1), pf 2 (.int .i64 a2), (6, some (.lp 0 0)), (7, some (.lp 1 0))] [bf 0 153 (eGGot_ref09 zGGot_ref09), (1, some (.box 32 [.pv (.str y84.1), .pv (.vs 1 (List.map eS y84.2.1)), .pv (.str y84.2.2.1), .pv (.vs 2 (List.map eGOwner y84.2.2.2.1)), .ls 2, .ls 3, .pv (.int .i64 y84.2.2.2.2.2.2.1)])), (2, some (.row 66 13 (List.map eGVar y84.2.2.2.2.1))), (3, some (.row 40 17 (List.map eGMethod y84.2.2.2.2.2.1)))] 4) [0, 1, 3, 4] ?_
   refine go ?_
   refine post_round ?_
   exact rnd_back (ih (y84.2.2.2.2.2.2.2.2.2.2.2.2.2.2.2.2.2.2.2.2.2.2.2.2.2.2.1, y84.1, y84.2.1, y84.2.2.1, y84.2.2.2.1, y84.2.2.2.2.1, y84.2.2.2.2.2.1, y84.2.2.2.2.2.2.1) hF) (impz [0, 1, 2, 3])
  refine aw_exit ?_
  iterate 2 refine post_then_exit ?_
  cases hF
  exact post_lp_break _ rfl (impz [0, 1, 2, 3])
 rintro _ rfl
 have hF := hK104
 obtain ⟨x95, x96, x97, x98, x99, x100, x101, x102⟩ := lr103
 iterate 2 refine go ?_
 refine reg_imp (imp_freeze_in [(2, some (.row 66 13 (List.map eGVar x100)))] [] 1 4 2 (FzH.spec ⟨rfl, trivial⟩) trivial rfl rfl rfl) ?_
 refine reg_imp (imp_freeze_in [(3, some (.row 40 17 (List.map eGMethod x101)))] [] 1 5 3 (FzH.spec ⟨rfl, trivial⟩) trivial rfl rfl rfl) ?_
 refine rgp (la (eGClass ({ fName := x96, fParams := x97, fSuper := x98, fAbove := x99, fFields := x100, fMethods := x101, fAt := x102 } : GClass)) agg_32) ?_
 iterate 2 refine go ?_
 refine rgp (bd ((eGGot_ref09 zGGot_ref09)) (eGGot_ref09 ({ fC := ({ fName := x96, fParams := x97, fSuper := x98, fAbove := x99, fFields := x100, fMethods := x101, fAt := x102 } : GClass), fM := zGMethod, fV := [], fN := [], fNext := w_i64 (x95 + 1), fF := zGFault } : GGot_ref09)) zer_153 plc_153) ?_
 iterate 3 refine go ?_
 cases hF
 exact post_ret rfl rfl (.cons _ _ _ _ _ (.agg _ _ _ _ _ 29 _ _ rfl rfl agg_153 rfl rfl rfl) (.p _) .nil) (.inl rfl)
theorem ref09_Of_ok {a0 : List UInt8} {r : (List GClass) × GFault} (hF : ref09_Of a0 = some r) : FZ 35 [.str a0] [.own 32 7 (List.map eGClass r.1), .p (.agg (eGFault r.2))] := by
 unfold ref09_Of at hF
 refine fn_of_body (n := 65) Tryz.func35 rfl rfl rfl fun w O => ?_
 iterate 2 refine go ?_
 refine rgp (al 0 (eGFault zGFault) zer_73) ?_
 iterate 3 refine go ?_
 obtain ⟨y3, h4, hF⟩ := bs hF
 refine rgp (cl 1 [.str a0] [.p (.vs 3 (List.map eGToken y3.1)), .p (.agg (eGFault y3.2))] (Fn.frozen (ref03_Of_ok h4))) ?_
 refine go ?_
 iterate 2 (refine rgp (op_extract rfl rfl rfl rfl rfl) ?_)
 refine rgp (al 1 (eGFault zGFault) zer_73) ?_
 iterate 9 refine go ?_
 refine cnd hF (fun hb5 hF => ?_) fun hb5 hF => ?_
 ·cases hF
 iterate 4 refine go ?_
 refine reg_imp (imp_nil_own 6 32 7 2 rfl rfl) ?_
 iterate 5 refine go ?_
 refine aw_seq ?_
 obtain ⟨x87, hF, hK88⟩ := bs hF
 refine aw_for (a0.length + 64) (fun s1 => s1 = (sX 65 [(3, some (.lp 0 0)), (6, some (.ls 1))] [bf 0 73 (eGFault zGFault), (1, some (.row 32 7 (List.map eGClass x87)))] 2)) ?_ ?_
 ·refine rnd_loop (α := (List GClass) × Int × Int) (fun q => (sX 65 [(3, some (.lp 0 0)), pf 4 (.vs 3 (List.map eGToken y3.1)), (6, some (.ls 1)), pf 7 (.int .i64 q.2.1), pf 8 (.int .i64 q.2.2)] [bf 0 73 (eGFault zGFault), (1, some (.row 32 7 (List.map eGClass q.1)))] 2)) (fun k q => ref09_Of_L1 y3 k q.1 q.2.1 q.2.2 = some x87) ([], 0, 0) (impz [0, 2]) hF (fun q h => by cases h) ?_
  clear hF
  rintro k ⟨x30, x31, x32⟩ hF ih
  refine rnd_succ ?_
  iterate 4 refine go ?_
  obtain ⟨y62, h63, hF⟩ := bs hF
  refine rgp (cl 2 [.vs 3 (List.map eGToken y3.1), .int .i64 x31] [.p (.agg (eGToken y62))] (ref09_tok_ok h63)) ?_
  refine rgp (op_field1 (p := .int .i64 y62.fKind) rfl rfl ftb_149_0 one_3 rfl rfl rfl) ?_
  iterate 2 refine go ?_
  refine cnd hF (fun hb64 hF => ?_) fun hb64 hF => ?_
  ·iterate 2 refine go ?_
   refine aw_block ?_
   iterate 4 refine go ?_
   obtain ⟨y67, h68, hF⟩ := bs hF
   refine rgp (cl 2 [.vs 3 (List.map eGToken y3.1), .int .i64 x31, .str [99, 108, 97, 115, 115]] [.p (.bool y67)] (ref09_is_ok h68)) ?_
   iterate 2 refine go ?_
   refine cnd hF (fun hb69 hF => ?_) fun hb69 hF => ?_
   ·cases hF
   iterate 5 refine go ?_
   refine rgp (op_len_ls (n := x30.length) rfl rfl rfl (List.length_map ..) slc_22 rfl rfl) ?_
   iterate 2 refine go ?_
   refine cnd hF (fun hb70 hF => ?_) fun hb70 hF => ?_
   ·cases hF
   iterate 6 refine go ?_
   obtain ⟨y73, h74, hF⟩ := bs hF
   refine rgp (cl 2 [.vs 3 (List.map eGToken y3.1), .int .i64 x31, .int .i64 x32] [.p (.agg (eGGot_ref09 y73))] (ref09_class_ok h74)) ?_
   refine rgp (al 2 (eGGot_ref09 zGGot_ref09) zer_153) ?_
   iterate 9 refine go ?_
   refine cnd hF (fun hb75 hF => ?_) fun hb75 hF => ?_
   ·cases hF
   iterate 5 refine go ?_
   refine rgp (la (eGClass y73.fC) agg_32) ?_
   refine rgp (op_lit (rows := List.map eGClass ([y73.fC] : List GClass)) (zs := (eGClass zGClass)) rfl rfl slc_22 zer_32 (by exact ⟨rfl, trivial, rfl, trivial, trivial, trivial, rfl, trivial⟩) rfl rfl rfl rfl rfl rfl rfl rfl) ?_
   obtain ⟨u78, h79, hF⟩ := bs hF
   refine rgp (op_append 3 rfl rfl rfl rfl rfl slc_22 elm_32 zer_32 rfl rfl rfl (room_map (f := eGClass) (g := eGClass) h79) (List.map_append (f := eGClass) (l₁ := x30) (l₂ := [y73.fC])).symm rfl rfl) ?_
   iterate 5 refine go ?_
   refine rgp (la (eGClass y73.fC) agg_32) ?_
   obtain ⟨y82, h83, hF⟩ := bs hF
   refine rgp (cl 4 [.agg (eGClass y73.fC)] [.p (.int .i64 y82)] (ref09_Stmts_ok h83)) ?_
   iterate 7 refine go ?_
   refine reg_nil ?_
   refine piz (sX 65 [(3, some (.lp 0 0)), pf 4 (.vs 3 (List.map eGToken y3.1)), (6, some (.ls 1)), pf 7 (.int .i64 y73.fNext), pf 8 (.int .i64 (w_i64 (x32 + y82)))] [bf 0 73 (eGFault zGFault), (1, some (.row 32 7 (List.map eGClass (x30 ++ [y73.fC]))))] 2) [0, 3] ?_
   refine go ?_
   refine post_round ?_
   exact rnd_back (ih ((x30 ++ [y73.fC]), y73.fNext, w_i64 (x32 + y82)) hF) (impz [0, 1])
  refine aw_exit ?_
  iterate 2 refine post_then_exit ?_
  cases hF
  exact post_lp_break _ rfl (impz [0, 1])
 rintro _ rfl
 have hF := hK88
 iterate 3 refine go ?_
 refine rgp (bd ((eGFault zGFault)) (eGFault ({ fErr := 0, fAt := 0 } : GFault)) zer_73 plc_73) ?_
 iterate 4 refine go ?_
 cases hF
 exact post_ret rfl rfl (.cons _ _ _ _ _ (.tmp _ _ rfl) (.own _ _ _ _ rfl nolent3) (.cons _ _ _ _ _ (.agg _ _ _ _ _ 2 _ _ rfl rfl agg_73 rfl rfl rfl) (.p _) .nil)) (.inl rfl)
theorem heap_Ask_ok {a0 : List GCell} {a1 : Int} {r : Int} (hF : heap_Ask a0 a1 = some r) : FZ 55 [.vs 7 (List.map eGCell a0), .int .i64 a1] [.p (.int .i64 r)] := by
 unfold heap_Ask at hF
 refine fn_of_body (n := 24) Tryz.func55 rfl rfl rfl fun w O => ?_
 iterate 3 refine go ?_
 refine aw_seq ?_
 refine aw_block ?_
 iterate 5 refine go ?_
 refine cnd hF (fun hb1 hF => ?_) fun hb1 hF => ?_
 ·iterate 6 refine go ?_
  cases hF
  exact prt
 refine aw_seq ?_
 obtain ⟨x3, hF, hK5⟩ := bs hF
 refine ctx (sX 24 [pf 0 (.vs 7 (List.map eGCell a0)), pf 1 (.int .i64 a1), pf 8 (.bool x3)] [] 0) ?_ ?_
 ·iterate 4 refine go ?_
  rcases ie hF with ⟨hb2, hF⟩ | ⟨hb2, hF⟩
  ·refine rgo_t hb2 ?_
   iterate 3 refine rgo_t hb2 ?_
   refine rpt hb2 ?_
   refine go ?_
   cases hF
   exact rcz []
  iterate 2 (refine rgn hb2 (op_move rfl rfl rfl rfl) ?_)
  iterate 2 refine gn hb2 ?_
  refine rpf hb2 ?_
  refine go ?_
  cases hF
  exact rcz []
 have hF := hK5
 refine go ?_
 refine cnd hF (fun hb6 hF => ?_) fun hb6 hF => ?_
 ·iterate 6 refine go ?_
  cases hF
  exact prt
 iterate 4 refine go ?_
 obtain ⟨y9, h10, hF⟩ := bs hF
 refine rgp (ix (idx_map eGCell h10) slc_56) ?_
 iterate 4 refine go ?_
 refine cnd hF (fun hb11 hF => ?_) fun hb11 hF => ?_
 ·iterate 6 refine go ?_
  cases hF
  exact prt
 iterate 7 refine go ?_
 cases hF
 exact prt
theorem slices_Reverse_byte_w_ok {b0 : List Int} {r : (List Int)} (hF : slices_Reverse_byte_w b0 = some r) : Abs.FnW globs_Tryz Tryz.prog 82 [.ls 0] [(0, some (.row 5 1 (List.map eI_u8 b0)))] 1 [(0, 0)] [] [(0, some (.row 5 1 (List.map eI_u8 r)))] 1 := by
 unfold slices_Reverse_byte_w at hF
 refine fnW_of_body (n := 28) (m := 1) [0] Tryz.func82 rfl rfl rfl ?_
 intro c w O θ hcx
 iterate 2 refine go ?_
 refine rgp (op_len_ls (n := b0.length) rfl rfl rfl (List.length_map ..) slc_111 rfl rfl) ?_
 iterate 4 refine go ?_
 obtain ⟨x61, hF, hK62⟩ := bs hF
 refine aw_for (b0.length + 1) (fun s1 => s1 = ⟨28, [(0, some (.ls 0))], [(0, some (.row 5 1 (List.map eI_u8 x61)))], 1, [], [], 0, [0]⟩) ?_ ?_
 ·refine rnd_loop (α := (List Int) × Int × Int) (fun q => ⟨28, [(0, some (.ls 0)), (2, some (.pv (.int .i64 q.2.1))), (3, some (.pv (.int .i64 q.2.2)))], [(0, some (.row 5 1 (List.map eI_u8 q.1)))], 1, [], [], 0, [0]⟩) (fun k q => slices_Reverse_byte_w_L1 k q.1 q.2.1 q.2.2 = some x61) (b0, 0, w_i64 ((b0.length : Int) - 1)) (impz [0]) hF (fun q h => by cases h) ?_
  clear hF
  rintro k ⟨x18, x19, x20⟩ hF ih
  refine rnd_succ ?_
  iterate 6 refine go ?_
  refine cnd hF (fun hb41 hF => ?_) fun hb41 hF => ?_
  ·iterate 2 refine go ?_
   refine aw_seq ?_
   refine aw_block ?_
   refine dr_start ⟨_, _, _⟩ rfl ?_
   iterate 6 refine dgo ?_
   obtain ⟨y50, h51, hF⟩ := bs hF
   refine dr_cons { need := [(18, .ls 0), (19, .pv (.int .i64 x20))], hneed := [(0, .row 5 1 (List.map eI_u8 x18))], dst := some 20, val := some (.le 0 1 (x20 : Int).toNat 0) } (fun m h => step_on (guard_no rfl) (op_index_ls (k := .i64) rfl h.1.1 h.1.2.1 h.2.1.1 (idx_map eI_u8 h51) slc_111 rfl rfl) rfl) ⟨⟨rfl, rfl, trivial⟩, ⟨rfl, trivial⟩, trivial⟩ ?_
   refine dr_cons { need := [(20, .le 0 1 (x20 : Int).toNat 0)], hneed := [(0, .row 5 1 (List.map eI_u8 x18))], dst := some 21, val := some (.pv (.int .u8 y50)) } (fun m h => step_on (guard_no rfl) (op_load_le (p := .int .u8 y50) rfl h.1.1 h.2.1.1 (map_get eI_u8 h51) rfl one_5 rfl rfl) rfl) ⟨⟨rfl, trivial⟩, ⟨rfl, trivial⟩, trivial⟩ ?_
   iterate 2 refine dgo ?_
   obtain ⟨y52, h53, hF⟩ := bs hF
   refine dr_cons { need := [(22, .ls 0), (23, .pv (.int .i64 x19))], hneed := [(0, .row 5 1 (List.map eI_u8 x18))], dst := some 24, val := some (.le 0 1 (x19 : Int).toNat 0) } (fun m h => step_on (guard_no rfl) (op_index_ls (k := .i64) rfl h.1.1 h.1.2.1 h.2.1.1 (idx_map eI_u8 h53) slc_111 rfl rfl) rfl) ⟨⟨rfl, rfl, trivial⟩, ⟨rfl, trivial⟩, trivial⟩ ?_
   refine dr_cons { need := [(24, .le 0 1 (x19 : Int).toNat 0)], hneed := [(0, .row 5 1 (List.map eI_u8 x18))], dst := some 25, val := some (.pv (.int .u8 y52)) } (fun m h => step_on (guard_no rfl) (op_load_le (p := .int .u8 y52) rfl h.1.1 h.2.1.1 (map_get eI_u8 h53) rfl one_5 rfl rfl) rfl) ⟨⟨rfl, trivial⟩, ⟨rfl, trivial⟩, trivial⟩ ?_
   obtain ⟨y54, h55, hF⟩ := bs hF
   refine dr_cons { need := [(14, .ls 0), (15, .pv (.int .i64 x19))], hneed := [(0, .row 5 1 (List.map eI_u8 x18))], dst := some 26, val := some (.le 0 1 (x19 : Int).toNat 0) } (fun m h => step_on (guard_no rfl) (op_index_ls (k := .i64) rfl h.1.1 h.1.2.1 h.2.1.1 (idx_map eI_u8 h55) slc_111 rfl rfl) rfl) ⟨⟨rfl, rfl, trivial⟩, ⟨rfl, trivial⟩, trivial⟩ ?_
   refine dr_cons { need := [(26, .le 0 1 (x19 : Int).toNat 0), (21, .pv (.int .u8 y50))], hneed := [(0, .row 5 1 (List.map eI_u8 x18))], upd := [(0, some (.row 5 1 (List.map eI_u8 (x18.set (x19 : Int).toNat y50))))] } (fun m h => step_on (guard_no rfl) (op_store_le (n := 1) rfl h.1.1 h.1.2.1 rfl h.2.1.1 (map_get eI_u8 h55) (or_one one_5) (by rw [one_5]; rfl) rfl (map_set' eI_u8 x18 _ y50) rfl rfl) rfl) ⟨⟨rfl, rfl, trivial⟩, ⟨rfl, trivial⟩, trivial⟩ ?_
   obtain ⟨y56, h57, hF⟩ := bs hF
   refine dr_cons { need := [(16, .ls 0), (17, .pv (.int .i64 x20))], hneed := [(0, .row 5 1 (List.map eI_u8 (x18.set (x19 : Int).toNat y50)))], dst := some 27, val := some (.le 0 1 (x20 : Int).toNat 0) } (fun m h => step_on (guard_no rfl) (op_index_ls (k := .i64) rfl h.1.1 h.1.2.1 h.2.1.1 (idx_map eI_u8 h57) slc_111 rfl rfl) rfl) ⟨⟨rfl, rfl, trivial⟩, ⟨rfl, trivial⟩, trivial⟩ ?_
   refine dr_cons { need := [(27, .le 0 1 (x20 : Int).toNat 0), (25, .pv (.int .u8 y52))], hneed := [(0, .row 5 1 (List.map eI_u8 (x18.set (x19 : Int).toNat y50)))], upd := [(0, some (.row 5 1 (List.map eI_u8 ((x18.set (x19 : Int).toNat y50).set (x20 : Int).toNat y52))))] } (fun m h => step_on (guard_no rfl) (op_store_le (n := 1) rfl h.1.1 h.1.2.1 rfl h.2.1.1 (map_get eI_u8 h57) (or_one one_5) (by rw [one_5]; rfl) rfl (map_set' eI_u8 (x18.set (x19 : Int).toNat y50) _ y52) rfl rfl) rfl) ⟨⟨rfl, rfl, trivial⟩, ⟨rfl, trivial⟩, trivial⟩ ?_
   refine dr_nil mixed rfl (by kernel_rfl) ?_
   refine piz ⟨28, [(0, some (.ls 0)), (2, some (.pv (.int .i64 x19))), (3, some (.pv (.int .i64 x20)))], [(0, some (.row 5 1 (List.map eI_u8 ((x18.set (x19 : Int).toNat y50).set (x20 : Int).toNat y52))))], 1, [], [], 0, [0]⟩ [0] ?_
   iterate 9 refine go ?_
   refine rnr ?_
   exact rnd_back (ih (((x18.set (x19 : Int).toNat y50).set (x20 : Int).toNat y52), w_i64 (x19 + 1), w_i64 (x20 - 1)) hF) (impz [0])
  refine aw_exit ?_
  iterate 2 refine post_then_exit ?_
  cases hF
  exact post_lp_break _ rfl (impz [0])
 rintro _ rfl
 have hF := hK62
 refine piz ⟨28, [(0, some (.ls 0))], [(0, some (.row 5 1 (List.map eI_u8 x61)))], 1, [], [], 0, [0]⟩ [0] ?_
 cases hF
 exact post_retW hcx rfl .nil rfl (.inr rfl)
theorem word_Digits_ok {a0 : Int} {r : (List UInt8)} (hF : word_Digits a0 = some r) : FZ 49 [.int .i64 a0] [.p (.str r)] := by
 unfold word_Digits at hF
 refine fn_of_body (n := 38) Tryz.func49 rfl rfl rfl fun w O => ?_
 iterate 5 refine go ?_
 refine rgp (op_convInt rfl rfl und_3 und_93 rfl rfl) ?_
 iterate 2 refine go ?_
 refine aw_seq ?_
 obtain ⟨x2, hF, hK4⟩ := bs hF
 refine ctx (sX 38 [pf 0 (.int .i64 a0), pf 3 (.int .u64 x2)] [] 0) ?_ ?_
 ·iterate 4 refine go ?_
  refine cnd hF (fun hb1 hF => ?_) fun hb1 hF => ?_
  ·iterate 2 refine go ?_
   refine rgp (op_neg rfl rfl rfl rfl) ?_
   refine go ?_
   cases hF
   exact rcz []
  refine go ?_
  cases hF
  exact pcz []
 have hF := hK4
 iterate 3 refine go ?_
 refine reg_imp (imp_nil_own 4 5 1 0 rfl rfl) ?_
 iterate 5 refine go ?_
 refine rgp (op_int2 (k := .u64) (m := x2) (n := 10) rfl rfl rfl (rem_op (by decide)) rfl rfl) ?_
 refine go ?_
 refine rgp (op_convInt rfl rfl und_93 und_5 rfl rfl) ?_
 refine rgp (op_lit (rows := List.map eI_u8 ([w_u8 (w_u64 (48 + (Int.tmod x2 10)))] : List Int)) (zs := [.int .u8 0]) rfl rfl slc_111 zer_5 (by exact ⟨rfl, trivial⟩) rfl rfl rfl rfl rfl rfl rfl rfl) ?_
 obtain ⟨u7, h8, hF⟩ := bs hF
 refine rgp (op_append 1 rfl rfl rfl rfl rfl slc_111 elm_5 zer_5 rfl rfl rfl (room_map (f := eI_u8) (g := eI_u8) h8) (List.map_append (f := eI_u8) (l₁ := []) (l₂ := [w_u8 (w_u64 (48 + (Int.tmod x2 10)))])).symm rfl rfl) ?_
 iterate 2 refine go ?_
 obtain ⟨x24, hF, hK25⟩ := bs hF
 refine aw_for 21 (fun s1 => s1 = (sX 38 [pf 0 (.int .i64 a0), (4, some (.ls 0))] [(0, some (.row 5 1 (List.map eI_u8 x24)))] 1)) ?_ ?_
 ·refine rnd_loop (α := Int × (List Int)) (fun q => (sX 38 [pf 0 (.int .i64 a0), pf 3 (.int .u64 q.1), (4, some (.ls 0))] [(0, some (.row 5 1 (List.map eI_u8 q.2)))] 1)) (fun k q => word_Digits_L1 k q.1 q.2 = some x24) (x2, ([] ++ [w_u8 (w_u64 (48 + (Int.tmod x2 10)))])) (impz [1]) hF (fun q h => by cases h) ?_
  clear hF
  rintro k ⟨x12, x13⟩ hF ih
  refine rnd_succ ?_
  iterate 5 refine go ?_
  refine cnd hF (fun hb19 hF => ?_) fun hb19 hF => ?_
  ·iterate 2 refine go ?_
   refine aw_seq ?_
   refine aw_block ?_
   iterate 2 refine go ?_
   refine rgp (op_int2 (k := .u64) (m := x12) (n := 10) rfl rfl rfl (quo_op (by decide)) rfl rfl) ?_
   refine go ?_
   refine reg_nil ?_
   refine piz (sX 38 [pf 0 (.int .i64 a0), pf 3 (.int .u64 (w_u64 (Int.tdiv x12 10))), (4, some (.ls 0))] [(0, some (.row 5 1 (List.map eI_u8 x13)))] 1) [0] ?_
   iterate 5 refine go ?_
   refine rgp (op_int2 (k := .u64) (m := w_u64 (Int.tdiv x12 10)) (n := 10) rfl rfl rfl (rem_op (by decide)) rfl rfl) ?_
   refine go ?_
   refine rgp (op_convInt rfl rfl und_93 und_5 rfl rfl) ?_
   refine rgp (op_lit (rows := List.map eI_u8 ([w_u8 (w_u64 (48 + (Int.tmod (w_u64 (Int.tdiv x12 10)) 10)))] : List Int)) (zs := [.int .u8 0]) rfl rfl slc_111 zer_5 (by exact ⟨rfl, trivial⟩) rfl rfl rfl rfl rfl rfl rfl rfl) ?_
   obtain ⟨u20, h21, hF⟩ := bs hF
   refine rgp (op_append 1 rfl rfl rfl rfl rfl slc_111 elm_5 zer_5 rfl rfl rfl (room_map (f := eI_u8) (g := eI_u8) h21) (List.map_append (f := eI_u8) (l₁ := x13) (l₂ := [w_u8 (w_u64 (48 + (Int.tmod (w_u64 (Int.tdiv x12 10)) 10)))])).symm rfl rfl) ?_
   refine go ?_
   refine rnr ?_
   exact rnd_back (ih (w_u64 (Int.tdiv x12 10), (x13 ++ [w_u8 (w_u64 (48 + (Int.tmod (w_u64 (Int.tdiv x12 10)) 10)))])) hF) (impz [1])
  refine aw_exit ?_
  iterate 2 refine post_then_exit ?_
  cases hF
  exact post_lp_break _ rfl (impz [0])
 rintro _ rfl
 have hF := hK25
 refine go ?_
 refine aw_seq ?_
 obtain ⟨x29, hF, hK31⟩ := bs hF
 refine ctx (sX 38 [(4, some (.ls 0))] [(0, some (.row 5 1 (List.map eI_u8 x29)))] 1) ?_ ?_
 ·iterate 4 refine go ?_
  refine cnd hF (fun hb26 hF => ?_) fun hb26 hF => ?_
  ·iterate 2 refine go ?_
   refine rgp (op_lit (rows := List.map eI_u8 ([45] : List Int)) (zs := [.int .u8 0]) rfl rfl slc_111 zer_5 (by exact ⟨rfl, trivial⟩) rfl rfl rfl rfl rfl rfl rfl rfl) ?_
   obtain ⟨u27, h28, hF⟩ := bs hF
   refine rgp (op_append 1 rfl rfl rfl rfl rfl slc_111 elm_5 zer_5 rfl rfl rfl (room_map (f := eI_u8) (g := eI_u8) h28) (List.map_append (f := eI_u8) (l₁ := x24) (l₂ := [45])).symm rfl rfl) ?_
   refine go ?_
   cases hF
   exact rcz [1]
  refine go ?_
  cases hF
  exact pcz [0]
 have hF := hK31
 iterate 3 refine go ?_
 obtain ⟨y32, h33, hF⟩ := bs hF
 refine rgp (op_callW (args := [.ls 0]) [0] [0] [] 1 rfl rfl rfl rfl rfl cal_82 (slices_Reverse_byte_w_ok h33) rfl (by decide) ⟨rfl, trivial⟩ rfl (by decide) ⟨.inl rfl, trivial⟩ (by kernel_rfl) (by kernel_rfl) rfl rfl rfl rfl) ?_
 iterate 3 refine go ?_
 refine reg_imp (imp_freeze [(0, some (.row 5 1 (List.map eI_u8 y32)))] [(4, some (.pv (.vs 1 (List.map eI_u8 y32)))), (36, some (.pv (.vs 1 (List.map eI_u8 y32))))] (FzH.spec ⟨rfl, trivial⟩) ⟨⟨_, rfl, rfl⟩, ⟨_, rfl, rfl⟩, trivial⟩) ?_
 refine rgp (op_bytesStr (E := eI_u8) rfl rfl rfl und_111 und_5 und_9 rfl rfl) ?_
 iterate 3 refine go ?_
 cases hF
 exact prt
theorem above_up_ok {a0 : List GClass} {a1 : List UInt8} {r : (List GClass) × (List UInt8)} (hF : above_up a0 a1 = some r) : FZ 117 [.vs 7 (List.map eGClass a0), .str a1] [.clo 138 [.vp ((eL 7 eGClass) r.1)] 9 [.str r.2] []] := by
 unfold above_up at hF
 refine fn_of_body (n := 6) Tryz.func117 rfl rfl rfl fun w O => ?_
 refine go ?_
 refine rgp (bo 0) ?_
 refine rgp (bo 1) ?_
 iterate 3 refine go ?_
 refine rgp (op_makeFunc rfl rfl rfl rfl) ?_
 iterate 3 refine go ?_
 refine post_imp (imp_freeze_cap 4 0 [.pv (.vp ((eL 7 eGClass) a0)), .lp 1 0] rfl rfl rfl rfl ⟨.inr ⟨rfl, rfl⟩, .inl rfl, trivial⟩) ?_
 cases hF
 exact post_ret rfl rfl (.cons _ _ _ _ _ (.tmp _ _ rfl) (.clo 138 [.vp ((eL 7 eGClass) a0)] [] 1 9 [.str a1] rfl nolent3) .nil) (.inl rfl)
theorem slices_IndexFunc_api_Class_ok {a0 : List GClass} {q1 : GClass → Option Bool} {r : Int} {q1_f : Nat} {q1_c : List PV} (q1_b : callB Tryz.prog q1_f = true) (q1_h : ∀ (x0 : GClass) (r : Bool), q1 x0 = some r → FZ q1_f ([.agg (eGClass x0)] ++ q1_c) [.p (.bool r)]) (hF : slices_IndexFunc_api_Class a0 q1 = some r) : FZ 158 [.vs 7 (List.map eGClass a0), .fn q1_f q1_c] [.p (.int .i64 r)] := by
 unfold slices_IndexFunc_api_Class at hF
 refine fn_of_body (n := 19) Tryz.func158 rfl rfl rfl fun w O => ?_
 iterate 9 refine go ?_
 obtain ⟨lr34, hF, hK35⟩ := bs hF
 refine aw_for ((a0.length - 0 : Int).toNat + 1) (fun s1 => ∃ q, lr34 = .next q ∧ s1 = (sX 19 [] [] 0)) ?_ ?_
 ·refine rnd_loop (α := Int) (fun q => (sX 19 [pf 0 (.vs 7 (List.map eGClass a0)), pf 1 (.fn q1_f q1_c), pf 7 (.int .i64 (a0.length : Int)), pf 8 (.int .i64 q)] [] 0)) (fun k q => slices_IndexFunc_api_Class_L1 a0 q1 k q = some lr34) 0 (impz []) hF (fun q h => by cases h) ?_
  clear hF
  rintro k x11 hF ih
  refine rnd_succ ?_
  iterate 3 refine go ?_
  refine aw_seq ?_
  refine cnd hF (fun hb23 hF => ?_) fun hb23 hF => ?_
  ·iterate 2 refine go ?_
   refine aw_seq ?_
   refine aw_block ?_
   iterate 8 refine go ?_
   obtain ⟨y28, h29, hF⟩ := bs hF
   refine rgp (ix (idx_map eGClass h29) slc_22) ?_
   refine rgp (lw (eGClass y28) agg_32) ?_
   obtain ⟨y30, h31, hF⟩ := bs hF
   refine rgp (op_call 0 rfl (caps := q1_c) (args := [.agg (eGClass y28)]) (rs := [.p (.bool y30)]) rfl rfl rfl q1_b (q1_h y28 _ h31) rfl rfl rfl) ?_
   refine go ?_
   refine cnd hF (fun hb32 hF => ?_) fun hb32 hF => ?_
   ·iterate 8 refine go ?_
    refine post_lp_ret ?_
    cases hF
    have hF := elim_stop hK35
    refine go ?_
    cases hF
    exact prt
   iterate 6 refine go ?_
   refine rnr ?_
   exact rnd_back (ih (w_i64 (x11 + 1)) hF) (impz [])
  refine aw_exit ?_
  iterate 2 refine post_then_exit ?_
  cases hF
  exact post_lp_break _ ⟨_, rfl, rfl⟩ (impz [])
 rintro _ ⟨⟨⟩, rfl, rfl⟩
 have hF := elim_next hK35
 clear hK35
 iterate 5 refine go ?_
 cases hF
 exact prt
theorem table_Find_1_ok {a0 : GClass} {c0 : List UInt8} {r : Bool} (hF : table_Find_1 a0 c0 = some r) : FZ 159 [.agg (eGClass a0), .vp (eS c0)] [.p (.bool r)] := by
 unfold table_Find_1 at hF
 refine fn_of_body (n := 8) Tryz.func159 rfl rfl rfl fun w O => ?_
 refine go ?_
 refine rgp (bo 0) ?_
 iterate 6 refine go ?_
 refine rgp (op_str rfl rfl rfl rfl rfl rfl) ?_
 iterate 3 refine go ?_
 cases hF
 exact prt
theorem table_Find_ok {a0 : List GClass} {a1 : List UInt8} {r : Int} (hF : table_Find a0 a1 = some r) : FZ 139 [.vs 7 (List.map eGClass a0), .str a1] [.p (.int .i64 r)] := by
 unfold table_Find at hF
 refine fn_of_body (n := 8) Tryz.func139 rfl rfl rfl fun w O => ?_
 refine go ?_
 refine rgp (bo 0) ?_
 iterate 4 refine go ?_
 refine rgp (op_makeFunc rfl rfl rfl rfl) ?_
 obtain ⟨y2, h3, hF⟩ := bs hF
 refine rgp (op_callB 1 rfl (caps := []) (args := [.vs 7 (List.map eGClass a0), .fn 159 [.vp (eS a1)]]) [(0, some (.box 9 [.pv (.str a1)]))] rfl rfl rfl (FzH.spec ⟨rfl, trivial⟩) rfl rfl cal_158 (slices_IndexFunc_api_Class_ok (q1_f := 159) (q1_c := [.vp (eS a1)]) (q1_b := cal_159) (q1_h := fun _ r h => (table_Find_1_ok h)) h3) rfl rfl rfl) ?_
 iterate 3 refine go ?_
 cases hF
 exact prt
theorem above_up_1_it {rows : List (Int)} {sp : Nat} {c0 : List GClass} {c1 : List UInt8} (hF : above_up_1 rows sp c0 c1 = some (min (sp + 1) rows.length)) : It globs_Tryz Tryz.prog 138 1 [.vp ((eL 7 eGClass) c0)] (some (9, [.str c1])) [] (rows.map (fun z : Int => ([.int .i64 z] : List PV))) sp := by
 unfold above_up_1 at hF
 refine it_of_body (n := 29) Tryz.func138 rfl rfl rfl ?_
 intro l c hcx
 iterate 5 refine go ?_
 refine reg_nil ?_
 refine piz (sX 29 [pf 0 (.yld l), pf 1 (.vp ((eL 7 eGClass) c0)), (2, some (.lp 0 0)), pf 7 (.int .i64 (w_i64 ((c0.length : Int) + 1))), pf 8 (.int .i64 0)] [(0, some (.box 9 [.pv (.str c1)]))] 1) [0] ?_
 refine go ?_
 obtain ⟨lr65, hF, hK66⟩ := bs hF
 refine aw_for ((((w_i64 ((c0.length : Int) + 1)) : Int) - (0)).toNat + 1) (fun s1 => ∃ q, lr65 = .next q ∧ s1 = ⟨29, [], [], 0, [], [], q, []⟩) ?_ ?_
 ·refine rnd_loop (α := Nat × (List UInt8) × Int) (fun q => ⟨29, [(0, some (.pv (.yld l))), (1, some (.pv (.vp ((eL 7 eGClass) c0)))), (2, some (.lp 0 0)), (7, some (.pv (.int .i64 (w_i64 ((c0.length : Int) + 1))))), (8, some (.pv (.int .i64 q.2.2)))], [(0, some (.box 9 [.pv (.str q.2.1)]))], 1, [], [], q.1, []⟩) (fun k q => above_up_1_L1 c0 sp rows k q.1 q.2.1 q.2.2 = some lr65) (0, c1, 0) (impz [0]) hF (fun q h => by cases h) ?_
  clear hF
  rintro k ⟨x19, x20, x21⟩ hF ih
  refine rnd_succ ?_
  iterate 2 refine go ?_
  refine reg_nil ?_
  refine piz ⟨29, [(0, some (.pv (.yld l))), (1, some (.pv (.vp ((eL 7 eGClass) c0)))), (2, some (.lp 0 0)), (7, some (.pv (.int .i64 (w_i64 ((c0.length : Int) + 1))))), (8, some (.pv (.int .i64 x21))), (9, some (.pv (.bool (decide (x21 < (w_i64 ((c0.length : Int) + 1)))))))], [(0, some (.box 9 [.pv (.str x20)]))], 1, [], [], x19, []⟩ [0] ?_
  refine go ?_
  refine aw_seq ?_
  refine cnd hF (fun hb43 hF => ?_) fun hb43 hF => ?_
  ·iterate 2 refine go ?_
   refine aw_seq ?_
   refine aw_block ?_
   iterate 3 refine go ?_
   obtain ⟨y46, h47, hF⟩ := bs hF
   refine rgp (cl 1 [.vs 7 (List.map eGClass c0), .str x20] [.p (.int .i64 y46)] (table_Find_ok h47)) ?_
   refine go ?_
   refine reg_nil ?_
   refine piz ⟨29, [(0, some (.pv (.yld l))), (1, some (.pv (.vp ((eL 7 eGClass) c0)))), (2, some (.lp 0 0)), (4, some (.pv (.int .i64 y46))), (7, some (.pv (.int .i64 (w_i64 ((c0.length : Int) + 1))))), (8, some (.pv (.int .i64 x21)))], [(0, some (.box 9 [.pv (.str x20)]))], 1, [], [], x19, []⟩ [0] ?_
   refine go ?_
   refine aw_seq ?_
   refine aw_seq ?_
   obtain ⟨p53, hF, hK54⟩ := bs hF
   obtain ⟨x51, x52⟩ := p53
   refine ctx ⟨29, [(0, some (.pv (.yld l))), (1, some (.pv (.vp ((eL 7 eGClass) c0)))), (2, some (.lp 0 0)), (4, some (.pv (.int .i64 y46))), (7, some (.pv (.int .i64 (w_i64 ((c0.length : Int) + 1))))), (8, some (.pv (.int .i64 x21))), (20, some (.pv (.bool x52)))], [(0, some (.box 9 [.pv (.str x20)]))], 1, [], [], x51, []⟩ ?_ ?_
   ·iterate 4 refine go ?_
    rcases ie hF with ⟨hb48, hF⟩ | ⟨hb48, hF⟩
    ·refine rgo_t hb48 ?_
     iterate 3 refine rgo_t hb48 ?_
     refine rpt hb48 ?_
     cases hF
     exact rcz [0]
    iterate 2 (refine rgn hb48 (op_move rfl rfl rfl rfl) ?_)
    obtain ⟨u49, h50, hF⟩ := bs hF
    refine rgn hb48 (op_yield (row := (fun z : Int => ([.int .i64 z] : List PV)) y46) hcx rfl rfl rfl rfl (yck_row (fun z : Int => ([.int .i64 z] : List PV)) h50) (yck_spec h50).2 rfl rfl) ?_
    refine gn hb48 ?_
    refine rpf hb48 ?_
    cases hF
    exact rcz [0]
   have hF := hK54
   refine go ?_
   refine cnd hF (fun hb55 hF => ?_) fun hb55 hF => ?_
   ·iterate 5 refine go ?_
    refine post_lp_ret ?_
    cases hF
    have hF := elim_stop hK66
    exact post_it (it_len hF) rfl (.inl rfl)
   iterate 5 refine go ?_
   obtain ⟨y58, h59, hF⟩ := bs hF
   refine rgp (ix (idx_map eGClass h59) slc_22) ?_
   iterate 3 refine go ?_
   refine reg_nil ?_
   refine piz ⟨29, [(0, some (.pv (.yld l))), (1, some (.pv (.vp ((eL 7 eGClass) c0)))), (2, some (.lp 0 0)), (7, some (.pv (.int .i64 (w_i64 ((c0.length : Int) + 1))))), (8, some (.pv (.int .i64 x21)))], [(0, some (.box 9 [.pv (.str y58.fSuper)]))], 1, [], [], x51, []⟩ [0] ?_
   iterate 3 refine go ?_
   refine rgp (op_str rfl rfl rfl rfl rfl rfl) ?_
   refine reg_nil ?_
   refine piz ⟨29, [(0, some (.pv (.yld l))), (1, some (.pv (.vp ((eL 7 eGClass) c0)))), (2, some (.lp 0 0)), (7, some (.pv (.int .i64 (w_i64 ((c0.length : Int) + 1))))), (8, some (.pv (.int .i64 x21))), (27, some (.pv (.bool (y58.fSuper == []))))], [(0, some (.box 9 [.pv (.str y58.fSuper)]))], 1, [], [], x51, []⟩ [0] ?_
   refine go ?_
   refine cnd hF (fun hb60 hF => ?_) fun hb60 hF => ?_
   ·iterate 4 refine go ?_
    refine post_lp_ret ?_
    cases hF
    have hF := elim_stop hK66
    exact post_it (it_len hF) rfl (.inl rfl)
   iterate 6 refine go ?_
   refine rnr ?_
   exact rnd_back (ih (x51, y58.fSuper, w_i64 (x21 + 1)) hF) (impz [0])
  refine aw_exit ?_
  iterate 2 refine post_then_exit ?_
  cases hF
  exact post_lp_break _ ⟨_, rfl, rfl⟩ (impz [])
 rintro _ ⟨x64, rfl, rfl⟩
 have hF := elim_next hK66
 clear hK66
 exact post_it (it_len hF) rfl (.inr rfl)

theorem slices_Index_int_ok {a0 : List Int} {a1 : Int} {r : Int} (hF : slices_Index_int a0 a1 = some r) : FZ 140 [.vs 1 (List.map eI a0), .int .i64 a1] [.p (.int .i64 r)] := by
 unfold slices_Index_int at hF
 refine fn_of_body (n := 19) Tryz.func140 rfl rfl rfl fun w O => ?_
 iterate 9 refine go ?_
 obtain ⟨lr22, hF, hK23⟩ := bs hF
 refine aw_for ((a0.length - 0 : Int).toNat + 1) (fun s1 => ∃ q, lr22 = .next q ∧ s1 = (sX 19 [] [] 0)) ?_ ?_
 ·refine rnd_loop (α := Int) (fun q => (sX 19 [pf 0 (.vs 1 (List.map eI a0)), pf 1 (.int .i64 a1), pf 7 (.int .i64 (a0.length : Int)), pf 8 (.int .i64 q)] [] 0)) (fun k q => slices_Index_int_L1 a0 a1 k q = some lr22) 0 (impz []) hF (fun q h => by cases h) ?_
  clear hF
  rintro k x7 hF ih
  refine rnd_succ ?_
  iterate 3 refine go ?_
  refine aw_seq ?_
  refine cnd hF (fun hb15 hF => ?_) fun hb15 hF => ?_
  ·iterate 2 refine go ?_
   refine aw_seq ?_
   refine aw_block ?_
   iterate 8 refine go ?_
   obtain ⟨y18, h19, hF⟩ := bs hF
   refine rgp (ix (idx_map eI h19) slc_75) ?_
   iterate 3 refine go ?_
   refine cnd hF (fun hb20 hF => ?_) fun hb20 hF => ?_
   ·iterate 8 refine go ?_
    refine post_lp_ret ?_
    cases hF
    have hF := elim_stop hK23
    refine go ?_
    cases hF
    exact prt
   iterate 6 refine go ?_
   refine rnr ?_
   exact rnd_back (ih (w_i64 (x7 + 1)) hF) (impz [])
  refine aw_exit ?_
  iterate 2 refine post_then_exit ?_
  cases hF
  exact post_lp_break _ ⟨_, rfl, rfl⟩ (impz [])
 rintro _ ⟨⟨⟩, rfl, rfl⟩
 have hF := elim_next hK23
 clear hK23
 iterate 5 refine go ?_
 cases hF
 exact prt
theorem slices_Contains_int_ok {a0 : List Int} {a1 : Int} {r : Bool} (hF : slices_Contains_int a0 a1 = some r) : FZ 118 [.vs 1 (List.map eI a0), .int .i64 a1] [.p (.bool r)] := by
 unfold slices_Contains_int at hF
 refine fn_of_body (n := 9) Tryz.func118 rfl rfl rfl fun w O => ?_
 iterate 6 refine go ?_
 obtain ⟨y1, h2, hF⟩ := bs hF
 refine rgp (cl 0 [.vs 1 (List.map eI a0), .int .i64 a1] [.p (.int .i64 y1)] (slices_Index_int_ok h2)) ?_
 iterate 4 refine go ?_
 cases hF
 exact prt
theorem above_Chain_ok {a0 : List GClass} {a1 : List UInt8} {r : (List Int)} (hF : above_Chain a0 a1 = some r) : FZ 87 [.vs 7 (List.map eGClass a0), .str a1] [.own 3 1 (List.map eI r)] := by
 unfold above_Chain at hF
 refine fn_of_body (n := 19) Tryz.func87 rfl rfl rfl fun w O => ?_
 iterate 4 refine go ?_
 refine rgp (al 0 [.nils] zer_75) ?_
 refine reg_imp (imp_nil_box 0 0 75 3 1 1 rfl rfl rfl) ?_
 iterate 5 refine go ?_
 obtain ⟨y3, h4, hF⟩ := bs hF
 refine rgp (cl 2 [.vs 7 (List.map eGClass a0), .str a1] [.clo 138 [.vp ((eL 7 eGClass) y3.1)] 9 [.str y3.2] []] (above_up_ok h4)) ?_
 refine go ?_
 refine aw_block ?_
 refine aw_imp (s' := (sX 19 [(5, some (.lp 0 0)), (9, some (.fn 138 [.pv (.vp ((eL 7 eGClass) y3.1)), .lp 2 0]))] [(0, some (.box 75 [.ls 1])), (1, some (.row 3 1 (List.map eI []))), (2, some (.box 9 [.pv (.str y3.2)]))] 3)) (impz [0, 1, 2]) ?_
 obtain ⟨rows33, hR34, hF⟩ := bs hF
 obtain ⟨lr35, hL36, hF⟩ := bs hF
 refine aw_rangeFunc (X := Int) (Q := (List Int)) (E := (List Int)) (pre := [.vp ((eL 7 eGClass) y3.1)]) (bx := (some (9, [.str y3.2]))) (post := []) (kt := [5]) (psl := [10]) (some 2) (fun z : Int => ([.int .i64 z] : List PV)) rows33 above_Chain_B1 [] lr35 hL36 (fun q => (sX 19 [(5, some (.lp 0 0))] [(0, some (.box 75 [.ls 1])), (1, some (.row 3 1 (List.map eI q)))] 3)) (fun z => ((.exit 0), (sX 19 [(5, some (.lp 0 0))] [(0, some (.box 75 [.ls 1])), (1, some (.row 3 1 (List.map eI z)))] 2))) ⟨_, _, rfl, rfl, rfl⟩ cal_138 (fun sp => above_up_1_it (itR_up_ok hR34 sp)) (fun _ => rfl) rfl rfl (by decide) rfl (fun x q => ⟨19, [(5, some (.lp 0 0)), (6, some (.pv (.int .i64 x))), (10, some (.pv (.int .i64 x)))], [(0, some (.box 75 [.ls 1])), (1, some (.row 3 1 (List.map eI q)))], 3, [], [], 0, [5]⟩) (fun q => ⟨rfl, rfl, rfl, rfl⟩) (fun z => ⟨rfl, rfl, rfl, rfl⟩) (fun z => rfl) rfl rfl ⟨rfl, trivial⟩ ⟨⟨rfl, rfl, rfl⟩, ⟨rfl, rfl, rfl⟩, trivial⟩ ?_ ?_ ?_ ?_
 ·rintro l37 c38 x23 x13 hc39
  iterate 2 refine go ?_
  refine reg_nil ?_
  exact post_cut1 (impz [0, 1, 2])
 ·rintro l37 c38 x23 x13 r40 hc39 hF
  refine aw_block ?_
  iterate 4 refine go ?_
  obtain ⟨y26, h27, hF⟩ := bs hF
  refine rgp (op_callB 3 rfl (caps := []) (args := [.vs 1 (List.map eI x13), .int .i64 x23]) [(1, some (.row 3 1 (List.map eI x13)))] rfl rfl rfl (FzH.spec ⟨rfl, trivial⟩) rfl rfl cal_118 (slices_Contains_int_ok h27) rfl rfl rfl) ?_
  refine go ?_
  refine cnd hF (fun hb28 hF => ?_) fun hb28 hF => ?_
  ·refine aw_exit ?_
   refine post_then_exit ?_
   refine post_block_other rfl ?_
   cases hF
   exact post_rnd_exit x13 rfl rfl (impz [0, 1])
  iterate 5 refine go ?_
  refine rgp (op_lit (rows := List.map eI ([x23] : List Int)) (zs := [.int .i64 0]) rfl rfl slc_75 zer_3 (by exact ⟨rfl, trivial⟩) rfl rfl rfl rfl rfl rfl rfl rfl) ?_
  obtain ⟨u29, h30, hF⟩ := bs hF
  refine rgp (op_append 3 rfl rfl rfl rfl rfl slc_75 elm_3 zer_3 rfl rfl rfl (room_map (f := eI) (g := eI) h30) (List.map_append (f := eI) (l₁ := x13) (l₂ := [x23])).symm rfl rfl) ?_
  refine go ?_
  refine reg_nil ?_
  refine piz ⟨19, [(5, some (.lp 0 0))], [(0, some (.box 75 [.ls 1])), (1, some (.row 3 1 (List.map eI (x13 ++ [x23]))))], 2, [], [], 0, [5]⟩ [0, 3] ?_
  refine go ?_
  cases hF
  exact post_rnd (x13 ++ [x23]) rfl (impz [0, 1, 1000000])
 ·rintro x13 rfl
  have hF := elim_next hF
  iterate 7 refine go ?_
  cases hF
  exact post_ret rfl rfl (.cons _ _ _ _ _ (.tmp _ _ rfl) (.own _ _ _ _ rfl nolent3) .nil) (.inl rfl)
 rintro x32 rfl
 have hF := elim_stop hF
 show Post _ _ (.exit 0) _
 refine post_block_exit ?_
 iterate 6 refine go ?_
 cases hF
 exact post_ret rfl rfl (.cons _ _ _ _ _ (.tmp _ _ rfl) (.own _ _ _ _ rfl nolent3) .nil) (.inl rfl)
theorem slices_Backward_int_ok {a0 : List Int} {r : (List Int)} (hF : slices_Backward_int a0 = some r) : FZ 86 [.vs 1 (List.map eI a0)] [.p (.fn 116 [.vp ((eL 1 eI) r)])] := by
 unfold slices_Backward_int at hF
 refine fn_of_body (n := 4) Tryz.func86 rfl rfl rfl fun w O => ?_
 refine go ?_
 refine rgp (bo 0) ?_
 iterate 3 refine go ?_
 refine rgp (op_makeFunc rfl rfl rfl rfl) ?_
 iterate 3 refine go ?_
 refine post_imp (imp_freeze [(0, some (.box 75 [.pv (.vs 1 (List.map eI a0))]))] [(2, some (.pv (.fn 116 [.vp ((eL 1 eI) a0)])))] (FzH.spec ⟨rfl, trivial⟩) ⟨⟨_, rfl, rfl⟩, trivial⟩) ?_
 cases hF
 exact post_ret rfl rfl (.cons _ _ _ _ _ (.tmp _ _ rfl) (.p _) .nil) (.inl rfl)
theorem slices_Backward_int_1_it {rows : List (Int × Int)} {sp : Nat} {c0 : List Int} (hF : slices_Backward_int_1 rows sp c0 = some (min (sp + 1) rows.length)) : It globs_Tryz Tryz.prog 116 2 [.vp ((eL 1 eI) c0)] none [] (rows.map (fun z : Int × Int => ([.int .i64 z.1, .int .i64 z.2] : List PV))) sp := by
 unfold slices_Backward_int_1 at hF
 refine it_of_body (n := 19) Tryz.func116 rfl rfl rfl ?_
 intro l c hcx
 iterate 5 refine go ?_
 refine reg_nil ?_
 refine piz (sX 19 [pf 0 (.yld l), pf 1 (.vp ((eL 1 eI) c0)), pf 3 (.int .i64 (w_i64 ((c0.length : Int) - 1)))] [] 0) [] ?_
 refine go ?_
 obtain ⟨lr38, hF, hK39⟩ := bs hF
 refine aw_for ((((w_i64 ((c0.length : Int) - 1)) : Int) - (0)).toNat + 2) (fun s1 => ∃ q, lr38 = .next q ∧ s1 = ⟨19, [], [], 0, [], [], q, []⟩) ?_ ?_
 ·refine rnd_loop (α := Nat × Int) (fun q => ⟨19, [(0, some (.pv (.yld l))), (1, some (.pv (.vp ((eL 1 eI) c0)))), (3, some (.pv (.int .i64 q.2)))], [], 0, [], [], q.1, []⟩) (fun k q => slices_Backward_int_1_L1 c0 sp rows k q.1 q.2 = some lr38) (0, w_i64 ((c0.length : Int) - 1)) (impz []) hF (fun q h => by cases h) ?_
  clear hF
  rintro k ⟨x11, x12⟩ hF ih
  refine rnd_succ ?_
  iterate 4 refine go ?_
  refine reg_nil ?_
  refine piz ⟨19, [(0, some (.pv (.yld l))), (1, some (.pv (.vp ((eL 1 eI) c0)))), (3, some (.pv (.int .i64 x12))), (8, some (.pv (.bool (decide (x12 ≥ 0)))))], [], 0, [], [], x11, []⟩ [] ?_
  refine go ?_
  refine cnd hF (fun hb25 hF => ?_) fun hb25 hF => ?_
  ·iterate 2 refine go ?_
   refine aw_seq ?_
   refine aw_block ?_
   iterate 5 refine go ?_
   obtain ⟨y30, h31, hF⟩ := bs hF
   refine rgp (ix (idx_map eI h31) slc_75) ?_
   refine go ?_
   obtain ⟨u32, h33, hF⟩ := bs hF
   refine rgp (op_yield (row := (fun z : Int × Int => ([.int .i64 z.1, .int .i64 z.2] : List PV)) (x12, y30)) hcx rfl rfl rfl rfl (yck_row (fun z : Int × Int => ([.int .i64 z.1, .int .i64 z.2] : List PV)) h33) (yck_spec h33).2 rfl rfl) ?_
   refine go ?_
   refine reg_nil ?_
   refine piz ⟨19, [(0, some (.pv (.yld l))), (1, some (.pv (.vp ((eL 1 eI) c0)))), (3, some (.pv (.int .i64 x12))), (18, some (.pv (.bool (!(!(x11 == sp))))))], [], 0, [], [], (x11 + 1), []⟩ [] ?_
   refine go ?_
   refine cnd hF (fun hb34 hF => ?_) fun hb34 hF => ?_
   ·iterate 4 refine go ?_
    refine post_lp_ret ?_
    cases hF
    have hF := elim_stop hK39
    exact post_it (it_len hF) rfl (.inl rfl)
   iterate 7 refine go ?_
   refine rnr ?_
   exact rnd_back (ih ((x11 + 1), w_i64 (x12 - 1)) hF) (impz [])
  refine aw_exit ?_
  iterate 2 refine post_then_exit ?_
  cases hF
  exact post_lp_break _ ⟨_, rfl, rfl⟩ (impz [])
 rintro _ ⟨x37, rfl, rfl⟩
 have hF := elim_next hK39
 clear hK39
 exact post_it (it_len hF) rfl (.inr rfl)

theorem field_All_ok {a0 : List GClass} {a1 : List UInt8} {r : (List GSlot_field)} (hF : field_All a0 a1 = some r) : FZ 56 [.vs 7 (List.map eGClass a0), .str a1] [.own 128 14 (List.map eGSlot_field r)] := by
 unfold field_All at hF
 refine fn_of_body (n := 38) Tryz.func56 rfl rfl rfl fun w O => ?_
 refine go ?_
 refine rgp (bo 0) ?_
 iterate 3 refine go ?_
 refine rgp (al 1 [.nils] zer_125) ?_
 refine reg_imp (imp_nil_box 1 0 125 128 14 2 rfl rfl rfl) ?_
 iterate 5 refine go ?_
 obtain ⟨y5, h6, hF⟩ := bs hF
 refine rgp (cl 3 [.vs 7 (List.map eGClass a0), .str a1] [.p (.vs 1 (List.map eI y5))] (Fn.frozen (above_Chain_ok h6))) ?_
 obtain ⟨y7, h8, hF⟩ := bs hF
 refine rgp (cl 3 [.vs 1 (List.map eI y5)] [.p (.fn 116 [.vp ((eL 1 eI) y7)])] (slices_Backward_int_ok h8)) ?_
 refine go ?_
 refine aw_block ?_
 refine aw_imp (s' := (sX 38 [(2, some (.lp 0 0)), (5, some (.lp 1 0)), pf 13 (.fn 116 [.vp ((eL 1 eI) y7)])] [(0, some (.box 22 [.pv (.vs 7 (List.map eGClass a0))])), (1, some (.box 125 [.ls 2])), (2, some (.row 128 14 (List.map eGSlot_field [])))] 3)) (impz [0, 1, 2]) ?_
 obtain ⟨rows171, hR172, hF⟩ := bs hF
 obtain ⟨lr173, hL174, hF⟩ := bs hF
 refine aw_rangeFunc (X := (Int × Int)) (Q := (List GSlot_field)) (E := Unit) (pre := [.vp ((eL 1 eI) y7)]) (bx := none) (post := []) (kt := [2, 5]) (psl := [14, 15]) none (fun z : Int × Int => ([.int .i64 z.1, .int .i64 z.2] : List PV)) rows171 (field_All_B1 a0) [] lr173 hL174 (fun q => (sX 38 [(2, some (.lp 0 0)), (5, some (.lp 1 0))] [(0, some (.box 22 [.pv (.vs 7 (List.map eGClass a0))])), (1, some (.box 125 [.ls 2])), (2, some (.row 128 14 (List.map eGSlot_field q)))] 3)) (fun _ => (.ret, (sX 38 [] [] 0))) ⟨rfl, rfl⟩ cal_116 (fun sp => slices_Backward_int_1_it (itR_back_ok hR172 sp)) (fun _ => rfl) rfl rfl (by decide) rfl (fun x q => ⟨38, [(2, some (.lp 0 0)), (5, some (.lp 1 0)), (7, some (.pv (.int .i64 x.2))), (14, some (.pv (.int .i64 x.1))), (15, some (.pv (.int .i64 x.2)))], [(0, some (.box 22 [.pv (.vs 7 (List.map eGClass a0))])), (1, some (.box 125 [.ls 2])), (2, some (.row 128 14 (List.map eGSlot_field q)))], 3, [], [], 0, [2, 5]⟩) (fun q => ⟨rfl, rfl, rfl, rfl⟩) (fun z => ⟨rfl, rfl, rfl, rfl⟩) (fun z => rfl) rfl rfl ⟨rfl, rfl, trivial⟩ ⟨⟨rfl, rfl, rfl⟩, ⟨rfl, rfl, rfl⟩, ⟨rfl, rfl, rfl⟩, trivial⟩ ?_ ?_ ?_ ?_
 ·rintro l175 c176 ⟨x117, x118⟩ x62 hc177
  iterate 2 refine go ?_
  refine reg_nil ?_
  exact post_cut1 (impz [0, 1, 2])
 ·rintro l175 c176 ⟨x117, x118⟩ x62 r178 hc177 hF
  refine aw_block ?_
  iterate 3 refine go ?_
  obtain ⟨y121, h122, hF⟩ := bs hF
  refine rgp (ix (idx_map eGClass h122) slc_22) ?_
  iterate 5 refine go ?_
  obtain ⟨x168, hF, hK169⟩ := bs hF
  refine aw_for ((y121.fFields.length - 0 : Int).toNat + 1) (fun s1 => s1 = ⟨38, [(2, some (.lp 0 0)), (5, some (.lp 1 0))], [(0, some (.box 22 [.pv (.vs 7 (List.map eGClass a0))])), (1, some (.box 125 [.ls 2])), (2, some (.row 128 14 (List.map eGSlot_field x168)))], 3, [], [], 0, [2, 5]⟩) ?_ ?_
  ·refine rnd_loop (α := (List GSlot_field) × Int) (fun q => ⟨38, [(2, some (.lp 0 0)), (5, some (.lp 1 0)), (7, some (.pv (.int .i64 x118))), (20, some (.pv (.vs 13 (List.map eGVar y121.fFields)))), (21, some (.pv (.int .i64 (y121.fFields.length : Int)))), (22, some (.pv (.int .i64 q.2)))], [(0, some (.box 22 [.pv (.vs 7 (List.map eGClass a0))])), (1, some (.box 125 [.ls 2])), (2, some (.row 128 14 (List.map eGSlot_field q.1)))], 3, [], [], 0, [2, 5]⟩) (fun k q => field_All_L2 a0 x118 y121 k q.1 q.2 = some x168) (x62, 0) (impz [0, 1, 2]) hF (fun q h => by cases h) ?_
   clear hF
   rintro k ⟨x136, x137⟩ hF ih
   refine rnd_succ ?_
   iterate 3 refine go ?_
   refine aw_seq ?_
   refine cnd hF (fun hb153 hF => ?_) fun hb153 hF => ?_
   ·iterate 2 refine go ?_
    refine aw_seq ?_
    refine aw_block ?_
    refine go ?_
    obtain ⟨y156, h157, hF⟩ := bs hF
    refine rgp (ix (idx_map eGVar h157) slc_29) ?_
    refine rgp (lw (eGVar y156) agg_66) ?_
    refine rgp (al 3 (eGVar zGVar) zer_66) ?_
    iterate 2 refine go ?_
    refine aw_imp (imp_names 1) ?_
    refine dr_start ⟨_, _, _⟩ rfl ?_
    iterate 3 refine dgo ?_
    obtain ⟨y162, h163, hF⟩ := bs hF
    refine dk 29 [(27, .pv (.vs 7 (List.map eGClass a0))), (28, .pv (.int .i64 x118))] (.pv (.vp (eGClass y162))) (fun m h => ⟨_, op_index_vs (k := .i64) rfl h.1.1 h.1.2.1 (idx_map eGClass h163) slc_22 rfl rfl, rfl⟩) ?_
    refine dk 30 [(29, .pv (.vp (eGClass y162)))] (.pv (.vp (List.drop 0 (eGClass y162)))) (fun m h => ⟨_, op_field_vp rfl h.1.1 fld_32_0 rfl rfl, rfl⟩) ?_
    refine dk 31 [(30, .pv (.vp (List.drop 0 (eGClass y162))))] (.pv (.str y162.fName)) (fun m h => ⟨_, op_load_vp (p := .str y162.fName) rfl h.1.1 rfl one_9 rfl rfl, rfl⟩) ?_
    refine dr_cons { need := [(9, .lp 3 0)], hneed := [(3, .box 66 (bxv (eGVar y156)))], dst := some 32, val := some (.pv (.agg (eGVar y156))) } (fun m h => step_on (guard_no rfl) (op_load_lp_agg (ps := eGVar y156) rfl h.1.1 h.2.1.1 rfl rfl rfl agg_66 rfl rfl) rfl) ⟨⟨rfl, trivial⟩, ⟨rfl, trivial⟩, trivial⟩ ?_
    refine dk 33 [(32, .pv (.agg (eGVar y156))), (31, .pv (.str y162.fName))] (.pv (.agg (eGSlot_field ({ fClass := y162.fName, fVar := y156 } : GSlot_field)))) (fun m h => ⟨_, op_build (zs := (eGSlot_field zGSlot_field)) (r := eGSlot_field ({ fClass := y162.fName, fVar := y156 } : GSlot_field)) rfl zer_128 (by exact ⟨rfl, rfl, rfl, rfl, rfl, rfl, rfl, rfl, rfl, rfl, rfl, rfl, rfl, rfl, trivial⟩) plc_128 (evs_cons h.1.2.1 (evs_cons h.1.1 evs_nil)) rfl rfl rfl, rfl⟩) ?_
    refine dk 34 [(33, .pv (.agg (eGSlot_field ({ fClass := y162.fName, fVar := y156 } : GSlot_field))))] (.pv (.vs 14 (List.map eGSlot_field [({ fClass := y162.fName, fVar := y156 } : GSlot_field)]))) (fun m h => ⟨_, op_lit (rows := List.map eGSlot_field ([({ fClass := y162.fName, fVar := y156 } : GSlot_field)] : List GSlot_field)) (zs := (eGSlot_field zGSlot_field)) rfl rfl slc_125 zer_128 (by exact ⟨rfl, rfl, rfl, rfl, rfl, rfl, rfl, rfl, rfl, rfl, rfl, rfl, rfl, rfl, trivial⟩) rfl rfl rfl (evs_cons h.1.1 evs_nil) rfl rfl rfl rfl, rfl⟩) ?_
    obtain ⟨u164, h165, hF⟩ := bs hF
    refine dr_cons { need := [(26, .ls 2), (34, .pv (.vs 14 (List.map eGSlot_field [({ fClass := y162.fName, fVar := y156 } : GSlot_field)])))], hneed := [(2, .row 128 14 (List.map eGSlot_field x136))], names := [4], dst := some 35, val := some (.ls 4), upd := [(4, some (.row 128 14 (List.map eGSlot_field (x136 ++ [({ fClass := y162.fName, fVar := y156 } : GSlot_field)])))), (2, none)] } (fun m h => step_on (guard_no rfl) (op_append 4 (fresh_free h.2.2.1) rfl h.1.1 h.2.1.1 h.1.2.1 slc_125 elm_128 zer_128 rfl rfl rfl (room_map (f := eGSlot_field) (g := eGSlot_field) h165) (List.map_append (f := eGSlot_field) (l₁ := x136) (l₂ := [({ fClass := y162.fName, fVar := y156 } : GSlot_field)])).symm rfl rfl) rfl) ⟨⟨rfl, rfl, trivial⟩, ⟨rfl, trivial⟩, ⟨rfl, trivial⟩⟩ ?_
    refine dr_cons { need := [(5, .lp 1 0), (35, .ls 4)], hneed := [(1, .box 125 [.ls 2])], upd := [(1, some (.box 125 [.ls 4]))] } (fun m h => step_on (guard_no rfl) (op_store_lp (n := 1) rfl h.1.1 h.1.2.1 rfl h.2.1.1 (or_one one_125) (by rw [one_125]; rfl) rfl rfl rfl) rfl) ⟨⟨rfl, rfl, trivial⟩, ⟨rfl, trivial⟩, trivial⟩ ?_
    refine dr_nil mixed rfl (by kernel_rfl) ?_
    refine piz ⟨38, [(2, some (.lp 0 0)), (5, some (.lp 1 0)), (7, some (.pv (.int .i64 x118))), (20, some (.pv (.vs 13 (List.map eGVar y121.fFields)))), (21, some (.pv (.int .i64 (y121.fFields.length : Int)))), (22, some (.pv (.int .i64 x137)))], [(0, some (.box 22 [.pv (.vs 7 (List.map eGClass a0))])), (1, some (.box 125 [.ls 2])), (2, some (.row 128 14 (List.map eGSlot_field (x136 ++ [({ fClass := y162.fName, fVar := y156 } : GSlot_field)]))))], 3, [], [], 0, [2, 5]⟩ [0, 1, 4] ?_
    iterate 5 refine go ?_
    refine rnr ?_
    exact rnd_back (ih ((x136 ++ [({ fClass := y162.fName, fVar := y156 } : GSlot_field)]), w_i64 (x137 + 1)) hF) (impz [0, 1, 2])
   refine aw_exit ?_
   iterate 2 refine post_then_exit ?_
   cases hF
   exact post_lp_break _ rfl (impz [0, 1, 2])
  rintro _ rfl
  have hF := hK169
  refine go ?_
  cases hF
  exact post_rnd x168 rfl (impz [0, 1, 2])
 ·rintro x62 rfl
  have hF := elim_next hF
  iterate 7 refine go ?_
  cases hF
  exact post_ret rfl rfl (.cons _ _ _ _ _ (.tmp _ _ rfl) (.own _ _ _ _ rfl nolent3) .nil) (.inl rfl)
 rintro ⟨⟩ rfl
 have hF := elim_stop hF
 cases hF
theorem dot_value_ok {a0 : GVal} {r : (List UInt8)} (hF : dot_value a0 = some r) : FZ 57 [.agg (eGVal a0)] [.p (.str r)] := by
 unfold dot_value at hF
 refine fn_of_body (n := 11) Tryz.func57 rfl rfl rfl fun w O => ?_
 refine go ?_
 refine rgp (bo 0) ?_
 iterate 5 refine go ?_
 refine aw_seq ?_
 obtain ⟨x2, hF, hK4⟩ := bs hF
 refine ctx (sX 11 [(1, some (.lp 0 0)), pf 3 (.str x2)] [bf 0 107 (eGVal a0)] 1) ?_ ?_
 ·iterate 4 refine go ?_
  refine cnd hF (fun hb1 hF => ?_) fun hb1 hF => ?_
  ·iterate 2 refine go ?_
   cases hF
   exact rcz [0]
  refine go ?_
  cases hF
  exact pcz [0]
 have hF := hK4
 iterate 5 refine go ?_
 obtain ⟨y5, h6, hF⟩ := bs hF
 refine rgp (cl 1 [.int .i64 a0.fN] [.p (.str y5)] (word_Digits_ok h6)) ?_
 obtain ⟨u7, h8, hF⟩ := bs hF
 refine rgp (op_concat rfl rfl rfl (room_str h8) rfl rfl) ?_
 iterate 3 refine go ?_
 cases hF
 exact prt
theorem strings_Join_ok {a0 : List (List UInt8)} {a1 r : List UInt8} (hF : strings_Join a0 a1 = some r) : FZ 58 [.vs 1 (List.map eS a0), .str a1] [.p (.str r)] := fn_join Tryz.strings_Join_none Tryz.strings_Join hF
theorem dot_Line_ok {a0 : List GClass} {a1 : List GCell} {a2 : Int} {r : (List UInt8)} (hF : dot_Line a0 a1 a2 = some r) : FZ 23 [.vs 7 (List.map eGClass a0), .vs 7 (List.map eGCell a1), .int .i64 a2] [.p (.str r)] := by
 unfold dot_Line at hF
 refine fn_of_body (n := 61) Tryz.func23 rfl rfl rfl fun w O => ?_
 iterate 7 refine go ?_
 obtain ⟨y3, h4, hF⟩ := bs hF
 refine rgp (cl 0 [.vs 7 (List.map eGCell a1), .int .i64 a2] [.p (.int .i64 y3)] (heap_Ask_ok h4)) ?_
 iterate 2 refine go ?_
 refine cnd hF (fun hb5 hF => ?_) fun hb5 hF => ?_
 ·iterate 5 refine go ?_
  cases hF
  exact prt
 iterate 6 refine go ?_
 obtain ⟨y8, h9, hF⟩ := bs hF
 refine rgp (ix (idx_map eGCell h9) slc_56) ?_
 refine rgp (lw (eGCell y8) agg_64) ?_
 refine rgp (al 0 (eGCell zGCell) zer_64) ?_
 iterate 2 refine go ?_
 refine aw_seq ?_
 refine aw_imp (imp_names 1) ?_
 refine dr_start ⟨_, _, _⟩ rfl ?_
 refine dgo ?_
 obtain ⟨y14, h15, hF⟩ := bs hF
 refine dk 23 [(22, .pv (.int .i64 a2))] (.pv (.str y14)) (fun m h => ⟨_, op_call 2 rfl (caps := []) (args := [.int .i64 a2]) (rs := [.p (.str y14)]) rfl rfl (evl_cons h.1.1 evl_nil) cal_49 (word_Digits_ok h15) rfl rfl rfl, rfl⟩) ?_
 obtain ⟨u16, h17, hF⟩ := bs hF
 refine dk 24 [(23, .pv (.str y14))] (.pv (.str ([64] ++ y14))) (fun m h => ⟨_, op_concat rfl rfl h.1.1 (room_str h17) rfl rfl, rfl⟩) ?_
 iterate 2 refine dgo ?_
 refine dr_cons { need := [(26, .pv (.str y8.fClass)), (24, .pv (.str ([64] ++ y14)))], names := [1], dst := some 27, val := some (.ls 1), upd := [(1, some (.row 9 1 (List.map eS [([64] ++ y14), y8.fClass])))] } (fun m h => step_on (guard_no rfl) (op_litOwn 1 (fresh_free h.2.2.1) (rows := List.map eS ([([64] ++ y14), y8.fClass] : List (List UInt8))) (zs := [.str []]) rfl rfl slc_23 zer_9 (by exact ⟨rfl, trivial⟩) rfl rfl rfl (evs_cons h.1.2.1 (evs_cons h.1.1 evs_nil)) rfl rfl rfl rfl) rfl) ⟨⟨rfl, rfl, trivial⟩, trivial, ⟨rfl, trivial⟩⟩ ?_
 refine dk 8 [(27, .ls 1)] (.ls 1) (fun m h => ⟨_, op_assign rfl h.1.1 rfl rfl, rfl⟩) ?_
 refine dr_nil mixed rfl (by kernel_rfl) ?_
 refine piz (sX 61 [pf 0 (.vs 7 (List.map eGClass a0)), (7, some (.lp 0 0)), (8, some (.ls 1))] [bf 0 64 (eGCell y8), (1, some (.row 9 1 (List.map eS [([64] ++ y14), y8.fClass])))] 2) [0, 1] ?_
 iterate 5 refine go ?_
 obtain ⟨y20, h21, hF⟩ := bs hF
 refine rgp (cl 2 [.vs 7 (List.map eGClass a0), .str y8.fClass] [.p (.vs 14 (List.map eGSlot_field y20))] (Fn.frozen (field_All_ok h21))) ?_
 iterate 9 refine go ?_
 obtain ⟨x109, hF, hK110⟩ := bs hF
 refine aw_for ((y8.fFields.length - 0 : Int).toNat + 1) (fun s1 => s1 = (sX 61 [(8, some (.ls 0))] [(0, some (.row 9 1 (List.map eS x109)))] 1)) ?_ ?_
 ·refine rnd_loop (α := (List (List UInt8)) × Int) (fun q => (sX 61 [(8, some (.ls 0)), pf 9 (.vs 14 (List.map eGSlot_field y20)), pf 33 (.vs 2 (List.map eGVal y8.fFields)), pf 34 (.int .i64 (y8.fFields.length : Int)), pf 35 (.int .i64 q.2)] [(0, some (.row 9 1 (List.map eS q.1)))] 1)) (fun k q => dot_Line_L1 y8 y20 k q.1 q.2 = some x109) ([([64] ++ y14), y8.fClass], 0) (impz [1]) hF (fun q h => by cases h) ?_
  clear hF
  rintro k ⟨x49, x50⟩ hF ih
  refine rnd_succ ?_
  iterate 3 refine go ?_
  refine aw_seq ?_
  refine cnd hF (fun hb80 hF => ?_) fun hb80 hF => ?_
  ·iterate 2 refine go ?_
   refine aw_seq ?_
   refine aw_block ?_
   iterate 2 refine go ?_
   obtain ⟨y83, h84, hF⟩ := bs hF
   refine rgp (ix (idx_map eGVal h84) slc_62) ?_
   refine rgp (lw (eGVal y83) agg_107) ?_
   refine rgp (al 1 (eGVal zGVal) zer_107) ?_
   iterate 6 refine go ?_
   refine aw_seq ?_
   obtain ⟨x88, hF, hK90⟩ := bs hF
   refine ctx (sX 61 [(8, some (.ls 0)), pf 9 (.vs 14 (List.map eGSlot_field y20)), (11, some (.lp 1 0)), pf 12 (.str x88), pf 33 (.vs 2 (List.map eGVal y8.fFields)), pf 34 (.int .i64 (y8.fFields.length : Int)), pf 35 (.int .i64 x50)] [(0, some (.row 9 1 (List.map eS x49))), bf 1 107 (eGVal y83)] 2) ?_ ?_
   ·iterate 6 refine go ?_
    refine cnd hF (fun hb85 hF => ?_) fun hb85 hF => ?_
    ·iterate 3 refine go ?_
     obtain ⟨y86, h87, hF⟩ := bs hF
     refine rgp (ix (idx_map eGSlot_field h87) slc_125) ?_
     iterate 4 refine go ?_
     cases hF
     exact rcz [0, 1]
    refine go ?_
    cases hF
    exact pcz [0, 1]
   have hF := hK90
   iterate 4 refine go ?_
   obtain ⟨u99, h100, hF⟩ := bs hF
   refine rgp (op_concat rfl rfl rfl (room_str h100) rfl rfl) ?_
   refine rgp (la (eGVal y83) agg_107) ?_
   obtain ⟨y101, h102, hF⟩ := bs hF
   refine rgp (cl 2 [.agg (eGVal y83)] [.p (.str y101)] (dot_value_ok h102)) ?_
   obtain ⟨u103, h104, hF⟩ := bs hF
   refine rgp (op_concat rfl rfl rfl (room_str h104) rfl rfl) ?_
   refine rgp (op_lit (rows := List.map eS ([((x88 ++ [61]) ++ y101)] : List (List UInt8))) (zs := [.str []]) rfl rfl slc_23 zer_9 (by exact ⟨rfl, trivial⟩) rfl rfl rfl rfl rfl rfl rfl rfl) ?_
   obtain ⟨u105, h106, hF⟩ := bs hF
   refine rgp (op_append 2 rfl rfl rfl rfl rfl slc_23 elm_9 zer_9 rfl rfl rfl (room_map (f := eS) (g := eS) h106) (List.map_append (f := eS) (l₁ := x49) (l₂ := [((x88 ++ [61]) ++ y101)])).symm rfl rfl) ?_
   refine go ?_
   refine reg_nil ?_
   refine piz (sX 61 [(8, some (.ls 0)), pf 9 (.vs 14 (List.map eGSlot_field y20)), pf 33 (.vs 2 (List.map eGVal y8.fFields)), pf 34 (.int .i64 (y8.fFields.length : Int)), pf 35 (.int .i64 x50)] [(0, some (.row 9 1 (List.map eS (x49 ++ [((x88 ++ [61]) ++ y101)]))))] 1) [2] ?_
   iterate 5 refine go ?_
   refine rnr ?_
   exact rnd_back (ih ((x49 ++ [((x88 ++ [61]) ++ y101)]), w_i64 (x50 + 1)) hF) (impz [0])
  refine aw_exit ?_
  iterate 2 refine post_then_exit ?_
  cases hF
  exact post_lp_break _ rfl (impz [0])
 rintro _ rfl
 have hF := hK110
 iterate 3 refine go ?_
 obtain ⟨y111, h112, hF⟩ := bs hF
 refine rgp (op_callB 1 rfl (caps := []) (args := [.vs 1 (List.map eS x109), .str [32]]) [(0, some (.row 9 1 (List.map eS x109)))] rfl rfl rfl (FzH.spec ⟨rfl, trivial⟩) rfl rfl cal_58 (strings_Join_ok h112) rfl rfl rfl) ?_
 iterate 3 refine go ?_
 cases hF
 exact prt
theorem law48_awake_ok  {r : Bool} (hF : law48_awake = some r) : FZ 16 [] [.p (.bool r)] := by
 unfold law48_awake at hF
 refine fn_of_body (n := 18) Tryz.func16 rfl rfl rfl fun w O => ?_
 iterate 4 refine go ?_
 obtain ⟨y3, h4, hF⟩ := bs hF
 refine rgp (cl 0 [.str [99, 108, 97, 115, 115, 32, 78, 111, 100, 101, 32, 123, 32, 78, 111, 100, 101, 32, 110, 101, 120, 116, 59, 32, 105, 110, 116, 32, 110, 59, 32, 125]] [.p (.vs 7 (List.map eGClass y3.1)), .p (.agg (eGFault y3.2))] (Fn.frozen (ref09_Of_ok h4))) ?_
 refine go ?_
 iterate 2 (refine rgp (op_extract rfl rfl rfl rfl rfl) ?_)
 refine rgp (al 0 (eGFault zGFault) zer_73) ?_
 iterate 4 refine go ?_
 refine rgp (bd ((eGCell zGCell)) (eGCell ({ fClass := [], fOwn := (⟨0, 0, 0, 0⟩ : A4 Int), fFields := [], fDead := false } : GCell)) zer_64 plc_64) ?_
 refine rgp (bd ((eGVal zGVal)) (eGVal ({ fRef := true, fN := 3 } : GVal)) zer_107 plc_107) ?_
 refine rgp (bd ((eGVal zGVal)) (eGVal ({ fRef := false, fN := (-1) } : GVal)) zer_107 plc_107) ?_
 refine rgp (op_lit (rows := List.map eGVal ([({ fRef := true, fN := 3 } : GVal), ({ fRef := false, fN := (-1) } : GVal)] : List GVal)) (zs := (eGVal zGVal)) rfl rfl slc_62 zer_107 (by exact ⟨rfl, rfl, trivial⟩) rfl rfl rfl rfl rfl rfl rfl rfl) ?_
 refine rgp (bd ((eGCell zGCell)) (eGCell ({ fClass := [78, 111, 100, 101], fOwn := (⟨0, 0, 0, 0⟩ : A4 Int), fFields := [({ fRef := true, fN := 3 } : GVal), ({ fRef := false, fN := (-1) } : GVal)], fDead := false } : GCell)) zer_64 plc_64) ?_
 refine rgp (op_lit (rows := List.map eGCell ([({ fClass := [], fOwn := (⟨0, 0, 0, 0⟩ : A4 Int), fFields := [], fDead := false } : GCell), ({ fClass := [78, 111, 100, 101], fOwn := (⟨0, 0, 0, 0⟩ : A4 Int), fFields := [({ fRef := true, fN := 3 } : GVal), ({ fRef := false, fN := (-1) } : GVal)], fDead := false } : GCell)] : List GCell)) (zs := (eGCell zGCell)) rfl rfl slc_56 zer_64 (by exact ⟨rfl, rfl, rfl, rfl, rfl, trivial, rfl, trivial⟩) rfl rfl rfl rfl rfl rfl rfl rfl) ?_
 iterate 5 refine go ?_
 obtain ⟨y5, h6, hF⟩ := bs hF
 refine rgp (cl 1 [.vs 7 (List.map eGClass y3.1), .vs 7 (List.map eGCell [({ fClass := [], fOwn := (⟨0, 0, 0, 0⟩ : A4 Int), fFields := [], fDead := false } : GCell), ({ fClass := [78, 111, 100, 101], fOwn := (⟨0, 0, 0, 0⟩ : A4 Int), fFields := [({ fRef := true, fN := 3 } : GVal), ({ fRef := false, fN := (-1) } : GVal)], fDead := false } : GCell)]), .int .i64 2] [.p (.str y5)] (dot_Line_ok h6)) ?_
 refine rgp (op_str rfl rfl rfl rfl rfl rfl) ?_
 iterate 3 refine go ?_
 cases hF
 exact prt
theorem heap_Live_ok {a0 : List GCell} {r : (List Int)} (hF : heap_Live a0 = some r) : FZ 45 [.vs 7 (List.map eGCell a0)] [.own 3 1 (List.map eI r)] := by
 unfold heap_Live at hF
 refine fn_of_body (n := 23) Tryz.func45 rfl rfl rfl fun w O => ?_
 iterate 5 refine go ?_
 refine reg_imp (imp_nil_own 3 3 1 0 rfl rfl) ?_
 iterate 7 refine go ?_
 obtain ⟨x40, hF, hK41⟩ := bs hF
 refine aw_for ((a0.length - 0 : Int).toNat + 1) (fun s1 => s1 = (sX 23 [(3, some (.ls 0))] [(0, some (.row 3 1 (List.map eI x40)))] 1)) ?_ ?_
 ·refine rnd_loop (α := (List Int) × Int) (fun q => (sX 23 [(3, some (.ls 0)), pf 6 (.vs 7 (List.map eGCell a0)), pf 7 (.int .i64 (a0.length : Int)), pf 8 (.int .i64 q.2)] [(0, some (.row 3 1 (List.map eI q.1)))] 1)) (fun k q => heap_Live_L1 a0 k q.1 q.2 = some x40) ([], 0) (impz [0]) hF (fun q h => by cases h) ?_
  clear hF
  rintro k ⟨x12, x13⟩ hF ih
  refine rnd_succ ?_
  iterate 3 refine go ?_
  refine aw_seq ?_
  refine cnd hF (fun hb27 hF => ?_) fun hb27 hF => ?_
  ·iterate 2 refine go ?_
   refine aw_seq ?_
   obtain ⟨x35, hF, hK37⟩ := bs hF
   refine ctx (sX 23 [(3, some (.ls 0)), pf 6 (.vs 7 (List.map eGCell a0)), pf 7 (.int .i64 (a0.length : Int)), pf 8 (.int .i64 x13)] [(0, some (.row 3 1 (List.map eI x35)))] 1) ?_ ?_
   ·refine aw_block ?_
    iterate 2 refine go ?_
    obtain ⟨y30, h31, hF⟩ := bs hF
    refine rgp (ix (idx_map eGCell h31) slc_56) ?_
    refine rgp (lw (eGCell y30) agg_64) ?_
    refine rgp (al 1 (eGCell zGCell) zer_64) ?_
    iterate 8 refine go ?_
    refine cnd hF (fun hb32 hF => ?_) fun hb32 hF => ?_
    ·iterate 4 refine go ?_
     refine rgp (op_lit (rows := List.map eI ([w_i64 (x13 + 1)] : List Int)) (zs := [.int .i64 0]) rfl rfl slc_75 zer_3 (by exact ⟨rfl, trivial⟩) rfl rfl rfl rfl rfl rfl rfl rfl) ?_
     obtain ⟨u33, h34, hF⟩ := bs hF
     refine rgp (op_append 2 rfl rfl rfl rfl rfl slc_75 elm_3 zer_3 rfl rfl rfl (room_map (f := eI) (g := eI) h34) (List.map_append (f := eI) (l₁ := x12) (l₂ := [w_i64 (x13 + 1)])).symm rfl rfl) ?_
     refine go ?_
     refine reg_nil ?_
     refine piz (sX 23 [(3, some (.ls 0)), pf 6 (.vs 7 (List.map eGCell a0)), pf 7 (.int .i64 (a0.length : Int)), pf 8 (.int .i64 x13)] [(0, some (.row 3 1 (List.map eI (x12 ++ [w_i64 (x13 + 1)]))))] 1) [2] ?_
     refine go ?_
     cases hF
     exact pcz [0]
    iterate 2 refine go ?_
    cases hF
    exact pcz [0]
   have hF := hK37
   iterate 4 refine go ?_
   refine rnr ?_
   exact rnd_back (ih (x35, w_i64 (x13 + 1)) hF) (impz [0])
  refine aw_exit ?_
  iterate 2 refine post_then_exit ?_
  cases hF
  exact post_lp_break _ rfl (impz [0])
 rintro _ rfl
 have hF := hK41
 iterate 6 refine go ?_
 cases hF
 exact post_ret rfl rfl (.cons _ _ _ _ _ (.tmp _ _ rfl) (.own _ _ _ _ rfl nolent3) .nil) (.inl rfl)
theorem strings_Repeat_ok {a0 : List UInt8} {a1 : Int} {r : List UInt8} (hF : strings_Repeat a0 a1 = some r) : FZ 48 [.str a0, .int .i64 a1] [.p (.str r)] := fn_repeat Tryz.strings_Repeat hF
theorem dot_Tree_1_w_ring : ∀ (n : Nat) (a0 : Int) (a1 : Int) (b0 : Int → List Int) (b2 : List Int) (b3 : List GClass) (b4 : List GCell) (r : (List Int)), dot_Tree_1_w n a0 a1 b0 b2 b3 b4 = some r → Abs.FnW globs_Tryz Tryz.prog 46 [.pv (.int .i64 a0), .pv (.int .i64 a1), .lp 0 0, .lp 1 0, .lp 3 0, .lp 4 0, .lp 5 0] [(0, some (.box 108 [.pv (.mrv Tryz.prog 108 b0)])), (1, some (.box 113 [.bp 1, .ls 2])), (2, some (.row 5 1 (List.map eI_u8 b2))), (3, some (.box 22 [.pv (.vs 7 (List.map eGClass b3))])), (4, some (.box 56 [.pv (.vs 7 (List.map eGCell b4))])), (5, some (.box 114 [.fn 46 [.lp 0 0, .lp 1 0, .lp 3 0, .lp 4 0, .lp 5 0]]))] 6 [(0, 0), (1, 1), (3, 3), (4, 4), (5, 5)] [] [(0, some (.box 108 [.pv (.mrv Tryz.prog 108 b0)])), (1, some (.box 113 [.bp 1, .ls 2])), (2, some (.row 5 1 (List.map eI_u8 r))), (3, some (.box 22 [.pv (.vs 7 (List.map eGClass b3))])), (4, some (.box 56 [.pv (.vs 7 (List.map eGCell b4))])), (5, some (.box 114 [.fn 46 [.lp 0 0, .lp 1 0, .lp 3 0, .lp 4 0, .lp 5 0]]))] 6 := by
 intro n
 induction n with
 | zero => exact fun _ _ _ _ _ _ _ h => by simp [dot_Tree_1_w] at h
 | succ n ih =>
  have dot_Tree_1_w_ih := ih
  clear ih
  intro a0 a1 b0 b2 b3 b4 r hF
  unfold dot_Tree_1_w at hF
  revert hF dot_Tree_1_w_ih
  generalize dot_Tree_1_w n = dot_Tree_1_w_rec
  intro dot_Tree_1_w_ih hF
  refine fnW_of_body (n := 36) (m := 6) [2, 3, 4, 5, 6] Tryz.func46 rfl rfl rfl ?_
  intro c w O θ hcx
  iterate 5 refine go ?_
  refine cnd hF (fun hb1 hF => ?_) fun hb1 hF => ?_
  ·iterate 2 refine go ?_
   refine piz ⟨36, [(2, some (.lp 0 0)), (3, some (.lp 1 0)), (4, some (.lp 3 0)), (5, some (.lp 4 0)), (6, some (.lp 5 0))], [(0, some (.box 108 [.pv (.mrv Tryz.prog 108 b0)])), (1, some (.box 113 [.bp 1, .ls 2])), (2, some (.row 5 1 (List.map eI_u8 b2))), (3, some (.box 22 [.pv (.vs 7 (List.map eGClass b3))])), (4, some (.box 56 [.pv (.vs 7 (List.map eGCell b4))])), (5, some (.box 114 [.fn 46 [.lp 0 0, .lp 1 0, .lp 3 0, .lp 4 0, .lp 5 0]]))], 6, [], [], 0, [2, 3, 4, 5, 6]⟩ [0, 1, 2, 3, 4, 5] ?_
   cases hF
   exact post_retW hcx rfl .nil rfl (.inl rfl)
  iterate 5 refine go ?_
  obtain ⟨y4, h5, hF⟩ := bs hF
  refine rgp (op_lookupG rfl rfl rfl h5 rfl rfl) ?_
  iterate 3 refine go ?_
  obtain ⟨x99, hF, hK100⟩ := bs hF
  refine aw_for ((y4.length - 0 : Int).toNat + 1) (fun s1 => s1 = ⟨36, [(2, some (.lp 0 0)), (3, some (.lp 1 0)), (4, some (.lp 3 0)), (5, some (.lp 4 0)), (6, some (.lp 5 0))], [(0, some (.box 108 [.pv (.mrv Tryz.prog 108 b0)])), (1, some (.box 113 [.bp 1, .ls 2])), (2, some (.row 5 1 (List.map eI_u8 x99))), (3, some (.box 22 [.pv (.vs 7 (List.map eGClass b3))])), (4, some (.box 56 [.pv (.vs 7 (List.map eGCell b4))])), (5, some (.box 114 [.fn 46 [.lp 0 0, .lp 1 0, .lp 3 0, .lp 4 0, .lp 5 0]]))], 6, [], [], 0, [2, 3, 4, 5, 6]⟩) ?_ ?_
  ·refine rnd_loop (α := (List Int) × Int) (fun q => ⟨36, [(1, some (.pv (.int .i64 a1))), (2, some (.lp 0 0)), (3, some (.lp 1 0)), (4, some (.lp 3 0)), (5, some (.lp 4 0)), (6, some (.lp 5 0)), (15, some (.pv (.vs 1 (List.map eI y4)))), (16, some (.pv (.int .i64 (y4.length : Int)))), (17, some (.pv (.int .i64 q.2)))], [(0, some (.box 108 [.pv (.mrv Tryz.prog 108 b0)])), (1, some (.box 113 [.bp 1, .ls 2])), (2, some (.row 5 1 (List.map eI_u8 q.1))), (3, some (.box 22 [.pv (.vs 7 (List.map eGClass b3))])), (4, some (.box 56 [.pv (.vs 7 (List.map eGCell b4))])), (5, some (.box 114 [.fn 46 [.lp 0 0, .lp 1 0, .lp 3 0, .lp 4 0, .lp 5 0]]))], 6, [], [], 0, [2, 3, 4, 5, 6]⟩) (fun k q => dot_Tree_1_w_L1 a1 b0 b3 b4 y4 dot_Tree_1_w_rec k q.1 q.2 = some x99) (b2, 0) (impz [0, 1, 2, 3, 4, 5]) hF (fun q h => by cases h) ?_
   clear hF
   rintro k ⟨x35, x36⟩ hF ih
   refine rnd_succ ?_
   iterate 3 refine go ?_
   refine aw_seq ?_
   refine cnd hF (fun hb68 hF => ?_) fun hb68 hF => ?_
   ·iterate 2 refine go ?_
    refine aw_seq ?_
    refine aw_block ?_
    refine go ?_
    obtain ⟨y71, h72, hF⟩ := bs hF
    refine rgp (ix (idx_map eI h72) slc_75) ?_
    iterate 3 refine go ?_
    refine aw_seq ?_
    refine dr_start ⟨_, _, _⟩ rfl ?_
    refine dgo ?_
    obtain ⟨y83, h84, hF⟩ := bs hF
    refine dk 22 [(21, .pv (.int .i64 a1))] (.pv (.str y83)) (fun m h => ⟨_, op_call 6 rfl (caps := []) (args := [.str [9], .int .i64 a1]) (rs := [.p (.str y83)]) rfl rfl (evl_cons rfl (evl_cons h.1.1 evl_nil)) cal_48 (strings_Repeat_ok h84) rfl rfl rfl, rfl⟩) ?_
    iterate 3 refine dgo ?_
    obtain ⟨y85, h86, hF⟩ := bs hF
    refine dk 26 [(25, .pv (.int .i64 y71)), (24, .pv (.vs 7 (List.map eGCell b4))), (23, .pv (.vs 7 (List.map eGClass b3)))] (.pv (.str y85)) (fun m h => ⟨_, op_call 6 rfl (caps := []) (args := [.vs 7 (List.map eGClass b3), .vs 7 (List.map eGCell b4), .int .i64 y71]) (rs := [.p (.str y85)]) rfl rfl (evl_cons h.1.2.2.1 (evl_cons h.1.2.1 (evl_cons h.1.1 evl_nil))) cal_23 (dot_Line_ok h86) rfl rfl rfl, rfl⟩) ?_
    obtain ⟨u87, h88, hF⟩ := bs hF
    refine dk 27 [(22, .pv (.str y83)), (26, .pv (.str y85))] (.pv (.str (y83 ++ y85))) (fun m h => ⟨_, op_concat rfl h.1.1 h.1.2.1 (room_str h88) rfl rfl, rfl⟩) ?_
    obtain ⟨u89, h90, hF⟩ := bs hF
    refine dk 28 [(27, .pv (.str (y83 ++ y85)))] (.pv (.str ((y83 ++ y85) ++ [10]))) (fun m h => ⟨_, op_concat rfl h.1.1 rfl (room_str h90) rfl rfl, rfl⟩) ?_
    obtain ⟨u91, h92, hF⟩ := bs hF
    refine dr_last mixed rfl (op_callW (args := [.lp 0 0, .pv (.str ((y83 ++ y85) ++ [10]))]) [1, 2] [1, 6] [2] 7 rfl rfl rfl rfl rfl cal_47 (bldW_ok h92) rfl (by decide) ⟨rfl, rfl, trivial⟩ rfl (by decide) ⟨.inl rfl, .inr rfl, trivial⟩ (by kernel_rfl) (by kernel_rfl) rfl rfl rfl rfl) (by kernel_rfl) (by kernel_rfl) (by kernel_rfl) (by kernel_rfl) ?_
    refine piz ⟨36, [(1, some (.pv (.int .i64 a1))), (2, some (.lp 0 0)), (3, some (.lp 1 0)), (4, some (.lp 3 0)), (5, some (.lp 4 0)), (6, some (.lp 5 0)), (10, some (.pv (.int .i64 y71))), (15, some (.pv (.vs 1 (List.map eI y4)))), (16, some (.pv (.int .i64 (y4.length : Int)))), (17, some (.pv (.int .i64 x36)))], [(0, some (.box 108 [.pv (.mrv Tryz.prog 108 b0)])), (1, some (.box 113 [.bp 1, .ls 2])), (2, some (.row 5 1 (List.map eI_u8 (x35 ++ bytesL ((y83 ++ y85) ++ [10]))))), (3, some (.box 22 [.pv (.vs 7 (List.map eGClass b3))])), (4, some (.box 56 [.pv (.vs 7 (List.map eGCell b4))])), (5, some (.box 114 [.fn 46 [.lp 0 0, .lp 1 0, .lp 3 0, .lp 4 0, .lp 5 0]]))], 6, [], [], 0, [2, 3, 4, 5, 6]⟩ [0, 1, 6, 3, 4, 5] ?_
    iterate 6 refine go ?_
    obtain ⟨y95, h96, hF⟩ := bs hF
    refine rgp (op_callW (args := [.pv (.int .i64 y71), .pv (.int .i64 (w_i64 (a1 + 1))), .lp 0 0, .lp 1 0, .lp 3 0, .lp 4 0, .lp 5 0]) [0, 1, 2, 3, 4, 5] [0, 1, 6, 3, 4, 5] [2] 7 rfl rfl rfl rfl rfl cal_46 (dot_Tree_1_w_ih _ _ _ _ _ _ _ h96) rfl (by decide) ⟨rfl, rfl, rfl, rfl, rfl, rfl, trivial⟩ rfl (by decide) ⟨.inl rfl, .inl rfl, .inr rfl, .inl rfl, .inl rfl, .inl rfl, trivial⟩ (by kernel_rfl) (by kernel_rfl) rfl rfl rfl rfl) ?_
    refine reg_nil ?_
    refine piz ⟨36, [(1, some (.pv (.int .i64 a1))), (2, some (.lp 0 0)), (3, some (.lp 1 0)), (4, some (.lp 3 0)), (5, some (.lp 4 0)), (6, some (.lp 5 0)), (15, some (.pv (.vs 1 (List.map eI y4)))), (16, some (.pv (.int .i64 (y4.length : Int)))), (17, some (.pv (.int .i64 x36)))], [(0, some (.box 108 [.pv (.mrv Tryz.prog 108 b0)])), (1, some (.box 113 [.bp 1, .ls 2])), (2, some (.row 5 1 (List.map eI_u8 y95))), (3, some (.box 22 [.pv (.vs 7 (List.map eGClass b3))])), (4, some (.box 56 [.pv (.vs 7 (List.map eGCell b4))])), (5, some (.box 114 [.fn 46 [.lp 0 0, .lp 1 0, .lp 3 0, .lp 4 0, .lp 5 0]]))], 6, [], [], 0, [2, 3, 4, 5, 6]⟩ [0, 1, 6, 3, 4, 5] ?_
    iterate 5 refine go ?_
    refine rnr ?_
    exact rnd_back (ih (y95, w_i64 (x36 + 1)) hF) (impz [0, 1, 2, 3, 4, 5])
   refine aw_exit ?_
   iterate 2 refine post_then_exit ?_
   cases hF
   exact post_lp_break _ rfl (impz [0, 1, 2, 3, 4, 5])
  rintro _ rfl
  have hF := hK100
  refine piz ⟨36, [(2, some (.lp 0 0)), (3, some (.lp 1 0)), (4, some (.lp 3 0)), (5, some (.lp 4 0)), (6, some (.lp 5 0))], [(0, some (.box 108 [.pv (.mrv Tryz.prog 108 b0)])), (1, some (.box 113 [.bp 1, .ls 2])), (2, some (.row 5 1 (List.map eI_u8 x99))), (3, some (.box 22 [.pv (.vs 7 (List.map eGClass b3))])), (4, some (.box 56 [.pv (.vs 7 (List.map eGCell b4))])), (5, some (.box 114 [.fn 46 [.lp 0 0, .lp 1 0, .lp 3 0, .lp 4 0, .lp 5 0]]))], 6, [], [], 0, [2, 3, 4, 5, 6]⟩ [0, 1, 2, 3, 4, 5] ?_
  cases hF
  exact post_retW hcx rfl .nil rfl (.inr rfl)
theorem dot_Tree_1_w_ok {n : Nat} {a0 : Int} {a1 : Int} {b0 : Int → List Int} {b2 : List Int} {b3 : List GClass} {b4 : List GCell} {r : (List Int)} (hF : dot_Tree_1_w n a0 a1 b0 b2 b3 b4 = some r) : Abs.FnW globs_Tryz Tryz.prog 46 [.pv (.int .i64 a0), .pv (.int .i64 a1), .lp 0 0, .lp 1 0, .lp 3 0, .lp 4 0, .lp 5 0] [(0, some (.box 108 [.pv (.mrv Tryz.prog 108 b0)])), (1, some (.box 113 [.bp 1, .ls 2])), (2, some (.row 5 1 (List.map eI_u8 b2))), (3, some (.box 22 [.pv (.vs 7 (List.map eGClass b3))])), (4, some (.box 56 [.pv (.vs 7 (List.map eGCell b4))])), (5, some (.box 114 [.fn 46 [.lp 0 0, .lp 1 0, .lp 3 0, .lp 4 0, .lp 5 0]]))] 6 [(0, 0), (1, 1), (3, 3), (4, 4), (5, 5)] [] [(0, some (.box 108 [.pv (.mrv Tryz.prog 108 b0)])), (1, some (.box 113 [.bp 1, .ls 2])), (2, some (.row 5 1 (List.map eI_u8 r))), (3, some (.box 22 [.pv (.vs 7 (List.map eGClass b3))])), (4, some (.box 56 [.pv (.vs 7 (List.map eGCell b4))])), (5, some (.box 114 [.fn 46 [.lp 0 0, .lp 1 0, .lp 3 0, .lp 4 0, .lp 5 0]]))] 6 := dot_Tree_1_w_ring n a0 a1 b0 b2 b3 b4 r hF
theorem dot_Tree_ok {a0 : List GClass} {a1 : List GCell} {a2 : Int} {r : (List UInt8)} (hF : dot_Tree a0 a1 a2 = some r) : FZ 17 [.vs 7 (List.map eGClass a0), .vs 7 (List.map eGCell a1), .int .i64 a2] [.p (.str r)] := by
 unfold dot_Tree at hF
 refine fn_of_body (n := 65) Tryz.func17 rfl rfl rfl fun w O => ?_
 refine go ?_
 refine rgp (bo 0) ?_
 refine rgp (bo 1) ?_
 iterate 3 refine go ?_
 refine reg_grpE (k := 3) (e := 3) rfl rfl rfl rfl rfl fun gO gI gw gq2 gh gj gs => ?_
 refine rgp (al 2 [.nilm] zer_108) ?_
 iterate 5 refine go ?_
 obtain ⟨y5, h6, hF⟩ := bs hF
 refine rgp (cl 3 [.vs 7 (List.map eGCell a1)] [.p (.vs 1 (List.map eI y5))] (Fn.frozen (heap_Live_ok h6))) ?_
 iterate 3 refine go ?_
 obtain ⟨x46, hF, hK47⟩ := bs hF
 refine aw_for ((y5.length - 0 : Int).toNat + 1) (fun s1 => s1 = ⟨65, [(2, some (.pv (.int .i64 a2))), (3, some (.lp 0 0)), (4, some (.lp 1 0)), (7, some (.lp 2 0))], [(0, some (.box 22 [.pv (.vs 7 (List.map eGClass a0))])), (1, some (.box 56 [.pv (.vs 7 (List.map eGCell a1))])), (2, some (.box 108 [.pv (.raw (.map (some gq2)))]))], 3, [], [], encG x46, []⟩) ?_ ?_
 ·refine rnd_loop (α := (List (Int × Int)) × Int) (fun q => ⟨65, [(2, some (.pv (.int .i64 a2))), (3, some (.lp 0 0)), (4, some (.lp 1 0)), (7, some (.lp 2 0)), (16, some (.pv (.vs 1 (List.map eI y5)))), (17, some (.pv (.int .i64 (y5.length : Int)))), (18, some (.pv (.int .i64 q.2)))], [(0, some (.box 22 [.pv (.vs 7 (List.map eGClass a0))])), (1, some (.box 56 [.pv (.vs 7 (List.map eGCell a1))])), (2, some (.box 108 [.pv (.raw (.map (some gq2)))]))], 3, [], [], encG q.1, []⟩) (fun k q => dot_Tree_L1 a0 a1 y5 k q.1 q.2 = some x46) ([], 0) (impz [0, 1, 2]) hF (fun q h => by cases h) ?_
  clear hF
  rintro k ⟨x18, x19⟩ hF ih
  refine rnd_succ ?_
  iterate 3 refine go ?_
  refine aw_seq ?_
  refine cnd hF (fun hb33 hF => ?_) fun hb33 hF => ?_
  ·iterate 2 refine go ?_
   refine aw_seq ?_
   refine aw_block ?_
   refine go ?_
   obtain ⟨y36, h37, hF⟩ := bs hF
   refine rgp (ix (idx_map eI h37) slc_75) ?_
   iterate 7 refine go ?_
   obtain ⟨y40, h41, hF⟩ := bs hF
   refine rgp (ix (idx_map eGCell h41) slc_56) ?_
   refine go ?_
   refine rgp (op_arr_vp (k := .i64) (m := 0) (n := 4) rfl rfl rfl arr_61 rfl rfl rfl rfl) ?_
   iterate 3 refine go ?_
   obtain ⟨g42, h43, hF⟩ := bs hF
   refine aw_grp_roundE (g := x18) (fun i => [29, 30, 31, 32, 33, 34, 35, 36].getD i 0) mixed (roundOps_mk (by kernel_rfl) (by kernel_rfl) rfl (by kernel_rfl)) gs mrb_108 zer_75 one_108 slc_75 zer_3 elm_3 rfl rfl rfl rfl (by kernel_rfl) rfl h43 ?_
   refine piz ⟨65, [(2, some (.pv (.int .i64 a2))), (3, some (.lp 0 0)), (4, some (.lp 1 0)), (7, some (.lp 2 0)), (16, some (.pv (.vs 1 (List.map eI y5)))), (17, some (.pv (.int .i64 (y5.length : Int)))), (18, some (.pv (.int .i64 x19)))], [(0, some (.box 22 [.pv (.vs 7 (List.map eGClass a0))])), (1, some (.box 56 [.pv (.vs 7 (List.map eGCell a1))])), (2, some (.box 108 [.pv (.raw (.map (some gq2)))]))], 3, [], [], encG g42, []⟩ [0, 1, 2] ?_
   iterate 5 refine go ?_
   refine rnr ?_
   exact rnd_back (ih (g42, w_i64 (x19 + 1)) hF) (impz [0, 1, 2])
  refine aw_exit ?_
  iterate 2 refine post_then_exit ?_
  cases hF
  exact post_lp_break _ rfl (impz [0, 1, 2])
 rintro _ rfl
 have hF := hK47
 iterate 2 refine go ?_
 refine reg_ungrpE (id := 2) (g := x46) gj gs mrb_108 zer_75 rfl rfl ?_
 refine rgp (al 3 [.nilp, .nils] zer_113) ?_
 refine reg_imp (imp_nil_box 3 1 113 5 1 4 rfl rfl rfl) ?_
 refine reg_imp (imp_bp 3 rfl) ?_
 iterate 2 refine go ?_
 refine rgp (al 5 [.nilf] zer_114) ?_
 iterate 2 refine go ?_
 refine rgp (op_makeFunc rfl rfl rfl rfl) ?_
 iterate 3 refine go ?_
 obtain ⟨u50, h51, hF⟩ := bs hF
 refine rgp (op_callW (args := [.lp 0 0, .pv (.str [119, 111, 114, 108, 100, 10])]) [3, 4] [3, 6] [4] 7 rfl rfl rfl rfl rfl cal_47 (bldW_ok h51) rfl (by decide) ⟨rfl, rfl, trivial⟩ rfl (by decide) ⟨.inl rfl, .inr rfl, trivial⟩ (by kernel_rfl) (by kernel_rfl) rfl rfl rfl rfl) ?_
 iterate 3 refine go ?_
 obtain ⟨y54, h55, hF⟩ := bs hF
 refine rgp (op_callW (args := [.pv (.int .i64 0), .pv (.int .i64 1), .lp 0 0, .lp 1 0, .lp 3 0, .lp 4 0, .lp 5 0]) [2, 3, 6, 0, 1, 5] [2, 3, 7, 0, 1, 5] [6] 8 rfl rfl rfl rfl rfl cal_46 (dot_Tree_1_w_ok h55) rfl (by decide) ⟨rfl, rfl, rfl, rfl, rfl, rfl, trivial⟩ rfl (by decide) ⟨.inl rfl, .inl rfl, .inr rfl, .inl rfl, .inl rfl, .inl rfl, trivial⟩ (by kernel_rfl) (by kernel_rfl) rfl rfl rfl rfl) ?_
 iterate 5 refine go ?_
 obtain ⟨x143, hF, hK144⟩ := bs hF
 refine aw_for (a2.toNat + 2) (fun s1 => s1 = (sX 65 [(11, some (.lp 0 0))] [(0, some (.box 113 [.bp 0, .ls 1])), (1, some (.row 5 1 (List.map eI_u8 x143)))] 2)) ?_ ?_
 ·refine rnd_loop (α := (List Int) × Int) (fun q => (sX 65 [pf 2 (.int .i64 a2), (7, some (.lp 0 0)), (11, some (.lp 1 0)), (12, some (.lp 3 0)), pf 13 (.int .i64 q.2)] [(0, some (.box 108 [.pv (.mrv Tryz.prog 108 (grpOf x46))])), (1, some (.box 113 [.bp 1, .ls 2])), (2, some (.row 5 1 (List.map eI_u8 q.1))), (3, some (.box 114 [.fn 46 [.lp 0 0, .lp 1 0, .lp 4 0, .lp 5 0, .lp 3 0]])), (4, some (.box 22 [.pv (.vs 7 (List.map eGClass a0))])), (5, some (.box 56 [.pv (.vs 7 (List.map eGCell a1))]))] 6)) (fun k q => dot_Tree_L2 a0 a1 a2 x46 k q.1 q.2 = some x143) (y54, 1) (impz [2, 3, 7, 5, 0, 1]) hF (fun q h => by cases h) ?_
  clear hF
  rintro k ⟨x83, x84⟩ hF ih
  refine rnd_succ ?_
  iterate 4 refine go ?_
  refine rgp (op_min2 rfl rfl rfl rfl rfl) ?_
  iterate 2 refine go ?_
  refine cnd hF (fun hb114 hF => ?_) fun hb114 hF => ?_
  ·iterate 2 refine go ?_
   refine aw_seq ?_
   obtain ⟨x138, hF, hK140⟩ := bs hF
   refine ctx (sX 65 [pf 2 (.int .i64 a2), (7, some (.lp 0 0)), (11, some (.lp 1 0)), (12, some (.lp 3 0)), pf 13 (.int .i64 x84)] [(0, some (.box 108 [.pv (.mrv Tryz.prog 108 (grpOf x46))])), (1, some (.box 113 [.bp 1, .ls 2])), (2, some (.row 5 1 (List.map eI_u8 x138))), (3, some (.box 114 [.fn 46 [.lp 0 0, .lp 1 0, .lp 4 0, .lp 5 0, .lp 3 0]])), (4, some (.box 22 [.pv (.vs 7 (List.map eGClass a0))])), (5, some (.box 56 [.pv (.vs 7 (List.map eGCell a1))]))] 6) ?_ ?_
   ·refine aw_block ?_
    iterate 3 refine go ?_
    refine rgp (op_neg rfl rfl rfl rfl) ?_
    obtain ⟨y117, h118, hF⟩ := bs hF
    refine rgp (op_lookupG rfl rfl rfl h118 rfl rfl) ?_
    iterate 3 refine go ?_
    refine cnd hF (fun hb119 hF => ?_) fun hb119 hF => ?_
    ·iterate 2 refine go ?_
     refine rgp (op_neg rfl rfl rfl rfl) ?_
     obtain ⟨y128, h129, hF⟩ := bs hF
     refine rgp (cl 6 [.int .i64 (w_i64 (0 - x84))] [.p (.str y128)] (word_Digits_ok h129)) ?_
     obtain ⟨u130, h131, hF⟩ := bs hF
     refine rgp (op_concat rfl rfl rfl (room_str h131) rfl rfl) ?_
     obtain ⟨u132, h133, hF⟩ := bs hF
     refine rgp (op_concat rfl rfl rfl (room_str h133) rfl rfl) ?_
     obtain ⟨u134, h135, hF⟩ := bs hF
     refine rgp (op_callW (args := [.lp 0 0, .pv (.str (([99, 108, 117, 115, 116, 101, 114, 32] ++ y128) ++ [10]))]) [1, 2] [1, 6] [2] 7 rfl rfl rfl rfl rfl cal_47 (bldW_ok h135) rfl (by decide) ⟨rfl, rfl, trivial⟩ rfl (by decide) ⟨.inl rfl, .inr rfl, trivial⟩ (by kernel_rfl) (by kernel_rfl) rfl rfl rfl rfl) ?_
     iterate 4 refine go ?_
     refine rgp (op_neg rfl rfl rfl rfl) ?_
     obtain ⟨y136, h137, hF⟩ := bs hF
     refine rgp (op_callW (args := [.pv (.int .i64 (w_i64 (0 - x84))), .pv (.int .i64 1), .lp 0 0, .lp 1 0, .lp 3 0, .lp 4 0, .lp 5 0]) [0, 1, 6, 4, 5, 3] [0, 1, 7, 4, 5, 3] [6] 8 rfl rfl rfl rfl rfl cal_46 (dot_Tree_1_w_ok h137) rfl (by decide) ⟨rfl, rfl, rfl, rfl, rfl, rfl, trivial⟩ rfl (by decide) ⟨.inl rfl, .inl rfl, .inr rfl, .inl rfl, .inl rfl, .inl rfl, trivial⟩ (by kernel_rfl) (by kernel_rfl) rfl rfl rfl rfl) ?_
     refine reg_nil ?_
     refine piz (sX 65 [pf 2 (.int .i64 a2), (7, some (.lp 0 0)), (11, some (.lp 1 0)), (12, some (.lp 3 0)), pf 13 (.int .i64 x84)] [(0, some (.box 108 [.pv (.mrv Tryz.prog 108 (grpOf x46))])), (1, some (.box 113 [.bp 1, .ls 2])), (2, some (.row 5 1 (List.map eI_u8 y136))), (3, some (.box 114 [.fn 46 [.lp 0 0, .lp 1 0, .lp 4 0, .lp 5 0, .lp 3 0]])), (4, some (.box 22 [.pv (.vs 7 (List.map eGClass a0))])), (5, some (.box 56 [.pv (.vs 7 (List.map eGCell a1))]))] 6) [0, 1, 7, 3, 4, 5] ?_
     refine go ?_
     cases hF
     exact pcz [0, 1, 2, 3, 4, 5]
    iterate 2 refine go ?_
    cases hF
    exact pcz [0, 1, 2, 3, 4, 5]
   have hF := hK140
   iterate 5 refine go ?_
   refine rnr ?_
   exact rnd_back (ih (x138, w_i64 (x84 + 1)) hF) (impz [0, 1, 2, 3, 4, 5])
  refine aw_exit ?_
  iterate 2 refine post_then_exit ?_
  cases hF
  exact post_lp_break _ rfl (impz [1, 2])
 rintro _ rfl
 have hF := hK144
 iterate 2 refine go ?_
 obtain ⟨y145, h146, hF⟩ := bs hF
 refine rgp (op_callW (args := [.lp 0 0]) [0, 1] [] [0, 1] 2 rfl rfl rfl rfl rfl cal_50 (bldS_ok h146) rfl (by decide) ⟨rfl, rfl, trivial⟩ rfl (by decide) trivial (by kernel_rfl) (by kernel_rfl) rfl rfl rfl rfl) ?_
 iterate 3 refine go ?_
 cases hF
 exact prt
theorem law48_lines_ok {a0 : List UInt8} {r : (List (List UInt8))} (hF : law48_lines a0 = some r) : FZ 21 [.str a0] [.own 9 1 (List.map eS r)] := by
 unfold law48_lines at hF
 refine fn_of_body (n := 28) Tryz.func21 rfl rfl rfl fun w O => ?_
 iterate 5 refine go ?_
 refine reg_imp (imp_nil_own 3 9 1 0 rfl rfl) ?_
 iterate 8 refine go ?_
 obtain ⟨x76, hF, hK77⟩ := bs hF
 refine aw_for ((a0.length - 0 : Int).toNat + 1) (fun s1 => s1 = (sX 28 [(3, some (.ls 0))] [(0, some (.row 9 1 (List.map eS x76)))] 1)) ?_ ?_
 ·refine rnd_loop (α := (List (List UInt8)) × (List UInt8) × Int) (fun q => (sX 28 [pf 0 (.str a0), (3, some (.ls 0)), pf 4 (.str q.2.1), pf 5 (.int .i64 q.2.2)] [(0, some (.row 9 1 (List.map eS q.1)))] 1)) (fun k q => law48_lines_L1 a0 k q.1 q.2.1 q.2.2 = some x76) ([], [], 0) (impz [0]) hF (fun q h => by cases h) ?_
  clear hF
  rintro k ⟨x23, x24, x25⟩ hF ih
  refine rnd_succ ?_
  iterate 4 refine go ?_
  refine rgp (op_len_str rfl rfl und_9 rfl rfl) ?_
  iterate 2 refine go ?_
  refine cnd hF (fun hb51 hF => ?_) fun hb51 hF => ?_
  ·iterate 2 refine go ?_
   refine aw_seq ?_
   obtain ⟨p71, hF, hK72⟩ := bs hF
   obtain ⟨x69, x70⟩ := p71
   refine ctx (sX 28 [pf 0 (.str a0), (3, some (.ls 0)), pf 4 (.str x70), pf 5 (.int .i64 x25)] [(0, some (.row 9 1 (List.map eS x69)))] 1) ?_ ?_
   ·refine aw_block ?_
    iterate 4 refine go ?_
    obtain ⟨y54, h55, hF⟩ := bs hF
    refine rgp (op_index_str (k := .i64) rfl rfl rfl h55 und_9 rfl rfl) ?_
    iterate 2 refine go ?_
    refine cnd hF (fun hb56 hF => ?_) fun hb56 hF => ?_
    ·iterate 6 refine go ?_
     obtain ⟨y61, h62, hF⟩ := bs hF
     refine rgp (op_slice_str (nl := (some x25)) (nh := (some (w_i64 (x25 + 1)))) rfl rfl rfl rfl und_9 h62 rfl rfl) ?_
     obtain ⟨u63, h64, hF⟩ := bs hF
     refine rgp (op_concat rfl rfl rfl (room_str h64) rfl rfl) ?_
     iterate 2 refine go ?_
     refine aw_exit ?_
     refine post_then_exit ?_
     refine post_block_exit ?_
     cases hF
     exact pcz [0]
    iterate 5 refine go ?_
    refine rgp (op_lit (rows := List.map eS ([x24] : List (List UInt8))) (zs := [.str []]) rfl rfl slc_23 zer_9 (by exact ⟨rfl, trivial⟩) rfl rfl rfl rfl rfl rfl rfl rfl) ?_
    obtain ⟨u67, h68, hF⟩ := bs hF
    refine rgp (op_append 1 rfl rfl rfl rfl rfl slc_23 elm_9 zer_9 rfl rfl rfl (room_map (f := eS) (g := eS) h68) (List.map_append (f := eS) (l₁ := x23) (l₂ := [x24])).symm rfl rfl) ?_
    iterate 4 refine go ?_
    refine reg_nil ?_
    refine piz (sX 28 [pf 0 (.str a0), (3, some (.ls 0)), pf 4 (.str []), pf 5 (.int .i64 x25)] [(0, some (.row 9 1 (List.map eS (x23 ++ [x24]))))] 1) [1] ?_
    refine go ?_
    cases hF
    exact pcz [0]
   have hF := hK72
   iterate 5 refine go ?_
   refine rnr ?_
   exact rnd_back (ih (x69, x70, w_i64 (x25 + 1)) hF) (impz [0])
  refine aw_exit ?_
  iterate 2 refine post_then_exit ?_
  cases hF
  exact post_lp_break _ rfl (impz [0])
 rintro _ rfl
 have hF := hK77
 iterate 6 refine go ?_
 cases hF
 exact post_ret rfl rfl (.cons _ _ _ _ _ (.tmp _ _ rfl) (.own _ _ _ _ rfl nolent3) .nil) (.inl rfl)
theorem law48_tabs_ok {a0 : List UInt8} {r : Int} (hF : law48_tabs a0 = some r) : FZ 24 [.str a0] [.p (.int .i64 r)] := by
 unfold law48_tabs at hF
 refine fn_of_body (n := 17) Tryz.func24 rfl rfl rfl fun w O => ?_
 iterate 6 refine go ?_
 refine aw_seq ?_
 obtain ⟨x25, hF, hK26⟩ := bs hF
 refine aw_for (a0.length + 1) (fun s1 => s1 = (sX 17 [pf 3 (.int .i64 x25)] [] 0)) ?_ ?_
 ·refine rnd_loop (α := Int) (fun q => (sX 17 [pf 0 (.str a0), pf 3 (.int .i64 q)] [] 0)) (fun k q => law48_tabs_L1 a0 k q = some x25) 0 (impz []) hF (fun q h => by cases h) ?_
  clear hF
  rintro k x8 hF ih
  refine rnd_succ ?_
  refine aw_seq ?_
  refine aw_seq ?_
  obtain ⟨x20, hF, hK22⟩ := bs hF
  refine ctx (sX 17 [pf 0 (.str a0), pf 3 (.int .i64 x8), pf 13 (.bool x20)] [] 0) ?_ ?_
  ·iterate 3 refine go ?_
   refine rgp (op_len_str rfl rfl und_9 rfl rfl) ?_
   iterate 2 refine go ?_
   rcases ie hF with ⟨hb17, hF⟩ | ⟨hb17, hF⟩
   ·iterate 2 refine gn hb17 ?_
    obtain ⟨y18, h19, hF⟩ := bs hF
    refine rgn hb17 (op_index_str (k := .i64) rfl rfl rfl h19 und_9 rfl rfl) ?_
    refine gn hb17 ?_
    refine rpt hb17 ?_
    cases hF
    exact rcz []
   iterate 4 refine rgo_f hb17 ?_
   refine rpf hb17 ?_
   cases hF
   exact rcz []
  have hF := hK22
  refine go ?_
  refine cnd hF (fun hb23 hF => ?_) fun hb23 hF => ?_
  ·iterate 2 refine go ?_
   refine aw_block ?_
   iterate 4 refine go ?_
   refine reg_nil ?_
   refine piz (sX 17 [pf 0 (.str a0), pf 3 (.int .i64 (w_i64 (x8 + 1)))] [] 0) [] ?_
   refine go ?_
   refine post_round ?_
   exact rnd_back (ih (w_i64 (x8 + 1)) hF) (impz [])
  refine aw_exit ?_
  iterate 2 refine post_then_exit ?_
  cases hF
  exact post_lp_break _ rfl (impz [])
 rintro _ rfl
 have hF := hK26
 iterate 6 refine go ?_
 cases hF
 exact prt
theorem law48_find_ok {a0 : List (List UInt8)} {a1 : List UInt8} {r : Int} (hF : law48_find a0 a1 = some r) : FZ 22 [.vs 1 (List.map eS a0), .str a1] [.p (.int .i64 r)] := by
 unfold law48_find at hF
 refine fn_of_body (n := 29) Tryz.func22 rfl rfl rfl fun w O => ?_
 iterate 10 refine go ?_
 obtain ⟨lr68, hF, hK69⟩ := bs hF
 refine aw_for ((a0.length - 0 : Int).toNat + 1) (fun s1 => ∃ q, lr68 = .next q ∧ s1 = (sX 29 [pf 5 (.int .i64 q)] [] 0)) ?_ ?_
 ·refine rnd_loop (α := Int × Int) (fun q => (sX 29 [pf 0 (.vs 1 (List.map eS a0)), pf 1 (.str a1), pf 5 (.int .i64 q.1), pf 6 (.int .i64 q.2)] [] 0)) (fun k q => law48_find_L1 a0 a1 k q.1 q.2 = some lr68) ((-1), 0) (impz []) hF (fun q h => by cases h) ?_
  clear hF
  rintro k ⟨x21, x22⟩ hF ih
  refine rnd_succ ?_
  iterate 7 refine go ?_
  refine cnd hF (fun hb45 hF => ?_) fun hb45 hF => ?_
  ·iterate 2 refine go ?_
   refine aw_seq ?_
   refine aw_join hF (fun q => (sX 29 [pf 0 (.vs 1 (List.map eS a0)), pf 1 (.str a1), pf 5 (.int .i64 q), pf 6 (.int .i64 x22)] [] 0)) ?_ ?_
   ·refine aw_block ?_
    refine aw_seq ?_
    refine aw_seq ?_
    refine dr_start ⟨_, _, _⟩ rfl ?_
    iterate 2 refine dgo ?_
    obtain ⟨y54, h55, hF⟩ := go_bind hF
    refine dk 15 [(13, .pv (.vs 1 (List.map eS a0))), (14, .pv (.int .i64 x22))] (.pv (.vp (eS y54))) (fun m h => ⟨_, op_index_vs (k := .i64) rfl h.1.1 h.1.2.1 (idx_map eS h55) slc_23 rfl rfl, rfl⟩) ?_
    refine dk 16 [(15, .pv (.vp (eS y54)))] (.pv (.str y54)) (fun m h => ⟨_, op_load_vp (p := .str y54) rfl h.1.1 rfl one_9 rfl rfl, rfl⟩) ?_
    iterate 2 refine dgo ?_
    obtain ⟨y56, h57, hF⟩ := go_bind hF
    refine dk 19 [(17, .pv (.vs 1 (List.map eS a0))), (18, .pv (.int .i64 x22))] (.pv (.vp (eS y56))) (fun m h => ⟨_, op_index_vs (k := .i64) rfl h.1.1 h.1.2.1 (idx_map eS h57) slc_23 rfl rfl, rfl⟩) ?_
    refine dk 20 [(19, .pv (.vp (eS y56)))] (.pv (.str y56)) (fun m h => ⟨_, op_load_vp (p := .str y56) rfl h.1.1 rfl one_9 rfl rfl, rfl⟩) ?_
    obtain ⟨y58, h59, hF⟩ := go_bind hF
    refine dk 21 [(20, .pv (.str y56))] (.pv (.int .i64 y58)) (fun m h => ⟨_, op_call 0 rfl (caps := []) (args := [.str y56]) (rs := [.p (.int .i64 y58)]) rfl rfl (evl_cons h.1.1 evl_nil) cal_24 (law48_tabs_ok h59) rfl rfl rfl, rfl⟩) ?_
    obtain ⟨y60, h61, hF⟩ := go_bind hF
    refine dk 22 [(16, .pv (.str y54)), (21, .pv (.int .i64 y58))] (.pv (.str y60)) (fun m h => ⟨_, op_slice_str (nl := (some y58)) (nh := none) rfl h.1.1 (evo_some h.1.2.1) rfl und_9 h61 rfl rfl, rfl⟩) ?_
    refine dgo ?_
    refine dk 24 [(22, .pv (.str y60)), (23, .pv (.str a1))] (.pv (.bool (!(y60 == a1)))) (fun m h => ⟨_, op_str rfl h.1.1 h.1.2.1 rfl rfl rfl, rfl⟩) ?_
    refine dr_nil mixed rfl (by kernel_rfl) ?_
    refine piz (sX 29 [pf 0 (.vs 1 (List.map eS a0)), pf 1 (.str a1), pf 5 (.int .i64 x21), pf 6 (.int .i64 x22), pf 24 (.bool (!(y60 == a1)))] [] 0) [] ?_
    refine go ?_
    rcases go_ite hF with ⟨hb62, hF⟩ | ⟨hb62, hF⟩
    ·refine aw_cond_t rfl hb62 ?_
     refine aw_exit ?_
     refine post_then_exit ?_
     refine post_block_exit ?_
     exact post_cut _ ⟨x21, rfl, hF⟩ (impz [])
    refine aw_cond_f rfl hb62 ?_
    iterate 7 refine go ?_
    rcases go_ite hF with ⟨hb63, hF⟩ | ⟨hb63, hF⟩
    ·refine aw_cond_t rfl hb63 ?_
     iterate 6 refine go ?_
     refine post_cut_ret ?_
     replace hF := go_stop hF
     iterate 2 refine go ?_
     refine post_lp_ret ?_
     cases hF
     have hF := elim_stop hK69
     refine go ?_
     cases hF
     exact prt
    refine aw_cond_f rfl hb63 ?_
    iterate 5 refine go ?_
    refine reg_nil ?_
    refine piz (sX 29 [pf 0 (.vs 1 (List.map eS a0)), pf 1 (.str a1), pf 5 (.int .i64 x22), pf 6 (.int .i64 x22)] [] 0) [] ?_
    refine go ?_
    exact post_cut _ ⟨x22, rfl, hF⟩ (impz [])
   rintro x64 hF
   iterate 5 refine go ?_
   refine rnr ?_
   exact rnd_back (ih (x64, w_i64 (x22 + 1)) hF) (impz [])
  refine aw_exit ?_
  iterate 2 refine post_then_exit ?_
  cases hF
  exact post_lp_break _ ⟨_, rfl, rfl⟩ (impz [])
 rintro _ ⟨x67, rfl, rfl⟩
 have hF := elim_next hK69
 clear hK69
 iterate 6 refine go ?_
 cases hF
 exact prt
theorem law48_DotDeep_ok {a0 : List GClass} {a1 : List GCell} {a2 : Int} {r : Bool} (hF : law48_DotDeep a0 a1 a2 = some r) : FZ 5 [.vs 7 (List.map eGClass a0), .vs 7 (List.map eGCell a1), .int .i64 a2] [.p (.bool r)] := by
 unfold law48_DotDeep at hF
 refine fn_of_body (n := 187) Tryz.func5 rfl rfl rfl fun w O => ?_
 iterate 3 refine go ?_
 refine aw_seq ?_
 refine aw_seq ?_
 obtain ⟨x16, hF, hK18⟩ := bs hF
 refine ctx (sX 187 [pf 0 (.vs 7 (List.map eGClass a0)), pf 1 (.vs 7 (List.map eGCell a1)), pf 2 (.int .i64 a2), pf 41 (.bool x16)] [] 0) ?_ ?_
 ·iterate 2 refine go ?_
  obtain ⟨y3, h4, hF⟩ := bs hF
  refine rgp (cl 0 [.vs 7 (List.map eGClass a0)] [.p (.bool y3)] (ref10_Heavy_ok h4)) ?_
  refine go ?_
  rcases ie hF with ⟨hb5, hF⟩ | ⟨hb5, hF⟩
  ·refine rgo_t hb5 ?_
   refine rgo_t hb5 ?_
   refine rpt hb5 ?_
   refine go ?_
   iterate 2 refine rgo_t rfl ?_
   refine rpt rfl ?_
   refine go ?_
   iterate 2 refine rgo_t rfl ?_
   refine rpt rfl ?_
   refine go ?_
   iterate 2 refine rgo_t rfl ?_
   refine rpt rfl ?_
   refine go ?_
   iterate 4 refine rgo_t rfl ?_
   refine rpt rfl ?_
   cases hF
   exact rcz []
  refine gn hb5 ?_
  obtain ⟨y6, h7, hF⟩ := bs hF
  refine rgn hb5 (cl 0 [.vs 7 (List.map eGCell a1)] [.p (.bool y6)] (law48_great_ok h7)) ?_
  refine rpf hb5 ?_
  refine go ?_
  rcases ie hF with ⟨hb8, hF⟩ | ⟨hb8, hF⟩
  ·refine rgo_t hb8 ?_
   refine rgo_t hb8 ?_
   refine rpt hb8 ?_
   refine go ?_
   iterate 2 refine rgo_t rfl ?_
   refine rpt rfl ?_
   refine go ?_
   iterate 2 refine rgo_t rfl ?_
   refine rpt rfl ?_
   refine go ?_
   iterate 4 refine rgo_t rfl ?_
   refine rpt rfl ?_
   cases hF
   exact rcz []
  iterate 2 refine gn hb8 ?_
  refine rpf hb8 ?_
  refine go ?_
  rcases ie hF with ⟨hb9, hF⟩ | ⟨hb9, hF⟩
  ·refine rgo_t hb9 ?_
   refine rgo_t hb9 ?_
   refine rpt hb9 ?_
   refine go ?_
   iterate 2 refine rgo_t rfl ?_
   refine rpt rfl ?_
   refine go ?_
   iterate 4 refine rgo_t rfl ?_
   refine rpt rfl ?_
   cases hF
   exact rcz []
  iterate 2 refine gn hb9 ?_
  refine rpf hb9 ?_
  refine go ?_
  rcases ie hF with ⟨hb10, hF⟩ | ⟨hb10, hF⟩
  ·refine rgo_t hb10 ?_
   refine rgo_t hb10 ?_
   refine rpt hb10 ?_
   refine go ?_
   iterate 4 refine rgo_t rfl ?_
   refine rpt rfl ?_
   cases hF
   exact rcz []
  refine gn hb10 ?_
  obtain ⟨y11, h12, hF⟩ := bs hF
  refine rgn hb10 (cl 0 [.vs 7 (List.map eGCell a1)] [.p (.bool y11)] (law48_bushy_ok h12)) ?_
  refine rpf hb10 ?_
  refine go ?_
  rcases ie hF with ⟨hb13, hF⟩ | ⟨hb13, hF⟩
  ·refine rgo_t hb13 ?_
   iterate 3 refine rgo_t hb13 ?_
   refine rpt hb13 ?_
   cases hF
   exact rcz []
  iterate 2 (refine rgn hb13 (op_move rfl rfl rfl rfl) ?_)
  obtain ⟨y14, h15, hF⟩ := bs hF
  refine rgn hb13 (cl 0 [.vs 7 (List.map eGCell a1), .int .i64 a2] [.p (.bool y14)] (ref36_Right_ok h15)) ?_
  refine gn hb13 ?_
  refine rpf hb13 ?_
  cases hF
  exact rcz []
 have hF := hK18
 refine go ?_
 refine cnd hF (fun hb19 hF => ?_) fun hb19 hF => ?_
 ·refine go ?_
  obtain ⟨y20, h21, hF⟩ := bs hF
  refine rgp (cl 0 [] [.p (.bool y20)] (law48_awake_ok h21)) ?_
  iterate 4 refine go ?_
  cases hF
  exact prt
 iterate 6 refine go ?_
 obtain ⟨lr214, hF, hK215⟩ := bs hF
 refine aw_for ((a1.length - 0 : Int).toNat + 1) (fun s1 => ∃ q, lr214 = .next q ∧ s1 = (sX 187 [pf 0 (.vs 7 (List.map eGClass a0)), pf 1 (.vs 7 (List.map eGCell a1)), pf 2 (.int .i64 a2)] [] 0)) ?_ ?_
 ·refine rnd_loop (α := Int) (fun q => (sX 187 [pf 0 (.vs 7 (List.map eGClass a0)), pf 1 (.vs 7 (List.map eGCell a1)), pf 2 (.int .i64 a2), pf 7 (.int .i64 q)] [] 0)) (fun k q => law48_DotDeep_L1 a1 k q = some lr214) 0 (impz []) hF (fun q h => by cases h) ?_
  clear hF
  rintro k x85 hF ih
  refine rnd_succ ?_
  iterate 7 refine go ?_
  refine cnd hF (fun hb150 hF => ?_) fun hb150 hF => ?_
  ·iterate 2 refine go ?_
   refine aw_seq ?_
   refine aw_block ?_
   iterate 4 refine go ?_
   obtain ⟨y153, h154, hF⟩ := bs hF
   refine rgp (ix (idx_map eGCell h154) slc_56) ?_
   iterate 3 refine go ?_
   refine cnd hF (fun hb155 hF => ?_) fun hb155 hF => ?_
   ·refine go ?_
    obtain ⟨y156, h157, hF⟩ := bs hF
    refine rgp (cl 0 [] [.p (.bool y156)] (law48_awake_ok h157)) ?_
    iterate 7 refine go ?_
    refine post_lp_ret ?_
    cases hF
    have hF := elim_stop hK215
    refine go ?_
    cases hF
    exact prt
   iterate 5 refine go ?_
   obtain ⟨lr209, hF, hK210⟩ := bs hF
   refine aw_for (Option.getD (Option.bind (idx a1 x85) fun (y211 : GCell) => some ((y211.fClass.length - 0 : Int).toNat + 1)) 1) (fun s1 => ∃ q, lr209 = .next q ∧ s1 = (sX 187 [pf 0 (.vs 7 (List.map eGClass a0)), pf 1 (.vs 7 (List.map eGCell a1)), pf 2 (.int .i64 a2), pf 7 (.int .i64 x85)] [] 0)) ?_ ?_
   ·refine rnd_loop (α := Int) (fun q => (sX 187 [pf 0 (.vs 7 (List.map eGClass a0)), pf 1 (.vs 7 (List.map eGCell a1)), pf 2 (.int .i64 a2), pf 7 (.int .i64 x85), pf 8 (.int .i64 q)] [] 0)) (fun k q => law48_DotDeep_L2 a1 x85 k q = some lr209) 0 (impz []) hF (fun q h => by cases h) ?_
    clear hF
    rintro k x174 hF ih
    refine rnd_succ ?_
    iterate 5 refine go ?_
    obtain ⟨y194, h195, hF⟩ := bs hF
    refine rgp (ix (idx_map eGCell h195) slc_56) ?_
    iterate 2 refine go ?_
    refine rgp (op_len_str rfl rfl und_9 rfl rfl) ?_
    iterate 2 refine go ?_
    refine cnd hF (fun hb196 hF => ?_) fun hb196 hF => ?_
    ·iterate 2 refine go ?_
     refine aw_seq ?_
     refine aw_block ?_
     iterate 3 refine go ?_
     obtain ⟨y201, h202, hF⟩ := bs hF
     refine rgp (ix (idx_map eGCell h202) slc_56) ?_
     iterate 3 refine go ?_
     obtain ⟨y203, h204, hF⟩ := bs hF
     refine rgp (op_index_str (k := .i64) rfl rfl rfl h204 und_9 rfl rfl) ?_
     iterate 2 refine go ?_
     refine cnd hF (fun hb205 hF => ?_) fun hb205 hF => ?_
     ·refine go ?_
      obtain ⟨y206, h207, hF⟩ := bs hF
      refine rgp (cl 0 [] [.p (.bool y206)] (law48_awake_ok h207)) ?_
      iterate 6 refine go ?_
      refine post_lp_ret ?_
      cases hF
      have hF := elim_stop hK210
      iterate 3 refine go ?_
      refine post_lp_ret ?_
      cases hF
      have hF := elim_stop hK215
      refine go ?_
      cases hF
      exact prt
     iterate 7 refine go ?_
     refine rnr ?_
     exact rnd_back (ih (w_i64 (x174 + 1)) hF) (impz [])
    refine aw_exit ?_
    iterate 2 refine post_then_exit ?_
    cases hF
    exact post_lp_break _ ⟨_, rfl, rfl⟩ (impz [])
   rintro _ ⟨⟨⟩, rfl, rfl⟩
   have hF := elim_next hK210
   clear hK210
   iterate 6 refine go ?_
   refine rnr ?_
   exact rnd_back (ih (w_i64 (x85 + 1)) hF) (impz [])
  refine aw_exit ?_
  iterate 2 refine post_then_exit ?_
  cases hF
  exact post_lp_break _ ⟨_, rfl, rfl⟩ (impz [])
 rintro _ ⟨⟨⟩, rfl, rfl⟩
 have hF := elim_next hK215
 clear hK215
 iterate 5 refine go ?_
 obtain ⟨lr621, hF, hK622⟩ := bs hF
 refine aw_for ((a0.length - 0 : Int).toNat + 1) (fun s1 => ∃ q, lr621 = .next q ∧ s1 = (sX 187 [pf 0 (.vs 7 (List.map eGClass a0)), pf 1 (.vs 7 (List.map eGCell a1)), pf 2 (.int .i64 a2)] [] 0)) ?_ ?_
 ·refine rnd_loop (α := Int) (fun q => (sX 187 [pf 0 (.vs 7 (List.map eGClass a0)), pf 1 (.vs 7 (List.map eGCell a1)), pf 2 (.int .i64 a2), pf 9 (.int .i64 q)] [] 0)) (fun k q => law48_DotDeep_L3 a0 k q = some lr621) 0 (impz []) hF (fun q h => by cases h) ?_
  clear hF
  rintro k x350 hF ih
  refine rnd_succ ?_
  iterate 7 refine go ?_
  refine cnd hF (fun hb486 hF => ?_) fun hb486 hF => ?_
  ·iterate 2 refine go ?_
   refine aw_seq ?_
   refine aw_block ?_
   iterate 3 refine go ?_
   obtain ⟨lr616, hF, hK617⟩ := bs hF
   refine aw_for (Option.getD (Option.bind (idx a0 x350) fun (y618 : GClass) => some ((y618.fFields.length - 0 : Int).toNat + 1)) 1) (fun s1 => ∃ q, lr616 = .next q ∧ s1 = (sX 187 [pf 0 (.vs 7 (List.map eGClass a0)), pf 1 (.vs 7 (List.map eGCell a1)), pf 2 (.int .i64 a2), pf 9 (.int .i64 x350)] [] 0)) ?_ ?_
   ·refine rnd_loop (α := Int) (fun q => (sX 187 [pf 0 (.vs 7 (List.map eGClass a0)), pf 1 (.vs 7 (List.map eGCell a1)), pf 2 (.int .i64 a2), pf 9 (.int .i64 x350), pf 10 (.int .i64 q)] [] 0)) (fun k q => law48_DotDeep_L4 a0 x350 k q = some lr616) 0 (impz []) hF (fun q h => by cases h) ?_
    clear hF
    rintro k x529 hF ih
    refine rnd_succ ?_
    iterate 5 refine go ?_
    obtain ⟨y575, h576, hF⟩ := bs hF
    refine rgp (ix (idx_map eGClass h576) slc_22) ?_
    iterate 5 refine go ?_
    refine cnd hF (fun hb577 hF => ?_) fun hb577 hF => ?_
    ·iterate 2 refine go ?_
     refine aw_seq ?_
     refine aw_block ?_
     iterate 3 refine go ?_
     obtain ⟨y582, h583, hF⟩ := bs hF
     refine rgp (ix (idx_map eGClass h583) slc_22) ?_
     iterate 3 refine go ?_
     obtain ⟨y584, h585, hF⟩ := bs hF
     refine rgp (ix (idx_map eGVar h585) slc_29) ?_
     iterate 7 refine go ?_
     obtain ⟨lr613, hF, hK614⟩ := bs hF
     refine aw_for ((y584.fName.length - 0 : Int).toNat + 1) (fun s1 => ∃ q, lr613 = .next q ∧ s1 = (sX 187 [pf 0 (.vs 7 (List.map eGClass a0)), pf 1 (.vs 7 (List.map eGCell a1)), pf 2 (.int .i64 a2), pf 9 (.int .i64 x350), pf 10 (.int .i64 x529)] [] 0)) ?_ ?_
     ·refine rnd_loop (α := Int) (fun q => (sX 187 [pf 0 (.vs 7 (List.map eGClass a0)), pf 1 (.vs 7 (List.map eGCell a1)), pf 2 (.int .i64 a2), pf 9 (.int .i64 x350), pf 10 (.int .i64 x529), pf 11 (.str y584.fName), pf 12 (.int .i64 q)] [] 0)) (fun k q => law48_DotDeep_L5 y584 k q = some lr613) 0 (impz []) hF (fun q h => by cases h) ?_
      clear hF
      rintro k x594 hF ih
      refine rnd_succ ?_
      iterate 4 refine go ?_
      refine rgp (op_len_str rfl rfl und_9 rfl rfl) ?_
      iterate 2 refine go ?_
      refine cnd hF (fun hb604 hF => ?_) fun hb604 hF => ?_
      ·iterate 2 refine go ?_
       refine aw_seq ?_
       refine aw_block ?_
       iterate 3 refine go ?_
       obtain ⟨y607, h608, hF⟩ := bs hF
       refine rgp (op_index_str (k := .i64) rfl rfl rfl h608 und_9 rfl rfl) ?_
       iterate 2 refine go ?_
       refine cnd hF (fun hb609 hF => ?_) fun hb609 hF => ?_
       ·refine go ?_
        obtain ⟨y610, h611, hF⟩ := bs hF
        refine rgp (cl 0 [] [.p (.bool y610)] (law48_awake_ok h611)) ?_
        iterate 6 refine go ?_
        refine post_lp_ret ?_
        cases hF
        have hF := elim_stop hK614
        iterate 3 refine go ?_
        refine post_lp_ret ?_
        cases hF
        have hF := elim_stop hK617
        iterate 3 refine go ?_
        refine post_lp_ret ?_
        cases hF
        have hF := elim_stop hK622
        refine go ?_
        cases hF
        exact prt
       iterate 7 refine go ?_
       refine rnr ?_
       exact rnd_back (ih (w_i64 (x594 + 1)) hF) (impz [])
      refine aw_exit ?_
      iterate 2 refine post_then_exit ?_
      cases hF
      exact post_lp_break _ ⟨_, rfl, rfl⟩ (impz [])
     rintro _ ⟨⟨⟩, rfl, rfl⟩
     have hF := elim_next hK614
     clear hK614
     iterate 6 refine go ?_
     refine rnr ?_
     exact rnd_back (ih (w_i64 (x529 + 1)) hF) (impz [])
    refine aw_exit ?_
    iterate 2 refine post_then_exit ?_
    cases hF
    exact post_lp_break _ ⟨_, rfl, rfl⟩ (impz [])
   rintro _ ⟨⟨⟩, rfl, rfl⟩
   have hF := elim_next hK617
   clear hK617
   iterate 6 refine go ?_
   refine rnr ?_
   exact rnd_back (ih (w_i64 (x350 + 1)) hF) (impz [])
  refine aw_exit ?_
  iterate 2 refine post_then_exit ?_
  cases hF
  exact post_lp_break _ ⟨_, rfl, rfl⟩ (impz [])
 rintro _ ⟨⟨⟩, rfl, rfl⟩
 have hF := elim_next hK622
 clear hK622
 iterate 5 refine go ?_
 obtain ⟨y627, h628, hF⟩ := bs hF
 refine rgp (cl 0 [.vs 7 (List.map eGClass a0), .vs 7 (List.map eGCell a1), .int .i64 a2] [.p (.str y627)] (dot_Tree_ok h628)) ?_
 obtain ⟨y629, h630, hF⟩ := bs hF
 refine rgp (cl 0 [.str y627] [.p (.vs 1 (List.map eS y629))] (Fn.frozen (law48_lines_ok h630))) ?_
 iterate 2 refine go ?_
 refine aw_seq ?_
 refine aw_seq ?_
 obtain ⟨x634, hF, hK636⟩ := bs hF
 refine ctx (sX 187 [pf 0 (.vs 7 (List.map eGClass a0)), pf 1 (.vs 7 (List.map eGCell a1)), pf 13 (.vs 1 (List.map eS y629)), pf 123 (.bool x634)] [] 0) ?_ ?_
 ·iterate 5 refine go ?_
  rcases ie hF with ⟨hb631, hF⟩ | ⟨hb631, hF⟩
  ·refine rgo_t hb631 ?_
   iterate 3 refine rgo_t hb631 ?_
   refine rpt hb631 ?_
   cases hF
   exact rcz []
  refine gn hb631 ?_
  obtain ⟨y632, h633, hF⟩ := bs hF
  refine rgn hb631 (ix (idx_map eS h633) slc_23) ?_
  refine gn hb631 ?_
  refine rgn hb631 (op_str rfl rfl rfl rfl rfl rfl) ?_
  refine rpf hb631 ?_
  cases hF
  exact rcz []
 have hF := hK636
 refine go ?_
 refine cnd hF (fun hb637 hF => ?_) fun hb637 hF => ?_
 ·iterate 5 refine go ?_
  cases hF
  exact prt
 iterate 6 refine go ?_
 obtain ⟨lr779, hF, hK780⟩ := bs hF
 refine aw_for (a1.length + 1) (fun s1 => ∃ q, lr779 = .next q ∧ s1 = (sX 187 [] [] 0)) ?_ ?_
 ·refine rnd_loop (α := Int) (fun q => (sX 187 [pf 0 (.vs 7 (List.map eGClass a0)), pf 1 (.vs 7 (List.map eGCell a1)), pf 13 (.vs 1 (List.map eS y629)), pf 14 (.int .i64 q)] [] 0)) (fun k q => law48_DotDeep_L6 a0 a1 y629 k q = some lr779) 1 (impz []) hF (fun q h => by cases h) ?_
  clear hF
  rintro k x684 hF ih
  refine rnd_succ ?_
  iterate 7 refine go ?_
  refine cnd hF (fun hb732 hF => ?_) fun hb732 hF => ?_
  ·iterate 2 refine go ?_
   refine aw_seq ?_
   refine aw_join hF (fun q => (sX 187 [pf 0 (.vs 7 (List.map eGClass a0)), pf 1 (.vs 7 (List.map eGCell a1)), pf 13 (.vs 1 (List.map eS y629)), pf 14 (.int .i64 x684)] [] 0)) ?_ ?_
   ·refine aw_block ?_
    iterate 5 refine go ?_
    obtain ⟨y737, h738, hF⟩ := go_bind hF
    refine rgp (cl 0 [.vs 7 (List.map eGClass a0), .vs 7 (List.map eGCell a1), .int .i64 x684] [.p (.str y737)] (dot_Line_ok h738)) ?_
    obtain ⟨y739, h740, hF⟩ := go_bind hF
    refine rgp (cl 0 [.vs 1 (List.map eS y629), .str y737] [.p (.int .i64 y739)] (law48_find_ok h740)) ?_
    iterate 6 refine go ?_
    obtain ⟨y743, h744, hF⟩ := go_bind hF
    refine rgp (ix (idx_map eGCell h744) slc_56) ?_
    refine go ?_
    refine rgp (op_arr_vp (k := .i64) (m := 0) (n := 4) rfl rfl rfl arr_61 rfl rfl rfl rfl) ?_
    iterate 3 refine go ?_
    refine aw_seq ?_
    refine aw_seq ?_
    obtain ⟨x751, hF, hK753⟩ := go_bind hF
    refine ctx (sX 187 [pf 0 (.vs 7 (List.map eGClass a0)), pf 1 (.vs 7 (List.map eGCell a1)), pf 13 (.vs 1 (List.map eS y629)), pf 14 (.int .i64 x684), pf 15 (.int .i64 y739), pf 16 (.int .i64 y743.fOwn.a0), pf 156 (.bool x751)] [] 0) ?_ ?_
    ·iterate 4 refine go ?_
     rcases ie hF with ⟨hb745, hF⟩ | ⟨hb745, hF⟩
     ·refine rgo_t hb745 ?_
      iterate 2 refine rgo_t hb745 ?_
      iterate 6 refine go ?_
      refine rgo_t hb745 ?_
      refine rpt hb745 ?_
      cases hF
      exact rcz []
     iterate 3 refine gn hb745 ?_
     rcases ie hF with ⟨hb746, hF⟩ | ⟨hb746, hF⟩
     ·iterate 2 refine gn hb746 ?_
      obtain ⟨y747, h748, hF⟩ := bs hF
      refine rgn hb746 (ix (idx_map eS h748) slc_23) ?_
      refine gn hb746 ?_
      obtain ⟨y749, h750, hF⟩ := bs hF
      refine rgn hb746 (cl 0 [.str y747] [.p (.int .i64 y749)] (law48_tabs_ok h750)) ?_
      refine gn hb746 ?_
      refine rgn hb745 (op_pick_t rfl rfl hb746 rfl rfl rfl) ?_
      refine rpf hb745 ?_
      cases hF
      exact rcz []
     iterate 6 refine rgo_f hb746 ?_
     refine rgn hb745 (op_pick_f rfl rfl hb746 rfl rfl rfl) ?_
     refine rpf hb745 ?_
     cases hF
     exact rcz []
    have hF := hK753
    refine go ?_
    rcases go_ite hF with ⟨hb754, hF⟩ | ⟨hb754, hF⟩
    ·refine aw_cond_t rfl hb754 ?_
     iterate 6 refine go ?_
     refine post_cut_ret ?_
     replace hF := go_stop hF
     iterate 2 refine go ?_
     refine post_lp_ret ?_
     cases hF
     have hF := elim_stop hK780
     refine go ?_
     cases hF
     exact prt
    refine aw_cond_f rfl hb754 ?_
    iterate 6 refine go ?_
    rcases go_ite hF with ⟨hb755, hF⟩ | ⟨hb755, hF⟩
    ·refine aw_cond_t rfl hb755 ?_
     iterate 5 refine go ?_
     obtain ⟨y760, h761, hF⟩ := go_bind hF
     refine rgp (cl 0 [.vs 7 (List.map eGClass a0), .vs 7 (List.map eGCell a1), .int .i64 y743.fOwn.a0] [.p (.str y760)] (dot_Line_ok h761)) ?_
     obtain ⟨y762, h763, hF⟩ := go_bind hF
     refine rgp (cl 0 [.vs 1 (List.map eS y629), .str y760] [.p (.int .i64 y762)] (law48_find_ok h763)) ?_
     iterate 2 refine go ?_
     refine aw_seq ?_
     obtain ⟨x774, hF, hK776⟩ := go_bind hF
     refine ctx (sX 187 [pf 0 (.vs 7 (List.map eGClass a0)), pf 1 (.vs 7 (List.map eGCell a1)), pf 13 (.vs 1 (List.map eS y629)), pf 14 (.int .i64 x684), pf 185 (.bool x774)] [] 0) ?_ ?_
     ·refine dr_start ⟨_, _, _⟩ rfl ?_
      iterate 3 refine dgo ?_
      rcases ie hF with ⟨hb764, hF⟩ | ⟨hb764, hF⟩
      ·refine dro_t hb764 ?_
       iterate 2 refine dro_t hb764 ?_
       refine drpt hb764 ?_
       refine dgo ?_
       iterate 12 refine dro_t rfl ?_
       refine drpt rfl ?_
       refine dr_nil mixed rfl (by kernel_rfl) ?_
       refine piz (sX 187 [pf 0 (.vs 7 (List.map eGClass a0)), pf 1 (.vs 7 (List.map eGCell a1)), pf 13 (.vs 1 (List.map eS y629)), pf 14 (.int .i64 x684), pf 185 (.bool true)] [] 0) [] ?_
       cases hF
       exact pcz []
      refine dkg hb764 168 [(17, .pv (.int .i64 y762))] (.pv (.int .i64 y762)) (fun m h => ⟨_, op_move rfl h.1.2.1 rfl rfl, rfl⟩) ?_
      refine dkg hb764 169 [(15, .pv (.int .i64 y739))] (.pv (.int .i64 y739)) (fun m h => ⟨_, op_move rfl h.1.2.1 rfl rfl, rfl⟩) ?_
      refine dkg hb764 170 [(168, .pv (.int .i64 y762)), (169, .pv (.int .i64 y739))] (.pv (.bool (decide (y762 ≥ y739)))) (fun m h => ⟨_, op_int (k := .i64) (m := y762) (n := y739) rfl h.1.2.1 h.1.2.2.1 rfl rfl rfl, rfl⟩) ?_
      refine dk 171 [(167, .pv (.bool (decide (y762 < 0)))), (170, .pv (.bool (decide (y762 ≥ y739))))] (.pv (.bool (decide (y762 ≥ y739)))) (fun m h => ⟨_, op_pick_f rfl h.1.1 hb764 h.1.2.1 rfl rfl, rfl⟩) ?_
      refine dgo ?_
      rcases ie hF with ⟨hb765, hF⟩ | ⟨hb765, hF⟩
      ·refine dro_t hb765 ?_
       iterate 11 refine dro_t hb765 ?_
       refine drpt hb765 ?_
       refine dr_nil mixed rfl (by kernel_rfl) ?_
       refine piz (sX 187 [pf 0 (.vs 7 (List.map eGClass a0)), pf 1 (.vs 7 (List.map eGCell a1)), pf 13 (.vs 1 (List.map eS y629)), pf 14 (.int .i64 x684), pf 185 (.bool true)] [] 0) [] ?_
       cases hF
       exact pcz []
      refine dkg hb765 173 [(13, .pv (.vs 1 (List.map eS y629)))] (.pv (.vs 1 (List.map eS y629))) (fun m h => ⟨_, op_move rfl h.1.2.1 rfl rfl, rfl⟩) ?_
      refine dkg hb765 174 [(15, .pv (.int .i64 y739))] (.pv (.int .i64 y739)) (fun m h => ⟨_, op_move rfl h.1.2.1 rfl rfl, rfl⟩) ?_
      obtain ⟨y766, h767, hF⟩ := bs hF
      refine dkg hb765 175 [(173, .pv (.vs 1 (List.map eS y629))), (174, .pv (.int .i64 y739))] (.pv (.vp (eS y766))) (fun m h => ⟨_, op_index_vs (k := .i64) rfl h.1.2.1 h.1.2.2.1 (idx_map eS h767) slc_23 rfl rfl, rfl⟩) ?_
      refine dkg hb765 176 [(175, .pv (.vp (eS y766)))] (.pv (.str y766)) (fun m h => ⟨_, op_load_vp (p := .str y766) rfl h.1.2.1 rfl one_9 rfl rfl, rfl⟩) ?_
      obtain ⟨y768, h769, hF⟩ := bs hF
      refine dkg hb765 177 [(176, .pv (.str y766))] (.pv (.int .i64 y768)) (fun m h => ⟨_, op_call 0 rfl (caps := []) (args := [.str y766]) (rs := [.p (.int .i64 y768)]) rfl rfl (evl_cons h.1.2.1 evl_nil) cal_24 (law48_tabs_ok h769) rfl rfl rfl, rfl⟩) ?_
      refine dkg hb765 178 [(13, .pv (.vs 1 (List.map eS y629)))] (.pv (.vs 1 (List.map eS y629))) (fun m h => ⟨_, op_move rfl h.1.2.1 rfl rfl, rfl⟩) ?_
      refine dkg hb765 179 [(17, .pv (.int .i64 y762))] (.pv (.int .i64 y762)) (fun m h => ⟨_, op_move rfl h.1.2.1 rfl rfl, rfl⟩) ?_
      obtain ⟨y770, h771, hF⟩ := bs hF
      refine dkg hb765 180 [(178, .pv (.vs 1 (List.map eS y629))), (179, .pv (.int .i64 y762))] (.pv (.vp (eS y770))) (fun m h => ⟨_, op_index_vs (k := .i64) rfl h.1.2.1 h.1.2.2.1 (idx_map eS h771) slc_23 rfl rfl, rfl⟩) ?_
      refine dkg hb765 181 [(180, .pv (.vp (eS y770)))] (.pv (.str y770)) (fun m h => ⟨_, op_load_vp (p := .str y770) rfl h.1.2.1 rfl one_9 rfl rfl, rfl⟩) ?_
      obtain ⟨y772, h773, hF⟩ := bs hF
      refine dkg hb765 182 [(181, .pv (.str y770))] (.pv (.int .i64 y772)) (fun m h => ⟨_, op_call 0 rfl (caps := []) (args := [.str y770]) (rs := [.p (.int .i64 y772)]) rfl rfl (evl_cons h.1.2.1 evl_nil) cal_24 (law48_tabs_ok h773) rfl rfl rfl, rfl⟩) ?_
      refine dgn hb765 ?_
      refine dkg hb765 184 [(177, .pv (.int .i64 y768)), (183, .pv (.int .i64 (w_i64 (y772 + 1))))] (.pv (.bool (y768 != (w_i64 (y772 + 1))))) (fun m h => ⟨_, op_int (k := .i64) (m := y768) (n := w_i64 (y772 + 1)) rfl h.1.2.1 h.1.2.2.1 rfl rfl rfl, rfl⟩) ?_
      refine dk 185 [(172, .pv (.bool (decide (y762 ≥ y739)))), (184, .pv (.bool (y768 != (w_i64 (y772 + 1)))))] (.pv (.bool (y768 != (w_i64 (y772 + 1))))) (fun m h => ⟨_, op_pick_f rfl h.1.1 hb765 h.1.2.1 rfl rfl, rfl⟩) ?_
      refine dr_nil mixed rfl (by kernel_rfl) ?_
      refine piz (sX 187 [pf 0 (.vs 7 (List.map eGClass a0)), pf 1 (.vs 7 (List.map eGCell a1)), pf 13 (.vs 1 (List.map eS y629)), pf 14 (.int .i64 x684), pf 185 (.bool (y768 != (w_i64 (y772 + 1))))] [] 0) [] ?_
      cases hF
      exact pcz []
     have hF := hK776
     refine go ?_
     rcases go_ite hF with ⟨hb777, hF⟩ | ⟨hb777, hF⟩
     ·refine aw_cond_t rfl hb777 ?_
      iterate 5 refine go ?_
      refine post_cut_ret ?_
      replace hF := go_stop hF
      iterate 2 refine go ?_
      refine post_lp_ret ?_
      cases hF
      have hF := elim_stop hK780
      refine go ?_
      cases hF
      exact prt
     refine aw_cond_f rfl hb777 ?_
     iterate 2 refine go ?_
     exact post_cut _ ⟨(), rfl, hF⟩ (impz [])
    refine aw_cond_f rfl hb755 ?_
    iterate 2 refine go ?_
    exact post_cut _ ⟨(), rfl, hF⟩ (impz [])
   rintro ⟨⟩ hF
   iterate 5 refine go ?_
   refine rnr ?_
   exact rnd_back (ih (w_i64 (x684 + 1)) hF) (impz [])
  refine aw_exit ?_
  iterate 2 refine post_then_exit ?_
  cases hF
  exact post_lp_break _ ⟨_, rfl, rfl⟩ (impz [])
 rintro _ ⟨⟨⟩, rfl, rfl⟩
 have hF := elim_next hK780
 clear hK780
 iterate 2 refine go ?_
 obtain ⟨y781, h782, hF⟩ := bs hF
 refine rgp (cl 0 [] [.p (.bool y781)] (law48_awake_ok h782)) ?_
 iterate 3 refine go ?_
 cases hF
 exact prt
end Go.Proofs.YthhdlpggmmfaiaaGreat
