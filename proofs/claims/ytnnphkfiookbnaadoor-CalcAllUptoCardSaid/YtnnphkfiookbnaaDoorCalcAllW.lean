/- A part of the proof that the law CalcAll gives true for every input. -/
import Derived.Test.YtnnphkfiookbnaaDoorCalcAllT
import Derived.Test.YtnnphkfiookbnaaDoorCalcAllX
import Derived.Test.YtnnphkfiookbnaaDoorCalcAllI
import Derived.Test.YtnnphkfiookbnaaDoorCalcAllW1
/- Each Go function computes its plain function. -/
namespace Go.Proofs.YtnnphkfiookbnaaDoor
open Go.RowKit Go.Abs
set_option maxRecDepth 100000
set_option maxHeartbeats 4000000
theorem ref38_Method_ok {a0 : List GClass} {a1 : GFrame} {r : GClass × GMethod × Bool} (hF : ref38_Method a0 a1 = some r) : Abs.Fn globs_Tryd Tryd.prog 82 [.vs 7 (List.map eGClass a0), .agg (eGFrame a1)] [.p (.agg (eGClass r.1)), .p (.agg (eGMethod r.2.1)), .p (.bool r.2.2)] := by
  unfold ref38_Method at hF
  refine fn_of_body (n := 53) Tryd.func82 rfl rfl rfl ?_
  intro w O
  refine aw_seq ?_
  refine aw_region ?_
  refine rgp (op_box 0 rfl rfl rfl rfl rfl rfl) ?_
  refine rgp (op_alloc 1 rfl (ps := (eGClass zGClass)) rfl Tryd_zer_108 (by exact ⟨rfl, trivial, rfl, trivial, trivial, trivial, rfl, trivial⟩) rfl rfl) ?_
  refine rgp (op_alloc 2 rfl (ps := (eGMethod zGMethod)) rfl Tryd_zer_116 (by exact ⟨rfl, rfl, rfl, rfl, rfl, rfl, rfl, rfl, rfl, rfl, rfl, rfl, rfl, trivial, trivial, trivial, rfl, trivial⟩) rfl rfl) ?_
  refine ras ?_
  refine reg_nil ?_
  refine post_imp (s' := ⟨53, [(0, some (.pv (.vs 7 (List.map eGClass a0)))), (3, some (.lp 0 0)), (4, some (.lp 1 0)), (5, some (.lp 2 0))], [(0, some (.box 25 (bxv (eGFrame a1)))), (1, some (.box 108 (bxv (eGClass zGClass)))), (2, some (.box 116 (bxv (eGMethod zGMethod))))], 3, [], [], 0, []⟩) (imps [0, 1, 2] ⟨by kernel_rfl, by kernel_rfl, by kernel_rfl, by kernel_rfl, trivial⟩ ⟨by kernel_rfl, by kernel_rfl, by kernel_rfl, trivial⟩) ?_
  refine post_next ?_
  refine aw_seq ?_
  refine aw_region ?_
  refine rmv ?_
  refine rgp (op_field_lp rfl rfl Tryd_fld_25_1 rfl rfl) ?_
  refine rgp (op_load_lp (v := .pv (.str a1.fClass)) rfl rfl rfl rfl Tryd_one_9 rfl rfl) ?_
  obtain ⟨y3, h4, hF⟩ := bind_some hF
  refine rgp (op_call 3 rfl (caps := []) (args := [.vs 7 (List.map eGClass a0), .str a1.fClass]) (rs := [.p (.int .i64 y3)]) rfl rfl rfl Tryd_cal_115 (ref13_Find_ok h4) rfl rfl rfl) ?_
  refine ras ?_
  refine reg_nil ?_
  refine post_imp (s' := ⟨53, [(0, some (.pv (.vs 7 (List.map eGClass a0)))), (3, some (.lp 0 0)), (4, some (.lp 1 0)), (5, some (.lp 2 0)), (7, some (.pv (.int .i64 y3)))], [(0, some (.box 25 (bxv (eGFrame a1)))), (1, some (.box 108 (bxv (eGClass zGClass)))), (2, some (.box 116 (bxv (eGMethod zGMethod))))], 3, [], [], 0, []⟩) (imps [0, 1, 2] ⟨by kernel_rfl, by kernel_rfl, by kernel_rfl, by kernel_rfl, by kernel_rfl, trivial⟩ ⟨by kernel_rfl, by kernel_rfl, by kernel_rfl, trivial⟩) ?_
  refine post_next ?_
  iterate 2 (refine aw_seq ?_)
  refine aw_region ?_
  refine ras ?_
  refine reg_nil ?_
  refine post_imp (s' := ⟨53, [(0, some (.pv (.vs 7 (List.map eGClass a0)))), (3, some (.lp 0 0)), (4, some (.lp 1 0)), (5, some (.lp 2 0)), (7, some (.pv (.int .i64 y3))), (8, some (.pv (.int .i64 0)))], [(0, some (.box 25 (bxv (eGFrame a1)))), (1, some (.box 108 (bxv (eGClass zGClass)))), (2, some (.box 116 (bxv (eGMethod zGMethod))))], 3, [], [], 0, []⟩) (imps [0, 1, 2] ⟨by kernel_rfl, by kernel_rfl, by kernel_rfl, by kernel_rfl, by kernel_rfl, by kernel_rfl, trivial⟩ ⟨by kernel_rfl, by kernel_rfl, by kernel_rfl, trivial⟩) ?_
  refine post_next ?_
  obtain ⟨lr74, hF, hK75⟩ := bind_some hF
  refine aw_for (mLGClass a0 + 1) (fun s1 => ∃ q, lr74 = .next q ∧ s1 = ⟨53, [(4, some (.lp 0 0)), (5, some (.lp 1 0))], [(0, some (.box 108 (bxv (eGClass zGClass)))), (1, some (.box 116 (bxv (eGMethod zGMethod))))], 2, [], [], 0, []⟩) ?_ ?_
  · refine rnd_loop (α := Int) (fun q => ⟨53, [(0, some (.pv (.vs 7 (List.map eGClass a0)))), (3, some (.lp 0 0)), (4, some (.lp 1 0)), (5, some (.lp 2 0)), (7, some (.pv (.int .i64 y3))), (8, some (.pv (.int .i64 q)))], [(0, some (.box 25 (bxv (eGFrame a1)))), (1, some (.box 108 (bxv (eGClass zGClass)))), (2, some (.box 116 (bxv (eGMethod zGMethod))))], 3, [], [], 0, []⟩) (fun k q => ref38_Method_L1 a0 a1 y3 k q = some lr74) 0 (imps [0, 1, 2] ⟨by kernel_rfl, by kernel_rfl, by kernel_rfl, by kernel_rfl, by kernel_rfl, by kernel_rfl, trivial⟩ ⟨by kernel_rfl, by kernel_rfl, by kernel_rfl, trivial⟩) hF (fun q h => by cases h) ?_
    clear hF
    rintro k x27 hF ih
    refine rnd_succ ?_
    iterate 2 (refine aw_seq ?_)
    obtain ⟨x54, hF, hK56⟩ := bind_some hF
    refine aw_cut (fun s1 => s1 = ⟨53, [(0, some (.pv (.vs 7 (List.map eGClass a0)))), (3, some (.lp 0 0)), (4, some (.lp 1 0)), (5, some (.lp 2 0)), (7, some (.pv (.int .i64 y3))), (8, some (.pv (.int .i64 x27))), (24, some (.pv (.bool x54)))], [(0, some (.box 25 (bxv (eGFrame a1)))), (1, some (.box 108 (bxv (eGClass zGClass)))), (2, some (.box 116 (bxv (eGMethod zGMethod))))], 3, [], [], 0, []⟩) ?_ ?_
    · refine aw_region ?_
      refine rmv ?_
      refine rgp (op_int (k := .i64) (m := y3) (n := 0) rfl rfl rfl rfl rfl rfl) ?_
      refine rmv ?_
      rcases ite_some hF with ⟨hb51, hF⟩ | ⟨hb51, hF⟩
      · refine rgn hb51 (op_move rfl rfl rfl rfl) ?_
        iterate 2 (refine rgn hb51 (op_move rfl rfl rfl rfl) ?_)
        obtain ⟨y52, h53, hF⟩ := bind_some hF
        refine rgn hb51 (op_index_vs (k := .i64) rfl rfl rfl (idx_map eGClass h53) Tryd_slc_22 rfl rfl) ?_
        refine rgn hb51 (op_field_vp rfl rfl Tryd_fld_108_5 rfl rfl) ?_
        refine rgn hb51 (op_load_vp (p := .vs 17 (List.map eGMethod y52.fMethods)) rfl rfl rfl Tryd_one_106 rfl rfl) ?_
        refine rgn hb51 (op_len_vs (n := y52.fMethods.length) rfl rfl (List.length_map ..) Tryd_slc_106 rfl rfl) ?_
        refine rgn hb51 (op_int (k := .i64) (m := x27) (n := (y52.fMethods.length : Int)) rfl rfl rfl rfl rfl rfl) ?_
        refine rpt hb51 ?_
        refine reg_nil ?_
        cases hF
        exact post_cut _ rfl (imps [0, 1, 2] ⟨by kernel_rfl, by kernel_rfl, by kernel_rfl, by kernel_rfl, by kernel_rfl, by kernel_rfl, by kernel_rfl, trivial⟩ ⟨by kernel_rfl, by kernel_rfl, by kernel_rfl, trivial⟩)
      iterate 8 (refine rgo_f hb51 ?_)
      refine rpf hb51 ?_
      refine reg_nil ?_
      cases hF
      exact post_cut _ rfl (imps [0, 1, 2] ⟨by kernel_rfl, by kernel_rfl, by kernel_rfl, by kernel_rfl, by kernel_rfl, by kernel_rfl, by kernel_rfl, trivial⟩ ⟨by kernel_rfl, by kernel_rfl, by kernel_rfl, trivial⟩)
    rintro _ rfl
    have hF := hK56
    clear hK56
    refine post_next ?_
    rcases ite_some hF with ⟨hb57, hF⟩ | ⟨hb57, hF⟩
    · refine aw_cond_t rfl hb57 ?_
      refine aw_skip ?_
      refine post_next ?_
      refine aw_seq ?_
      refine aw_block ?_
      refine aw_seq ?_
      refine dr_start ⟨_, _, _⟩ rfl ?_
      iterate 2 (refine drm ?_)
      obtain ⟨y62, h63, hF⟩ := bind_some hF
      refine dr_cons { need := [(27, .pv (.vs 7 (List.map eGClass a0))), (28, .pv (.int .i64 y3))], dst := some 29, val := some (.pv (.vp (eGClass y62))) } (fun m h => step_on (guard_no rfl) (op_index_vs (k := .i64) rfl h.1.1 h.1.2.1 (idx_map eGClass h63) Tryd_slc_22 rfl rfl) rfl) ⟨⟨rfl, rfl, trivial⟩, trivial, trivial⟩ ?_
      refine dr_cons { need := [(29, .pv (.vp (eGClass y62)))], dst := some 30, val := some (.pv (.vp (List.drop 5 (eGClass y62)))) } (fun m h => step_on (guard_no rfl) (op_field_vp rfl h.1.1 Tryd_fld_108_5 rfl rfl) rfl) ⟨⟨rfl, trivial⟩, trivial, trivial⟩ ?_
      refine dr_cons { need := [(30, .pv (.vp (List.drop 5 (eGClass y62))))], dst := some 31, val := some (.pv (.vs 17 (List.map eGMethod y62.fMethods))) } (fun m h => step_on (guard_no rfl) (op_load_vp (p := .vs 17 (List.map eGMethod y62.fMethods)) rfl h.1.1 rfl Tryd_one_106 rfl rfl) rfl) ⟨⟨rfl, trivial⟩, trivial, trivial⟩ ?_
      refine drm ?_
      obtain ⟨y64, h65, hF⟩ := bind_some hF
      refine dr_cons { need := [(31, .pv (.vs 17 (List.map eGMethod y62.fMethods))), (32, .pv (.int .i64 x27))], dst := some 33, val := some (.pv (.vp (eGMethod y64))) } (fun m h => step_on (guard_no rfl) (op_index_vs (k := .i64) rfl h.1.1 h.1.2.1 (idx_map eGMethod h65) Tryd_slc_106 rfl rfl) rfl) ⟨⟨rfl, rfl, trivial⟩, trivial, trivial⟩ ?_
      refine dr_cons { need := [(33, .pv (.vp (eGMethod y64)))], dst := some 34, val := some (.pv (.vp (List.drop 0 (eGMethod y64)))) } (fun m h => step_on (guard_no rfl) (op_field_vp rfl h.1.1 Tryd_fld_116_0 rfl rfl) rfl) ⟨⟨rfl, trivial⟩, trivial, trivial⟩ ?_
      refine dr_cons { need := [(34, .pv (.vp (List.drop 0 (eGMethod y64))))], dst := some 35, val := some (.pv (.str y64.fName)) } (fun m h => step_on (guard_no rfl) (op_load_vp (p := .str y64.fName) rfl h.1.1 rfl Tryd_one_9 rfl rfl) rfl) ⟨⟨rfl, trivial⟩, trivial, trivial⟩ ?_
      refine dr_cons { need := [(3, .lp 0 0)], dst := some 36, val := some (.lp 0 2) } (fun m h => step_on (guard_no rfl) (op_field_lp rfl h.1.1 Tryd_fld_25_2 rfl rfl) rfl) ⟨⟨rfl, trivial⟩, trivial, trivial⟩ ?_
      refine dr_cons { need := [(36, .lp 0 2)], hneed := [(0, .box 25 (bxv (eGFrame a1)))], dst := some 37, val := some (.pv (.str a1.fMethod)) } (fun m h => step_on (guard_no rfl) (op_load_lp (v := .pv (.str a1.fMethod)) rfl h.1.1 h.2.1.1 rfl Tryd_one_9 rfl rfl) rfl) ⟨⟨rfl, trivial⟩, ⟨rfl, trivial⟩, trivial⟩ ?_
      refine dr_cons { need := [(35, .pv (.str y64.fName)), (37, .pv (.str a1.fMethod))], dst := some 38, val := some (.pv (.bool (y64.fName == a1.fMethod))) } (fun m h => step_on (guard_no rfl) (op_str rfl h.1.1 h.1.2.1 rfl rfl rfl) rfl) ⟨⟨rfl, rfl, trivial⟩, trivial, trivial⟩ ?_
      refine dr_nil Tryd_mixed rfl (by kernel_rfl) ?_
      refine post_imp (s' := ⟨53, [(0, some (.pv (.vs 7 (List.map eGClass a0)))), (3, some (.lp 0 0)), (4, some (.lp 1 0)), (5, some (.lp 2 0)), (7, some (.pv (.int .i64 y3))), (8, some (.pv (.int .i64 x27))), (38, some (.pv (.bool (y64.fName == a1.fMethod))))], [(0, some (.box 25 (bxv (eGFrame a1)))), (1, some (.box 108 (bxv (eGClass zGClass)))), (2, some (.box 116 (bxv (eGMethod zGMethod))))], 3, [], [], 0, []⟩) (imps [0, 1, 2] ⟨by kernel_rfl, by kernel_rfl, by kernel_rfl, by kernel_rfl, by kernel_rfl, by kernel_rfl, by kernel_rfl, trivial⟩ ⟨by kernel_rfl, by kernel_rfl, by kernel_rfl, trivial⟩) ?_
      refine post_next ?_
      rcases ite_some hF with ⟨hb66, hF⟩ | ⟨hb66, hF⟩
      · refine aw_cond_t rfl hb66 ?_
        refine aw_seq ?_
        refine dr_start ⟨_, _, _⟩ rfl ?_
        iterate 2 (refine drm ?_)
        obtain ⟨y67, h68, hF⟩ := bind_some hF
        refine dr_cons { need := [(39, .pv (.vs 7 (List.map eGClass a0))), (40, .pv (.int .i64 y3))], dst := some 41, val := some (.pv (.vp (eGClass y67))) } (fun m h => step_on (guard_no rfl) (op_index_vs (k := .i64) rfl h.1.1 h.1.2.1 (idx_map eGClass h68) Tryd_slc_22 rfl rfl) rfl) ⟨⟨rfl, rfl, trivial⟩, trivial, trivial⟩ ?_
        refine dr_cons { need := [(41, .pv (.vp (eGClass y67)))], dst := some 42, val := some (.pv (.agg (eGClass y67))) } (fun m h => step_on (guard_no rfl) (op_load_vp_agg (ps := eGClass y67) rfl h.1.1 rfl rfl Tryd_agg_108 rfl rfl) rfl) ⟨⟨rfl, trivial⟩, trivial, trivial⟩ ?_
        iterate 2 (refine drm ?_)
        obtain ⟨y69, h70, hF⟩ := bind_some hF
        refine dr_cons { need := [(43, .pv (.vs 7 (List.map eGClass a0))), (44, .pv (.int .i64 y3))], dst := some 45, val := some (.pv (.vp (eGClass y69))) } (fun m h => step_on (guard_no rfl) (op_index_vs (k := .i64) rfl h.1.1 h.1.2.1 (idx_map eGClass h70) Tryd_slc_22 rfl rfl) rfl) ⟨⟨rfl, rfl, trivial⟩, trivial, trivial⟩ ?_
        refine dr_cons { need := [(45, .pv (.vp (eGClass y69)))], dst := some 46, val := some (.pv (.vp (List.drop 5 (eGClass y69)))) } (fun m h => step_on (guard_no rfl) (op_field_vp rfl h.1.1 Tryd_fld_108_5 rfl rfl) rfl) ⟨⟨rfl, trivial⟩, trivial, trivial⟩ ?_
        refine dr_cons { need := [(46, .pv (.vp (List.drop 5 (eGClass y69))))], dst := some 47, val := some (.pv (.vs 17 (List.map eGMethod y69.fMethods))) } (fun m h => step_on (guard_no rfl) (op_load_vp (p := .vs 17 (List.map eGMethod y69.fMethods)) rfl h.1.1 rfl Tryd_one_106 rfl rfl) rfl) ⟨⟨rfl, trivial⟩, trivial, trivial⟩ ?_
        refine drm ?_
        obtain ⟨y71, h72, hF⟩ := bind_some hF
        refine dr_cons { need := [(47, .pv (.vs 17 (List.map eGMethod y69.fMethods))), (48, .pv (.int .i64 x27))], dst := some 49, val := some (.pv (.vp (eGMethod y71))) } (fun m h => step_on (guard_no rfl) (op_index_vs (k := .i64) rfl h.1.1 h.1.2.1 (idx_map eGMethod h72) Tryd_slc_106 rfl rfl) rfl) ⟨⟨rfl, rfl, trivial⟩, trivial, trivial⟩ ?_
        refine dr_cons { need := [(49, .pv (.vp (eGMethod y71)))], dst := some 50, val := some (.pv (.agg (eGMethod y71))) } (fun m h => step_on (guard_no rfl) (op_load_vp_agg (ps := eGMethod y71) rfl h.1.1 rfl rfl Tryd_agg_116 rfl rfl) rfl) ⟨⟨rfl, trivial⟩, trivial, trivial⟩ ?_
        refine dr_cons { need := [(4, .lp 1 0), (42, .pv (.agg (eGClass y67)))], hneed := [(1, .box 108 (bxv (eGClass zGClass)))], upd := [(1, some (.box 108 (bxv (eGClass y67))))] } (fun m h => step_on (guard_no rfl) (op_store_lp (n := 7) rfl h.1.1 h.1.2.1 rfl h.2.1.1 (or_agg Tryd_agg_108) (by rw [Tryd_non_108]; rfl) rfl rfl rfl) rfl) ⟨⟨rfl, rfl, trivial⟩, ⟨rfl, trivial⟩, trivial⟩ ?_
        refine dr_cons { need := [(5, .lp 2 0), (50, .pv (.agg (eGMethod y71)))], hneed := [(2, .box 116 (bxv (eGMethod zGMethod)))], upd := [(2, some (.box 116 (bxv (eGMethod y71))))] } (fun m h => step_on (guard_no rfl) (op_store_lp (n := 17) rfl h.1.1 h.1.2.1 rfl h.2.1.1 (or_agg Tryd_agg_116) (by rw [Tryd_non_116]; rfl) rfl rfl rfl) rfl) ⟨⟨rfl, rfl, trivial⟩, ⟨rfl, trivial⟩, trivial⟩ ?_
        refine dr_cons { dst := some 6, val := some (.pv (.bool true)) } (fun m h => step_on (guard_no rfl) (op_assign rfl rfl rfl rfl) rfl) ⟨trivial, trivial, trivial⟩ ?_
        refine dr_nil Tryd_mixed rfl (by kernel_rfl) ?_
        refine post_imp (s' := ⟨53, [(4, some (.lp 0 0)), (5, some (.lp 1 0)), (6, some (.pv (.bool true)))], [(0, some (.box 108 (bxv (eGClass y67)))), (1, some (.box 116 (bxv (eGMethod y71))))], 2, [], [], 0, []⟩) (imps [1, 2] ⟨by kernel_rfl, by kernel_rfl, by kernel_rfl, trivial⟩ ⟨by kernel_rfl, by kernel_rfl, trivial⟩) ?_
        refine post_next ?_
        refine aw_ret ?_
        refine post_block_ret ?_
        iterate 2 (refine post_then_ret ?_)
        refine post_lp_ret ?_
        obtain rfl := Option.some.inj hF
        have hF := elim_stop hK75
        refine post_then_ret ?_
        obtain rfl := Option.some.inj hF
        exact post_ret rfl rfl (.cons _ _ _ _ _ (.agg _ _ _ _ _ 7 _ _ rfl rfl Tryd_agg_108 rfl rfl rfl) (.p _) (.cons _ _ _ _ _ (.agg _ _ _ _ _ 17 _ _ rfl rfl Tryd_agg_116 rfl rfl rfl) (.p _) (.cons _ _ _ _ _ (.tmp _ _ rfl) (.p _) .nil))) (.inl rfl)
      refine aw_cond_f rfl hb66 ?_
      refine aw_skip ?_
      refine post_block_normal ?_
      refine post_next ?_
      refine aw_region ?_
      refine rmv ?_
      refine rgp (op_int (k := .i64) (m := x27) (n := 1) rfl rfl rfl rfl rfl rfl) ?_
      refine ras ?_
      refine reg_nil ?_
      refine post_round ?_
      exact rnd_back (ih (w_i64 (x27 + 1)) hF) (imps [0, 1, 2] ⟨by kernel_rfl, by kernel_rfl, by kernel_rfl, by kernel_rfl, by kernel_rfl, by kernel_rfl, trivial⟩ ⟨by kernel_rfl, by kernel_rfl, by kernel_rfl, trivial⟩)
    refine aw_cond_f rfl hb57 ?_
    refine aw_exit ?_
    iterate 2 (refine post_then_exit ?_)
    obtain rfl := Option.some.inj hF
    exact post_lp_break _ ⟨_, rfl, rfl⟩ (imps [1, 2] ⟨by kernel_rfl, by kernel_rfl, trivial⟩ ⟨by kernel_rfl, by kernel_rfl, trivial⟩)
  rintro _ ⟨⟨⟩, rfl, rfl⟩
  have hF := elim_next hK75
  clear hK75
  refine post_next ?_
  refine aw_seq ?_
  refine aw_region ?_
  refine rgp (op_build (zs := (eGClass zGClass)) (r := eGClass ({ fName := [], fParams := [], fSuper := [], fAbove := [], fFields := [], fMethods := [], fAt := 0 } : GClass)) rfl Tryd_zer_108 (by exact ⟨rfl, trivial, rfl, trivial, trivial, trivial, rfl, trivial⟩) Tryd_plc_108 rfl rfl rfl rfl) ?_
  refine rgp (op_build (zs := (eGMethod zGMethod)) (r := eGMethod ({ fName := [], fPure := false, fRet := zGType, fParams := [], fLocals := [], fBody := [], fAt := 0 } : GMethod)) rfl Tryd_zer_116 (by exact ⟨rfl, rfl, rfl, rfl, rfl, rfl, rfl, rfl, rfl, rfl, rfl, rfl, rfl, trivial, trivial, trivial, rfl, trivial⟩) Tryd_plc_116 rfl rfl rfl rfl) ?_
  refine rgp (op_store_lp (n := 7) rfl rfl rfl rfl rfl (or_agg Tryd_agg_108) (by rw [Tryd_non_108]; rfl) rfl rfl rfl) ?_
  refine rgp (op_store_lp (n := 17) rfl rfl rfl rfl rfl (or_agg Tryd_agg_116) (by rw [Tryd_non_116]; rfl) rfl rfl rfl) ?_
  refine ras ?_
  refine reg_nil ?_
  refine post_imp (s' := ⟨53, [(4, some (.lp 0 0)), (5, some (.lp 1 0)), (6, some (.pv (.bool false)))], [(0, some (.box 108 (bxv (eGClass ({ fName := [], fParams := [], fSuper := [], fAbove := [], fFields := [], fMethods := [], fAt := 0 } : GClass))))), (1, some (.box 116 (bxv (eGMethod ({ fName := [], fPure := false, fRet := zGType, fParams := [], fLocals := [], fBody := [], fAt := 0 } : GMethod)))))], 2, [], [], 0, []⟩) (imps [0, 1] ⟨by kernel_rfl, by kernel_rfl, by kernel_rfl, trivial⟩ ⟨by kernel_rfl, by kernel_rfl, trivial⟩) ?_
  refine post_next ?_
  refine aw_ret ?_
  obtain rfl := Option.some.inj hF
  exact post_ret rfl rfl (.cons _ _ _ _ _ (.agg _ _ _ _ _ 7 _ _ rfl rfl Tryd_agg_108 rfl rfl rfl) (.p _) (.cons _ _ _ _ _ (.agg _ _ _ _ _ 17 _ _ rfl rfl Tryd_agg_116 rfl rfl rfl) (.p _) (.cons _ _ _ _ _ (.tmp _ _ rfl) (.p _) .nil))) (.inl rfl)
theorem ref12_Vars_ok {a0 : GMethod} {r : (List GVar)} (hF : ref12_Vars a0 = some r) : Abs.Fn globs_Tryd Tryd.prog 133 [.agg (eGMethod a0)] [.own 143 13 (List.map eGVar r)] := by
  unfold ref12_Vars at hF
  refine fn_of_body (n := 10) Tryd.func133 rfl rfl rfl ?_
  intro w O
  refine aw_seq ?_
  refine aw_region ?_
  refine rgp (op_box 0 rfl rfl rfl rfl rfl rfl) ?_
  refine ras ?_
  refine reg_nil ?_
  refine post_imp (s' := ⟨10, [(1, some (.lp 0 0))], [(0, some (.box 116 (bxv (eGMethod a0))))], 1, [], [], 0, []⟩) (imps [0] ⟨by kernel_rfl, trivial⟩ ⟨by kernel_rfl, trivial⟩) ?_
  refine post_next ?_
  refine aw_seq ?_
  refine aw_imp (imp_names 3) ?_
  refine dr_start ⟨_, _, _⟩ rfl ?_
  refine dr_cons { names := [1], dst := some 3, val := some (.ls 1), upd := [(1, some (.row 143 13 (List.map eGVar ([] : List GVar))))] } (fun m h => step_on (guard_no rfl) (op_litOwn 1 (fresh_free h.2.2.1) (rows := List.map eGVar ([] : List GVar)) (zs := (eGVar zGVar)) rfl rfl Tryd_slc_105 Tryd_zer_143 (by exact ⟨rfl, rfl, rfl, rfl, rfl, rfl, rfl, rfl, rfl, rfl, rfl, rfl, rfl, trivial⟩) rfl rfl rfl evs_nil rfl rfl rfl rfl) rfl) ⟨trivial, trivial, ⟨rfl, trivial⟩⟩ ?_
  refine dr_cons { need := [(1, .lp 0 0)], dst := some 4, val := some (.lp 0 13) } (fun m h => step_on (guard_no rfl) (op_field_lp rfl h.1.1 Tryd_fld_116_3 rfl rfl) rfl) ⟨⟨rfl, trivial⟩, trivial, trivial⟩ ?_
  refine dr_cons { need := [(4, .lp 0 13)], hneed := [(0, .box 116 (bxv (eGMethod a0)))], dst := some 5, val := some (.pv (.vs 13 (List.map eGVar a0.fParams))) } (fun m h => step_on (guard_no rfl) (op_load_lp (v := .pv (.vs 13 (List.map eGVar a0.fParams))) rfl h.1.1 h.2.1.1 rfl Tryd_one_105 rfl rfl) rfl) ⟨⟨rfl, trivial⟩, ⟨rfl, trivial⟩, trivial⟩ ?_
  obtain ⟨u1, h2, hF⟩ := bind_some hF
  refine dr_cons { need := [(3, .ls 1), (5, .pv (.vs 13 (List.map eGVar a0.fParams)))], hneed := [(1, .row 143 13 (List.map eGVar ([] : List GVar)))], names := [2], dst := some 6, val := some (.ls 2), upd := [(2, some (.row 143 13 (List.map eGVar (([] : List GVar) ++ a0.fParams)))), (1, none)] } (fun m h => step_on (guard_no rfl) (op_append 2 (fresh_free h.2.2.1) rfl h.1.1 h.2.1.1 h.1.2.1 Tryd_slc_105 Tryd_elm_143 Tryd_zer_143 rfl rfl rfl (room_map (f := eGVar) (g := eGVar) h2) (List.map_append (f := eGVar) (l₁ := ([] : List GVar)) (l₂ := a0.fParams)).symm rfl rfl) rfl) ⟨⟨rfl, rfl, trivial⟩, ⟨rfl, trivial⟩, ⟨rfl, trivial⟩⟩ ?_
  refine dr_cons { need := [(1, .lp 0 0)], dst := some 7, val := some (.lp 0 14) } (fun m h => step_on (guard_no rfl) (op_field_lp rfl h.1.1 Tryd_fld_116_4 rfl rfl) rfl) ⟨⟨rfl, trivial⟩, trivial, trivial⟩ ?_
  refine dr_cons { need := [(7, .lp 0 14)], hneed := [(0, .box 116 (bxv (eGMethod a0)))], dst := some 8, val := some (.pv (.vs 13 (List.map eGVar a0.fLocals))) } (fun m h => step_on (guard_no rfl) (op_load_lp (v := .pv (.vs 13 (List.map eGVar a0.fLocals))) rfl h.1.1 h.2.1.1 rfl Tryd_one_105 rfl rfl) rfl) ⟨⟨rfl, trivial⟩, ⟨rfl, trivial⟩, trivial⟩ ?_
  obtain ⟨u3, h4, hF⟩ := bind_some hF
  refine dr_cons { need := [(6, .ls 2), (8, .pv (.vs 13 (List.map eGVar a0.fLocals)))], hneed := [(2, .row 143 13 (List.map eGVar (([] : List GVar) ++ a0.fParams)))], names := [3], dst := some 9, val := some (.ls 3), upd := [(3, some (.row 143 13 (List.map eGVar ((([] : List GVar) ++ a0.fParams) ++ a0.fLocals)))), (2, none)] } (fun m h => step_on (guard_no rfl) (op_append 3 (fresh_free h.2.2.1) rfl h.1.1 h.2.1.1 h.1.2.1 Tryd_slc_105 Tryd_elm_143 Tryd_zer_143 rfl rfl rfl (room_map (f := eGVar) (g := eGVar) h4) (List.map_append (f := eGVar) (l₁ := (([] : List GVar) ++ a0.fParams)) (l₂ := a0.fLocals)).symm rfl rfl) rfl) ⟨⟨rfl, rfl, trivial⟩, ⟨rfl, trivial⟩, ⟨rfl, trivial⟩⟩ ?_
  refine dr_cons { need := [(9, .ls 3)], dst := some 2, val := some (.ls 3) } (fun m h => step_on (guard_no rfl) (op_assign rfl h.1.1 rfl rfl) rfl) ⟨⟨rfl, trivial⟩, trivial, trivial⟩ ?_
  refine dr_nil Tryd_mixed rfl (by kernel_rfl) ?_
  refine post_imp (s' := ⟨10, [(2, some (.ls 0))], [(0, some (.row 143 13 (List.map eGVar ((([] : List GVar) ++ a0.fParams) ++ a0.fLocals))))], 1, [], [], 0, []⟩) (imps [3] ⟨by kernel_rfl, trivial⟩ ⟨by kernel_rfl, trivial⟩) ?_
  refine post_next ?_
  refine aw_ret ?_
  obtain rfl := Option.some.inj hF
  exact post_ret rfl rfl (.cons _ _ _ _ _ (.tmp _ _ rfl) (.own _ _ _ _ rfl nolent3) .nil) (.inl rfl)
theorem ref18_Place_ok {a0 : GMethod} {a1 : List UInt8} {r : Int} (hF : ref18_Place a0 a1 = some r) : Abs.Fn globs_Tryd Tryd.prog 116 [.agg (eGMethod a0), .str a1] [.p (.int .i64 r)] := by
  unfold ref18_Place at hF
  refine fn_of_body (n := 23) Tryd.func116 rfl rfl rfl ?_
  intro w O
  refine aw_seq ?_
  refine aw_region ?_
  refine rgp (op_box 0 rfl rfl rfl rfl rfl rfl) ?_
  refine ras ?_
  refine reg_nil ?_
  refine post_imp (s' := ⟨23, [(1, some (.pv (.str a1))), (2, some (.lp 0 0))], [(0, some (.box 116 (bxv (eGMethod a0))))], 1, [], [], 0, []⟩) (imps [0] ⟨by kernel_rfl, by kernel_rfl, trivial⟩ ⟨by kernel_rfl, trivial⟩) ?_
  refine post_next ?_
  refine aw_seq ?_
  refine aw_region ?_
  refine rgp (op_load_lp_agg (ps := eGMethod a0) rfl rfl rfl rfl rfl rfl Tryd_agg_116 rfl rfl) ?_
  obtain ⟨y3, h4, hF⟩ := bind_some hF
  refine rgp (op_call 1 rfl (caps := []) (args := [.agg (eGMethod a0)]) (rs := [.p (.vs 13 (List.map eGVar y3))]) rfl rfl rfl Tryd_cal_133 (Fn.frozen (ref12_Vars_ok h4)) rfl rfl rfl) ?_
  refine ras ?_
  refine reg_nil ?_
  refine post_imp (s' := ⟨23, [(1, some (.pv (.str a1))), (5, some (.pv (.vs 13 (List.map eGVar y3))))], [], 0, [], [], 0, []⟩) (imps [] ⟨by kernel_rfl, by kernel_rfl, trivial⟩ trivial) ?_
  refine post_next ?_
  iterate 2 (refine aw_seq ?_)
  refine aw_region ?_
  refine ras ?_
  refine reg_nil ?_
  refine post_imp (s' := ⟨23, [(1, some (.pv (.str a1))), (5, some (.pv (.vs 13 (List.map eGVar y3)))), (6, some (.pv (.int .i64 0)))], [], 0, [], [], 0, []⟩) (imps [] ⟨by kernel_rfl, by kernel_rfl, by kernel_rfl, trivial⟩ trivial) ?_
  refine post_next ?_
  obtain ⟨lr26, hF, hK27⟩ := bind_some hF
  refine aw_for ((((y3.length : Int) : Int) - (0)).toNat + 1) (fun s1 => ∃ q, lr26 = .next q ∧ s1 = ⟨23, [], [], 0, [], [], 0, []⟩) ?_ ?_
  · refine rnd_loop (α := Int) (fun q => ⟨23, [(1, some (.pv (.str a1))), (5, some (.pv (.vs 13 (List.map eGVar y3)))), (6, some (.pv (.int .i64 q)))], [], 0, [], [], 0, []⟩) (fun k q => ref18_Place_L1 a1 y3 k q = some lr26) 0 (imps [] ⟨by kernel_rfl, by kernel_rfl, by kernel_rfl, trivial⟩ trivial) hF (fun q h => by cases h) ?_
    clear hF
    rintro k x11 hF ih
    refine rnd_succ ?_
    iterate 2 (refine aw_seq ?_)
    refine aw_region ?_
    iterate 2 (refine rmv ?_)
    refine rgp (op_len_vs (n := y3.length) rfl rfl (List.length_map ..) Tryd_slc_105 rfl rfl) ?_
    refine rgp (op_int (k := .i64) (m := x11) (n := (y3.length : Int)) rfl rfl rfl rfl rfl rfl) ?_
    refine reg_nil ?_
    refine post_imp (s' := ⟨23, [(1, some (.pv (.str a1))), (5, some (.pv (.vs 13 (List.map eGVar y3)))), (6, some (.pv (.int .i64 x11))), (12, some (.pv (.bool (decide (x11 < (y3.length : Int))))))], [], 0, [], [], 0, []⟩) (imps [] ⟨by kernel_rfl, by kernel_rfl, by kernel_rfl, by kernel_rfl, trivial⟩ trivial) ?_
    refine post_next ?_
    rcases ite_some hF with ⟨hb19, hF⟩ | ⟨hb19, hF⟩
    · refine aw_cond_t rfl hb19 ?_
      refine aw_skip ?_
      refine post_next ?_
      refine aw_seq ?_
      refine aw_block ?_
      refine aw_seq ?_
      refine aw_region ?_
      iterate 2 (refine rmv ?_)
      obtain ⟨y22, h23, hF⟩ := bind_some hF
      refine rgp (op_index_vs (k := .i64) rfl rfl rfl (idx_map eGVar h23) Tryd_slc_105 rfl rfl) ?_
      refine rgp (op_field_vp rfl rfl Tryd_fld_143_0 rfl rfl) ?_
      refine rgp (op_load_vp (p := .str y22.fName) rfl rfl rfl Tryd_one_9 rfl rfl) ?_
      refine rmv ?_
      refine rgp (op_str rfl rfl rfl rfl rfl rfl) ?_
      refine reg_nil ?_
      refine post_imp (s' := ⟨23, [(1, some (.pv (.str a1))), (5, some (.pv (.vs 13 (List.map eGVar y3)))), (6, some (.pv (.int .i64 x11))), (21, some (.pv (.bool (y22.fName == a1))))], [], 0, [], [], 0, []⟩) (imps [] ⟨by kernel_rfl, by kernel_rfl, by kernel_rfl, by kernel_rfl, trivial⟩ trivial) ?_
      refine post_next ?_
      rcases ite_some hF with ⟨hb24, hF⟩ | ⟨hb24, hF⟩
      · refine aw_cond_t rfl hb24 ?_
        refine aw_seq ?_
        refine aw_region ?_
        refine rmv ?_
        refine ras ?_
        refine reg_nil ?_
        refine post_imp (s' := ⟨23, [(4, some (.pv (.int .i64 x11)))], [], 0, [], [], 0, []⟩) (imps [] ⟨by kernel_rfl, trivial⟩ trivial) ?_
        refine post_next ?_
        refine aw_ret ?_
        refine post_block_ret ?_
        iterate 2 (refine post_then_ret ?_)
        refine post_lp_ret ?_
        obtain rfl := Option.some.inj hF
        have hF := elim_stop hK27
        refine post_then_ret ?_
        obtain rfl := Option.some.inj hF
        exact prt
      refine aw_cond_f rfl hb24 ?_
      refine aw_skip ?_
      refine post_block_normal ?_
      refine post_next ?_
      refine aw_region ?_
      refine rmv ?_
      refine rgp (op_int (k := .i64) (m := x11) (n := 1) rfl rfl rfl rfl rfl rfl) ?_
      refine ras ?_
      refine reg_nil ?_
      refine post_round ?_
      exact rnd_back (ih (w_i64 (x11 + 1)) hF) (imps [] ⟨by kernel_rfl, by kernel_rfl, by kernel_rfl, trivial⟩ trivial)
    refine aw_cond_f rfl hb19 ?_
    refine aw_exit ?_
    iterate 2 (refine post_then_exit ?_)
    obtain rfl := Option.some.inj hF
    exact post_lp_break _ ⟨_, rfl, rfl⟩ (imps [] trivial trivial)
  rintro _ ⟨⟨⟩, rfl, rfl⟩
  have hF := elim_next hK27
  clear hK27
  refine post_next ?_
  refine aw_seq ?_
  refine aw_region ?_
  refine ras ?_
  refine reg_nil ?_
  refine post_imp (s' := ⟨23, [(4, some (.pv (.int .i64 (-1))))], [], 0, [], [], 0, []⟩) (imps [] ⟨by kernel_rfl, trivial⟩ trivial) ?_
  refine post_next ?_
  refine aw_ret ?_
  obtain rfl := Option.some.inj hF
  exact prt
theorem ref38_place_ok {a0 : List GClass} {a1 : GFrame} {a2 : List UInt8} {r : Int} (hF : ref38_place a0 a1 a2 = some r) : Abs.Fn globs_Tryd Tryd.prog 83 [.vs 7 (List.map eGClass a0), .agg (eGFrame a1), .str a2] [.p (.int .i64 r)] := by
  unfold ref38_place at hF
  refine fn_of_body (n := 31) Tryd.func83 rfl rfl rfl ?_
  intro w O
  refine aw_seq ?_
  refine aw_region ?_
  refine rgp (op_box 0 rfl rfl rfl rfl rfl rfl) ?_
  refine ras ?_
  refine reg_nil ?_
  refine post_imp (s' := ⟨31, [(0, some (.pv (.vs 7 (List.map eGClass a0)))), (2, some (.pv (.str a2))), (4, some (.lp 0 0))], [(0, some (.box 25 (bxv (eGFrame a1))))], 1, [], [], 0, []⟩) (imps [0] ⟨by kernel_rfl, by kernel_rfl, by kernel_rfl, trivial⟩ ⟨by kernel_rfl, trivial⟩) ?_
  refine post_next ?_
  refine aw_seq ?_
  refine aw_region ?_
  refine rmv ?_
  refine rgp (op_load_lp_agg (ps := eGFrame a1) rfl rfl rfl rfl rfl rfl Tryd_agg_25 rfl rfl) ?_
  obtain ⟨y3, h4, hF⟩ := bind_some hF
  refine rgp (op_call 1 rfl (caps := []) (args := [.vs 7 (List.map eGClass a0), .agg (eGFrame a1)]) (rs := [.p (.agg (eGClass y3.1)), .p (.agg (eGMethod y3.2.1)), .p (.bool y3.2.2)]) rfl rfl rfl Tryd_cal_82 (ref38_Method_ok h4) rfl rfl rfl) ?_
  refine rmv ?_
  iterate 3 (refine rgp (op_extract rfl rfl rfl rfl rfl) ?_)
  refine rgp (op_alloc 1 rfl (ps := (eGClass zGClass)) rfl Tryd_zer_108 (by exact ⟨rfl, trivial, rfl, trivial, trivial, trivial, rfl, trivial⟩) rfl rfl) ?_
  refine rgp (op_alloc 2 rfl (ps := (eGMethod zGMethod)) rfl Tryd_zer_116 (by exact ⟨rfl, rfl, rfl, rfl, rfl, rfl, rfl, rfl, rfl, rfl, rfl, rfl, rfl, trivial, trivial, trivial, rfl, trivial⟩) rfl rfl) ?_
  refine rgp (op_store_lp (n := 7) rfl rfl rfl rfl rfl (or_agg Tryd_agg_108) (by rw [Tryd_non_108]; rfl) rfl rfl rfl) ?_
  refine rgp (op_store_lp (n := 17) rfl rfl rfl rfl rfl (or_agg Tryd_agg_116) (by rw [Tryd_non_116]; rfl) rfl rfl rfl) ?_
  refine ras ?_
  refine reg_nil ?_
  refine post_imp (s' := ⟨31, [(2, some (.pv (.str a2))), (4, some (.lp 0 0)), (8, some (.lp 1 0)), (9, some (.pv (.bool y3.2.2)))], [(0, some (.box 25 (bxv (eGFrame a1)))), (1, some (.box 116 (bxv (eGMethod y3.2.1))))], 2, [], [], 0, []⟩) (imps [0, 2] ⟨by kernel_rfl, by kernel_rfl, by kernel_rfl, by kernel_rfl, trivial⟩ ⟨by kernel_rfl, by kernel_rfl, trivial⟩) ?_
  refine post_next ?_
  refine aw_seq ?_
  refine aw_region ?_
  refine rgp (op_load_lp_agg (ps := eGMethod y3.2.1) rfl rfl rfl rfl rfl rfl Tryd_agg_116 rfl rfl) ?_
  refine rmv ?_
  obtain ⟨y7, h8, hF⟩ := bind_some hF
  refine rgp (op_call 2 rfl (caps := []) (args := [.agg (eGMethod y3.2.1), .str a2]) (rs := [.p (.int .i64 y7)]) rfl rfl rfl Tryd_cal_116 (ref18_Place_ok h8) rfl rfl rfl) ?_
  refine ras ?_
  refine reg_nil ?_
  refine post_imp (s' := ⟨31, [(4, some (.lp 0 0)), (9, some (.pv (.bool y3.2.2))), (10, some (.pv (.int .i64 y7)))], [(0, some (.box 25 (bxv (eGFrame a1))))], 1, [], [], 0, []⟩) (imps [0] ⟨by kernel_rfl, by kernel_rfl, by kernel_rfl, trivial⟩ ⟨by kernel_rfl, trivial⟩) ?_
  refine post_next ?_
  iterate 2 (refine aw_seq ?_)
  obtain ⟨x10, hF, hK12⟩ := bind_some hF
  refine aw_cut (fun s1 => s1 = ⟨31, [(10, some (.pv (.int .i64 y7))), (29, some (.pv (.bool x10)))], [], 0, [], [], 0, []⟩) ?_ ?_
  · refine aw_region ?_
    refine rmv ?_
    refine rgp (op_not rfl rfl rfl rfl) ?_
    refine rmv ?_
    rcases ite_some hF with ⟨hb9, hF⟩ | ⟨hb9, hF⟩
    · refine rgo_t hb9 ?_
      iterate 4 (refine rgo_t hb9 ?_)
      refine rpt hb9 ?_
      refine reg_nil ?_
      cases hF
      exact post_cut _ rfl (imps [] ⟨by kernel_rfl, by kernel_rfl, trivial⟩ trivial)
    refine rgn hb9 (op_move rfl rfl rfl rfl) ?_
    refine rgn hb9 (op_field_lp rfl rfl Tryd_fld_25_3 rfl rfl) ?_
    refine rgn hb9 (op_load_lp (v := .pv (.vs 2 (List.map eGVal a1.fVars))) rfl rfl rfl rfl Tryd_one_23 rfl rfl) ?_
    refine rgn hb9 (op_len_vs (n := a1.fVars.length) rfl rfl (List.length_map ..) Tryd_slc_23 rfl rfl) ?_
    refine rgn hb9 (op_int (k := .i64) (m := y7) (n := (a1.fVars.length : Int)) rfl rfl rfl rfl rfl rfl) ?_
    refine rpf hb9 ?_
    refine reg_nil ?_
    cases hF
    exact post_cut _ rfl (imps [] ⟨by kernel_rfl, by kernel_rfl, trivial⟩ trivial)
  rintro _ rfl
  have hF := hK12
  clear hK12
  refine post_next ?_
  rcases ite_some hF with ⟨hb13, hF⟩ | ⟨hb13, hF⟩
  · refine aw_cond_t rfl hb13 ?_
    refine aw_seq ?_
    refine aw_region ?_
    refine ras ?_
    refine reg_nil ?_
    refine post_imp (s' := ⟨31, [(6, some (.pv (.int .i64 (-1))))], [], 0, [], [], 0, []⟩) (imps [] ⟨by kernel_rfl, trivial⟩ trivial) ?_
    refine post_next ?_
    refine aw_ret ?_
    refine post_then_ret ?_
    obtain rfl := Option.some.inj hF
    exact prt
  refine aw_cond_f rfl hb13 ?_
  refine aw_skip ?_
  refine post_next ?_
  refine aw_seq ?_
  refine aw_region ?_
  refine rmv ?_
  refine ras ?_
  refine reg_nil ?_
  refine post_imp (s' := ⟨31, [(6, some (.pv (.int .i64 y7)))], [], 0, [], [], 0, []⟩) (imps [] ⟨by kernel_rfl, trivial⟩ trivial) ?_
  refine post_next ?_
  refine aw_ret ?_
  obtain rfl := Option.some.inj hF
  exact prt
theorem ref38_Get_ok {a0 : List GClass} {a1 : GFrame} {a2 : List UInt8} {r : GVal × Bool} (hF : ref38_Get a0 a1 a2 = some r) : Abs.Fn globs_Tryd Tryd.prog 57 [.vs 7 (List.map eGClass a0), .agg (eGFrame a1), .str a2] [.p (.agg (eGVal r.1)), .p (.bool r.2)] := by
  unfold ref38_Get at hF
  refine fn_of_body (n := 39) Tryd.func57 rfl rfl rfl ?_
  intro w O
  refine aw_seq ?_
  refine aw_region ?_
  refine rgp (op_box 0 rfl rfl rfl rfl rfl rfl) ?_
  refine rgp (op_alloc 1 rfl (ps := (eGVal zGVal)) rfl Tryd_zer_35 (by exact ⟨rfl, rfl, trivial⟩) rfl rfl) ?_
  refine ras ?_
  refine reg_nil ?_
  refine post_imp (s' := ⟨39, [(0, some (.pv (.vs 7 (List.map eGClass a0)))), (2, some (.pv (.str a2))), (4, some (.lp 0 0)), (6, some (.lp 1 0))], [(0, some (.box 25 (bxv (eGFrame a1)))), (1, some (.box 35 (bxv (eGVal zGVal))))], 2, [], [], 0, []⟩) (imps [0, 1] ⟨by kernel_rfl, by kernel_rfl, by kernel_rfl, by kernel_rfl, trivial⟩ ⟨by kernel_rfl, by kernel_rfl, trivial⟩) ?_
  refine post_next ?_
  refine aw_seq ?_
  refine aw_region ?_
  refine rmv ?_
  refine rgp (op_load_lp_agg (ps := eGFrame a1) rfl rfl rfl rfl rfl rfl Tryd_agg_25 rfl rfl) ?_
  obtain ⟨y3, h4, hF⟩ := bind_some hF
  refine rgp (op_call 2 rfl (caps := []) (args := [.vs 7 (List.map eGClass a0), .agg (eGFrame a1)]) (rs := [.p (.agg (eGClass y3.1)), .p (.agg (eGMethod y3.2.1)), .p (.bool y3.2.2)]) rfl rfl rfl Tryd_cal_82 (ref38_Method_ok h4) rfl rfl rfl) ?_
  refine rmv ?_
  iterate 3 (refine rgp (op_extract rfl rfl rfl rfl rfl) ?_)
  refine rgp (op_alloc 2 rfl (ps := (eGClass zGClass)) rfl Tryd_zer_108 (by exact ⟨rfl, trivial, rfl, trivial, trivial, trivial, rfl, trivial⟩) rfl rfl) ?_
  refine rgp (op_alloc 3 rfl (ps := (eGMethod zGMethod)) rfl Tryd_zer_116 (by exact ⟨rfl, rfl, rfl, rfl, rfl, rfl, rfl, rfl, rfl, rfl, rfl, rfl, rfl, trivial, trivial, trivial, rfl, trivial⟩) rfl rfl) ?_
  refine rgp (op_store_lp (n := 7) rfl rfl rfl rfl rfl (or_agg Tryd_agg_108) (by rw [Tryd_non_108]; rfl) rfl rfl rfl) ?_
  refine rgp (op_store_lp (n := 17) rfl rfl rfl rfl rfl (or_agg Tryd_agg_116) (by rw [Tryd_non_116]; rfl) rfl rfl rfl) ?_
  refine ras ?_
  refine reg_nil ?_
  refine post_imp (s' := ⟨39, [(0, some (.pv (.vs 7 (List.map eGClass a0)))), (2, some (.pv (.str a2))), (4, some (.lp 0 0)), (6, some (.lp 1 0)), (10, some (.pv (.bool y3.2.2)))], [(0, some (.box 25 (bxv (eGFrame a1)))), (1, some (.box 35 (bxv (eGVal zGVal))))], 2, [], [], 0, []⟩) (imps [0, 1] ⟨by kernel_rfl, by kernel_rfl, by kernel_rfl, by kernel_rfl, by kernel_rfl, trivial⟩ ⟨by kernel_rfl, by kernel_rfl, trivial⟩) ?_
  refine post_next ?_
  iterate 2 (refine aw_seq ?_)
  obtain ⟨x6, hF, hK8⟩ := bind_some hF
  refine aw_cut (fun s1 => s1 = ⟨39, [(0, some (.pv (.vs 7 (List.map eGClass a0)))), (2, some (.pv (.str a2))), (4, some (.lp 0 0)), (6, some (.lp 1 0)), (23, some (.pv (.bool x6)))], [(0, some (.box 25 (bxv (eGFrame a1)))), (1, some (.box 35 (bxv (eGVal zGVal))))], 2, [], [], 0, []⟩) ?_ ?_
  · refine aw_region ?_
    iterate 2 (refine rmv ?_)
    rcases ite_some hF with ⟨hb5, hF⟩ | ⟨hb5, hF⟩
    · refine rgn hb5 (op_move rfl rfl rfl rfl) ?_
      refine rgn hb5 (op_str rfl rfl rfl rfl rfl rfl) ?_
      refine rpt hb5 ?_
      refine reg_nil ?_
      cases hF
      exact post_cut _ rfl (imps [0, 1] ⟨by kernel_rfl, by kernel_rfl, by kernel_rfl, by kernel_rfl, by kernel_rfl, trivial⟩ ⟨by kernel_rfl, by kernel_rfl, trivial⟩)
    iterate 2 (refine rgo_f hb5 ?_)
    refine rpf hb5 ?_
    refine reg_nil ?_
    cases hF
    exact post_cut _ rfl (imps [0, 1] ⟨by kernel_rfl, by kernel_rfl, by kernel_rfl, by kernel_rfl, by kernel_rfl, trivial⟩ ⟨by kernel_rfl, by kernel_rfl, trivial⟩)
  rintro _ rfl
  have hF := hK8
  clear hK8
  refine post_next ?_
  rcases ite_some hF with ⟨hb9, hF⟩ | ⟨hb9, hF⟩
  · refine aw_cond_t rfl hb9 ?_
    refine aw_seq ?_
    refine aw_region ?_
    refine rgp (op_field_lp rfl rfl Tryd_fld_25_0 rfl rfl) ?_
    refine rgp (op_load_lp (v := .pv (.int .i64 a1.fThis)) rfl rfl rfl rfl Tryd_one_3 rfl rfl) ?_
    refine rgp (op_build (zs := (eGVal zGVal)) (r := eGVal ({ fRef := true, fN := a1.fThis } : GVal)) rfl Tryd_zer_35 (by exact ⟨rfl, rfl, trivial⟩) Tryd_plc_35 rfl rfl rfl rfl) ?_
    refine rgp (op_store_lp (n := 2) rfl rfl rfl rfl rfl (or_agg Tryd_agg_35) (by rw [Tryd_non_35]; rfl) rfl rfl rfl) ?_
    refine ras ?_
    refine reg_nil ?_
    refine post_imp (s' := ⟨39, [(6, some (.lp 0 0)), (7, some (.pv (.bool true)))], [(0, some (.box 35 (bxv (eGVal ({ fRef := true, fN := a1.fThis } : GVal)))))], 1, [], [], 0, []⟩) (imps [1] ⟨by kernel_rfl, by kernel_rfl, trivial⟩ ⟨by kernel_rfl, trivial⟩) ?_
    refine post_next ?_
    refine aw_ret ?_
    refine post_then_ret ?_
    obtain rfl := Option.some.inj hF
    exact post_ret rfl rfl (.cons _ _ _ _ _ (.agg _ _ _ _ _ 2 _ _ rfl rfl Tryd_agg_35 rfl rfl rfl) (.p _) (.cons _ _ _ _ _ (.tmp _ _ rfl) (.p _) .nil)) (.inl rfl)
  refine aw_cond_f rfl hb9 ?_
  refine aw_skip ?_
  refine post_next ?_
  refine aw_seq ?_
  refine aw_region ?_
  refine rmv ?_
  refine rgp (op_load_lp_agg (ps := eGFrame a1) rfl rfl rfl rfl rfl rfl Tryd_agg_25 rfl rfl) ?_
  refine rmv ?_
  obtain ⟨y12, h13, hF⟩ := bind_some hF
  refine rgp (op_call 2 rfl (caps := []) (args := [.vs 7 (List.map eGClass a0), .agg (eGFrame a1), .str a2]) (rs := [.p (.int .i64 y12)]) rfl rfl rfl Tryd_cal_83 (ref38_place_ok h13) rfl rfl rfl) ?_
  refine ras ?_
  refine reg_nil ?_
  refine post_imp (s' := ⟨39, [(4, some (.lp 0 0)), (6, some (.lp 1 0)), (11, some (.pv (.int .i64 y12)))], [(0, some (.box 25 (bxv (eGFrame a1)))), (1, some (.box 35 (bxv (eGVal zGVal))))], 2, [], [], 0, []⟩) (imps [0, 1] ⟨by kernel_rfl, by kernel_rfl, by kernel_rfl, trivial⟩ ⟨by kernel_rfl, by kernel_rfl, trivial⟩) ?_
  refine post_next ?_
  iterate 2 (refine aw_seq ?_)
  refine aw_region ?_
  refine rmv ?_
  refine rgp (op_int (k := .i64) (m := y12) (n := 0) rfl rfl rfl rfl rfl rfl) ?_
  refine reg_nil ?_
  refine post_imp (s' := ⟨39, [(4, some (.lp 0 0)), (6, some (.lp 1 0)), (11, some (.pv (.int .i64 y12))), (32, some (.pv (.bool (decide (y12 < 0)))))], [(0, some (.box 25 (bxv (eGFrame a1)))), (1, some (.box 35 (bxv (eGVal zGVal))))], 2, [], [], 0, []⟩) (imps [0, 1] ⟨by kernel_rfl, by kernel_rfl, by kernel_rfl, by kernel_rfl, trivial⟩ ⟨by kernel_rfl, by kernel_rfl, trivial⟩) ?_
  refine post_next ?_
  rcases ite_some hF with ⟨hb14, hF⟩ | ⟨hb14, hF⟩
  · refine aw_cond_t rfl hb14 ?_
    refine aw_seq ?_
    refine aw_region ?_
    refine rgp (op_build (zs := (eGVal zGVal)) (r := eGVal ({ fRef := false, fN := 0 } : GVal)) rfl Tryd_zer_35 (by exact ⟨rfl, rfl, trivial⟩) Tryd_plc_35 rfl rfl rfl rfl) ?_
    refine rgp (op_store_lp (n := 2) rfl rfl rfl rfl rfl (or_agg Tryd_agg_35) (by rw [Tryd_non_35]; rfl) rfl rfl rfl) ?_
    refine ras ?_
    refine reg_nil ?_
    refine post_imp (s' := ⟨39, [(6, some (.lp 0 0)), (7, some (.pv (.bool false)))], [(0, some (.box 35 (bxv (eGVal ({ fRef := false, fN := 0 } : GVal)))))], 1, [], [], 0, []⟩) (imps [1] ⟨by kernel_rfl, by kernel_rfl, trivial⟩ ⟨by kernel_rfl, trivial⟩) ?_
    refine post_next ?_
    refine aw_ret ?_
    refine post_then_ret ?_
    obtain rfl := Option.some.inj hF
    exact post_ret rfl rfl (.cons _ _ _ _ _ (.agg _ _ _ _ _ 2 _ _ rfl rfl Tryd_agg_35 rfl rfl rfl) (.p _) (.cons _ _ _ _ _ (.tmp _ _ rfl) (.p _) .nil)) (.inl rfl)
  refine aw_cond_f rfl hb14 ?_
  refine aw_skip ?_
  refine post_next ?_
  refine aw_seq ?_
  refine aw_region ?_
  refine rgp (op_field_lp rfl rfl Tryd_fld_25_3 rfl rfl) ?_
  refine rgp (op_load_lp (v := .pv (.vs 2 (List.map eGVal a1.fVars))) rfl rfl rfl rfl Tryd_one_23 rfl rfl) ?_
  refine rmv ?_
  obtain ⟨y15, h16, hF⟩ := bind_some hF
  refine rgp (op_index_vs (k := .i64) rfl rfl rfl (idx_map eGVal h16) Tryd_slc_23 rfl rfl) ?_
  refine rgp (op_load_vp_agg (ps := eGVal y15) rfl rfl rfl rfl Tryd_agg_35 rfl rfl) ?_
  refine rgp (op_store_lp (n := 2) rfl rfl rfl rfl rfl (or_agg Tryd_agg_35) (by rw [Tryd_non_35]; rfl) rfl rfl rfl) ?_
  refine ras ?_
  refine reg_nil ?_
  refine post_imp (s' := ⟨39, [(6, some (.lp 0 0)), (7, some (.pv (.bool true)))], [(0, some (.box 35 (bxv (eGVal y15))))], 1, [], [], 0, []⟩) (imps [1] ⟨by kernel_rfl, by kernel_rfl, trivial⟩ ⟨by kernel_rfl, trivial⟩) ?_
  refine post_next ?_
  refine aw_ret ?_
  obtain rfl := Option.some.inj hF
  exact post_ret rfl rfl (.cons _ _ _ _ _ (.agg _ _ _ _ _ 2 _ _ rfl rfl Tryd_agg_35 rfl rfl rfl) (.p _) (.cons _ _ _ _ _ (.tmp _ _ rfl) (.p _) .nil)) (.inl rfl)
theorem ref39_bit_ok {a0 : Bool} {r : Int} (hF : ref39_bit a0 = some r) : Abs.Fn globs_Tryd Tryd.prog 84 [.bool a0] [.p (.int .i64 r)] := by
  unfold ref39_bit at hF
  refine fn_of_body (n := 4) Tryd.func84 rfl rfl rfl ?_
  intro w O
  refine aw_seq ?_
  refine aw_region ?_
  refine ras ?_
  refine reg_nil ?_
  refine post_imp (s' := ⟨4, [(0, some (.pv (.bool a0)))], [], 0, [], [], 0, []⟩) (imps [] ⟨by kernel_rfl, trivial⟩ trivial) ?_
  refine post_next ?_
  iterate 2 (refine aw_seq ?_)
  refine aw_region ?_
  refine rmv ?_
  refine reg_nil ?_
  refine post_imp (s' := ⟨4, [(3, some (.pv (.bool a0)))], [], 0, [], [], 0, []⟩) (imps [] ⟨by kernel_rfl, trivial⟩ trivial) ?_
  refine post_next ?_
  rcases ite_some hF with ⟨hb1, hF⟩ | ⟨hb1, hF⟩
  · refine aw_cond_t rfl hb1 ?_
    refine aw_seq ?_
    refine aw_region ?_
    refine ras ?_
    refine reg_nil ?_
    refine post_imp (s' := ⟨4, [(2, some (.pv (.int .i64 1)))], [], 0, [], [], 0, []⟩) (imps [] ⟨by kernel_rfl, trivial⟩ trivial) ?_
    refine post_next ?_
    refine aw_ret ?_
    refine post_then_ret ?_
    obtain rfl := Option.some.inj hF
    exact prt
  refine aw_cond_f rfl hb1 ?_
  refine aw_skip ?_
  refine post_next ?_
  refine aw_seq ?_
  refine aw_region ?_
  refine ras ?_
  refine reg_nil ?_
  refine post_imp (s' := ⟨4, [(2, some (.pv (.int .i64 0)))], [], 0, [], [], 0, []⟩) (imps [] ⟨by kernel_rfl, trivial⟩ trivial) ?_
  refine post_next ?_
  refine aw_ret ?_
  obtain rfl := Option.some.inj hF
  exact prt
theorem ref39_sign_ok {a0 : Int} {a1 : Int} {a2 : Int} {r : Int} (hF : ref39_sign a0 a1 a2 = some r) : Abs.Fn globs_Tryd Tryd.prog 58 [.int .i64 a0, .int .i64 a1, .int .i64 a2] [.p (.int .i64 r)] := by
  unfold ref39_sign at hF
  refine fn_of_body (n := 48) Tryd.func58 rfl rfl rfl ?_
  intro w O
  refine aw_seq ?_
  refine aw_region ?_
  refine ras ?_
  refine reg_nil ?_
  refine post_imp (s' := ⟨48, [(0, some (.pv (.int .i64 a0))), (1, some (.pv (.int .i64 a1))), (2, some (.pv (.int .i64 a2)))], [], 0, [], [], 0, []⟩) (imps [] ⟨by kernel_rfl, by kernel_rfl, by kernel_rfl, trivial⟩ trivial) ?_
  refine post_next ?_
  refine aw_seq ?_
  obtain ⟨x26, hF, hK28⟩ := bind_some hF
  refine aw_cut (fun s1 => s1 = ⟨48, [(0, some (.pv (.int .i64 a0))), (7, some (.pv (.vs 1 (List.map eI x26))))], [], 0, [], [], 0, []⟩) ?_ ?_
  · refine aw_region ?_
    iterate 2 (refine rmv ?_)
    refine rgp (op_int (k := .i64) (m := a1) (n := a2) rfl rfl rfl rfl rfl rfl) ?_
    iterate 2 (refine rmv ?_)
    refine rgp (op_int (k := .i64) (m := a1) (n := a2) rfl rfl rfl rfl rfl rfl) ?_
    iterate 2 (refine rmv ?_)
    refine rgp (op_int (k := .i64) (m := a1) (n := a2) rfl rfl rfl rfl rfl rfl) ?_
    iterate 2 (refine rmv ?_)
    refine rgp (op_int (k := .i64) (m := a1) (n := a2) rfl rfl rfl rfl rfl rfl) ?_
    obtain ⟨y5, h6, hF⟩ := bind_some hF
    refine rgp (op_call 0 rfl (caps := []) (args := [.bool (decide (a1 < a2))]) (rs := [.p (.int .i64 y5)]) rfl rfl rfl Tryd_cal_84 (ref39_bit_ok h6) rfl rfl rfl) ?_
    iterate 2 (refine rmv ?_)
    refine rgp (op_int (k := .i64) (m := a1) (n := a2) rfl rfl rfl rfl rfl rfl) ?_
    obtain ⟨y7, h8, hF⟩ := bind_some hF
    refine rgp (op_call 0 rfl (caps := []) (args := [.bool (a1 == a2)]) (rs := [.p (.int .i64 y7)]) rfl rfl rfl Tryd_cal_84 (ref39_bit_ok h8) rfl rfl rfl) ?_
    refine rmv ?_
    refine rgp (op_int (k := .i64) (m := a1) (n := 0) rfl rfl rfl rfl rfl rfl) ?_
    refine rmv ?_
    rcases ite_some hF with ⟨hb9, hF⟩ | ⟨hb9, hF⟩
    · refine rgn hb9 (op_move rfl rfl rfl rfl) ?_
      refine rgn hb9 (op_int (k := .i64) (m := a2) (n := 0) rfl rfl rfl rfl rfl rfl) ?_
      refine rpt hb9 ?_
      obtain ⟨y10, h11, hF⟩ := bind_some hF
      refine rgp (op_call 0 rfl (caps := []) (args := [.bool (a2 != 0)]) (rs := [.p (.int .i64 y10)]) rfl rfl rfl Tryd_cal_84 (ref39_bit_ok h11) rfl rfl rfl) ?_
      refine rmv ?_
      refine rgp (op_int (k := .i64) (m := a1) (n := 0) rfl rfl rfl rfl rfl rfl) ?_
      obtain ⟨y12, h13, hF⟩ := bind_some hF
      refine rgp (op_call 0 rfl (caps := []) (args := [.bool (a1 == 0)]) (rs := [.p (.int .i64 y12)]) rfl rfl rfl Tryd_cal_84 (ref39_bit_ok h13) rfl rfl rfl) ?_
      refine rmv ?_
      refine rgp (op_int (k := .i64) (m := a1) (n := 0) rfl rfl rfl rfl rfl rfl) ?_
      obtain ⟨y14, h15, hF⟩ := bind_some hF
      refine rgp (op_call 0 rfl (caps := []) (args := [.bool (a1 == 0)]) (rs := [.p (.int .i64 y14)]) rfl rfl rfl Tryd_cal_84 (ref39_bit_ok h15) rfl rfl rfl) ?_
      iterate 2 (refine rmv ?_)
      refine rgp (op_int (k := .i64) (m := a1) (n := a2) rfl rfl rfl rfl rfl rfl) ?_
      obtain ⟨y16, h17, hF⟩ := bind_some hF
      refine rgp (op_call 0 rfl (caps := []) (args := [.bool (a1 == a2)]) (rs := [.p (.int .i64 y16)]) rfl rfl rfl Tryd_cal_84 (ref39_bit_ok h17) rfl rfl rfl) ?_
      refine rgp (op_lit (rows := List.map eI ([w_i64 (a1 + a2), w_i64 (a1 - a2), w_i64 (a1 * a2), y5, y7, y10, y12, y14, y16] : List Int)) (zs := [.int .i64 0]) rfl rfl Tryd_slc_26 Tryd_zer_3 (by exact ⟨rfl, trivial⟩) rfl rfl rfl rfl rfl rfl rfl rfl) ?_
      refine ras ?_
      refine reg_nil ?_
      cases hF
      exact post_cut _ rfl (imps [] ⟨by kernel_rfl, by kernel_rfl, trivial⟩ trivial)
    iterate 2 (refine rgo_f hb9 ?_)
    refine rpf hb9 ?_
    obtain ⟨y18, h19, hF⟩ := bind_some hF
    refine rgp (op_call 0 rfl (caps := []) (args := [.bool false]) (rs := [.p (.int .i64 y18)]) rfl rfl rfl Tryd_cal_84 (ref39_bit_ok h19) rfl rfl rfl) ?_
    refine rmv ?_
    refine rgp (op_int (k := .i64) (m := a1) (n := 0) rfl rfl rfl rfl rfl rfl) ?_
    obtain ⟨y20, h21, hF⟩ := bind_some hF
    refine rgp (op_call 0 rfl (caps := []) (args := [.bool (a1 == 0)]) (rs := [.p (.int .i64 y20)]) rfl rfl rfl Tryd_cal_84 (ref39_bit_ok h21) rfl rfl rfl) ?_
    refine rmv ?_
    refine rgp (op_int (k := .i64) (m := a1) (n := 0) rfl rfl rfl rfl rfl rfl) ?_
    obtain ⟨y22, h23, hF⟩ := bind_some hF
    refine rgp (op_call 0 rfl (caps := []) (args := [.bool (a1 == 0)]) (rs := [.p (.int .i64 y22)]) rfl rfl rfl Tryd_cal_84 (ref39_bit_ok h23) rfl rfl rfl) ?_
    iterate 2 (refine rmv ?_)
    refine rgp (op_int (k := .i64) (m := a1) (n := a2) rfl rfl rfl rfl rfl rfl) ?_
    obtain ⟨y24, h25, hF⟩ := bind_some hF
    refine rgp (op_call 0 rfl (caps := []) (args := [.bool (a1 == a2)]) (rs := [.p (.int .i64 y24)]) rfl rfl rfl Tryd_cal_84 (ref39_bit_ok h25) rfl rfl rfl) ?_
    refine rgp (op_lit (rows := List.map eI ([w_i64 (a1 + a2), w_i64 (a1 - a2), w_i64 (a1 * a2), y5, y7, y18, y20, y22, y24] : List Int)) (zs := [.int .i64 0]) rfl rfl Tryd_slc_26 Tryd_zer_3 (by exact ⟨rfl, trivial⟩) rfl rfl rfl rfl rfl rfl rfl rfl) ?_
    refine ras ?_
    refine reg_nil ?_
    cases hF
    exact post_cut _ rfl (imps [] ⟨by kernel_rfl, by kernel_rfl, trivial⟩ trivial)
  rintro _ rfl
  have hF := hK28
  clear hK28
  refine post_next ?_
  refine aw_seq ?_
  refine aw_region ?_
  iterate 2 (refine rmv ?_)
  refine rgp (op_int (k := .i64) (m := a0) (n := 6) rfl rfl rfl rfl rfl rfl) ?_
  obtain ⟨y29, h30, hF⟩ := bind_some hF
  refine rgp (op_index_vs (k := .i64) rfl rfl rfl (idx_map eI h30) Tryd_slc_26 rfl rfl) ?_
  refine rgp (op_load_vp (p := .int .i64 y29) rfl rfl rfl Tryd_one_3 rfl rfl) ?_
  refine ras ?_
  refine reg_nil ?_
  refine post_imp (s' := ⟨48, [(6, some (.pv (.int .i64 y29)))], [], 0, [], [], 0, []⟩) (imps [] ⟨by kernel_rfl, trivial⟩ trivial) ?_
  refine post_next ?_
  refine aw_ret ?_
  obtain rfl := Option.some.inj hF
  exact prt
theorem ref39_of_ring : ∀ n : Nat, (∀ (a0 : List GClass) (a1 : GFrame) (a2 : List Int) (a3 : GExpr) (r : GGot_ref39), ref39_of n a0 a1 a2 a3 = some r → Abs.Fn globs_Tryd Tryd.prog 32 [.vs 7 (List.map eGClass a0), .agg (eGFrame a1), .vs 1 (List.map eI a2), .agg (eGExpr a3)] [.p (.agg (eGGot_ref39 r))]) := by
  intro n
  induction n with
  | zero => exact (fun _ _ _ _ _ h => by simp [ref39_of] at h)
  | succ n ih =>
    have ref39_of_ih := ih
    clear ih
    intro a0 a1 a2 a3 r hF
    unfold ref39_of at hF
    revert hF ref39_of_ih
    generalize ref39_of n = ref39_of_rec
    intro ref39_of_ih hF
    refine fn_of_body (n := 124) Tryd.func32 rfl rfl rfl ?_
    intro w O
    refine aw_seq ?_
    refine aw_region ?_
    refine rgp (op_box 0 rfl rfl rfl rfl rfl rfl) ?_
    refine rgp (op_box 1 rfl rfl rfl rfl rfl rfl) ?_
    refine rgp (op_alloc 2 rfl (ps := (eGGot_ref39 zGGot_ref39)) rfl Tryd_zer_39 (by exact ⟨rfl, rfl, trivial, rfl, trivial⟩) rfl rfl) ?_
    refine reg_nil ?_
    refine post_imp (s' := ⟨124, [(0, some (.pv (.vs 7 (List.map eGClass a0)))), (2, some (.pv (.vs 1 (List.map eI a2)))), (5, some (.lp 0 0)), (7, some (.lp 1 0)), (8, some (.lp 2 0))], [(0, some (.box 25 (bxv (eGFrame a1)))), (1, some (.box 31 (bxv (eGExpr a3)))), (2, some (.box 39 (bxv (eGGot_ref39 zGGot_ref39))))], 3, [], [], 0, []⟩) (imps [0, 1, 2] ⟨by kernel_rfl, by kernel_rfl, by kernel_rfl, by kernel_rfl, by kernel_rfl, trivial⟩ ⟨by kernel_rfl, by kernel_rfl, by kernel_rfl, trivial⟩) ?_
    refine post_next ?_
    iterate 2 (refine aw_seq ?_)
    refine aw_region ?_
    refine rgp (op_field_lp rfl rfl Tryd_fld_31_0 rfl rfl) ?_
    refine rgp (op_load_lp (v := .pv (.int .i64 a3.fKind)) rfl rfl rfl rfl Tryd_one_3 rfl rfl) ?_
    refine rgp (op_int (k := .i64) (m := a3.fKind) (n := 1) rfl rfl rfl rfl rfl rfl) ?_
    refine reg_nil ?_
    refine post_imp (s' := ⟨124, [(0, some (.pv (.vs 7 (List.map eGClass a0)))), (2, some (.pv (.vs 1 (List.map eI a2)))), (5, some (.lp 0 0)), (7, some (.lp 1 0)), (8, some (.lp 2 0)), (16, some (.pv (.bool (a3.fKind == 1))))], [(0, some (.box 25 (bxv (eGFrame a1)))), (1, some (.box 31 (bxv (eGExpr a3)))), (2, some (.box 39 (bxv (eGGot_ref39 zGGot_ref39))))], 3, [], [], 0, []⟩) (imps [0, 1, 2] ⟨by kernel_rfl, by kernel_rfl, by kernel_rfl, by kernel_rfl, by kernel_rfl, by kernel_rfl, trivial⟩ ⟨by kernel_rfl, by kernel_rfl, by kernel_rfl, trivial⟩) ?_
    refine post_next ?_
    rcases ite_some hF with ⟨hb1, hF⟩ | ⟨hb1, hF⟩
    · refine aw_cond_t rfl hb1 ?_
      refine aw_seq ?_
      refine aw_region ?_
      refine rgp (op_field_lp rfl rfl Tryd_fld_31_1 rfl rfl) ?_
      refine rgp (op_load_lp (v := .pv (.int .i64 a3.fNum)) rfl rfl rfl rfl Tryd_one_3 rfl rfl) ?_
      refine rgp (op_build (zs := (eGVal zGVal)) (r := eGVal ({ fRef := false, fN := a3.fNum } : GVal)) rfl Tryd_zer_35 (by exact ⟨rfl, rfl, trivial⟩) Tryd_plc_35 rfl rfl rfl rfl) ?_
      refine rmv ?_
      refine rgp (op_build (zs := (eGGot_ref39 zGGot_ref39)) (r := eGGot_ref39 ({ fV := ({ fRef := false, fN := a3.fNum } : GVal), fLeft := a2, fEnd := 0 } : GGot_ref39)) rfl Tryd_zer_39 (by exact ⟨rfl, rfl, trivial, rfl, trivial⟩) Tryd_plc_39 rfl rfl rfl rfl) ?_
      refine rgp (op_store_lp (n := 4) rfl rfl rfl rfl rfl (or_agg Tryd_agg_39) (by rw [Tryd_non_39]; rfl) rfl rfl rfl) ?_
      refine reg_nil ?_
      refine post_imp (s' := ⟨124, [(8, some (.lp 0 0))], [(0, some (.box 39 (bxv (eGGot_ref39 ({ fV := ({ fRef := false, fN := a3.fNum } : GVal), fLeft := a2, fEnd := 0 } : GGot_ref39)))))], 1, [], [], 0, []⟩) (imps [2] ⟨by kernel_rfl, trivial⟩ ⟨by kernel_rfl, trivial⟩) ?_
      refine post_next ?_
      refine aw_ret ?_
      refine post_then_ret ?_
      obtain rfl := Option.some.inj hF
      exact post_ret rfl rfl (.cons _ _ _ _ _ (.agg _ _ _ _ _ 4 _ _ rfl rfl Tryd_agg_39 rfl rfl rfl) (.p _) .nil) (.inl rfl)
    refine aw_cond_f rfl hb1 ?_
    refine aw_skip ?_
    refine post_next ?_
    iterate 2 (refine aw_seq ?_)
    refine aw_region ?_
    refine rgp (op_field_lp rfl rfl Tryd_fld_31_0 rfl rfl) ?_
    refine rgp (op_load_lp (v := .pv (.int .i64 a3.fKind)) rfl rfl rfl rfl Tryd_one_3 rfl rfl) ?_
    refine rgp (op_int (k := .i64) (m := a3.fKind) (n := 2) rfl rfl rfl rfl rfl rfl) ?_
    refine reg_nil ?_
    refine post_imp (s' := ⟨124, [(0, some (.pv (.vs 7 (List.map eGClass a0)))), (2, some (.pv (.vs 1 (List.map eI a2)))), (5, some (.lp 0 0)), (7, some (.lp 1 0)), (8, some (.lp 2 0)), (24, some (.pv (.bool (a3.fKind == 2))))], [(0, some (.box 25 (bxv (eGFrame a1)))), (1, some (.box 31 (bxv (eGExpr a3)))), (2, some (.box 39 (bxv (eGGot_ref39 zGGot_ref39))))], 3, [], [], 0, []⟩) (imps [0, 1, 2] ⟨by kernel_rfl, by kernel_rfl, by kernel_rfl, by kernel_rfl, by kernel_rfl, by kernel_rfl, trivial⟩ ⟨by kernel_rfl, by kernel_rfl, by kernel_rfl, trivial⟩) ?_
    refine post_next ?_
    rcases ite_some hF with ⟨hb2, hF⟩ | ⟨hb2, hF⟩
    · refine aw_cond_t rfl hb2 ?_
      refine aw_seq ?_
      refine aw_region ?_
      refine rmv ?_
      refine rgp (op_load_lp_agg (ps := eGFrame a1) rfl rfl rfl rfl rfl rfl Tryd_agg_25 rfl rfl) ?_
      refine rgp (op_field_lp rfl rfl Tryd_fld_31_2 rfl rfl) ?_
      refine rgp (op_load_lp (v := .pv (.str a3.fName)) rfl rfl rfl rfl Tryd_one_9 rfl rfl) ?_
      obtain ⟨y5, h6, hF⟩ := bind_some hF
      refine rgp (op_call 3 rfl (caps := []) (args := [.vs 7 (List.map eGClass a0), .agg (eGFrame a1), .str a3.fName]) (rs := [.p (.agg (eGVal y5.1)), .p (.bool y5.2)]) rfl rfl rfl Tryd_cal_57 (ref38_Get_ok h6) rfl rfl rfl) ?_
      refine rmv ?_
      iterate 2 (refine rgp (op_extract rfl rfl rfl rfl rfl) ?_)
      refine rgp (op_alloc 3 rfl (ps := (eGVal zGVal)) rfl Tryd_zer_35 (by exact ⟨rfl, rfl, trivial⟩) rfl rfl) ?_
      refine rgp (op_store_lp (n := 2) rfl rfl rfl rfl rfl (or_agg Tryd_agg_35) (by rw [Tryd_non_35]; rfl) rfl rfl rfl) ?_
      refine ras ?_
      refine reg_nil ?_
      refine post_imp (s' := ⟨124, [(2, some (.pv (.vs 1 (List.map eI a2)))), (8, some (.lp 0 0)), (9, some (.lp 1 0)), (10, some (.pv (.bool y5.2)))], [(0, some (.box 39 (bxv (eGGot_ref39 zGGot_ref39)))), (1, some (.box 35 (bxv (eGVal y5.1))))], 2, [], [], 0, []⟩) (imps [2, 3] ⟨by kernel_rfl, by kernel_rfl, by kernel_rfl, by kernel_rfl, trivial⟩ ⟨by kernel_rfl, by kernel_rfl, trivial⟩) ?_
      refine post_next ?_
      iterate 2 (refine aw_seq ?_)
      refine aw_region ?_
      refine rmv ?_
      refine rgp (op_not rfl rfl rfl rfl) ?_
      refine reg_nil ?_
      refine post_imp (s' := ⟨124, [(2, some (.pv (.vs 1 (List.map eI a2)))), (8, some (.lp 0 0)), (9, some (.lp 1 0)), (34, some (.pv (.bool (!y5.2))))], [(0, some (.box 39 (bxv (eGGot_ref39 zGGot_ref39)))), (1, some (.box 35 (bxv (eGVal y5.1))))], 2, [], [], 0, []⟩) (imps [0, 1] ⟨by kernel_rfl, by kernel_rfl, by kernel_rfl, by kernel_rfl, trivial⟩ ⟨by kernel_rfl, by kernel_rfl, trivial⟩) ?_
      refine post_next ?_
      rcases ite_some hF with ⟨hb7, hF⟩ | ⟨hb7, hF⟩
      · refine aw_cond_t rfl hb7 ?_
        refine aw_seq ?_
        refine aw_region ?_
        obtain ⟨y8, h9, hF⟩ := bind_some hF
        refine rgp (op_call 2 rfl (caps := []) (args := []) (rs := [.p (.agg (eGGot_ref39 y8))]) rfl rfl rfl Tryd_cal_31 (ref39_bad_ok h9) rfl rfl rfl) ?_
        refine rgp (op_store_lp (n := 4) rfl rfl rfl rfl rfl (or_agg Tryd_agg_39) (by rw [Tryd_non_39]; rfl) rfl rfl rfl) ?_
        refine reg_nil ?_
        refine post_imp (s' := ⟨124, [(8, some (.lp 0 0))], [(0, some (.box 39 (bxv (eGGot_ref39 y8))))], 1, [], [], 0, []⟩) (imps [0] ⟨by kernel_rfl, trivial⟩ ⟨by kernel_rfl, trivial⟩) ?_
        refine post_next ?_
        refine aw_ret ?_
        iterate 2 (refine post_then_ret ?_)
        obtain rfl := Option.some.inj hF
        exact post_ret rfl rfl (.cons _ _ _ _ _ (.agg _ _ _ _ _ 4 _ _ rfl rfl Tryd_agg_39 rfl rfl rfl) (.p _) .nil) (.inl rfl)
      refine aw_cond_f rfl hb7 ?_
      refine aw_skip ?_
      refine post_next ?_
      refine aw_seq ?_
      refine aw_region ?_
      refine rgp (op_load_lp_agg (ps := eGVal y5.1) rfl rfl rfl rfl rfl rfl Tryd_agg_35 rfl rfl) ?_
      refine rmv ?_
      refine rgp (op_build (zs := (eGGot_ref39 zGGot_ref39)) (r := eGGot_ref39 ({ fV := y5.1, fLeft := a2, fEnd := 0 } : GGot_ref39)) rfl Tryd_zer_39 (by exact ⟨rfl, rfl, trivial, rfl, trivial⟩) Tryd_plc_39 rfl rfl rfl rfl) ?_
      refine rgp (op_store_lp (n := 4) rfl rfl rfl rfl rfl (or_agg Tryd_agg_39) (by rw [Tryd_non_39]; rfl) rfl rfl rfl) ?_
      refine reg_nil ?_
      refine post_imp (s' := ⟨124, [(8, some (.lp 0 0))], [(0, some (.box 39 (bxv (eGGot_ref39 ({ fV := y5.1, fLeft := a2, fEnd := 0 } : GGot_ref39)))))], 1, [], [], 0, []⟩) (imps [0] ⟨by kernel_rfl, trivial⟩ ⟨by kernel_rfl, trivial⟩) ?_
      refine post_next ?_
      refine aw_ret ?_
      refine post_then_ret ?_
      obtain rfl := Option.some.inj hF
      exact post_ret rfl rfl (.cons _ _ _ _ _ (.agg _ _ _ _ _ 4 _ _ rfl rfl Tryd_agg_39 rfl rfl rfl) (.p _) .nil) (.inl rfl)
    refine aw_cond_f rfl hb2 ?_
    refine aw_skip ?_
    refine post_next ?_
    iterate 2 (refine aw_seq ?_)
    refine aw_region ?_
    refine rgp (op_field_lp rfl rfl Tryd_fld_31_0 rfl rfl) ?_
    refine rgp (op_load_lp (v := .pv (.int .i64 a3.fKind)) rfl rfl rfl rfl Tryd_one_3 rfl rfl) ?_
    refine rgp (op_int (k := .i64) (m := a3.fKind) (n := 3) rfl rfl rfl rfl rfl rfl) ?_
    refine reg_nil ?_
    refine post_imp (s' := ⟨124, [(0, some (.pv (.vs 7 (List.map eGClass a0)))), (2, some (.pv (.vs 1 (List.map eI a2)))), (5, some (.lp 0 0)), (7, some (.lp 1 0)), (8, some (.lp 2 0)), (41, some (.pv (.bool (a3.fKind == 3))))], [(0, some (.box 25 (bxv (eGFrame a1)))), (1, some (.box 31 (bxv (eGExpr a3)))), (2, some (.box 39 (bxv (eGGot_ref39 zGGot_ref39))))], 3, [], [], 0, []⟩) (imps [0, 1, 2] ⟨by kernel_rfl, by kernel_rfl, by kernel_rfl, by kernel_rfl, by kernel_rfl, by kernel_rfl, trivial⟩ ⟨by kernel_rfl, by kernel_rfl, by kernel_rfl, trivial⟩) ?_
    refine post_next ?_
    rcases ite_some hF with ⟨hb10, hF⟩ | ⟨hb10, hF⟩
    · refine aw_cond_t rfl hb10 ?_
      refine aw_seq ?_
      refine aw_region ?_
      refine rgp (op_field_lp rfl rfl Tryd_fld_25_0 rfl rfl) ?_
      refine rgp (op_load_lp (v := .pv (.int .i64 a1.fThis)) rfl rfl rfl rfl Tryd_one_3 rfl rfl) ?_
      refine rgp (op_build (zs := (eGVal zGVal)) (r := eGVal ({ fRef := true, fN := a1.fThis } : GVal)) rfl Tryd_zer_35 (by exact ⟨rfl, rfl, trivial⟩) Tryd_plc_35 rfl rfl rfl rfl) ?_
      refine rmv ?_
      refine rgp (op_build (zs := (eGGot_ref39 zGGot_ref39)) (r := eGGot_ref39 ({ fV := ({ fRef := true, fN := a1.fThis } : GVal), fLeft := a2, fEnd := 0 } : GGot_ref39)) rfl Tryd_zer_39 (by exact ⟨rfl, rfl, trivial, rfl, trivial⟩) Tryd_plc_39 rfl rfl rfl rfl) ?_
      refine rgp (op_store_lp (n := 4) rfl rfl rfl rfl rfl (or_agg Tryd_agg_39) (by rw [Tryd_non_39]; rfl) rfl rfl rfl) ?_
      refine reg_nil ?_
      refine post_imp (s' := ⟨124, [(8, some (.lp 0 0))], [(0, some (.box 39 (bxv (eGGot_ref39 ({ fV := ({ fRef := true, fN := a1.fThis } : GVal), fLeft := a2, fEnd := 0 } : GGot_ref39)))))], 1, [], [], 0, []⟩) (imps [2] ⟨by kernel_rfl, trivial⟩ ⟨by kernel_rfl, trivial⟩) ?_
      refine post_next ?_
      refine aw_ret ?_
      refine post_then_ret ?_
      obtain rfl := Option.some.inj hF
      exact post_ret rfl rfl (.cons _ _ _ _ _ (.agg _ _ _ _ _ 4 _ _ rfl rfl Tryd_agg_39 rfl rfl rfl) (.p _) .nil) (.inl rfl)
    refine aw_cond_f rfl hb10 ?_
    refine aw_skip ?_
    refine post_next ?_
    iterate 2 (refine aw_seq ?_)
    refine aw_region ?_
    refine rgp (op_field_lp rfl rfl Tryd_fld_31_0 rfl rfl) ?_
    refine rgp (op_load_lp (v := .pv (.int .i64 a3.fKind)) rfl rfl rfl rfl Tryd_one_3 rfl rfl) ?_
    refine rgp (op_int (k := .i64) (m := a3.fKind) (n := 4) rfl rfl rfl rfl rfl rfl) ?_
    refine reg_nil ?_
    refine post_imp (s' := ⟨124, [(0, some (.pv (.vs 7 (List.map eGClass a0)))), (2, some (.pv (.vs 1 (List.map eI a2)))), (5, some (.lp 0 0)), (7, some (.lp 1 0)), (8, some (.lp 2 0)), (49, some (.pv (.bool (a3.fKind == 4))))], [(0, some (.box 25 (bxv (eGFrame a1)))), (1, some (.box 31 (bxv (eGExpr a3)))), (2, some (.box 39 (bxv (eGGot_ref39 zGGot_ref39))))], 3, [], [], 0, []⟩) (imps [0, 1, 2] ⟨by kernel_rfl, by kernel_rfl, by kernel_rfl, by kernel_rfl, by kernel_rfl, by kernel_rfl, trivial⟩ ⟨by kernel_rfl, by kernel_rfl, by kernel_rfl, trivial⟩) ?_
    refine post_next ?_
    rcases ite_some hF with ⟨hb11, hF⟩ | ⟨hb11, hF⟩
    · refine aw_cond_t rfl hb11 ?_
      refine aw_seq ?_
      refine aw_region ?_
      refine rgp (op_build (zs := (eGVal zGVal)) (r := eGVal ({ fRef := true, fN := 0 } : GVal)) rfl Tryd_zer_35 (by exact ⟨rfl, rfl, trivial⟩) Tryd_plc_35 rfl rfl rfl rfl) ?_
      refine rmv ?_
      refine rgp (op_build (zs := (eGGot_ref39 zGGot_ref39)) (r := eGGot_ref39 ({ fV := ({ fRef := true, fN := 0 } : GVal), fLeft := a2, fEnd := 0 } : GGot_ref39)) rfl Tryd_zer_39 (by exact ⟨rfl, rfl, trivial, rfl, trivial⟩) Tryd_plc_39 rfl rfl rfl rfl) ?_
      refine rgp (op_store_lp (n := 4) rfl rfl rfl rfl rfl (or_agg Tryd_agg_39) (by rw [Tryd_non_39]; rfl) rfl rfl rfl) ?_
      refine reg_nil ?_
      refine post_imp (s' := ⟨124, [(8, some (.lp 0 0))], [(0, some (.box 39 (bxv (eGGot_ref39 ({ fV := ({ fRef := true, fN := 0 } : GVal), fLeft := a2, fEnd := 0 } : GGot_ref39)))))], 1, [], [], 0, []⟩) (imps [2] ⟨by kernel_rfl, trivial⟩ ⟨by kernel_rfl, trivial⟩) ?_
      refine post_next ?_
      refine aw_ret ?_
      refine post_then_ret ?_
      obtain rfl := Option.some.inj hF
      exact post_ret rfl rfl (.cons _ _ _ _ _ (.agg _ _ _ _ _ 4 _ _ rfl rfl Tryd_agg_39 rfl rfl rfl) (.p _) .nil) (.inl rfl)
    refine aw_cond_f rfl hb11 ?_
    refine aw_skip ?_
    refine post_next ?_
    iterate 2 (refine aw_seq ?_)
    obtain ⟨x13, hF, hK15⟩ := bind_some hF
    refine aw_cut (fun s1 => s1 = ⟨124, [(0, some (.pv (.vs 7 (List.map eGClass a0)))), (2, some (.pv (.vs 1 (List.map eI a2)))), (5, some (.lp 0 0)), (7, some (.lp 1 0)), (8, some (.lp 2 0)), (60, some (.pv (.bool x13)))], [(0, some (.box 25 (bxv (eGFrame a1)))), (1, some (.box 31 (bxv (eGExpr a3)))), (2, some (.box 39 (bxv (eGGot_ref39 zGGot_ref39))))], 3, [], [], 0, []⟩) ?_ ?_
    · refine aw_region ?_
      refine rgp (op_field_lp rfl rfl Tryd_fld_31_0 rfl rfl) ?_
      refine rgp (op_load_lp (v := .pv (.int .i64 a3.fKind)) rfl rfl rfl rfl Tryd_one_3 rfl rfl) ?_
      refine rgp (op_int (k := .i64) (m := a3.fKind) (n := 5) rfl rfl rfl rfl rfl rfl) ?_
      refine rmv ?_
      rcases ite_some hF with ⟨hb12, hF⟩ | ⟨hb12, hF⟩
      · refine rgn hb12 (op_move rfl rfl rfl rfl) ?_
        refine rgn hb12 (op_len_vs (n := a2.length) rfl rfl (List.length_map ..) Tryd_slc_26 rfl rfl) ?_
        refine rgn hb12 (op_int (k := .i64) (m := (a2.length : Int)) (n := 0) rfl rfl rfl rfl rfl rfl) ?_
        refine rpt hb12 ?_
        refine reg_nil ?_
        cases hF
        exact post_cut _ rfl (imps [0, 1, 2] ⟨by kernel_rfl, by kernel_rfl, by kernel_rfl, by kernel_rfl, by kernel_rfl, by kernel_rfl, trivial⟩ ⟨by kernel_rfl, by kernel_rfl, by kernel_rfl, trivial⟩)
      iterate 3 (refine rgo_f hb12 ?_)
      refine rpf hb12 ?_
      refine reg_nil ?_
      cases hF
      exact post_cut _ rfl (imps [0, 1, 2] ⟨by kernel_rfl, by kernel_rfl, by kernel_rfl, by kernel_rfl, by kernel_rfl, by kernel_rfl, trivial⟩ ⟨by kernel_rfl, by kernel_rfl, by kernel_rfl, trivial⟩)
    rintro _ rfl
    have hF := hK15
    clear hK15
    refine post_next ?_
    rcases ite_some hF with ⟨hb16, hF⟩ | ⟨hb16, hF⟩
    · refine aw_cond_t rfl hb16 ?_
      refine aw_seq ?_
      refine aw_region ?_
      refine rmv ?_
      refine rgp (op_build (zs := (eGGot_ref39 zGGot_ref39)) (r := eGGot_ref39 ({ fV := zGVal, fLeft := a2, fEnd := 0 } : GGot_ref39)) rfl Tryd_zer_39 (by exact ⟨rfl, rfl, trivial, rfl, trivial⟩) Tryd_plc_39 rfl rfl rfl rfl) ?_
      refine rgp (op_store_lp (n := 4) rfl rfl rfl rfl rfl (or_agg Tryd_agg_39) (by rw [Tryd_non_39]; rfl) rfl rfl rfl) ?_
      refine reg_nil ?_
      refine post_imp (s' := ⟨124, [(8, some (.lp 0 0))], [(0, some (.box 39 (bxv (eGGot_ref39 ({ fV := zGVal, fLeft := a2, fEnd := 0 } : GGot_ref39)))))], 1, [], [], 0, []⟩) (imps [2] ⟨by kernel_rfl, trivial⟩ ⟨by kernel_rfl, trivial⟩) ?_
      refine post_next ?_
      refine aw_ret ?_
      refine post_then_ret ?_
      obtain rfl := Option.some.inj hF
      exact post_ret rfl rfl (.cons _ _ _ _ _ (.agg _ _ _ _ _ 4 _ _ rfl rfl Tryd_agg_39 rfl rfl rfl) (.p _) .nil) (.inl rfl)
    refine aw_cond_f rfl hb16 ?_
    refine aw_skip ?_
    refine post_next ?_
    iterate 2 (refine aw_seq ?_)
    refine aw_region ?_
    refine rgp (op_field_lp rfl rfl Tryd_fld_31_0 rfl rfl) ?_
    refine rgp (op_load_lp (v := .pv (.int .i64 a3.fKind)) rfl rfl rfl rfl Tryd_one_3 rfl rfl) ?_
    refine rgp (op_int (k := .i64) (m := a3.fKind) (n := 5) rfl rfl rfl rfl rfl rfl) ?_
    refine reg_nil ?_
    refine post_imp (s' := ⟨124, [(0, some (.pv (.vs 7 (List.map eGClass a0)))), (2, some (.pv (.vs 1 (List.map eI a2)))), (5, some (.lp 0 0)), (7, some (.lp 1 0)), (8, some (.lp 2 0)), (65, some (.pv (.bool (a3.fKind == 5))))], [(0, some (.box 25 (bxv (eGFrame a1)))), (1, some (.box 31 (bxv (eGExpr a3)))), (2, some (.box 39 (bxv (eGGot_ref39 zGGot_ref39))))], 3, [], [], 0, []⟩) (imps [0, 1, 2] ⟨by kernel_rfl, by kernel_rfl, by kernel_rfl, by kernel_rfl, by kernel_rfl, by kernel_rfl, trivial⟩ ⟨by kernel_rfl, by kernel_rfl, by kernel_rfl, trivial⟩) ?_
    refine post_next ?_
    rcases ite_some hF with ⟨hb17, hF⟩ | ⟨hb17, hF⟩
    · refine aw_cond_t rfl hb17 ?_
      refine aw_seq ?_
      refine dr_start ⟨_, _, _⟩ rfl ?_
      refine drm ?_
      obtain ⟨y18, h19, hF⟩ := bind_some hF
      refine dr_cons { need := [(66, .pv (.vs 1 (List.map eI a2)))], dst := some 67, val := some (.pv (.vp (eI y18))) } (fun m h => step_on (guard_no rfl) (op_index_vs (k := .i64) rfl h.1.1 rfl (idx_map eI h19) Tryd_slc_26 rfl rfl) rfl) ⟨⟨rfl, trivial⟩, trivial, trivial⟩ ?_
      refine dr_cons { need := [(67, .pv (.vp (eI y18)))], dst := some 68, val := some (.pv (.int .i64 y18)) } (fun m h => step_on (guard_no rfl) (op_load_vp (p := .int .i64 y18) rfl h.1.1 rfl Tryd_one_3 rfl rfl) rfl) ⟨⟨rfl, trivial⟩, trivial, trivial⟩ ?_
      refine dr_cons { need := [(68, .pv (.int .i64 y18))], dst := some 69, val := some (.pv (.agg (eGVal ({ fRef := false, fN := y18 } : GVal)))) } (fun m h => step_on (guard_no rfl) (op_build (zs := (eGVal zGVal)) (r := eGVal ({ fRef := false, fN := y18 } : GVal)) rfl Tryd_zer_35 (by exact ⟨rfl, rfl, trivial⟩) Tryd_plc_35 (evs_cons h.1.1 evs_nil) rfl rfl rfl) rfl) ⟨⟨rfl, trivial⟩, trivial, trivial⟩ ?_
      refine drm ?_
      obtain ⟨y20, h21, hF⟩ := bind_some hF
      refine dr_cons { need := [(70, .pv (.vs 1 (List.map eI a2)))], dst := some 71, val := some (.pv (.vs 1 (List.map eI y20))) } (fun m h => step_on (guard_no rfl) (op_slice_vs (nl := (some 1)) (nh := none) (nm := none) rfl h.1.1 rfl rfl rfl (.inl rfl) Tryd_slc_26 (cut_map (nl := (some 1)) (nh := none) eI h21) rfl rfl) rfl) ⟨⟨rfl, trivial⟩, trivial, trivial⟩ ?_
      refine dr_cons { need := [(71, .pv (.vs 1 (List.map eI y20))), (69, .pv (.agg (eGVal ({ fRef := false, fN := y18 } : GVal))))], dst := some 72, val := some (.pv (.agg (eGGot_ref39 ({ fV := ({ fRef := false, fN := y18 } : GVal), fLeft := y20, fEnd := 0 } : GGot_ref39)))) } (fun m h => step_on (guard_no rfl) (op_build (zs := (eGGot_ref39 zGGot_ref39)) (r := eGGot_ref39 ({ fV := ({ fRef := false, fN := y18 } : GVal), fLeft := y20, fEnd := 0 } : GGot_ref39)) rfl Tryd_zer_39 (by exact ⟨rfl, rfl, trivial, rfl, trivial⟩) Tryd_plc_39 (evs_cons h.1.2.1 (evs_cons h.1.1 evs_nil)) rfl rfl rfl) rfl) ⟨⟨rfl, rfl, trivial⟩, trivial, trivial⟩ ?_
      refine dr_cons { need := [(8, .lp 2 0), (72, .pv (.agg (eGGot_ref39 ({ fV := ({ fRef := false, fN := y18 } : GVal), fLeft := y20, fEnd := 0 } : GGot_ref39))))], hneed := [(2, .box 39 (bxv (eGGot_ref39 zGGot_ref39)))], upd := [(2, some (.box 39 (bxv (eGGot_ref39 ({ fV := ({ fRef := false, fN := y18 } : GVal), fLeft := y20, fEnd := 0 } : GGot_ref39)))))] } (fun m h => step_on (guard_no rfl) (op_store_lp (n := 4) rfl h.1.1 h.1.2.1 rfl h.2.1.1 (or_agg Tryd_agg_39) (by rw [Tryd_non_39]; rfl) rfl rfl rfl) rfl) ⟨⟨rfl, rfl, trivial⟩, ⟨rfl, trivial⟩, trivial⟩ ?_
      refine dr_nil Tryd_mixed rfl (by kernel_rfl) ?_
      refine post_imp (s' := ⟨124, [(8, some (.lp 0 0))], [(0, some (.box 39 (bxv (eGGot_ref39 ({ fV := ({ fRef := false, fN := y18 } : GVal), fLeft := y20, fEnd := 0 } : GGot_ref39)))))], 1, [], [], 0, []⟩) (imps [2] ⟨by kernel_rfl, trivial⟩ ⟨by kernel_rfl, trivial⟩) ?_
      refine post_next ?_
      refine aw_ret ?_
      refine post_then_ret ?_
      obtain rfl := Option.some.inj hF
      exact post_ret rfl rfl (.cons _ _ _ _ _ (.agg _ _ _ _ _ 4 _ _ rfl rfl Tryd_agg_39 rfl rfl rfl) (.p _) .nil) (.inl rfl)
    refine aw_cond_f rfl hb17 ?_
    refine aw_skip ?_
    refine post_next ?_
    refine aw_seq ?_
    refine aw_region ?_
    refine rgp (op_alloc 3 rfl (ps := ((eA2 eI) (⟨0, 0⟩ : A2 Int))) rfl Tryd_zer_124 (by exact ⟨rfl, rfl, trivial⟩) rfl rfl) ?_
    refine reg_nil ?_
    refine post_imp (s' := ⟨124, [(0, some (.pv (.vs 7 (List.map eGClass a0)))), (2, some (.pv (.vs 1 (List.map eI a2)))), (5, some (.lp 0 0)), (7, some (.lp 1 0)), (8, some (.lp 2 0)), (11, some (.lp 3 0))], [(0, some (.box 25 (bxv (eGFrame a1)))), (1, some (.box 31 (bxv (eGExpr a3)))), (2, some (.box 39 (bxv (eGGot_ref39 zGGot_ref39)))), (3, some (.box 124 (bxv ((eA2 eI) (⟨0, 0⟩ : A2 Int)))))], 4, [], [], 0, []⟩) (imps [0, 1, 2, 3] ⟨by kernel_rfl, by kernel_rfl, by kernel_rfl, by kernel_rfl, by kernel_rfl, by kernel_rfl, trivial⟩ ⟨by kernel_rfl, by kernel_rfl, by kernel_rfl, by kernel_rfl, trivial⟩) ?_
    refine post_next ?_
    iterate 2 (refine aw_seq ?_)
    refine aw_region ?_
    refine ras ?_
    refine reg_nil ?_
    refine post_imp (s' := ⟨124, [(0, some (.pv (.vs 7 (List.map eGClass a0)))), (2, some (.pv (.vs 1 (List.map eI a2)))), (5, some (.lp 0 0)), (7, some (.lp 1 0)), (8, some (.lp 2 0)), (11, some (.lp 3 0)), (12, some (.pv (.int .i64 0)))], [(0, some (.box 25 (bxv (eGFrame a1)))), (1, some (.box 31 (bxv (eGExpr a3)))), (2, some (.box 39 (bxv (eGGot_ref39 zGGot_ref39)))), (3, some (.box 124 (bxv ((eA2 eI) (⟨0, 0⟩ : A2 Int)))))], 4, [], [], 0, []⟩) (imps [0, 1, 2, 3] ⟨by kernel_rfl, by kernel_rfl, by kernel_rfl, by kernel_rfl, by kernel_rfl, by kernel_rfl, by kernel_rfl, trivial⟩ ⟨by kernel_rfl, by kernel_rfl, by kernel_rfl, by kernel_rfl, trivial⟩) ?_
    refine post_next ?_
    obtain ⟨lr92, hF, hK93⟩ := bind_some hF
    refine aw_for ((((a3.fKids.length : Int) : Int) - (0)).toNat + 1) (fun s1 => ∃ q, lr92 = .next q ∧ s1 = ⟨124, [(2, some (.pv (.vs 1 (List.map eI q.1)))), (7, some (.lp 0 0)), (8, some (.lp 1 0)), (11, some (.lp 2 0))], [(0, some (.box 31 (bxv (eGExpr a3)))), (1, some (.box 39 (bxv (eGGot_ref39 zGGot_ref39)))), (2, some (.box 124 (bxv ((eA2 eI) q.2))))], 3, [], [], 0, []⟩) ?_ ?_
    · refine rnd_loop (α := (List Int) × (A2 Int) × Int) (fun q => ⟨124, [(0, some (.pv (.vs 7 (List.map eGClass a0)))), (2, some (.pv (.vs 1 (List.map eI q.1)))), (5, some (.lp 0 0)), (7, some (.lp 1 0)), (8, some (.lp 2 0)), (11, some (.lp 3 0)), (12, some (.pv (.int .i64 q.2.2)))], [(0, some (.box 25 (bxv (eGFrame a1)))), (1, some (.box 31 (bxv (eGExpr a3)))), (2, some (.box 39 (bxv (eGGot_ref39 zGGot_ref39)))), (3, some (.box 124 (bxv ((eA2 eI) q.2.1))))], 4, [], [], 0, []⟩) (fun k q => ref39_of_L1 a0 a1 a3 ref39_of_rec k q.1 q.2.1 q.2.2 = some lr92) (a2, (⟨0, 0⟩ : A2 Int), 0) (imps [0, 1, 2, 3] ⟨by kernel_rfl, by kernel_rfl, by kernel_rfl, by kernel_rfl, by kernel_rfl, by kernel_rfl, by kernel_rfl, trivial⟩ ⟨by kernel_rfl, by kernel_rfl, by kernel_rfl, by kernel_rfl, trivial⟩) hF (fun q h => by cases h) ?_
      clear hF
      rintro k ⟨x39, x40, x41⟩ hF ih
      refine rnd_succ ?_
      iterate 2 (refine aw_seq ?_)
      refine aw_region ?_
      refine rmv ?_
      refine rgp (op_field_lp rfl rfl Tryd_fld_31_3 rfl rfl) ?_
      refine rgp (op_load_lp (v := .pv (.vs 4 (eLGExpr a3.fKids))) rfl rfl rfl rfl Tryd_one_29 rfl rfl) ?_
      refine rgp (op_len_vs (n := a3.fKids.length) rfl rfl (lenR eLGExpr_map) Tryd_slc_29 rfl rfl) ?_
      refine rgp (op_int (k := .i64) (m := x41) (n := (a3.fKids.length : Int)) rfl rfl rfl rfl rfl rfl) ?_
      refine reg_nil ?_
      refine post_imp (s' := ⟨124, [(0, some (.pv (.vs 7 (List.map eGClass a0)))), (2, some (.pv (.vs 1 (List.map eI x39)))), (5, some (.lp 0 0)), (7, some (.lp 1 0)), (8, some (.lp 2 0)), (11, some (.lp 3 0)), (12, some (.pv (.int .i64 x41))), (77, some (.pv (.bool (decide (x41 < (a3.fKids.length : Int))))))], [(0, some (.box 25 (bxv (eGFrame a1)))), (1, some (.box 31 (bxv (eGExpr a3)))), (2, some (.box 39 (bxv (eGGot_ref39 zGGot_ref39)))), (3, some (.box 124 (bxv ((eA2 eI) x40))))], 4, [], [], 0, []⟩) (imps [0, 1, 2, 3] ⟨by kernel_rfl, by kernel_rfl, by kernel_rfl, by kernel_rfl, by kernel_rfl, by kernel_rfl, by kernel_rfl, by kernel_rfl, trivial⟩ ⟨by kernel_rfl, by kernel_rfl, by kernel_rfl, by kernel_rfl, trivial⟩) ?_
      refine post_next ?_
      rcases ite_some hF with ⟨hb66, hF⟩ | ⟨hb66, hF⟩
      · refine aw_cond_t rfl hb66 ?_
        refine aw_skip ?_
        refine post_next ?_
        refine aw_seq ?_
        refine aw_block ?_
        refine aw_seq ?_
        refine aw_imp (imp_names 1) ?_
        refine dr_start ⟨_, _, _⟩ rfl ?_
        refine drm ?_
        refine dr_cons { need := [(5, .lp 0 0)], hneed := [(0, .box 25 (bxv (eGFrame a1)))], dst := some 81, val := some (.pv (.agg (eGFrame a1))) } (fun m h => step_on (guard_no rfl) (op_load_lp_agg (ps := eGFrame a1) rfl h.1.1 h.2.1.1 rfl rfl rfl Tryd_agg_25 rfl rfl) rfl) ⟨⟨rfl, trivial⟩, ⟨rfl, trivial⟩, trivial⟩ ?_
        refine drm ?_
        refine dr_cons { need := [(7, .lp 1 0)], dst := some 83, val := some (.lp 1 3) } (fun m h => step_on (guard_no rfl) (op_field_lp rfl h.1.1 Tryd_fld_31_3 rfl rfl) rfl) ⟨⟨rfl, trivial⟩, trivial, trivial⟩ ?_
        refine dr_cons { need := [(83, .lp 1 3)], hneed := [(1, .box 31 (bxv (eGExpr a3)))], dst := some 84, val := some (.pv (.vs 4 (eLGExpr a3.fKids))) } (fun m h => step_on (guard_no rfl) (op_load_lp (v := .pv (.vs 4 (eLGExpr a3.fKids))) rfl h.1.1 h.2.1.1 rfl Tryd_one_29 rfl rfl) rfl) ⟨⟨rfl, trivial⟩, ⟨rfl, trivial⟩, trivial⟩ ?_
        refine drm ?_
        obtain ⟨y71, h72, hF⟩ := bind_some hF
        refine dr_cons { need := [(84, .pv (.vs 4 (eLGExpr a3.fKids))), (85, .pv (.int .i64 x41))], dst := some 86, val := some (.pv (.vp (eGExpr y71))) } (fun m h => step_on (guard_no rfl) (op_index_vs (k := .i64) rfl h.1.1 h.1.2.1 (idxR eLGExpr_map h72) Tryd_slc_29 rfl rfl) rfl) ⟨⟨rfl, rfl, trivial⟩, trivial, trivial⟩ ?_
        refine dr_cons { need := [(86, .pv (.vp (eGExpr y71)))], dst := some 87, val := some (.pv (.agg (eGExpr y71))) } (fun m h => step_on (guard_no rfl) (op_load_vp_agg (ps := eGExpr y71) rfl h.1.1 rfl rfl Tryd_agg_31 rfl rfl) rfl) ⟨⟨rfl, trivial⟩, trivial, trivial⟩ ?_
        obtain ⟨y73, h74, hF⟩ := bind_some hF
        refine dr_cons { need := [(87, .pv (.agg (eGExpr y71))), (82, .pv (.vs 1 (List.map eI x39))), (81, .pv (.agg (eGFrame a1))), (80, .pv (.vs 7 (List.map eGClass a0)))], dst := some 88, val := some (.pv (.agg (eGGot_ref39 y73))) } (fun m h => step_on (guard_no rfl) (op_call 5 rfl (caps := []) (args := [.vs 7 (List.map eGClass a0), .agg (eGFrame a1), .vs 1 (List.map eI x39), .agg (eGExpr y71)]) (rs := [.p (.agg (eGGot_ref39 y73))]) rfl rfl (evl_cons h.1.2.2.2.1 (evl_cons h.1.2.2.1 (evl_cons h.1.2.1 (evl_cons h.1.1 evl_nil)))) Tryd_cal_32 (ref39_of_ih _ _ _ _ _ h74) rfl rfl rfl) rfl) ⟨⟨rfl, rfl, rfl, rfl, trivial⟩, trivial, trivial⟩ ?_
        refine dr_cons { names := [4], dst := some 13, val := some (.lp 4 0), upd := [(4, some (.box 39 (bxv (eGGot_ref39 zGGot_ref39))))] } (fun m h => step_on (guard_no rfl) (op_alloc 4 (fresh_free h.2.2.1) (ps := (eGGot_ref39 zGGot_ref39)) rfl Tryd_zer_39 (by exact ⟨rfl, rfl, trivial, rfl, trivial⟩) rfl rfl) rfl) ⟨trivial, trivial, ⟨rfl, trivial⟩⟩ ?_
        refine dr_cons { need := [(13, .lp 4 0), (88, .pv (.agg (eGGot_ref39 y73)))], hneed := [(4, .box 39 (bxv (eGGot_ref39 zGGot_ref39)))], upd := [(4, some (.box 39 (bxv (eGGot_ref39 y73))))] } (fun m h => step_on (guard_no rfl) (op_store_lp (n := 4) rfl h.1.1 h.1.2.1 rfl h.2.1.1 (or_agg Tryd_agg_39) (by rw [Tryd_non_39]; rfl) rfl rfl rfl) rfl) ⟨⟨rfl, rfl, trivial⟩, ⟨rfl, trivial⟩, trivial⟩ ?_
        refine dr_nil Tryd_mixed rfl (by kernel_rfl) ?_
        refine post_imp (s' := ⟨124, [(0, some (.pv (.vs 7 (List.map eGClass a0)))), (5, some (.lp 0 0)), (7, some (.lp 1 0)), (8, some (.lp 2 0)), (11, some (.lp 3 0)), (12, some (.pv (.int .i64 x41))), (13, some (.lp 4 0))], [(0, some (.box 25 (bxv (eGFrame a1)))), (1, some (.box 31 (bxv (eGExpr a3)))), (2, some (.box 39 (bxv (eGGot_ref39 zGGot_ref39)))), (3, some (.box 124 (bxv ((eA2 eI) x40)))), (4, some (.box 39 (bxv (eGGot_ref39 y73))))], 5, [], [], 0, []⟩) (imps [0, 1, 2, 3, 4] ⟨by kernel_rfl, by kernel_rfl, by kernel_rfl, by kernel_rfl, by kernel_rfl, by kernel_rfl, by kernel_rfl, trivial⟩ ⟨by kernel_rfl, by kernel_rfl, by kernel_rfl, by kernel_rfl, by kernel_rfl, trivial⟩) ?_
        refine post_next ?_
        iterate 2 (refine aw_seq ?_)
        obtain ⟨x77, hF, hK79⟩ := bind_some hF
        refine aw_cut (fun s1 => s1 = ⟨124, [(0, some (.pv (.vs 7 (List.map eGClass a0)))), (5, some (.lp 0 0)), (7, some (.lp 1 0)), (8, some (.lp 2 0)), (11, some (.lp 3 0)), (12, some (.pv (.int .i64 x41))), (13, some (.lp 4 0)), (105, some (.pv (.bool x77)))], [(0, some (.box 25 (bxv (eGFrame a1)))), (1, some (.box 31 (bxv (eGExpr a3)))), (2, some (.box 39 (bxv (eGGot_ref39 zGGot_ref39)))), (3, some (.box 124 (bxv ((eA2 eI) x40)))), (4, some (.box 39 (bxv (eGGot_ref39 y73))))], 5, [], [], 0, []⟩) ?_ ?_
        · refine aw_region ?_
          refine rgp (op_field_lp rfl rfl Tryd_fld_39_2 rfl rfl) ?_
          refine rgp (op_load_lp (v := .pv (.int .i64 y73.fEnd)) rfl rfl rfl rfl Tryd_one_3 rfl rfl) ?_
          refine rgp (op_int (k := .i64) (m := y73.fEnd) (n := 0) rfl rfl rfl rfl rfl rfl) ?_
          refine rmv ?_
          rcases ite_some hF with ⟨hb75, hF⟩ | ⟨hb75, hF⟩
          · refine rgo_t hb75 ?_
            iterate 6 (refine rgo_t hb75 ?_)
            iterate 3 (refine rgu ?_)
            iterate 2 (refine rgo_t hb75 ?_)
            refine rpt hb75 ?_
            refine reg_nil ?_
            cases hF
            exact post_cut _ rfl (imps [0, 1, 2, 3, 4] ⟨by kernel_rfl, by kernel_rfl, by kernel_rfl, by kernel_rfl, by kernel_rfl, by kernel_rfl, by kernel_rfl, by kernel_rfl, trivial⟩ ⟨by kernel_rfl, by kernel_rfl, by kernel_rfl, by kernel_rfl, by kernel_rfl, trivial⟩)
          refine rgn hb75 (op_field_lp rfl rfl Tryd_fld_39_0 rfl rfl) ?_
          refine rgn hb75 (op_field_lp rfl rfl Tryd_fld_35_0 rfl rfl) ?_
          refine rgn hb75 (op_load_lp (v := .pv (.bool y73.fV.fRef)) rfl rfl rfl rfl Tryd_one_4 rfl rfl) ?_
          refine rgn hb75 (op_field_lp rfl rfl Tryd_fld_31_0 rfl rfl) ?_
          refine rgn hb75 (op_load_lp (v := .pv (.int .i64 a3.fKind)) rfl rfl rfl rfl Tryd_one_3 rfl rfl) ?_
          refine rgn hb75 (op_int (k := .i64) (m := a3.fKind) (n := 13) rfl rfl rfl rfl rfl rfl) ?_
          refine rgn hb75 (op_move rfl rfl rfl rfl) ?_
          rcases ite_some hF with ⟨hb76, hF⟩ | ⟨hb76, hF⟩
          · refine rgo_t hb76 ?_
            iterate 2 (refine rgo_t hb76 ?_)
            refine rgn hb75 (op_pick_t rfl rfl hb76 rfl rfl rfl) ?_
            refine rgn hb75 (op_eqBool_neq rfl rfl rfl Tryd_und_4 rfl rfl) ?_
            refine rpf hb75 ?_
            refine reg_nil ?_
            cases hF
            exact post_cut _ rfl (imps [0, 1, 2, 3, 4] ⟨by kernel_rfl, by kernel_rfl, by kernel_rfl, by kernel_rfl, by kernel_rfl, by kernel_rfl, by kernel_rfl, by kernel_rfl, trivial⟩ ⟨by kernel_rfl, by kernel_rfl, by kernel_rfl, by kernel_rfl, by kernel_rfl, trivial⟩)
          refine rgn hb76 (op_field_lp rfl rfl Tryd_fld_31_0 rfl rfl) ?_
          refine rgn hb76 (op_load_lp (v := .pv (.int .i64 a3.fKind)) rfl rfl rfl rfl Tryd_one_3 rfl rfl) ?_
          refine rgn hb76 (op_int (k := .i64) (m := a3.fKind) (n := 14) rfl rfl rfl rfl rfl rfl) ?_
          refine rgn hb75 (op_pick_f rfl rfl hb76 rfl rfl rfl) ?_
          refine rgn hb75 (op_eqBool_neq rfl rfl rfl Tryd_und_4 rfl rfl) ?_
          refine rpf hb75 ?_
          refine reg_nil ?_
          cases hF
          exact post_cut _ rfl (imps [0, 1, 2, 3, 4] ⟨by kernel_rfl, by kernel_rfl, by kernel_rfl, by kernel_rfl, by kernel_rfl, by kernel_rfl, by kernel_rfl, by kernel_rfl, trivial⟩ ⟨by kernel_rfl, by kernel_rfl, by kernel_rfl, by kernel_rfl, by kernel_rfl, trivial⟩)
        rintro _ rfl
        have hF := hK79
        clear hK79
        refine post_next ?_
        rcases ite_some hF with ⟨hb80, hF⟩ | ⟨hb80, hF⟩
        · refine aw_cond_t rfl hb80 ?_
          refine aw_seq ?_
          refine aw_region ?_
          obtain ⟨y81, h82, hF⟩ := bind_some hF
          refine rgp (op_call 5 rfl (caps := []) (args := []) (rs := [.p (.agg (eGGot_ref39 y81))]) rfl rfl rfl Tryd_cal_31 (ref39_bad_ok h82) rfl rfl rfl) ?_
          refine rgp (op_store_lp (n := 4) rfl rfl rfl rfl rfl (or_agg Tryd_agg_39) (by rw [Tryd_non_39]; rfl) rfl rfl rfl) ?_
          refine reg_nil ?_
          refine post_imp (s' := ⟨124, [(8, some (.lp 0 0))], [(0, some (.box 39 (bxv (eGGot_ref39 y81))))], 1, [], [], 0, []⟩) (imps [2] ⟨by kernel_rfl, trivial⟩ ⟨by kernel_rfl, trivial⟩) ?_
          refine post_next ?_
          refine aw_ret ?_
          refine post_then_ret ?_
          refine post_block_ret ?_
          iterate 2 (refine post_then_ret ?_)
          refine post_lp_ret ?_
          obtain rfl := Option.some.inj hF
          have hF := elim_stop hK93
          refine post_then_ret ?_
          obtain rfl := Option.some.inj hF
          exact post_ret rfl rfl (.cons _ _ _ _ _ (.agg _ _ _ _ _ 4 _ _ rfl rfl Tryd_agg_39 rfl rfl rfl) (.p _) .nil) (.inl rfl)
        refine aw_cond_f rfl hb80 ?_
        refine aw_skip ?_
        refine post_next ?_
        refine aw_seq ?_
        refine aw_region ?_
        refine rmv ?_
        refine rgp (op_field_lp rfl rfl Tryd_fld_39_0 rfl rfl) ?_
        refine rgp (op_field_lp rfl rfl Tryd_fld_35_1 rfl rfl) ?_
        refine rgp (op_load_lp (v := .pv (.int .i64 y73.fV.fN)) rfl rfl rfl rfl Tryd_one_3 rfl rfl) ?_
        obtain ⟨y85, h86, hF⟩ := bind_some hF
        refine rgp (op_arr_lpN (l := (x40).l) rfl rfl rfl Tryd_arr_124 rfl h86 rfl rfl) ?_
        refine rgp (op_store_lpV (cells' := bxv ((eA2 eI) (A2.set x40 (x41 : Int).toNat y73.fV.fN))) (n := 1) rfl rfl rfl rfl rfl (or_one Tryd_one_3) (by rw [Tryd_one_3]; rfl) (by rcases idx_l2 h86 with e | e <;> rw [e] <;> exact Nat.le_of_ble_eq_true rfl) (by rcases idx_l2 h86 with e | e <;> rw [e] <;> rfl) rfl rfl) ?_
        refine reg_nil ?_
        refine post_imp (s' := ⟨124, [(0, some (.pv (.vs 7 (List.map eGClass a0)))), (5, some (.lp 0 0)), (7, some (.lp 1 0)), (8, some (.lp 2 0)), (11, some (.lp 3 0)), (12, some (.pv (.int .i64 x41))), (13, some (.lp 4 0))], [(0, some (.box 25 (bxv (eGFrame a1)))), (1, some (.box 31 (bxv (eGExpr a3)))), (2, some (.box 39 (bxv (eGGot_ref39 zGGot_ref39)))), (3, some (.box 124 (bxv ((eA2 eI) (A2.set x40 (x41 : Int).toNat y73.fV.fN))))), (4, some (.box 39 (bxv (eGGot_ref39 y73))))], 5, [], [], 0, []⟩) (imps [0, 1, 2, 3, 4] ⟨by kernel_rfl, by kernel_rfl, by kernel_rfl, by kernel_rfl, by kernel_rfl, by kernel_rfl, by kernel_rfl, trivial⟩ ⟨by kernel_rfl, by kernel_rfl, by kernel_rfl, by kernel_rfl, by kernel_rfl, trivial⟩) ?_
        refine post_next ?_
        refine aw_region ?_
        refine rgp (op_field_lp rfl rfl Tryd_fld_39_1 rfl rfl) ?_
        refine rgp (op_load_lp (v := .pv (.vs 1 (List.map eI y73.fLeft))) rfl rfl rfl rfl Tryd_one_26 rfl rfl) ?_
        refine ras ?_
        refine reg_nil ?_
        refine post_imp (s' := ⟨124, [(0, some (.pv (.vs 7 (List.map eGClass a0)))), (2, some (.pv (.vs 1 (List.map eI y73.fLeft)))), (5, some (.lp 0 0)), (7, some (.lp 1 0)), (8, some (.lp 2 0)), (11, some (.lp 3 0)), (12, some (.pv (.int .i64 x41)))], [(0, some (.box 25 (bxv (eGFrame a1)))), (1, some (.box 31 (bxv (eGExpr a3)))), (2, some (.box 39 (bxv (eGGot_ref39 zGGot_ref39)))), (3, some (.box 124 (bxv ((eA2 eI) (A2.set x40 (x41 : Int).toNat y73.fV.fN)))))], 4, [], [], 0, []⟩) (imps [0, 1, 2, 3] ⟨by kernel_rfl, by kernel_rfl, by kernel_rfl, by kernel_rfl, by kernel_rfl, by kernel_rfl, by kernel_rfl, trivial⟩ ⟨by kernel_rfl, by kernel_rfl, by kernel_rfl, by kernel_rfl, trivial⟩) ?_
        refine post_block_normal ?_
        refine post_next ?_
        refine aw_region ?_
        refine rmv ?_
        refine rgp (op_int (k := .i64) (m := x41) (n := 1) rfl rfl rfl rfl rfl rfl) ?_
        refine ras ?_
        refine reg_nil ?_
        refine post_round ?_
        exact rnd_back (ih (y73.fLeft, (A2.set x40 (x41 : Int).toNat y73.fV.fN), w_i64 (x41 + 1)) hF) (imps [0, 1, 2, 3] ⟨by kernel_rfl, by kernel_rfl, by kernel_rfl, by kernel_rfl, by kernel_rfl, by kernel_rfl, by kernel_rfl, trivial⟩ ⟨by kernel_rfl, by kernel_rfl, by kernel_rfl, by kernel_rfl, trivial⟩)
      refine aw_cond_f rfl hb66 ?_
      refine aw_exit ?_
      iterate 2 (refine post_then_exit ?_)
      obtain rfl := Option.some.inj hF
      exact post_lp_break _ ⟨_, rfl, rfl⟩ (imps [1, 2, 3] ⟨by kernel_rfl, by kernel_rfl, by kernel_rfl, by kernel_rfl, trivial⟩ ⟨by kernel_rfl, by kernel_rfl, by kernel_rfl, trivial⟩)
    rintro _ ⟨⟨x90, x91⟩, rfl, rfl⟩
    have hF := elim_next hK93
    clear hK93
    refine post_next ?_
    refine aw_seq ?_
    refine aw_region ?_
    refine rgp (op_field_lp rfl rfl Tryd_fld_31_0 rfl rfl) ?_
    refine rgp (op_load_lp (v := .pv (.int .i64 a3.fKind)) rfl rfl rfl rfl Tryd_one_3 rfl rfl) ?_
    refine rgp (op_arr_lp (k := .i64) (m := 0) (n := 2) rfl rfl rfl Tryd_arr_124 rfl rfl rfl rfl) ?_
    refine rgp (op_load_lp (v := .pv (.int .i64 x91.a0)) rfl rfl rfl rfl Tryd_one_3 rfl rfl) ?_
    refine rgp (op_arr_lp (k := .i64) (m := 1) (n := 2) rfl rfl rfl Tryd_arr_124 rfl rfl rfl rfl) ?_
    refine rgp (op_load_lp (v := .pv (.int .i64 x91.a1)) rfl rfl rfl rfl Tryd_one_3 rfl rfl) ?_
    obtain ⟨y94, h95, hF⟩ := bind_some hF
    refine rgp (op_call 3 rfl (caps := []) (args := [.int .i64 a3.fKind, .int .i64 x91.a0, .int .i64 x91.a1]) (rs := [.p (.int .i64 y94)]) rfl rfl rfl Tryd_cal_58 (ref39_sign_ok h95) rfl rfl rfl) ?_
    refine rgp (op_build (zs := (eGVal zGVal)) (r := eGVal ({ fRef := false, fN := y94 } : GVal)) rfl Tryd_zer_35 (by exact ⟨rfl, rfl, trivial⟩) Tryd_plc_35 rfl rfl rfl rfl) ?_
    refine rmv ?_
    refine rgp (op_build (zs := (eGGot_ref39 zGGot_ref39)) (r := eGGot_ref39 ({ fV := ({ fRef := false, fN := y94 } : GVal), fLeft := x90, fEnd := 0 } : GGot_ref39)) rfl Tryd_zer_39 (by exact ⟨rfl, rfl, trivial, rfl, trivial⟩) Tryd_plc_39 rfl rfl rfl rfl) ?_
    refine rgp (op_store_lp (n := 4) rfl rfl rfl rfl rfl (or_agg Tryd_agg_39) (by rw [Tryd_non_39]; rfl) rfl rfl rfl) ?_
    refine reg_nil ?_
    refine post_imp (s' := ⟨124, [(8, some (.lp 0 0))], [(0, some (.box 39 (bxv (eGGot_ref39 ({ fV := ({ fRef := false, fN := y94 } : GVal), fLeft := x90, fEnd := 0 } : GGot_ref39)))))], 1, [], [], 0, []⟩) (imps [1] ⟨by kernel_rfl, trivial⟩ ⟨by kernel_rfl, trivial⟩) ?_
    refine post_next ?_
    refine aw_ret ?_
    obtain rfl := Option.some.inj hF
    exact post_ret rfl rfl (.cons _ _ _ _ _ (.agg _ _ _ _ _ 4 _ _ rfl rfl Tryd_agg_39 rfl rfl rfl) (.p _) .nil) (.inl rfl)
theorem ref39_of_ok {n : Nat} {a0 : List GClass} {a1 : GFrame} {a2 : List Int} {a3 : GExpr} {r : GGot_ref39} (hF : ref39_of n a0 a1 a2 a3 = some r) : Abs.Fn globs_Tryd Tryd.prog 32 [.vs 7 (List.map eGClass a0), .agg (eGFrame a1), .vs 1 (List.map eI a2), .agg (eGExpr a3)] [.p (.agg (eGGot_ref39 r))] := (ref39_of_ring n) _ _ _ _ _ hF

theorem ref39_Of_ok {a0 : List GClass} {a1 : GFrame} {a2 : List Int} {a3 : GExpr} {r : GGot_ref39} (hF : ref39_Of a0 a1 a2 a3 = some r) : Abs.Fn globs_Tryd Tryd.prog 12 [.vs 7 (List.map eGClass a0), .agg (eGFrame a1), .vs 1 (List.map eI a2), .agg (eGExpr a3)] [.p (.agg (eGGot_ref39 r))] := by
  unfold ref39_Of at hF
  refine fn_of_body (n := 18) Tryd.func12 rfl rfl rfl ?_
  intro w O
  refine aw_seq ?_
  refine aw_region ?_
  refine rgp (op_box 0 rfl rfl rfl rfl rfl rfl) ?_
  refine rgp (op_box 1 rfl rfl rfl rfl rfl rfl) ?_
  refine rgp (op_alloc 2 rfl (ps := (eGGot_ref39 zGGot_ref39)) rfl Tryd_zer_39 (by exact ⟨rfl, rfl, trivial, rfl, trivial⟩) rfl rfl) ?_
  refine reg_nil ?_
  refine post_imp (s' := ⟨18, [(0, some (.pv (.vs 7 (List.map eGClass a0)))), (2, some (.pv (.vs 1 (List.map eI a2)))), (5, some (.lp 0 0)), (7, some (.lp 1 0)), (8, some (.lp 2 0))], [(0, some (.box 25 (bxv (eGFrame a1)))), (1, some (.box 31 (bxv (eGExpr a3)))), (2, some (.box 39 (bxv (eGGot_ref39 zGGot_ref39))))], 3, [], [], 0, []⟩) (imps [0, 1, 2] ⟨by kernel_rfl, by kernel_rfl, by kernel_rfl, by kernel_rfl, by kernel_rfl, trivial⟩ ⟨by kernel_rfl, by kernel_rfl, by kernel_rfl, trivial⟩) ?_
  refine post_next ?_
  iterate 2 (refine aw_seq ?_)
  refine aw_region ?_
  refine rgp (op_load_lp_agg (ps := eGExpr a3) rfl rfl rfl rfl rfl rfl Tryd_agg_31 rfl rfl) ?_
  obtain ⟨y3, h4, hF⟩ := bind_some hF
  refine rgp (op_call 3 rfl (caps := []) (args := [.agg (eGExpr a3)]) (rs := [.p (.bool y3)]) rfl rfl rfl Tryd_cal_30 (ref06_Right_ok h4) rfl rfl rfl) ?_
  refine rgp (op_not rfl rfl rfl rfl) ?_
  refine reg_nil ?_
  refine post_imp (s' := ⟨18, [(0, some (.pv (.vs 7 (List.map eGClass a0)))), (2, some (.pv (.vs 1 (List.map eI a2)))), (5, some (.lp 0 0)), (7, some (.lp 1 0)), (8, some (.lp 2 0)), (11, some (.pv (.bool (!y3))))], [(0, some (.box 25 (bxv (eGFrame a1)))), (1, some (.box 31 (bxv (eGExpr a3)))), (2, some (.box 39 (bxv (eGGot_ref39 zGGot_ref39))))], 3, [], [], 0, []⟩) (imps [0, 1, 2] ⟨by kernel_rfl, by kernel_rfl, by kernel_rfl, by kernel_rfl, by kernel_rfl, by kernel_rfl, trivial⟩ ⟨by kernel_rfl, by kernel_rfl, by kernel_rfl, trivial⟩) ?_
  refine post_next ?_
  rcases ite_some hF with ⟨hb5, hF⟩ | ⟨hb5, hF⟩
  · refine aw_cond_t rfl hb5 ?_
    refine aw_seq ?_
    refine aw_region ?_
    obtain ⟨y6, h7, hF⟩ := bind_some hF
    refine rgp (op_call 3 rfl (caps := []) (args := []) (rs := [.p (.agg (eGGot_ref39 y6))]) rfl rfl rfl Tryd_cal_31 (ref39_bad_ok h7) rfl rfl rfl) ?_
    refine rgp (op_store_lp (n := 4) rfl rfl rfl rfl rfl (or_agg Tryd_agg_39) (by rw [Tryd_non_39]; rfl) rfl rfl rfl) ?_
    refine reg_nil ?_
    refine post_imp (s' := ⟨18, [(8, some (.lp 0 0))], [(0, some (.box 39 (bxv (eGGot_ref39 y6))))], 1, [], [], 0, []⟩) (imps [2] ⟨by kernel_rfl, trivial⟩ ⟨by kernel_rfl, trivial⟩) ?_
    refine post_next ?_
    refine aw_ret ?_
    refine post_then_ret ?_
    obtain rfl := Option.some.inj hF
    exact post_ret rfl rfl (.cons _ _ _ _ _ (.agg _ _ _ _ _ 4 _ _ rfl rfl Tryd_agg_39 rfl rfl rfl) (.p _) .nil) (.inl rfl)
  refine aw_cond_f rfl hb5 ?_
  refine aw_skip ?_
  refine post_next ?_
  refine aw_seq ?_
  refine aw_region ?_
  refine rmv ?_
  refine rgp (op_load_lp_agg (ps := eGFrame a1) rfl rfl rfl rfl rfl rfl Tryd_agg_25 rfl rfl) ?_
  refine rmv ?_
  refine rgp (op_load_lp_agg (ps := eGExpr a3) rfl rfl rfl rfl rfl rfl Tryd_agg_31 rfl rfl) ?_
  obtain ⟨y8, h9, hF⟩ := bind_some hF
  refine rgp (op_call 3 rfl (caps := []) (args := [.vs 7 (List.map eGClass a0), .agg (eGFrame a1), .vs 1 (List.map eI a2), .agg (eGExpr a3)]) (rs := [.p (.agg (eGGot_ref39 y8))]) rfl rfl rfl Tryd_cal_32 (ref39_of_ok h9) rfl rfl rfl) ?_
  refine rgp (op_store_lp (n := 4) rfl rfl rfl rfl rfl (or_agg Tryd_agg_39) (by rw [Tryd_non_39]; rfl) rfl rfl rfl) ?_
  refine reg_nil ?_
  refine post_imp (s' := ⟨18, [(8, some (.lp 0 0))], [(0, some (.box 39 (bxv (eGGot_ref39 y8))))], 1, [], [], 0, []⟩) (imps [2] ⟨by kernel_rfl, trivial⟩ ⟨by kernel_rfl, trivial⟩) ?_
  refine post_next ?_
  refine aw_ret ?_
  obtain rfl := Option.some.inj hF
  exact post_ret rfl rfl (.cons _ _ _ _ _ (.agg _ _ _ _ _ 4 _ _ rfl rfl Tryd_agg_39 rfl rfl rfl) (.p _) .nil) (.inl rfl)
theorem ref39_All_ok {a0 : List GClass} {a1 : GFrame} {a2 : List Int} {a3 : List GExpr} {r : (List GVal) × (List Int) × Int} (hF : ref39_All a0 a1 a2 a3 = some r) : Abs.Fn globs_Tryd Tryd.prog 15 [.vs 7 (List.map eGClass a0), .agg (eGFrame a1), .vs 1 (List.map eI a2), .vs 4 (eLGExpr a3)] [.own 35 2 (List.map eGVal r.1), .p (.vs 1 (List.map eI r.2.1)), .p (.int .i64 r.2.2)] := by
  unfold ref39_All at hF
  refine fn_of_body (n := 42) Tryd.func15 rfl rfl rfl ?_
  intro w O
  refine aw_seq ?_
  refine aw_region ?_
  refine rgp (op_box 0 rfl rfl rfl rfl rfl rfl) ?_
  iterate 3 (refine ras ?_)
  refine reg_nil ?_
  refine post_imp (s' := ⟨42, [(0, some (.pv (.vs 7 (List.map eGClass a0)))), (2, some (.pv (.vs 1 (List.map eI a2)))), (3, some (.pv (.vs 4 (eLGExpr a3)))), (5, some (.lp 0 0))], [(0, some (.box 25 (bxv (eGFrame a1))))], 1, [], [], 0, []⟩) (imps [0] ⟨by kernel_rfl, by kernel_rfl, by kernel_rfl, by kernel_rfl, trivial⟩ ⟨by kernel_rfl, trivial⟩) ?_
  refine post_next ?_
  refine aw_seq ?_
  refine aw_region ?_
  refine ras ?_
  refine reg_imp (imp_nil_own 11 35 2 1 rfl rfl) ?_
  refine reg_nil ?_
  refine post_imp (s' := ⟨42, [(0, some (.pv (.vs 7 (List.map eGClass a0)))), (2, some (.pv (.vs 1 (List.map eI a2)))), (3, some (.pv (.vs 4 (eLGExpr a3)))), (5, some (.lp 0 0)), (11, some (.ls 1))], [(0, some (.box 25 (bxv (eGFrame a1)))), (1, some (.row 35 2 (List.map eGVal [])))], 2, [], [], 0, []⟩) (imps [0, 1] ⟨by kernel_rfl, by kernel_rfl, by kernel_rfl, by kernel_rfl, by kernel_rfl, trivial⟩ ⟨by kernel_rfl, by kernel_rfl, trivial⟩) ?_
  refine post_next ?_
  iterate 2 (refine aw_seq ?_)
  refine aw_region ?_
  refine ras ?_
  refine reg_nil ?_
  refine post_imp (s' := ⟨42, [(0, some (.pv (.vs 7 (List.map eGClass a0)))), (2, some (.pv (.vs 1 (List.map eI a2)))), (3, some (.pv (.vs 4 (eLGExpr a3)))), (5, some (.lp 0 0)), (11, some (.ls 1)), (12, some (.pv (.int .i64 0)))], [(0, some (.box 25 (bxv (eGFrame a1)))), (1, some (.row 35 2 (List.map eGVal [])))], 2, [], [], 0, []⟩) (imps [0, 1] ⟨by kernel_rfl, by kernel_rfl, by kernel_rfl, by kernel_rfl, by kernel_rfl, by kernel_rfl, trivial⟩ ⟨by kernel_rfl, by kernel_rfl, trivial⟩) ?_
  refine post_next ?_
  obtain ⟨lr54, hF, hK55⟩ := bind_some hF
  refine aw_for ((((a3.length : Int) : Int) - (0)).toNat + 1) (fun s1 => ∃ q, lr54 = .next q ∧ s1 = ⟨42, [(2, some (.pv (.vs 1 (List.map eI q.1)))), (11, some (.ls 0))], [(0, some (.row 35 2 (List.map eGVal q.2)))], 1, [], [], 0, []⟩) ?_ ?_
  · refine rnd_loop (α := (List Int) × (List GVal) × Int) (fun q => ⟨42, [(0, some (.pv (.vs 7 (List.map eGClass a0)))), (2, some (.pv (.vs 1 (List.map eI q.1)))), (3, some (.pv (.vs 4 (eLGExpr a3)))), (5, some (.lp 0 0)), (11, some (.ls 1)), (12, some (.pv (.int .i64 q.2.2)))], [(0, some (.box 25 (bxv (eGFrame a1)))), (1, some (.row 35 2 (List.map eGVal q.2.1)))], 2, [], [], 0, []⟩) (fun k q => ref39_All_L1 a0 a1 a3 k q.1 q.2.1 q.2.2 = some lr54) (a2, [], 0) (imps [0, 1] ⟨by kernel_rfl, by kernel_rfl, by kernel_rfl, by kernel_rfl, by kernel_rfl, by kernel_rfl, trivial⟩ ⟨by kernel_rfl, by kernel_rfl, trivial⟩) hF (fun q h => by cases h) ?_
    clear hF
    rintro k ⟨x15, x16, x17⟩ hF ih
    refine rnd_succ ?_
    iterate 2 (refine aw_seq ?_)
    refine aw_region ?_
    iterate 2 (refine rmv ?_)
    refine rgp (op_len_vs (n := a3.length) rfl rfl (lenR eLGExpr_map) Tryd_slc_29 rfl rfl) ?_
    refine rgp (op_int (k := .i64) (m := x17) (n := (a3.length : Int)) rfl rfl rfl rfl rfl rfl) ?_
    refine reg_nil ?_
    refine post_imp (s' := ⟨42, [(0, some (.pv (.vs 7 (List.map eGClass a0)))), (2, some (.pv (.vs 1 (List.map eI x15)))), (3, some (.pv (.vs 4 (eLGExpr a3)))), (5, some (.lp 0 0)), (11, some (.ls 1)), (12, some (.pv (.int .i64 x17))), (17, some (.pv (.bool (decide (x17 < (a3.length : Int))))))], [(0, some (.box 25 (bxv (eGFrame a1)))), (1, some (.row 35 2 (List.map eGVal x16)))], 2, [], [], 0, []⟩) (imps [0, 1] ⟨by kernel_rfl, by kernel_rfl, by kernel_rfl, by kernel_rfl, by kernel_rfl, by kernel_rfl, by kernel_rfl, trivial⟩ ⟨by kernel_rfl, by kernel_rfl, trivial⟩) ?_
    refine post_next ?_
    rcases ite_some hF with ⟨hb35, hF⟩ | ⟨hb35, hF⟩
    · refine aw_cond_t rfl hb35 ?_
      refine aw_skip ?_
      refine post_next ?_
      refine aw_seq ?_
      refine aw_block ?_
      refine aw_seq ?_
      refine aw_imp (imp_names 1) ?_
      refine dr_start ⟨_, _, _⟩ rfl ?_
      refine drm ?_
      refine dr_cons { need := [(5, .lp 0 0)], hneed := [(0, .box 25 (bxv (eGFrame a1)))], dst := some 21, val := some (.pv (.agg (eGFrame a1))) } (fun m h => step_on (guard_no rfl) (op_load_lp_agg (ps := eGFrame a1) rfl h.1.1 h.2.1.1 rfl rfl rfl Tryd_agg_25 rfl rfl) rfl) ⟨⟨rfl, trivial⟩, ⟨rfl, trivial⟩, trivial⟩ ?_
      iterate 3 (refine drm ?_)
      obtain ⟨y40, h41, hF⟩ := bind_some hF
      refine dr_cons { need := [(23, .pv (.vs 4 (eLGExpr a3))), (24, .pv (.int .i64 x17))], dst := some 25, val := some (.pv (.vp (eGExpr y40))) } (fun m h => step_on (guard_no rfl) (op_index_vs (k := .i64) rfl h.1.1 h.1.2.1 (idxR eLGExpr_map h41) Tryd_slc_29 rfl rfl) rfl) ⟨⟨rfl, rfl, trivial⟩, trivial, trivial⟩ ?_
      refine dr_cons { need := [(25, .pv (.vp (eGExpr y40)))], dst := some 26, val := some (.pv (.agg (eGExpr y40))) } (fun m h => step_on (guard_no rfl) (op_load_vp_agg (ps := eGExpr y40) rfl h.1.1 rfl rfl Tryd_agg_31 rfl rfl) rfl) ⟨⟨rfl, trivial⟩, trivial, trivial⟩ ?_
      obtain ⟨y42, h43, hF⟩ := bind_some hF
      refine dr_cons { need := [(26, .pv (.agg (eGExpr y40))), (22, .pv (.vs 1 (List.map eI x15))), (21, .pv (.agg (eGFrame a1))), (20, .pv (.vs 7 (List.map eGClass a0)))], dst := some 27, val := some (.pv (.agg (eGGot_ref39 y42))) } (fun m h => step_on (guard_no rfl) (op_call 3 rfl (caps := []) (args := [.vs 7 (List.map eGClass a0), .agg (eGFrame a1), .vs 1 (List.map eI x15), .agg (eGExpr y40)]) (rs := [.p (.agg (eGGot_ref39 y42))]) rfl rfl (evl_cons h.1.2.2.2.1 (evl_cons h.1.2.2.1 (evl_cons h.1.2.1 (evl_cons h.1.1 evl_nil)))) Tryd_cal_12 (ref39_Of_ok h43) rfl rfl rfl) rfl) ⟨⟨rfl, rfl, rfl, rfl, trivial⟩, trivial, trivial⟩ ?_
      refine dr_cons { names := [2], dst := some 13, val := some (.lp 2 0), upd := [(2, some (.box 39 (bxv (eGGot_ref39 zGGot_ref39))))] } (fun m h => step_on (guard_no rfl) (op_alloc 2 (fresh_free h.2.2.1) (ps := (eGGot_ref39 zGGot_ref39)) rfl Tryd_zer_39 (by exact ⟨rfl, rfl, trivial, rfl, trivial⟩) rfl rfl) rfl) ⟨trivial, trivial, ⟨rfl, trivial⟩⟩ ?_
      refine dr_cons { need := [(13, .lp 2 0), (27, .pv (.agg (eGGot_ref39 y42)))], hneed := [(2, .box 39 (bxv (eGGot_ref39 zGGot_ref39)))], upd := [(2, some (.box 39 (bxv (eGGot_ref39 y42))))] } (fun m h => step_on (guard_no rfl) (op_store_lp (n := 4) rfl h.1.1 h.1.2.1 rfl h.2.1.1 (or_agg Tryd_agg_39) (by rw [Tryd_non_39]; rfl) rfl rfl rfl) rfl) ⟨⟨rfl, rfl, trivial⟩, ⟨rfl, trivial⟩, trivial⟩ ?_
      refine dr_nil Tryd_mixed rfl (by kernel_rfl) ?_
      refine post_imp (s' := ⟨42, [(0, some (.pv (.vs 7 (List.map eGClass a0)))), (3, some (.pv (.vs 4 (eLGExpr a3)))), (5, some (.lp 0 0)), (11, some (.ls 1)), (12, some (.pv (.int .i64 x17))), (13, some (.lp 2 0))], [(0, some (.box 25 (bxv (eGFrame a1)))), (1, some (.row 35 2 (List.map eGVal x16))), (2, some (.box 39 (bxv (eGGot_ref39 y42))))], 3, [], [], 0, []⟩) (imps [0, 1, 2] ⟨by kernel_rfl, by kernel_rfl, by kernel_rfl, by kernel_rfl, by kernel_rfl, by kernel_rfl, trivial⟩ ⟨by kernel_rfl, by kernel_rfl, by kernel_rfl, trivial⟩) ?_
      refine post_next ?_
      iterate 2 (refine aw_seq ?_)
      refine aw_region ?_
      refine rgp (op_field_lp rfl rfl Tryd_fld_39_2 rfl rfl) ?_
      refine rgp (op_load_lp (v := .pv (.int .i64 y42.fEnd)) rfl rfl rfl rfl Tryd_one_3 rfl rfl) ?_
      refine rgp (op_int (k := .i64) (m := y42.fEnd) (n := 0) rfl rfl rfl rfl rfl rfl) ?_
      refine reg_nil ?_
      refine post_imp (s' := ⟨42, [(0, some (.pv (.vs 7 (List.map eGClass a0)))), (3, some (.pv (.vs 4 (eLGExpr a3)))), (5, some (.lp 0 0)), (11, some (.ls 1)), (12, some (.pv (.int .i64 x17))), (13, some (.lp 2 0)), (30, some (.pv (.bool (y42.fEnd != 0))))], [(0, some (.box 25 (bxv (eGFrame a1)))), (1, some (.row 35 2 (List.map eGVal x16))), (2, some (.box 39 (bxv (eGGot_ref39 y42))))], 3, [], [], 0, []⟩) (imps [0, 1, 2] ⟨by kernel_rfl, by kernel_rfl, by kernel_rfl, by kernel_rfl, by kernel_rfl, by kernel_rfl, by kernel_rfl, trivial⟩ ⟨by kernel_rfl, by kernel_rfl, by kernel_rfl, trivial⟩) ?_
      refine post_next ?_
      rcases ite_some hF with ⟨hb44, hF⟩ | ⟨hb44, hF⟩
      · refine aw_cond_t rfl hb44 ?_
        refine aw_seq ?_
        refine dr_start ⟨_, _, _⟩ rfl ?_
        refine dr_cons { need := [(13, .lp 2 0)], dst := some 31, val := some (.lp 2 3) } (fun m h => step_on (guard_no rfl) (op_field_lp rfl h.1.1 Tryd_fld_39_2 rfl rfl) rfl) ⟨⟨rfl, trivial⟩, trivial, trivial⟩ ?_
        refine dr_cons { need := [(31, .lp 2 3)], hneed := [(2, .box 39 (bxv (eGGot_ref39 y42)))], dst := some 32, val := some (.pv (.int .i64 y42.fEnd)) } (fun m h => step_on (guard_no rfl) (op_load_lp (v := .pv (.int .i64 y42.fEnd)) rfl h.1.1 h.2.1.1 rfl Tryd_one_3 rfl rfl) rfl) ⟨⟨rfl, trivial⟩, ⟨rfl, trivial⟩, trivial⟩ ?_
        refine dr_cons { dst := some 8, val := some (.pv .nils) } (fun m h => step_on (guard_no rfl) (op_assign rfl rfl rfl rfl) rfl) ⟨trivial, trivial, trivial⟩ ?_
        refine dr_cons { dst := some 9, val := some (.pv .nils) } (fun m h => step_on (guard_no rfl) (op_assign rfl rfl rfl rfl) rfl) ⟨trivial, trivial, trivial⟩ ?_
        refine dr_cons { need := [(32, .pv (.int .i64 y42.fEnd))], dst := some 10, val := some (.pv (.int .i64 y42.fEnd)) } (fun m h => step_on (guard_no rfl) (op_assign rfl h.1.1 rfl rfl) rfl) ⟨⟨rfl, trivial⟩, trivial, trivial⟩ ?_
        refine dr_nil Tryd_mixed rfl (by kernel_rfl) ?_
        refine post_imp (s' := ⟨42, [(8, some (.pv .nils)), (9, some (.pv .nils)), (10, some (.pv (.int .i64 y42.fEnd)))], [], 0, [], [], 0, []⟩) (imps [] ⟨by kernel_rfl, by kernel_rfl, by kernel_rfl, trivial⟩ trivial) ?_
        refine post_next ?_
        refine aw_ret ?_
        refine post_then_ret ?_
        refine post_block_ret ?_
        iterate 2 (refine post_then_ret ?_)
        refine post_lp_ret ?_
        obtain rfl := Option.some.inj hF
        have hF := elim_stop hK55
        refine post_then_ret ?_
        refine post_imp (imp_nil_own 8 35 2 0 rfl rfl) ?_
        refine post_imp (imp_nil_vs 9 1 rfl) ?_
        obtain rfl := Option.some.inj hF
        exact post_ret rfl rfl (.cons _ _ _ _ _ (.tmp _ _ rfl) (.own _ _ _ _ rfl nolent3) (.cons _ _ _ _ _ (.tmp _ _ rfl) (.p _) (.cons _ _ _ _ _ (.tmp _ _ rfl) (.p _) .nil))) (.inl rfl)
      refine aw_cond_f rfl hb44 ?_
      refine aw_skip ?_
      refine post_next ?_
      refine aw_seq ?_
      refine aw_region ?_
      refine rmv ?_
      refine rgp (op_field_lp rfl rfl Tryd_fld_39_0 rfl rfl) ?_
      refine rgp (op_load_lp_agg (ps := eGVal y42.fV) rfl rfl rfl rfl rfl rfl Tryd_agg_35 rfl rfl) ?_
      refine rgp (op_lit (rows := List.map eGVal ([y42.fV] : List GVal)) (zs := (eGVal zGVal)) rfl rfl Tryd_slc_23 Tryd_zer_35 (by exact ⟨rfl, rfl, trivial⟩) rfl rfl rfl rfl rfl rfl rfl rfl) ?_
      obtain ⟨u47, h48, hF⟩ := bind_some hF
      refine rgp (op_append 3 rfl rfl rfl rfl rfl Tryd_slc_23 Tryd_elm_35 Tryd_zer_35 rfl rfl rfl (room_map (f := eGVal) (g := eGVal) h48) (List.map_append (f := eGVal) (l₁ := x16) (l₂ := [y42.fV])).symm rfl rfl) ?_
      refine ras ?_
      refine reg_nil ?_
      refine post_imp (s' := ⟨42, [(0, some (.pv (.vs 7 (List.map eGClass a0)))), (3, some (.pv (.vs 4 (eLGExpr a3)))), (5, some (.lp 0 0)), (11, some (.ls 1)), (12, some (.pv (.int .i64 x17))), (13, some (.lp 2 0))], [(0, some (.box 25 (bxv (eGFrame a1)))), (1, some (.row 35 2 (List.map eGVal (x16 ++ [y42.fV])))), (2, some (.box 39 (bxv (eGGot_ref39 y42))))], 3, [], [], 0, []⟩) (imps [0, 3, 2] ⟨by kernel_rfl, by kernel_rfl, by kernel_rfl, by kernel_rfl, by kernel_rfl, by kernel_rfl, trivial⟩ ⟨by kernel_rfl, by kernel_rfl, by kernel_rfl, trivial⟩) ?_
      refine post_next ?_
      refine aw_region ?_
      refine rgp (op_field_lp rfl rfl Tryd_fld_39_1 rfl rfl) ?_
      refine rgp (op_load_lp (v := .pv (.vs 1 (List.map eI y42.fLeft))) rfl rfl rfl rfl Tryd_one_26 rfl rfl) ?_
      refine ras ?_
      refine reg_nil ?_
      refine post_imp (s' := ⟨42, [(0, some (.pv (.vs 7 (List.map eGClass a0)))), (2, some (.pv (.vs 1 (List.map eI y42.fLeft)))), (3, some (.pv (.vs 4 (eLGExpr a3)))), (5, some (.lp 0 0)), (11, some (.ls 1)), (12, some (.pv (.int .i64 x17)))], [(0, some (.box 25 (bxv (eGFrame a1)))), (1, some (.row 35 2 (List.map eGVal (x16 ++ [y42.fV]))))], 2, [], [], 0, []⟩) (imps [0, 1] ⟨by kernel_rfl, by kernel_rfl, by kernel_rfl, by kernel_rfl, by kernel_rfl, by kernel_rfl, trivial⟩ ⟨by kernel_rfl, by kernel_rfl, trivial⟩) ?_
      refine post_block_normal ?_
      refine post_next ?_
      refine aw_region ?_
      refine rmv ?_
      refine rgp (op_int (k := .i64) (m := x17) (n := 1) rfl rfl rfl rfl rfl rfl) ?_
      refine ras ?_
      refine reg_nil ?_
      refine post_round ?_
      exact rnd_back (ih (y42.fLeft, (x16 ++ [y42.fV]), w_i64 (x17 + 1)) hF) (imps [0, 1] ⟨by kernel_rfl, by kernel_rfl, by kernel_rfl, by kernel_rfl, by kernel_rfl, by kernel_rfl, trivial⟩ ⟨by kernel_rfl, by kernel_rfl, trivial⟩)
    refine aw_cond_f rfl hb35 ?_
    refine aw_exit ?_
    iterate 2 (refine post_then_exit ?_)
    obtain rfl := Option.some.inj hF
    exact post_lp_break _ ⟨_, rfl, rfl⟩ (imps [1] ⟨by kernel_rfl, by kernel_rfl, trivial⟩ ⟨by kernel_rfl, trivial⟩)
  rintro _ ⟨⟨x52, x53⟩, rfl, rfl⟩
  have hF := elim_next hK55
  clear hK55
  refine post_next ?_
  refine aw_seq ?_
  refine aw_region ?_
  iterate 2 (refine rmv ?_)
  iterate 3 (refine ras ?_)
  refine reg_nil ?_
  refine post_imp (s' := ⟨42, [(8, some (.ls 0)), (9, some (.pv (.vs 1 (List.map eI x52)))), (10, some (.pv (.int .i64 0)))], [(0, some (.row 35 2 (List.map eGVal x53)))], 1, [], [], 0, []⟩) (imps [0] ⟨by kernel_rfl, by kernel_rfl, by kernel_rfl, trivial⟩ ⟨by kernel_rfl, trivial⟩) ?_
  refine post_next ?_
  refine aw_ret ?_
  obtain rfl := Option.some.inj hF
  exact post_ret rfl rfl (.cons _ _ _ _ _ (.tmp _ _ rfl) (.own _ _ _ _ rfl nolent3) (.cons _ _ _ _ _ (.tmp _ _ rfl) (.p _) (.cons _ _ _ _ _ (.tmp _ _ rfl) (.p _) .nil))) (.inl rfl)
theorem law39_ints_ok {a0 : List Int} {a1 : List Int} {r : Bool} (hF : law39_ints a0 a1 = some r) : Abs.Fn globs_Tryd Tryd.prog 13 [.vs 1 (List.map eI a0), .vs 1 (List.map eI a1)] [.p (.bool r)] := by
  unfold law39_ints at hF
  refine fn_of_body (n := 26) Tryd.func13 rfl rfl rfl ?_
  intro w O
  refine aw_seq ?_
  refine aw_region ?_
  refine ras ?_
  refine reg_nil ?_
  refine post_imp (s' := ⟨26, [(0, some (.pv (.vs 1 (List.map eI a0)))), (1, some (.pv (.vs 1 (List.map eI a1))))], [], 0, [], [], 0, []⟩) (imps [] ⟨by kernel_rfl, by kernel_rfl, trivial⟩ trivial) ?_
  refine post_next ?_
  iterate 2 (refine aw_seq ?_)
  refine aw_region ?_
  refine rmv ?_
  refine rgp (op_len_vs (n := a0.length) rfl rfl (List.length_map ..) Tryd_slc_26 rfl rfl) ?_
  refine rmv ?_
  refine rgp (op_len_vs (n := a1.length) rfl rfl (List.length_map ..) Tryd_slc_26 rfl rfl) ?_
  refine rgp (op_int (k := .i64) (m := (a0.length : Int)) (n := (a1.length : Int)) rfl rfl rfl rfl rfl rfl) ?_
  refine reg_nil ?_
  refine post_imp (s' := ⟨26, [(0, some (.pv (.vs 1 (List.map eI a0)))), (1, some (.pv (.vs 1 (List.map eI a1)))), (10, some (.pv (.bool ((a0.length : Int) != (a1.length : Int)))))], [], 0, [], [], 0, []⟩) (imps [] ⟨by kernel_rfl, by kernel_rfl, by kernel_rfl, trivial⟩ trivial) ?_
  refine post_next ?_
  rcases ite_some hF with ⟨hb1, hF⟩ | ⟨hb1, hF⟩
  · refine aw_cond_t rfl hb1 ?_
    refine aw_seq ?_
    refine aw_region ?_
    refine ras ?_
    refine reg_nil ?_
    refine post_imp (s' := ⟨26, [(4, some (.pv (.bool false)))], [], 0, [], [], 0, []⟩) (imps [] ⟨by kernel_rfl, trivial⟩ trivial) ?_
    refine post_next ?_
    refine aw_ret ?_
    refine post_then_ret ?_
    obtain rfl := Option.some.inj hF
    exact prt
  refine aw_cond_f rfl hb1 ?_
  refine aw_skip ?_
  refine post_next ?_
  iterate 2 (refine aw_seq ?_)
  refine aw_region ?_
  refine ras ?_
  refine reg_nil ?_
  refine post_imp (s' := ⟨26, [(0, some (.pv (.vs 1 (List.map eI a0)))), (1, some (.pv (.vs 1 (List.map eI a1)))), (5, some (.pv (.int .i64 0)))], [], 0, [], [], 0, []⟩) (imps [] ⟨by kernel_rfl, by kernel_rfl, by kernel_rfl, trivial⟩ trivial) ?_
  refine post_next ?_
  obtain ⟨lr35, hF, hK36⟩ := bind_some hF
  refine aw_for ((((a0.length : Int) : Int) - (0)).toNat + 1) (fun s1 => ∃ q, lr35 = .next q ∧ s1 = ⟨26, [], [], 0, [], [], 0, []⟩) ?_ ?_
  · refine rnd_loop (α := Int) (fun q => ⟨26, [(0, some (.pv (.vs 1 (List.map eI a0)))), (1, some (.pv (.vs 1 (List.map eI a1)))), (5, some (.pv (.int .i64 q)))], [], 0, [], [], 0, []⟩) (fun k q => law39_ints_L1 a0 a1 k q = some lr35) 0 (imps [] ⟨by kernel_rfl, by kernel_rfl, by kernel_rfl, trivial⟩ trivial) hF (fun q h => by cases h) ?_
    clear hF
    rintro k x12 hF ih
    refine rnd_succ ?_
    iterate 2 (refine aw_seq ?_)
    refine aw_region ?_
    iterate 2 (refine rmv ?_)
    refine rgp (op_len_vs (n := a0.length) rfl rfl (List.length_map ..) Tryd_slc_26 rfl rfl) ?_
    refine rgp (op_int (k := .i64) (m := x12) (n := (a0.length : Int)) rfl rfl rfl rfl rfl rfl) ?_
    refine reg_nil ?_
    refine post_imp (s' := ⟨26, [(0, some (.pv (.vs 1 (List.map eI a0)))), (1, some (.pv (.vs 1 (List.map eI a1)))), (5, some (.pv (.int .i64 x12))), (14, some (.pv (.bool (decide (x12 < (a0.length : Int))))))], [], 0, [], [], 0, []⟩) (imps [] ⟨by kernel_rfl, by kernel_rfl, by kernel_rfl, by kernel_rfl, trivial⟩ trivial) ?_
    refine post_next ?_
    rcases ite_some hF with ⟨hb24, hF⟩ | ⟨hb24, hF⟩
    · refine aw_cond_t rfl hb24 ?_
      refine aw_skip ?_
      refine post_next ?_
      refine aw_seq ?_
      refine aw_block ?_
      refine aw_seq ?_
      refine dr_start ⟨_, _, _⟩ rfl ?_
      iterate 2 (refine drm ?_)
      obtain ⟨y29, h30, hF⟩ := bind_some hF
      refine dr_cons { need := [(17, .pv (.vs 1 (List.map eI a0))), (18, .pv (.int .i64 x12))], dst := some 19, val := some (.pv (.vp (eI y29))) } (fun m h => step_on (guard_no rfl) (op_index_vs (k := .i64) rfl h.1.1 h.1.2.1 (idx_map eI h30) Tryd_slc_26 rfl rfl) rfl) ⟨⟨rfl, rfl, trivial⟩, trivial, trivial⟩ ?_
      refine dr_cons { need := [(19, .pv (.vp (eI y29)))], dst := some 20, val := some (.pv (.int .i64 y29)) } (fun m h => step_on (guard_no rfl) (op_load_vp (p := .int .i64 y29) rfl h.1.1 rfl Tryd_one_3 rfl rfl) rfl) ⟨⟨rfl, trivial⟩, trivial, trivial⟩ ?_
      iterate 2 (refine drm ?_)
      obtain ⟨y31, h32, hF⟩ := bind_some hF
      refine dr_cons { need := [(21, .pv (.vs 1 (List.map eI a1))), (22, .pv (.int .i64 x12))], dst := some 23, val := some (.pv (.vp (eI y31))) } (fun m h => step_on (guard_no rfl) (op_index_vs (k := .i64) rfl h.1.1 h.1.2.1 (idx_map eI h32) Tryd_slc_26 rfl rfl) rfl) ⟨⟨rfl, rfl, trivial⟩, trivial, trivial⟩ ?_
      refine dr_cons { need := [(23, .pv (.vp (eI y31)))], dst := some 24, val := some (.pv (.int .i64 y31)) } (fun m h => step_on (guard_no rfl) (op_load_vp (p := .int .i64 y31) rfl h.1.1 rfl Tryd_one_3 rfl rfl) rfl) ⟨⟨rfl, trivial⟩, trivial, trivial⟩ ?_
      refine dr_cons { need := [(20, .pv (.int .i64 y29)), (24, .pv (.int .i64 y31))], dst := some 25, val := some (.pv (.bool (y29 != y31))) } (fun m h => step_on (guard_no rfl) (op_int (k := .i64) (m := y29) (n := y31) rfl h.1.1 h.1.2.1 rfl rfl rfl) rfl) ⟨⟨rfl, rfl, trivial⟩, trivial, trivial⟩ ?_
      refine dr_nil Tryd_mixed rfl (by kernel_rfl) ?_
      refine post_imp (s' := ⟨26, [(0, some (.pv (.vs 1 (List.map eI a0)))), (1, some (.pv (.vs 1 (List.map eI a1)))), (5, some (.pv (.int .i64 x12))), (25, some (.pv (.bool (y29 != y31))))], [], 0, [], [], 0, []⟩) (imps [] ⟨by kernel_rfl, by kernel_rfl, by kernel_rfl, by kernel_rfl, trivial⟩ trivial) ?_
      refine post_next ?_
      rcases ite_some hF with ⟨hb33, hF⟩ | ⟨hb33, hF⟩
      · refine aw_cond_t rfl hb33 ?_
        refine aw_seq ?_
        refine aw_region ?_
        refine ras ?_
        refine reg_nil ?_
        refine post_imp (s' := ⟨26, [(4, some (.pv (.bool false)))], [], 0, [], [], 0, []⟩) (imps [] ⟨by kernel_rfl, trivial⟩ trivial) ?_
        refine post_next ?_
        refine aw_ret ?_
        refine post_block_ret ?_
        iterate 2 (refine post_then_ret ?_)
        refine post_lp_ret ?_
        obtain rfl := Option.some.inj hF
        have hF := elim_stop hK36
        refine post_then_ret ?_
        obtain rfl := Option.some.inj hF
        exact prt
      refine aw_cond_f rfl hb33 ?_
      refine aw_skip ?_
      refine post_block_normal ?_
      refine post_next ?_
      refine aw_region ?_
      refine rmv ?_
      refine rgp (op_int (k := .i64) (m := x12) (n := 1) rfl rfl rfl rfl rfl rfl) ?_
      refine ras ?_
      refine reg_nil ?_
      refine post_round ?_
      exact rnd_back (ih (w_i64 (x12 + 1)) hF) (imps [] ⟨by kernel_rfl, by kernel_rfl, by kernel_rfl, trivial⟩ trivial)
    refine aw_cond_f rfl hb24 ?_
    refine aw_exit ?_
    iterate 2 (refine post_then_exit ?_)
    obtain rfl := Option.some.inj hF
    exact post_lp_break _ ⟨_, rfl, rfl⟩ (imps [] trivial trivial)
  rintro _ ⟨⟨⟩, rfl, rfl⟩
  have hF := elim_next hK36
  clear hK36
  refine post_next ?_
  refine aw_seq ?_
  refine aw_region ?_
  refine ras ?_
  refine reg_nil ?_
  refine post_imp (s' := ⟨26, [(4, some (.pv (.bool true)))], [], 0, [], [], 0, []⟩) (imps [] ⟨by kernel_rfl, trivial⟩ trivial) ?_
  refine post_next ?_
  refine aw_ret ?_
  obtain rfl := Option.some.inj hF
  exact prt
theorem law39_CalcAll_ok {a0 : List GClass} {a1 : GHere_law39} {a2 : List GExpr} {r : Bool} (hF : law39_CalcAll a0 a1 a2 = some r) : Abs.Fn globs_Tryd Tryd.prog 4 [.vs 7 (List.map eGClass a0), .agg (eGHere_law39 a1), .vs 4 (eLGExpr a2)] [.p (.bool r)] := by
  unfold law39_CalcAll at hF
  refine fn_of_body (n := 93) Tryd.func4 rfl rfl rfl ?_
  intro w O
  refine aw_seq ?_
  refine aw_region ?_
  refine rgp (op_box 0 rfl rfl rfl rfl rfl rfl) ?_
  refine ras ?_
  refine reg_nil ?_
  refine post_imp (s' := ⟨93, [(0, some (.pv (.vs 7 (List.map eGClass a0)))), (2, some (.pv (.vs 4 (eLGExpr a2)))), (4, some (.lp 0 0))], [(0, some (.box 28 (bxv (eGHere_law39 a1))))], 1, [], [], 0, []⟩) (imps [0] ⟨by kernel_rfl, by kernel_rfl, by kernel_rfl, trivial⟩ ⟨by kernel_rfl, trivial⟩) ?_
  refine post_next ?_
  iterate 2 (refine aw_seq ?_)
  refine aw_region ?_
  refine ras ?_
  refine reg_nil ?_
  refine post_imp (s' := ⟨93, [(0, some (.pv (.vs 7 (List.map eGClass a0)))), (2, some (.pv (.vs 4 (eLGExpr a2)))), (4, some (.lp 0 0)), (7, some (.pv (.int .i64 0)))], [(0, some (.box 28 (bxv (eGHere_law39 a1))))], 1, [], [], 0, []⟩) (imps [0] ⟨by kernel_rfl, by kernel_rfl, by kernel_rfl, by kernel_rfl, trivial⟩ ⟨by kernel_rfl, trivial⟩) ?_
  refine post_next ?_
  obtain ⟨lr40, hF, hK41⟩ := bind_some hF
  refine aw_for ((((a2.length : Int) : Int) - (0)).toNat + 1) (fun s1 => ∃ q, lr40 = .next q ∧ s1 = ⟨93, [(0, some (.pv (.vs 7 (List.map eGClass a0)))), (2, some (.pv (.vs 4 (eLGExpr a2)))), (4, some (.lp 0 0))], [(0, some (.box 28 (bxv (eGHere_law39 a1))))], 1, [], [], 0, []⟩) ?_ ?_
  · refine rnd_loop (α := Int) (fun q => ⟨93, [(0, some (.pv (.vs 7 (List.map eGClass a0)))), (2, some (.pv (.vs 4 (eLGExpr a2)))), (4, some (.lp 0 0)), (7, some (.pv (.int .i64 q)))], [(0, some (.box 28 (bxv (eGHere_law39 a1))))], 1, [], [], 0, []⟩) (fun k q => law39_CalcAll_L1 a0 a1 a2 k q = some lr40) 0 (imps [0] ⟨by kernel_rfl, by kernel_rfl, by kernel_rfl, by kernel_rfl, trivial⟩ ⟨by kernel_rfl, trivial⟩) hF (fun q h => by cases h) ?_
    clear hF
    rintro k x13 hF ih
    refine rnd_succ ?_
    iterate 2 (refine aw_seq ?_)
    refine aw_region ?_
    iterate 2 (refine rmv ?_)
    refine rgp (op_len_vs (n := a2.length) rfl rfl (lenR eLGExpr_map) Tryd_slc_29 rfl rfl) ?_
    refine rgp (op_int (k := .i64) (m := x13) (n := (a2.length : Int)) rfl rfl rfl rfl rfl rfl) ?_
    refine reg_nil ?_
    refine post_imp (s' := ⟨93, [(0, some (.pv (.vs 7 (List.map eGClass a0)))), (2, some (.pv (.vs 4 (eLGExpr a2)))), (4, some (.lp 0 0)), (7, some (.pv (.int .i64 x13))), (18, some (.pv (.bool (decide (x13 < (a2.length : Int))))))], [(0, some (.box 28 (bxv (eGHere_law39 a1))))], 1, [], [], 0, []⟩) (imps [0] ⟨by kernel_rfl, by kernel_rfl, by kernel_rfl, by kernel_rfl, by kernel_rfl, trivial⟩ ⟨by kernel_rfl, trivial⟩) ?_
    refine post_next ?_
    rcases ite_some hF with ⟨hb27, hF⟩ | ⟨hb27, hF⟩
    · refine aw_cond_t rfl hb27 ?_
      refine aw_skip ?_
      refine post_next ?_
      refine aw_seq ?_
      refine aw_block ?_
      refine aw_seq ?_
      obtain ⟨x33, hF, hK35⟩ := bind_some hF
      refine aw_cut (fun s1 => s1 = ⟨93, [(0, some (.pv (.vs 7 (List.map eGClass a0)))), (2, some (.pv (.vs 4 (eLGExpr a2)))), (4, some (.lp 0 0)), (7, some (.pv (.int .i64 x13))), (32, some (.pv (.bool x33)))], [(0, some (.box 28 (bxv (eGHere_law39 a1))))], 1, [], [], 0, []⟩) ?_ ?_
      · refine dr_start ⟨_, _, _⟩ rfl ?_
        refine drm ?_
        refine dr_cons { need := [(21, .pv (.vs 4 (eLGExpr a2)))], dst := some 22, val := some (.pv (.int .i64 (a2.length : Int))) } (fun m h => step_on (guard_no rfl) (op_len_vs (n := a2.length) rfl h.1.1 (lenR eLGExpr_map) Tryd_slc_29 rfl rfl) rfl) ⟨⟨rfl, trivial⟩, trivial, trivial⟩ ?_
        refine dr_cons { need := [(22, .pv (.int .i64 (a2.length : Int)))], dst := some 23, val := some (.pv (.bool (decide ((a2.length : Int) > 20)))) } (fun m h => step_on (guard_no rfl) (op_int (k := .i64) (m := (a2.length : Int)) (n := 20) rfl h.1.1 rfl rfl rfl rfl) rfl) ⟨⟨rfl, trivial⟩, trivial, trivial⟩ ?_
        refine drm ?_
        rcases ite_some hF with ⟨hb28, hF⟩ | ⟨hb28, hF⟩
        · refine dro_t hb28 ?_
          iterate 6 (refine dro_t hb28 ?_)
          refine drpt hb28 ?_
          refine dr_nil Tryd_mixed rfl (by kernel_rfl) ?_
          refine post_imp (s' := ⟨93, [(0, some (.pv (.vs 7 (List.map eGClass a0)))), (2, some (.pv (.vs 4 (eLGExpr a2)))), (4, some (.lp 0 0)), (7, some (.pv (.int .i64 x13))), (32, some (.pv (.bool true)))], [(0, some (.box 28 (bxv (eGHere_law39 a1))))], 1, [], [], 0, []⟩) (imps [0] ⟨by kernel_rfl, by kernel_rfl, by kernel_rfl, by kernel_rfl, by kernel_rfl, trivial⟩ ⟨by kernel_rfl, trivial⟩) ?_
          cases hF
          exact post_cut _ rfl (imps [0] ⟨by kernel_rfl, by kernel_rfl, by kernel_rfl, by kernel_rfl, by kernel_rfl, trivial⟩ ⟨by kernel_rfl, trivial⟩)
        refine dr_cons { need := [(24, .pv (.bool (decide ((a2.length : Int) > 20)))), (0, .pv (.vs 7 (List.map eGClass a0)))], dst := some 25, val := some (.pv (.vs 7 (List.map eGClass a0))) } (fun m h => step_on (guard_on rfl rfl rfl h.1.1 hb28) (op_move rfl h.1.2.1 rfl rfl) rfl) ⟨⟨rfl, rfl, trivial⟩, trivial, trivial⟩ ?_
        refine dr_cons { need := [(24, .pv (.bool (decide ((a2.length : Int) > 20)))), (4, .lp 0 0)], hneed := [(0, .box 28 (bxv (eGHere_law39 a1)))], dst := some 26, val := some (.pv (.agg (eGHere_law39 a1))) } (fun m h => step_on (guard_on rfl rfl rfl h.1.1 hb28) (op_load_lp_agg (ps := eGHere_law39 a1) rfl h.1.2.1 h.2.1.1 rfl rfl rfl Tryd_agg_28 rfl rfl) rfl) ⟨⟨rfl, rfl, trivial⟩, ⟨rfl, trivial⟩, trivial⟩ ?_
        refine dr_cons { need := [(24, .pv (.bool (decide ((a2.length : Int) > 20)))), (2, .pv (.vs 4 (eLGExpr a2)))], dst := some 27, val := some (.pv (.vs 4 (eLGExpr a2))) } (fun m h => step_on (guard_on rfl rfl rfl h.1.1 hb28) (op_move rfl h.1.2.1 rfl rfl) rfl) ⟨⟨rfl, rfl, trivial⟩, trivial, trivial⟩ ?_
        refine dr_cons { need := [(24, .pv (.bool (decide ((a2.length : Int) > 20)))), (7, .pv (.int .i64 x13))], dst := some 28, val := some (.pv (.int .i64 x13)) } (fun m h => step_on (guard_on rfl rfl rfl h.1.1 hb28) (op_move rfl h.1.2.1 rfl rfl) rfl) ⟨⟨rfl, rfl, trivial⟩, trivial, trivial⟩ ?_
        obtain ⟨y29, h30, hF⟩ := bind_some hF
        refine dr_cons { need := [(24, .pv (.bool (decide ((a2.length : Int) > 20)))), (27, .pv (.vs 4 (eLGExpr a2))), (28, .pv (.int .i64 x13))], dst := some 29, val := some (.pv (.vp (eGExpr y29))) } (fun m h => step_on (guard_on rfl rfl rfl h.1.1 hb28) (op_index_vs (k := .i64) rfl h.1.2.1 h.1.2.2.1 (idxR eLGExpr_map h30) Tryd_slc_29 rfl rfl) rfl) ⟨⟨rfl, rfl, rfl, trivial⟩, trivial, trivial⟩ ?_
        refine dr_cons { need := [(24, .pv (.bool (decide ((a2.length : Int) > 20)))), (29, .pv (.vp (eGExpr y29)))], dst := some 30, val := some (.pv (.agg (eGExpr y29))) } (fun m h => step_on (guard_on rfl rfl rfl h.1.1 hb28) (op_load_vp_agg (ps := eGExpr y29) rfl h.1.2.1 rfl rfl Tryd_agg_31 rfl rfl) rfl) ⟨⟨rfl, rfl, trivial⟩, trivial, trivial⟩ ?_
        obtain ⟨y31, h32, hF⟩ := bind_some hF
        refine dr_cons { need := [(24, .pv (.bool (decide ((a2.length : Int) > 20)))), (30, .pv (.agg (eGExpr y29))), (26, .pv (.agg (eGHere_law39 a1))), (25, .pv (.vs 7 (List.map eGClass a0)))], dst := some 31, val := some (.pv (.bool y31)) } (fun m h => step_on (guard_on rfl rfl rfl h.1.1 hb28) (op_call 1 rfl (caps := []) (args := [.vs 7 (List.map eGClass a0), .agg (eGHere_law39 a1), .agg (eGExpr y29)]) (rs := [.p (.bool y31)]) rfl rfl (evl_cons h.1.2.2.2.1 (evl_cons h.1.2.2.1 (evl_cons h.1.2.1 evl_nil))) Tryd_cal_9 (law39_great_ok h32) rfl rfl rfl) rfl) ⟨⟨rfl, rfl, rfl, rfl, trivial⟩, trivial, trivial⟩ ?_
        refine dr_cons { need := [(24, .pv (.bool (decide ((a2.length : Int) > 20)))), (31, .pv (.bool y31))], dst := some 32, val := some (.pv (.bool y31)) } (fun m h => step_on (guard_no rfl) (op_pick_f rfl h.1.1 hb28 h.1.2.1 rfl rfl) rfl) ⟨⟨rfl, rfl, trivial⟩, trivial, trivial⟩ ?_
        refine dr_nil Tryd_mixed rfl (by kernel_rfl) ?_
        refine post_imp (s' := ⟨93, [(0, some (.pv (.vs 7 (List.map eGClass a0)))), (2, some (.pv (.vs 4 (eLGExpr a2)))), (4, some (.lp 0 0)), (7, some (.pv (.int .i64 x13))), (32, some (.pv (.bool y31)))], [(0, some (.box 28 (bxv (eGHere_law39 a1))))], 1, [], [], 0, []⟩) (imps [0] ⟨by kernel_rfl, by kernel_rfl, by kernel_rfl, by kernel_rfl, by kernel_rfl, trivial⟩ ⟨by kernel_rfl, trivial⟩) ?_
        cases hF
        exact post_cut _ rfl (imps [0] ⟨by kernel_rfl, by kernel_rfl, by kernel_rfl, by kernel_rfl, by kernel_rfl, trivial⟩ ⟨by kernel_rfl, trivial⟩)
      rintro _ rfl
      have hF := hK35
      clear hK35
      refine post_next ?_
      rcases ite_some hF with ⟨hb36, hF⟩ | ⟨hb36, hF⟩
      · refine aw_cond_t rfl hb36 ?_
        refine aw_seq ?_
        refine aw_region ?_
        obtain ⟨y37, h38, hF⟩ := bind_some hF
        refine rgp (op_call 1 rfl (caps := []) (args := []) (rs := [.p (.bool y37)]) rfl rfl rfl Tryd_cal_10 (law39_awake_ok h38) rfl rfl rfl) ?_
        refine ras ?_
        refine reg_nil ?_
        refine post_imp (s' := ⟨93, [(6, some (.pv (.bool y37)))], [], 0, [], [], 0, []⟩) (imps [] ⟨by kernel_rfl, trivial⟩ trivial) ?_
        refine post_next ?_
        refine aw_ret ?_
        refine post_block_ret ?_
        iterate 2 (refine post_then_ret ?_)
        refine post_lp_ret ?_
        obtain rfl := Option.some.inj hF
        have hF := elim_stop hK41
        refine post_then_ret ?_
        obtain rfl := Option.some.inj hF
        exact prt
      refine aw_cond_f rfl hb36 ?_
      refine aw_skip ?_
      refine post_block_normal ?_
      refine post_next ?_
      refine aw_region ?_
      refine rmv ?_
      refine rgp (op_int (k := .i64) (m := x13) (n := 1) rfl rfl rfl rfl rfl rfl) ?_
      refine ras ?_
      refine reg_nil ?_
      refine post_round ?_
      exact rnd_back (ih (w_i64 (x13 + 1)) hF) (imps [0] ⟨by kernel_rfl, by kernel_rfl, by kernel_rfl, by kernel_rfl, trivial⟩ ⟨by kernel_rfl, trivial⟩)
    refine aw_cond_f rfl hb27 ?_
    refine aw_exit ?_
    iterate 2 (refine post_then_exit ?_)
    obtain rfl := Option.some.inj hF
    exact post_lp_break _ ⟨_, rfl, rfl⟩ (imps [0] ⟨by kernel_rfl, by kernel_rfl, by kernel_rfl, trivial⟩ ⟨by kernel_rfl, trivial⟩)
  rintro _ ⟨⟨⟩, rfl, rfl⟩
  have hF := elim_next hK41
  clear hK41
  refine post_next ?_
  iterate 2 (refine aw_seq ?_)
  refine aw_region ?_
  refine rmv ?_
  refine rgp (op_load_lp_agg (ps := eGHere_law39 a1) rfl rfl rfl rfl rfl rfl Tryd_agg_28 rfl rfl) ?_
  refine rgp (op_build (zs := (eGExpr zGExpr)) (r := eGExpr ({ fKind := 0, fNum := 0, fName := [], fKids := [] } : GExpr)) rfl Tryd_zer_31 (by exact ⟨rfl, rfl, rfl, trivial, trivial⟩) Tryd_plc_31 rfl rfl rfl rfl) ?_
  obtain ⟨y44, h45, hF⟩ := bind_some hF
  refine rgp (op_call 1 rfl (caps := []) (args := [.vs 7 (List.map eGClass a0), .agg (eGHere_law39 a1), .agg (eGExpr ({ fKind := 0, fNum := 0, fName := [], fKids := [] } : GExpr))]) (rs := [.p (.bool y44)]) rfl rfl rfl Tryd_cal_9 (law39_great_ok h45) rfl rfl rfl) ?_
  refine reg_nil ?_
  refine post_imp (s' := ⟨93, [(0, some (.pv (.vs 7 (List.map eGClass a0)))), (2, some (.pv (.vs 4 (eLGExpr a2)))), (4, some (.lp 0 0)), (37, some (.pv (.bool y44)))], [(0, some (.box 28 (bxv (eGHere_law39 a1))))], 1, [], [], 0, []⟩) (imps [0] ⟨by kernel_rfl, by kernel_rfl, by kernel_rfl, by kernel_rfl, trivial⟩ ⟨by kernel_rfl, trivial⟩) ?_
  refine post_next ?_
  rcases ite_some hF with ⟨hb46, hF⟩ | ⟨hb46, hF⟩
  · refine aw_cond_t rfl hb46 ?_
    refine aw_seq ?_
    refine aw_region ?_
    obtain ⟨y47, h48, hF⟩ := bind_some hF
    refine rgp (op_call 1 rfl (caps := []) (args := []) (rs := [.p (.bool y47)]) rfl rfl rfl Tryd_cal_10 (law39_awake_ok h48) rfl rfl rfl) ?_
    refine ras ?_
    refine reg_nil ?_
    refine post_imp (s' := ⟨93, [(6, some (.pv (.bool y47)))], [], 0, [], [], 0, []⟩) (imps [] ⟨by kernel_rfl, trivial⟩ trivial) ?_
    refine post_next ?_
    refine aw_ret ?_
    refine post_then_ret ?_
    obtain rfl := Option.some.inj hF
    exact prt
  refine aw_cond_f rfl hb46 ?_
  refine aw_skip ?_
  refine post_next ?_
  refine aw_seq ?_
  refine aw_region ?_
  refine rmv ?_
  refine rgp (op_field_lp rfl rfl Tryd_fld_28_0 rfl rfl) ?_
  refine rgp (op_load_lp_agg (ps := eGFrame a1.fF) rfl rfl rfl rfl rfl rfl Tryd_agg_25 rfl rfl) ?_
  refine rgp (op_field_lp rfl rfl Tryd_fld_28_1 rfl rfl) ?_
  refine rgp (op_load_lp (v := .pv (.vs 1 (List.map eI a1.fIn))) rfl rfl rfl rfl Tryd_one_26 rfl rfl) ?_
  refine rmv ?_
  obtain ⟨y51, h52, hF⟩ := bind_some hF
  refine rgp (op_call 1 rfl (caps := []) (args := [.vs 7 (List.map eGClass a0), .agg (eGFrame a1.fF), .vs 1 (List.map eI a1.fIn), .vs 4 (eLGExpr a2)]) (rs := [.p (.vs 2 (List.map eGVal y51.1)), .p (.vs 1 (List.map eI y51.2.1)), .p (.int .i64 y51.2.2)]) rfl rfl rfl Tryd_cal_14 (Fn.frozen (calc_All_ok h52)) rfl rfl rfl) ?_
  refine rmv ?_
  iterate 3 (refine rgp (op_extract rfl rfl rfl rfl rfl) ?_)
  iterate 3 (refine ras ?_)
  refine reg_nil ?_
  refine post_imp (s' := ⟨93, [(0, some (.pv (.vs 7 (List.map eGClass a0)))), (2, some (.pv (.vs 4 (eLGExpr a2)))), (4, some (.lp 0 0)), (8, some (.pv (.vs 2 (List.map eGVal y51.1)))), (9, some (.pv (.vs 1 (List.map eI y51.2.1)))), (10, some (.pv (.int .i64 y51.2.2)))], [(0, some (.box 28 (bxv (eGHere_law39 a1))))], 1, [], [], 0, []⟩) (imps [0] ⟨by kernel_rfl, by kernel_rfl, by kernel_rfl, by kernel_rfl, by kernel_rfl, by kernel_rfl, trivial⟩ ⟨by kernel_rfl, trivial⟩) ?_
  refine post_next ?_
  refine aw_seq ?_
  refine aw_region ?_
  refine rmv ?_
  refine rgp (op_field_lp rfl rfl Tryd_fld_28_0 rfl rfl) ?_
  refine rgp (op_load_lp_agg (ps := eGFrame a1.fF) rfl rfl rfl rfl rfl rfl Tryd_agg_25 rfl rfl) ?_
  refine rgp (op_field_lp rfl rfl Tryd_fld_28_1 rfl rfl) ?_
  refine rgp (op_load_lp (v := .pv (.vs 1 (List.map eI a1.fIn))) rfl rfl rfl rfl Tryd_one_26 rfl rfl) ?_
  refine rmv ?_
  obtain ⟨y55, h56, hF⟩ := bind_some hF
  refine rgp (op_call 1 rfl (caps := []) (args := [.vs 7 (List.map eGClass a0), .agg (eGFrame a1.fF), .vs 1 (List.map eI a1.fIn), .vs 4 (eLGExpr a2)]) (rs := [.p (.vs 2 (List.map eGVal y55.1)), .p (.vs 1 (List.map eI y55.2.1)), .p (.int .i64 y55.2.2)]) rfl rfl rfl Tryd_cal_15 (Fn.frozen (ref39_All_ok h56)) rfl rfl rfl) ?_
  refine rmv ?_
  iterate 3 (refine rgp (op_extract rfl rfl rfl rfl rfl) ?_)
  iterate 3 (refine ras ?_)
  refine reg_nil ?_
  refine post_imp (s' := ⟨93, [(8, some (.pv (.vs 2 (List.map eGVal y51.1)))), (9, some (.pv (.vs 1 (List.map eI y51.2.1)))), (10, some (.pv (.int .i64 y51.2.2))), (11, some (.pv (.vs 2 (List.map eGVal y55.1)))), (12, some (.pv (.vs 1 (List.map eI y55.2.1)))), (13, some (.pv (.int .i64 y55.2.2)))], [], 0, [], [], 0, []⟩) (imps [] ⟨by kernel_rfl, by kernel_rfl, by kernel_rfl, by kernel_rfl, by kernel_rfl, by kernel_rfl, trivial⟩ trivial) ?_
  refine post_next ?_
  iterate 2 (refine aw_seq ?_)
  obtain ⟨x61, hF, hK63⟩ := bind_some hF
  refine aw_cut (fun s1 => s1 = ⟨93, [(8, some (.pv (.vs 2 (List.map eGVal y51.1)))), (11, some (.pv (.vs 2 (List.map eGVal y55.1)))), (76, some (.pv (.bool x61)))], [], 0, [], [], 0, []⟩) ?_ ?_
  · refine aw_region ?_
    refine rmv ?_
    refine rgp (op_len_vs (n := y51.1.length) rfl rfl (List.length_map ..) Tryd_slc_23 rfl rfl) ?_
    refine rmv ?_
    refine rgp (op_len_vs (n := y55.1.length) rfl rfl (List.length_map ..) Tryd_slc_23 rfl rfl) ?_
    refine rgp (op_int (k := .i64) (m := (y51.1.length : Int)) (n := (y55.1.length : Int)) rfl rfl rfl rfl rfl rfl) ?_
    refine rmv ?_
    rcases ite_some hF with ⟨hb57, hF⟩ | ⟨hb57, hF⟩
    · refine rgo_t hb57 ?_
      iterate 3 (refine rgo_t hb57 ?_)
      refine rpt hb57 ?_
      refine rmv ?_
      iterate 3 (refine rgo_t rfl ?_)
      refine rpt rfl ?_
      refine reg_nil ?_
      cases hF
      exact post_cut _ rfl (imps [] ⟨by kernel_rfl, by kernel_rfl, by kernel_rfl, trivial⟩ trivial)
    iterate 2 (refine rgn hb57 (op_move rfl rfl rfl rfl) ?_)
    obtain ⟨y58, h59, hF⟩ := bind_some hF
    refine rgn hb57 (op_call 0 rfl (caps := []) (args := [.vs 1 (List.map eI y51.2.1), .vs 1 (List.map eI y55.2.1)]) (rs := [.p (.bool y58)]) rfl rfl rfl Tryd_cal_13 (law39_ints_ok h59) rfl rfl rfl) ?_
    refine rgn hb57 (op_not rfl rfl rfl rfl) ?_
    refine rpf hb57 ?_
    refine rmv ?_
    rcases ite_some hF with ⟨hb60, hF⟩ | ⟨hb60, hF⟩
    · refine rgo_t hb60 ?_
      iterate 2 (refine rgo_t hb60 ?_)
      refine rpt hb60 ?_
      refine reg_nil ?_
      cases hF
      exact post_cut _ rfl (imps [] ⟨by kernel_rfl, by kernel_rfl, by kernel_rfl, trivial⟩ trivial)
    iterate 2 (refine rgn hb60 (op_move rfl rfl rfl rfl) ?_)
    refine rgn hb60 (op_int (k := .i64) (m := y51.2.2) (n := y55.2.2) rfl rfl rfl rfl rfl rfl) ?_
    refine rpf hb60 ?_
    refine reg_nil ?_
    cases hF
    exact post_cut _ rfl (imps [] ⟨by kernel_rfl, by kernel_rfl, by kernel_rfl, trivial⟩ trivial)
  rintro _ rfl
  have hF := hK63
  clear hK63
  refine post_next ?_
  rcases ite_some hF with ⟨hb64, hF⟩ | ⟨hb64, hF⟩
  · refine aw_cond_t rfl hb64 ?_
    refine aw_seq ?_
    refine aw_region ?_
    refine ras ?_
    refine reg_nil ?_
    refine post_imp (s' := ⟨93, [(6, some (.pv (.bool false)))], [], 0, [], [], 0, []⟩) (imps [] ⟨by kernel_rfl, trivial⟩ trivial) ?_
    refine post_next ?_
    refine aw_ret ?_
    refine post_then_ret ?_
    obtain rfl := Option.some.inj hF
    exact prt
  refine aw_cond_f rfl hb64 ?_
  refine aw_skip ?_
  refine post_next ?_
  iterate 2 (refine aw_seq ?_)
  refine aw_region ?_
  refine ras ?_
  refine reg_nil ?_
  refine post_imp (s' := ⟨93, [(8, some (.pv (.vs 2 (List.map eGVal y51.1)))), (11, some (.pv (.vs 2 (List.map eGVal y55.1)))), (14, some (.pv (.int .i64 0)))], [], 0, [], [], 0, []⟩) (imps [] ⟨by kernel_rfl, by kernel_rfl, by kernel_rfl, trivial⟩ trivial) ?_
  refine post_next ?_
  obtain ⟨lr98, hF, hK99⟩ := bind_some hF
  refine aw_for ((((y51.1.length : Int) : Int) - (0)).toNat + 1) (fun s1 => ∃ q, lr98 = .next q ∧ s1 = ⟨93, [], [], 0, [], [], 0, []⟩) ?_ ?_
  · refine rnd_loop (α := Int) (fun q => ⟨93, [(8, some (.pv (.vs 2 (List.map eGVal y51.1)))), (11, some (.pv (.vs 2 (List.map eGVal y55.1)))), (14, some (.pv (.int .i64 q)))], [], 0, [], [], 0, []⟩) (fun k q => law39_CalcAll_L2 y51 y55 k q = some lr98) 0 (imps [] ⟨by kernel_rfl, by kernel_rfl, by kernel_rfl, trivial⟩ trivial) hF (fun q h => by cases h) ?_
    clear hF
    rintro k x75 hF ih
    refine rnd_succ ?_
    iterate 2 (refine aw_seq ?_)
    refine aw_region ?_
    iterate 2 (refine rmv ?_)
    refine rgp (op_len_vs (n := y51.1.length) rfl rfl (List.length_map ..) Tryd_slc_23 rfl rfl) ?_
    refine rgp (op_int (k := .i64) (m := x75) (n := (y51.1.length : Int)) rfl rfl rfl rfl rfl rfl) ?_
    refine reg_nil ?_
    refine post_imp (s' := ⟨93, [(8, some (.pv (.vs 2 (List.map eGVal y51.1)))), (11, some (.pv (.vs 2 (List.map eGVal y55.1)))), (14, some (.pv (.int .i64 x75))), (80, some (.pv (.bool (decide (x75 < (y51.1.length : Int))))))], [], 0, [], [], 0, []⟩) (imps [] ⟨by kernel_rfl, by kernel_rfl, by kernel_rfl, by kernel_rfl, trivial⟩ trivial) ?_
    refine post_next ?_
    rcases ite_some hF with ⟨hb87, hF⟩ | ⟨hb87, hF⟩
    · refine aw_cond_t rfl hb87 ?_
      refine aw_skip ?_
      refine post_next ?_
      refine aw_seq ?_
      refine aw_block ?_
      refine aw_seq ?_
      refine dr_start ⟨_, _, _⟩ rfl ?_
      iterate 2 (refine drm ?_)
      obtain ⟨y92, h93, hF⟩ := bind_some hF
      refine dr_cons { need := [(83, .pv (.vs 2 (List.map eGVal y51.1))), (84, .pv (.int .i64 x75))], dst := some 85, val := some (.pv (.vp (eGVal y92))) } (fun m h => step_on (guard_no rfl) (op_index_vs (k := .i64) rfl h.1.1 h.1.2.1 (idx_map eGVal h93) Tryd_slc_23 rfl rfl) rfl) ⟨⟨rfl, rfl, trivial⟩, trivial, trivial⟩ ?_
      refine dr_cons { need := [(85, .pv (.vp (eGVal y92)))], dst := some 86, val := some (.pv (.agg (eGVal y92))) } (fun m h => step_on (guard_no rfl) (op_load_vp_agg (ps := eGVal y92) rfl h.1.1 rfl rfl Tryd_agg_35 rfl rfl) rfl) ⟨⟨rfl, trivial⟩, trivial, trivial⟩ ?_
      iterate 2 (refine drm ?_)
      obtain ⟨y94, h95, hF⟩ := bind_some hF
      refine dr_cons { need := [(87, .pv (.vs 2 (List.map eGVal y55.1))), (88, .pv (.int .i64 x75))], dst := some 89, val := some (.pv (.vp (eGVal y94))) } (fun m h => step_on (guard_no rfl) (op_index_vs (k := .i64) rfl h.1.1 h.1.2.1 (idx_map eGVal h95) Tryd_slc_23 rfl rfl) rfl) ⟨⟨rfl, rfl, trivial⟩, trivial, trivial⟩ ?_
      refine dr_cons { need := [(89, .pv (.vp (eGVal y94)))], dst := some 90, val := some (.pv (.agg (eGVal y94))) } (fun m h => step_on (guard_no rfl) (op_load_vp_agg (ps := eGVal y94) rfl h.1.1 rfl rfl Tryd_agg_35 rfl rfl) rfl) ⟨⟨rfl, trivial⟩, trivial, trivial⟩ ?_
      refine dr_cons { need := [(86, .pv (.agg (eGVal y92))), (90, .pv (.agg (eGVal y94)))], dst := some 91, val := some (.pv (.bool (!(bGVal y92 y94)))) } (fun m h => step_on (guard_no rfl) (op_eqAgg_neq (r := bGVal y92 y94) rfl h.1.1 h.1.2.1 Tryd_eqt_35 rfl rfl rfl rfl rfl) rfl) ⟨⟨rfl, rfl, trivial⟩, trivial, trivial⟩ ?_
      refine dr_nil Tryd_mixed rfl (by kernel_rfl) ?_
      refine post_imp (s' := ⟨93, [(8, some (.pv (.vs 2 (List.map eGVal y51.1)))), (11, some (.pv (.vs 2 (List.map eGVal y55.1)))), (14, some (.pv (.int .i64 x75))), (91, some (.pv (.bool (!(bGVal y92 y94)))))], [], 0, [], [], 0, []⟩) (imps [] ⟨by kernel_rfl, by kernel_rfl, by kernel_rfl, by kernel_rfl, trivial⟩ trivial) ?_
      refine post_next ?_
      rcases ite_some hF with ⟨hb96, hF⟩ | ⟨hb96, hF⟩
      · refine aw_cond_t rfl hb96 ?_
        refine aw_seq ?_
        refine aw_region ?_
        refine ras ?_
        refine reg_nil ?_
        refine post_imp (s' := ⟨93, [(6, some (.pv (.bool false)))], [], 0, [], [], 0, []⟩) (imps [] ⟨by kernel_rfl, trivial⟩ trivial) ?_
        refine post_next ?_
        refine aw_ret ?_
        refine post_block_ret ?_
        iterate 2 (refine post_then_ret ?_)
        refine post_lp_ret ?_
        obtain rfl := Option.some.inj hF
        have hF := elim_stop hK99
        refine post_then_ret ?_
        obtain rfl := Option.some.inj hF
        exact prt
      refine aw_cond_f rfl hb96 ?_
      refine aw_skip ?_
      refine post_block_normal ?_
      refine post_next ?_
      refine aw_region ?_
      refine rmv ?_
      refine rgp (op_int (k := .i64) (m := x75) (n := 1) rfl rfl rfl rfl rfl rfl) ?_
      refine ras ?_
      refine reg_nil ?_
      refine post_round ?_
      exact rnd_back (ih (w_i64 (x75 + 1)) hF) (imps [] ⟨by kernel_rfl, by kernel_rfl, by kernel_rfl, trivial⟩ trivial)
    refine aw_cond_f rfl hb87 ?_
    refine aw_exit ?_
    iterate 2 (refine post_then_exit ?_)
    obtain rfl := Option.some.inj hF
    exact post_lp_break _ ⟨_, rfl, rfl⟩ (imps [] trivial trivial)
  rintro _ ⟨⟨⟩, rfl, rfl⟩
  have hF := elim_next hK99
  clear hK99
  refine post_next ?_
  refine aw_seq ?_
  refine aw_region ?_
  obtain ⟨y100, h101, hF⟩ := bind_some hF
  refine rgp (op_call 0 rfl (caps := []) (args := []) (rs := [.p (.bool y100)]) rfl rfl rfl Tryd_cal_10 (law39_awake_ok h101) rfl rfl rfl) ?_
  refine ras ?_
  refine reg_nil ?_
  refine post_imp (s' := ⟨93, [(6, some (.pv (.bool y100)))], [], 0, [], [], 0, []⟩) (imps [] ⟨by kernel_rfl, trivial⟩ trivial) ?_
  refine post_next ?_
  refine aw_ret ?_
  obtain rfl := Option.some.inj hF
  exact prt
end Go.Proofs.YtnnphkfiookbnaaDoor
