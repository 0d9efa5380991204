/- A part of the proof that the law FrameSet gives true for every input. -/
import Derived.Test.YtelohaajmagpbaaFrameSetT
import Derived.Test.YtelohaajmagpbaaFrameSetX
import Derived.Test.YtelohaajmagpbaaFrameSetI
import Derived.Test.YtelohaajmagpbaaFrameSetW0
/- Each Go function computes its plain function. -/
namespace Go.Proofs.Ytelohaajmagpbaa
open Go.RowKit Go.Abs
set_option maxRecDepth 100000
set_option maxHeartbeats 4000000
theorem scope_Place_ok {a0 : GMethod} {a1 : List UInt8} {r : Int} (hF : scope_Place a0 a1 = some r) : Abs.Fn Try.prog 25 [.agg (eGMethod a0), .str a1] [.p (.int .i64 r)] := by
  unfold scope_Place at hF
  refine fn_of_body (n := 27) Try.func25 rfl rfl rfl ?_
  intro w O
  refine aw_seq ?_
  refine aw_region ?_
  refine reg_cons (guard_no rfl) (op_box 0 rfl rfl rfl rfl rfl rfl) ?_
  refine reg_cons (guard_no rfl) (op_box 1 rfl rfl rfl rfl rfl rfl) ?_
  refine ras ?_
  refine reg_nil ?_
  refine post_imp (s' := ⟨27, [(2, some (.lp 0 0)), (3, some (.lp 1 0))], [(0, some (.box 66 (bxv (eGMethod a0)))), (1, some (.box 9 [.pv (.str a1)]))], 2, [], [], 0, []⟩) (imps [0, 1] ⟨by kernel_rfl, by kernel_rfl, trivial⟩ ⟨by kernel_rfl, by kernel_rfl, trivial⟩) ?_
  refine post_next ?_
  refine aw_seq ?_
  refine aw_region ?_
  refine reg_cons (guard_no rfl) (op_makeFunc rfl rfl rfl rfl) ?_
  refine ras ?_
  refine reg_nil ?_
  refine post_imp (s' := ⟨27, [(2, some (.lp 0 0)), (5, some (.fn 35 [.lp 1 0]))], [(0, some (.box 66 (bxv (eGMethod a0)))), (1, some (.box 9 [.pv (.str a1)]))], 2, [], [], 0, []⟩) (imps [0, 1] ⟨by kernel_rfl, by kernel_rfl, trivial⟩ ⟨by kernel_rfl, by kernel_rfl, trivial⟩) ?_
  refine post_next ?_
  iterate 2 (refine aw_seq ?_)
  refine aw_region ?_
  refine reg_cons (guard_no rfl) (op_field_lp rfl rfl Try_fld_66_3 rfl rfl) ?_
  refine reg_cons (guard_no rfl) (op_load_lp (v := .pv (.vs 13 (List.map eGVar a0.fParams))) rfl rfl rfl rfl Try_one_46 rfl rfl) ?_
  refine rmv ?_
  obtain ⟨y5, h6, hF⟩ := bind_some hF
  refine reg_cons (guard_no rfl) (op_callB 2 rfl (caps := []) (args := [.vs 13 (List.map eGVar a0.fParams), .fn 35 [.vp (eS a1)]]) [(1, some (.box 9 [.pv (.str a1)]))] rfl rfl rfl (FzH.spec ⟨rfl, trivial⟩) rfl rfl Try_cal_36 (slices_IndexFunc_api_Var_ok (q1_f := 35) (q1_c := [.vp (eS a1)]) (q1_b := Try_cal_35) (q1_h := fun _ r h => (scope_Place_1_ok h)) h6) rfl rfl rfl) ?_
  refine ras ?_
  refine reg_nil ?_
  refine post_imp (s' := ⟨27, [(2, some (.lp 0 0)), (5, some (.fn 35 [.lp 1 0])), (6, some (.pv (.int .i64 y5)))], [(0, some (.box 66 (bxv (eGMethod a0)))), (1, some (.box 9 [.pv (.str a1)]))], 2, [], [], 0, []⟩) (imps [0, 1] ⟨by kernel_rfl, by kernel_rfl, by kernel_rfl, trivial⟩ ⟨by kernel_rfl, by kernel_rfl, trivial⟩) ?_
  refine post_next ?_
  refine aw_seq ?_
  refine aw_region ?_
  refine rmv ?_
  refine reg_cons (guard_no rfl) (op_int (k := .i64) (m := y5) (n := 0) rfl rfl rfl rfl rfl rfl) ?_
  refine reg_nil ?_
  refine post_imp (s' := ⟨27, [(2, some (.lp 0 0)), (5, some (.fn 35 [.lp 1 0])), (6, some (.pv (.int .i64 y5))), (14, some (.pv (.bool (decide (y5 ≥ 0)))))], [(0, some (.box 66 (bxv (eGMethod a0)))), (1, some (.box 9 [.pv (.str a1)]))], 2, [], [], 0, []⟩) (imps [0, 1] ⟨by kernel_rfl, by kernel_rfl, by kernel_rfl, by kernel_rfl, trivial⟩ ⟨by kernel_rfl, by kernel_rfl, trivial⟩) ?_
  refine post_next ?_
  rcases ite_some hF with ⟨hb7, hF⟩ | ⟨hb7, hF⟩
  · refine aw_cond_t rfl hb7 ?_
    refine aw_seq ?_
    refine aw_region ?_
    refine rmv ?_
    refine ras ?_
    refine reg_nil ?_
    refine post_imp (s' := ⟨27, [(4, some (.pv (.int .i64 y5)))], [], 0, [], [], 0, []⟩) (imps [] ⟨by kernel_rfl, trivial⟩ trivial) ?_
    refine post_next ?_
    refine aw_ret ?_
    refine post_then_ret ?_
    obtain rfl := Option.some.inj hF
    exact post_ret rfl rfl (.cons _ _ _ _ _ (.tmp _ _ rfl) (.p _) .nil) (.inl rfl)
  refine aw_cond_f rfl hb7 ?_
  refine aw_skip ?_
  refine post_next ?_
  refine aw_seq ?_
  refine aw_region ?_
  refine reg_cons (guard_no rfl) (op_field_lp rfl rfl Try_fld_66_4 rfl rfl) ?_
  refine reg_cons (guard_no rfl) (op_load_lp (v := .pv (.vs 13 (List.map eGVar a0.fLocals))) rfl rfl rfl rfl Try_one_46 rfl rfl) ?_
  refine rmv ?_
  obtain ⟨y12, h13, hF⟩ := bind_some hF
  refine reg_cons (guard_no rfl) (op_callB 2 rfl (caps := []) (args := [.vs 13 (List.map eGVar a0.fLocals), .fn 35 [.vp (eS a1)]]) [(1, some (.box 9 [.pv (.str a1)]))] rfl rfl rfl (FzH.spec ⟨rfl, trivial⟩) rfl rfl Try_cal_36 (slices_IndexFunc_api_Var_ok (q1_f := 35) (q1_c := [.vp (eS a1)]) (q1_b := Try_cal_35) (q1_h := fun _ r h => (scope_Place_1_ok h)) h13) rfl rfl rfl) ?_
  refine ras ?_
  refine reg_nil ?_
  refine post_imp (s' := ⟨27, [(2, some (.lp 0 0)), (7, some (.pv (.int .i64 y12)))], [(0, some (.box 66 (bxv (eGMethod a0))))], 1, [], [], 0, []⟩) (imps [0] ⟨by kernel_rfl, by kernel_rfl, trivial⟩ ⟨by kernel_rfl, trivial⟩) ?_
  refine post_next ?_
  iterate 2 (refine aw_seq ?_)
  refine aw_region ?_
  refine rmv ?_
  refine reg_cons (guard_no rfl) (op_int (k := .i64) (m := y12) (n := 0) rfl rfl rfl rfl rfl rfl) ?_
  refine reg_nil ?_
  refine post_imp (s' := ⟨27, [(2, some (.lp 0 0)), (7, some (.pv (.int .i64 y12))), (21, some (.pv (.bool (decide (y12 < 0)))))], [(0, some (.box 66 (bxv (eGMethod a0))))], 1, [], [], 0, []⟩) (imps [0] ⟨by kernel_rfl, by kernel_rfl, by kernel_rfl, trivial⟩ ⟨by kernel_rfl, trivial⟩) ?_
  refine post_next ?_
  rcases ite_some hF with ⟨hb14, hF⟩ | ⟨hb14, hF⟩
  · refine aw_cond_t rfl hb14 ?_
    refine aw_seq ?_
    refine aw_region ?_
    refine ras ?_
    refine reg_nil ?_
    refine post_imp (s' := ⟨27, [(4, some (.pv (.int .i64 (-1))))], [], 0, [], [], 0, []⟩) (imps [] ⟨by kernel_rfl, trivial⟩ trivial) ?_
    refine post_next ?_
    refine aw_ret ?_
    refine post_then_ret ?_
    obtain rfl := Option.some.inj hF
    exact post_ret rfl rfl (.cons _ _ _ _ _ (.tmp _ _ rfl) (.p _) .nil) (.inl rfl)
  refine aw_cond_f rfl hb14 ?_
  refine aw_skip ?_
  refine post_next ?_
  refine aw_seq ?_
  refine aw_region ?_
  refine reg_cons (guard_no rfl) (op_field_lp rfl rfl Try_fld_66_3 rfl rfl) ?_
  refine reg_cons (guard_no rfl) (op_load_lp (v := .pv (.vs 13 (List.map eGVar a0.fParams))) rfl rfl rfl rfl Try_one_46 rfl rfl) ?_
  refine reg_cons (guard_no rfl) (op_len_vs (n := a0.fParams.length) rfl rfl (List.length_map ..) Try_slc_46 rfl rfl) ?_
  refine rmv ?_
  refine reg_cons (guard_no rfl) (op_int (k := .i64) (m := (a0.fParams.length : Int)) (n := y12) rfl rfl rfl rfl rfl rfl) ?_
  refine ras ?_
  refine reg_nil ?_
  refine post_imp (s' := ⟨27, [(4, some (.pv (.int .i64 (w_i64 ((a0.fParams.length : Int) + y12)))))], [], 0, [], [], 0, []⟩) (imps [] ⟨by kernel_rfl, trivial⟩ trivial) ?_
  refine post_next ?_
  refine aw_ret ?_
  obtain rfl := Option.some.inj hF
  exact post_ret rfl rfl (.cons _ _ _ _ _ (.tmp _ _ rfl) (.p _) .nil) (.inl rfl)
theorem frame_place_ok {a0 : List GClass} {a1 : GFrame} {a2 : List UInt8} {r : Int} (hF : frame_place a0 a1 a2 = some r) : Abs.Fn Try.prog 15 [.vs 7 (List.map eGClass a0), .agg (eGFrame a1), .str a2] [.p (.int .i64 r)] := by
  unfold frame_place at hF
  refine fn_of_body (n := 30) Try.func15 rfl rfl rfl ?_
  intro w O
  refine aw_seq ?_
  refine aw_region ?_
  refine reg_cons (guard_no rfl) (op_box 0 rfl rfl rfl rfl rfl rfl) ?_
  refine ras ?_
  refine reg_nil ?_
  refine post_imp (s' := ⟨30, [(0, some (.pv (.vs 7 (List.map eGClass a0)))), (2, some (.pv (.str a2))), (4, some (.lp 0 0))], [(0, some (.box 26 (bxv (eGFrame a1))))], 1, [], [], 0, []⟩) (imps [0] ⟨by kernel_rfl, by kernel_rfl, by kernel_rfl, trivial⟩ ⟨by kernel_rfl, trivial⟩) ?_
  refine post_next ?_
  refine aw_seq ?_
  refine aw_region ?_
  refine rmv ?_
  refine reg_cons (guard_no rfl) (op_load_lp_agg (ps := eGFrame a1) rfl rfl rfl rfl rfl rfl Try_agg_26 rfl rfl) ?_
  obtain ⟨y3, h4, hF⟩ := bind_some hF
  refine reg_cons (guard_no rfl) (op_call 1 rfl (caps := []) (args := [.vs 7 (List.map eGClass a0), .agg (eGFrame a1)]) (rs := [.p (.agg (eGClass y3.1)), .p (.agg (eGMethod y3.2.1)), .p (.bool y3.2.2)]) rfl rfl rfl Try_cal_17 (frame_Method_ok h4) rfl rfl rfl) ?_
  refine rmv ?_
  iterate 3 (refine reg_cons (guard_no rfl) (op_extract rfl rfl rfl rfl rfl) ?_)
  refine reg_cons (guard_no rfl) (op_alloc 1 rfl (ps := (eGClass zGClass)) rfl Try_zer_49 (by exact ⟨rfl, trivial, rfl, trivial, trivial, trivial, rfl, trivial⟩) rfl rfl) ?_
  refine reg_cons (guard_no rfl) (op_alloc 2 rfl (ps := (eGMethod zGMethod)) rfl Try_zer_66 (by exact ⟨rfl, rfl, rfl, rfl, rfl, rfl, rfl, rfl, rfl, rfl, rfl, rfl, rfl, trivial, trivial, trivial, rfl, trivial⟩) rfl rfl) ?_
  refine reg_cons (guard_no rfl) (op_store_lp (n := 7) rfl rfl rfl rfl rfl (or_agg Try_agg_49) (by rw [Try_non_49]; rfl) rfl rfl rfl) ?_
  refine reg_cons (guard_no rfl) (op_store_lp (n := 17) rfl rfl rfl rfl rfl (or_agg Try_agg_66) (by rw [Try_non_66]; rfl) rfl rfl rfl) ?_
  refine ras ?_
  refine reg_nil ?_
  refine post_imp (s' := ⟨30, [(2, some (.pv (.str a2))), (4, some (.lp 0 0)), (8, some (.lp 1 0)), (9, some (.pv (.bool y3.2.2)))], [(0, some (.box 26 (bxv (eGFrame a1)))), (1, some (.box 66 (bxv (eGMethod y3.2.1))))], 2, [], [], 0, []⟩) (imps [0, 2] ⟨by kernel_rfl, by kernel_rfl, by kernel_rfl, by kernel_rfl, trivial⟩ ⟨by kernel_rfl, by kernel_rfl, trivial⟩) ?_
  refine post_next ?_
  iterate 2 (refine aw_seq ?_)
  refine aw_region ?_
  refine reg_cons (guard_no rfl) (op_load_lp_agg (ps := eGMethod y3.2.1) rfl rfl rfl rfl rfl rfl Try_agg_66 rfl rfl) ?_
  refine rmv ?_
  obtain ⟨y7, h8, hF⟩ := bind_some hF
  refine reg_cons (guard_no rfl) (op_call 2 rfl (caps := []) (args := [.agg (eGMethod y3.2.1), .str a2]) (rs := [.p (.int .i64 y7)]) rfl rfl rfl Try_cal_25 (scope_Place_ok h8) rfl rfl rfl) ?_
  refine ras ?_
  refine reg_nil ?_
  refine post_imp (s' := ⟨30, [(4, some (.lp 0 0)), (9, some (.pv (.bool y3.2.2))), (10, some (.pv (.int .i64 y7)))], [(0, some (.box 26 (bxv (eGFrame a1))))], 1, [], [], 0, []⟩) (imps [0] ⟨by kernel_rfl, by kernel_rfl, by kernel_rfl, trivial⟩ ⟨by kernel_rfl, trivial⟩) ?_
  refine post_next ?_
  refine aw_seq ?_
  obtain ⟨x10, hF, hK12⟩ := bind_some hF
  refine aw_cut (fun s1 => s1 = ⟨30, [(10, some (.pv (.int .i64 y7))), (28, some (.pv (.bool x10)))], [], 0, [], [], 0, []⟩) ?_ ?_
  · refine aw_region ?_
    iterate 2 (refine rmv ?_)
    rcases ite_some hF with ⟨hb9, hF⟩ | ⟨hb9, hF⟩
    · refine reg_cons (guard_on rfl rfl rfl rfl hb9) (op_move rfl rfl rfl rfl) ?_
      refine reg_cons (guard_on rfl rfl rfl rfl hb9) (op_field_lp rfl rfl Try_fld_26_3 rfl rfl) ?_
      refine reg_cons (guard_on rfl rfl rfl rfl hb9) (op_load_lp (v := .pv (.vs 2 (List.map eGVal a1.fVars))) rfl rfl rfl rfl Try_one_24 rfl rfl) ?_
      refine reg_cons (guard_on rfl rfl rfl rfl hb9) (op_len_vs (n := a1.fVars.length) rfl rfl (List.length_map ..) Try_slc_24 rfl rfl) ?_
      refine reg_cons (guard_on rfl rfl rfl rfl hb9) (op_int (k := .i64) (m := y7) (n := (a1.fVars.length : Int)) rfl rfl rfl rfl rfl rfl) ?_
      refine rpt hb9 ?_
      refine reg_nil ?_
      cases hF
      exact post_cut _ rfl (imps [] ⟨by kernel_rfl, by kernel_rfl, trivial⟩ trivial)
    iterate 5 (refine rgo_f hb9 ?_)
    refine rpf hb9 ?_
    refine reg_nil ?_
    cases hF
    exact post_cut _ rfl (imps [] ⟨by kernel_rfl, by kernel_rfl, trivial⟩ trivial)
  rintro _ rfl
  have hF := hK12
  clear hK12
  refine post_next ?_
  rcases ite_some hF with ⟨hb13, hF⟩ | ⟨hb13, hF⟩
  · refine aw_cond_t rfl hb13 ?_
    refine aw_seq ?_
    refine aw_region ?_
    refine rmv ?_
    refine ras ?_
    refine reg_nil ?_
    refine post_imp (s' := ⟨30, [(6, some (.pv (.int .i64 y7)))], [], 0, [], [], 0, []⟩) (imps [] ⟨by kernel_rfl, trivial⟩ trivial) ?_
    refine post_next ?_
    refine aw_ret ?_
    refine post_then_ret ?_
    obtain rfl := Option.some.inj hF
    exact post_ret rfl rfl (.cons _ _ _ _ _ (.tmp _ _ rfl) (.p _) .nil) (.inl rfl)
  refine aw_cond_f rfl hb13 ?_
  refine aw_skip ?_
  refine post_next ?_
  refine aw_seq ?_
  refine aw_region ?_
  refine ras ?_
  refine reg_nil ?_
  refine post_imp (s' := ⟨30, [(6, some (.pv (.int .i64 (-1))))], [], 0, [], [], 0, []⟩) (imps [] ⟨by kernel_rfl, trivial⟩ trivial) ?_
  refine post_next ?_
  refine aw_ret ?_
  obtain rfl := Option.some.inj hF
  exact post_ret rfl rfl (.cons _ _ _ _ _ (.tmp _ _ rfl) (.p _) .nil) (.inl rfl)
theorem slices_Clone_api_Val_ok {a0 : List GVal} {r : List GVal} (hF : slices_Clone_api_Val a0 = some r) : Abs.Fn Try.prog 16 [.vs 2 (List.map eGVal a0)] [.own 30 2 (List.map eGVal r)] := by
  unfold slices_Clone_api_Val at hF
  obtain ⟨u, h, hF⟩ := bind_some hF
  obtain rfl := Option.some.inj hF
  refine fn_of_body (n := 8) Try.func16 rfl rfl rfl ?_
  intro w O
  refine aw_seq ?_
  refine aw_region ?_
  refine reg_cons (guard_no rfl) (op_assign rfl rfl rfl rfl) ?_
  refine reg_nil ?_
  refine post_next ?_
  iterate 2 (refine aw_seq ?_)
  refine aw_region ?_
  refine reg_cons (guard_no rfl) (op_move rfl rfl rfl rfl) ?_
  refine op_eqNil rfl rfl rfl Try_slc_24 (guard_no rfl) rfl rfl ?_ ?_
  · intro hn
    refine reg_nil ?_
    refine post_next ?_
    refine aw_cond_t rfl rfl ?_
    refine aw_seq ?_
    refine aw_region ?_
    refine reg_cons (guard_no rfl) (op_assign rfl rfl rfl rfl) ?_
    refine reg_nil ?_
    refine post_next ?_
    refine aw_ret ?_
    refine post_then_ret ?_
    refine post_imp (imp_nil_own 2 30 2 0 rfl rfl) ?_
    rw [hn]
    exact post_ret rfl rfl (.cons _ _ _ _ _ (.tmp _ _ rfl) (.own _ _ _ _ rfl nolent3) .nil) (.inl rfl)
  · refine reg_nil ?_
    refine post_next ?_
    refine aw_cond_f rfl rfl ?_
    refine aw_skip ?_
    refine post_next ?_
    refine aw_seq ?_
    refine aw_region ?_
    refine reg_cons (guard_no rfl) (op_litOwn 0 rfl (rows := List.map eGVal ([] : List GVal)) (zs := [.bool zGVal.fRef, .int .i64 zGVal.fN]) rfl rfl Try_slc_24 Try_zer_30 (by exact ⟨rfl, rfl, trivial⟩) rfl rfl rfl rfl rfl rfl rfl rfl) ?_
    refine reg_cons (guard_no rfl) (op_move rfl rfl rfl rfl) ?_
    refine reg_cons (guard_no rfl) (op_append 1 rfl rfl rfl rfl rfl Try_slc_24 Try_elm_30 Try_zer_30 rfl rfl rfl (room_map (f := eGVal) (g := eGVal) h) (List.map_append (f := eGVal) (l₁ := []) (l₂ := a0)).symm rfl rfl) ?_
    refine reg_cons (guard_no rfl) (op_assign rfl rfl rfl rfl) ?_
    refine reg_nil ?_
    refine post_next ?_
    refine aw_ret ?_
    exact post_ret rfl rfl (.cons _ _ _ _ _ (.tmp _ _ rfl) (.own _ _ _ _ rfl nolent3) .nil) (.inl rfl)
theorem frame_Set_ok {a0 : List GClass} {a1 : GFrame} {a2 : List UInt8} {a3 : GVal} {r : GFrame × Bool} (hF : frame_Set a0 a1 a2 a3 = some r) : Abs.Fn Try.prog 6 [.vs 7 (List.map eGClass a0), .agg (eGFrame a1), .str a2, .agg (eGVal a3)] [.p (.agg (eGFrame r.1)), .p (.bool r.2)] := by
  unfold frame_Set at hF
  refine fn_of_body (n := 32) Try.func6 rfl rfl rfl ?_
  intro w O
  refine aw_seq ?_
  refine aw_region ?_
  refine reg_cons (guard_no rfl) (op_box 0 rfl rfl rfl rfl rfl rfl) ?_
  refine reg_cons (guard_no rfl) (op_box 1 rfl rfl rfl rfl rfl rfl) ?_
  refine reg_cons (guard_no rfl) (op_alloc 2 rfl (ps := (eGFrame zGFrame)) rfl Try_zer_26 (by exact ⟨rfl, rfl, rfl, trivial, rfl, rfl, trivial⟩) rfl rfl) ?_
  refine ras ?_
  refine reg_nil ?_
  refine post_imp (s' := ⟨32, [(0, some (.pv (.vs 7 (List.map eGClass a0)))), (2, some (.pv (.str a2))), (5, some (.lp 0 0)), (7, some (.lp 1 0)), (8, some (.lp 2 0))], [(0, some (.box 26 (bxv (eGFrame a1)))), (1, some (.box 30 (bxv (eGVal a3)))), (2, some (.box 26 (bxv (eGFrame zGFrame))))], 3, [], [], 0, []⟩) (imps [0, 1, 2] ⟨by kernel_rfl, by kernel_rfl, by kernel_rfl, by kernel_rfl, by kernel_rfl, trivial⟩ ⟨by kernel_rfl, by kernel_rfl, by kernel_rfl, trivial⟩) ?_
  refine post_next ?_
  refine aw_seq ?_
  refine aw_region ?_
  refine rmv ?_
  refine reg_cons (guard_no rfl) (op_load_lp_agg (ps := eGFrame a1) rfl rfl rfl rfl rfl rfl Try_agg_26 rfl rfl) ?_
  refine rmv ?_
  obtain ⟨y3, h4, hF⟩ := bind_some hF
  refine reg_cons (guard_no rfl) (op_call 3 rfl (caps := []) (args := [.vs 7 (List.map eGClass a0), .agg (eGFrame a1), .str a2]) (rs := [.p (.int .i64 y3)]) rfl rfl rfl Try_cal_15 (frame_place_ok h4) rfl rfl rfl) ?_
  refine ras ?_
  refine reg_nil ?_
  refine post_imp (s' := ⟨32, [(2, some (.pv (.str a2))), (5, some (.lp 0 0)), (7, some (.lp 1 0)), (8, some (.lp 2 0)), (10, some (.pv (.int .i64 y3)))], [(0, some (.box 26 (bxv (eGFrame a1)))), (1, some (.box 30 (bxv (eGVal a3)))), (2, some (.box 26 (bxv (eGFrame zGFrame))))], 3, [], [], 0, []⟩) (imps [0, 1, 2] ⟨by kernel_rfl, by kernel_rfl, by kernel_rfl, by kernel_rfl, by kernel_rfl, trivial⟩ ⟨by kernel_rfl, by kernel_rfl, by kernel_rfl, trivial⟩) ?_
  refine post_next ?_
  iterate 2 (refine aw_seq ?_)
  obtain ⟨x6, hF, hK8⟩ := bind_some hF
  refine aw_cut (fun s1 => s1 = ⟨32, [(5, some (.lp 0 0)), (7, some (.lp 1 0)), (8, some (.lp 2 0)), (10, some (.pv (.int .i64 y3))), (20, some (.pv (.bool x6)))], [(0, some (.box 26 (bxv (eGFrame a1)))), (1, some (.box 30 (bxv (eGVal a3)))), (2, some (.box 26 (bxv (eGFrame zGFrame))))], 3, [], [], 0, []⟩) ?_ ?_
  · refine aw_region ?_
    refine rmv ?_
    refine reg_cons (guard_no rfl) (op_int (k := .i64) (m := y3) (n := 0) rfl rfl rfl rfl rfl rfl) ?_
    refine rmv ?_
    rcases ite_some hF with ⟨hb5, hF⟩ | ⟨hb5, hF⟩
    · refine rgo_t hb5 ?_
      refine rgo_t hb5 ?_
      refine rpt hb5 ?_
      refine reg_nil ?_
      cases hF
      exact post_cut _ rfl (imps [0, 1, 2] ⟨by kernel_rfl, by kernel_rfl, by kernel_rfl, by kernel_rfl, by kernel_rfl, trivial⟩ ⟨by kernel_rfl, by kernel_rfl, by kernel_rfl, trivial⟩)
    refine reg_cons (guard_on rfl rfl rfl rfl hb5) (op_move rfl rfl rfl rfl) ?_
    refine reg_cons (guard_on rfl rfl rfl rfl hb5) (op_str rfl rfl rfl rfl rfl rfl) ?_
    refine rpf hb5 ?_
    refine reg_nil ?_
    cases hF
    exact post_cut _ rfl (imps [0, 1, 2] ⟨by kernel_rfl, by kernel_rfl, by kernel_rfl, by kernel_rfl, by kernel_rfl, trivial⟩ ⟨by kernel_rfl, by kernel_rfl, by kernel_rfl, trivial⟩)
  rintro _ rfl
  have hF := hK8
  clear hK8
  refine post_next ?_
  rcases ite_some hF with ⟨hb9, hF⟩ | ⟨hb9, hF⟩
  · refine aw_cond_t rfl hb9 ?_
    refine aw_seq ?_
    refine aw_region ?_
    refine reg_cons (guard_no rfl) (op_build (zs := (eGFrame zGFrame)) (r := eGFrame ({ fThis := 0, fClass := [], fMethod := [], fVars := [], fPC := 0, fInto := 0 } : GFrame)) rfl Try_zer_26 (by exact ⟨rfl, rfl, rfl, trivial, rfl, rfl, trivial⟩) Try_plc_26 rfl rfl rfl rfl) ?_
    refine reg_cons (guard_no rfl) (op_store_lp (n := 6) rfl rfl rfl rfl rfl (or_agg Try_agg_26) (by rw [Try_non_26]; rfl) rfl rfl rfl) ?_
    refine ras ?_
    refine reg_nil ?_
    refine post_imp (s' := ⟨32, [(8, some (.lp 0 0)), (9, some (.pv (.bool false)))], [(0, some (.box 26 (bxv (eGFrame ({ fThis := 0, fClass := [], fMethod := [], fVars := [], fPC := 0, fInto := 0 } : GFrame)))))], 1, [], [], 0, []⟩) (imps [2] ⟨by kernel_rfl, by kernel_rfl, trivial⟩ ⟨by kernel_rfl, trivial⟩) ?_
    refine post_next ?_
    refine aw_ret ?_
    refine post_then_ret ?_
    obtain rfl := Option.some.inj hF
    exact post_ret rfl rfl (.cons _ _ _ _ _ (.agg _ _ _ _ _ 6 _ _ rfl rfl Try_agg_26 rfl rfl rfl) (.p _) (.cons _ _ _ _ _ (.tmp _ _ rfl) (.p _) .nil)) (.inl rfl)
  refine aw_cond_f rfl hb9 ?_
  refine aw_skip ?_
  refine post_next ?_
  refine aw_seq ?_
  refine aw_region ?_
  refine reg_cons (guard_no rfl) (op_field_lp rfl rfl Try_fld_26_3 rfl rfl) ?_
  refine reg_cons (guard_no rfl) (op_load_lp (v := .pv (.vs 2 (List.map eGVal a1.fVars))) rfl rfl rfl rfl Try_one_24 rfl rfl) ?_
  obtain ⟨y12, h13, hF⟩ := bind_some hF
  refine reg_cons (guard_no rfl) (op_call 3 rfl (caps := []) (args := [.vs 2 (List.map eGVal a1.fVars)]) (rs := [.own 30 2 (List.map eGVal y12)]) rfl rfl rfl Try_cal_16 (slices_Clone_api_Val_ok h13) rfl rfl rfl) ?_
  refine reg_cons (guard_no rfl) (op_field_lp rfl rfl Try_fld_26_3 rfl rfl) ?_
  refine reg_cons (guard_no rfl) (op_store_lp (n := 1) rfl rfl rfl rfl rfl (or_one Try_one_24) (by rw [Try_one_24]; rfl) rfl rfl rfl) ?_
  refine reg_nil ?_
  refine post_imp (s' := ⟨32, [(5, some (.lp 0 0)), (7, some (.lp 2 0)), (8, some (.lp 3 0)), (10, some (.pv (.int .i64 y3)))], [(0, some (.box 26 [.pv (.int .i64 a1.fThis), .pv (.str a1.fClass), .pv (.str a1.fMethod), .ls 1, .pv (.int .i64 a1.fPC), .pv (.int .i64 a1.fInto)])), (1, some (.row 30 2 (List.map eGVal y12))), (2, some (.box 30 (bxv (eGVal a3)))), (3, some (.box 26 (bxv (eGFrame zGFrame))))], 4, [], [], 0, []⟩) (imps [0, 3, 1, 2] ⟨by kernel_rfl, by kernel_rfl, by kernel_rfl, by kernel_rfl, trivial⟩ ⟨by kernel_rfl, by kernel_rfl, by kernel_rfl, by kernel_rfl, trivial⟩) ?_
  refine post_next ?_
  refine aw_seq ?_
  refine aw_region ?_
  refine reg_cons (guard_no rfl) (op_field_lp rfl rfl Try_fld_26_3 rfl rfl) ?_
  refine reg_cons (guard_no rfl) (op_load_lp (v := .ls 1) rfl rfl rfl rfl Try_one_24 rfl rfl) ?_
  refine rmv ?_
  refine reg_cons (guard_no rfl) (op_load_lp_agg (ps := eGVal a3) rfl rfl rfl rfl rfl rfl Try_agg_30 rfl rfl) ?_
  obtain ⟨y14, h15, hF⟩ := bind_some hF
  refine reg_cons (guard_no rfl) (op_index_ls (k := .i64) rfl rfl rfl rfl (idx_map eGVal h15) Try_slc_24 rfl rfl) ?_
  refine reg_cons (guard_no rfl) (op_store_le (n := 2) rfl rfl rfl rfl rfl (map_get eGVal h15) (or_agg Try_agg_30) (by rw [Try_non_30]; rfl) rfl (map_set' eGVal y12 _ a3) rfl rfl) ?_
  refine reg_nil ?_
  refine post_imp (s' := ⟨32, [(5, some (.lp 0 0)), (8, some (.lp 2 0))], [(0, some (.box 26 [.pv (.int .i64 a1.fThis), .pv (.str a1.fClass), .pv (.str a1.fMethod), .ls 1, .pv (.int .i64 a1.fPC), .pv (.int .i64 a1.fInto)])), (1, some (.row 30 2 (List.map eGVal (y12.set (y3 : Int).toNat a3)))), (2, some (.box 26 (bxv (eGFrame zGFrame))))], 3, [], [], 0, []⟩) (imps [0, 1, 3] ⟨by kernel_rfl, by kernel_rfl, trivial⟩ ⟨by kernel_rfl, by kernel_rfl, by kernel_rfl, trivial⟩) ?_
  refine post_next ?_
  refine aw_seq ?_
  refine aw_region ?_
  refine reg_imp (imp_freeze_in [(1, some (.row 30 2 (List.map eGVal (y12.set (y3 : Int).toNat a3))))] [] 0 3 1 (FzH.spec ⟨rfl, trivial⟩) trivial rfl rfl rfl) ?_
  refine reg_cons (guard_no rfl) (op_load_lp_agg (ps := eGFrame ({ fThis := a1.fThis, fClass := a1.fClass, fMethod := a1.fMethod, fVars := (y12.set (y3 : Int).toNat a3), fPC := a1.fPC, fInto := a1.fInto } : GFrame)) rfl rfl rfl rfl rfl rfl Try_agg_26 rfl rfl) ?_
  refine reg_cons (guard_no rfl) (op_store_lp (n := 6) rfl rfl rfl rfl rfl (or_agg Try_agg_26) (by rw [Try_non_26]; rfl) rfl rfl rfl) ?_
  refine ras ?_
  refine reg_nil ?_
  refine post_imp (s' := ⟨32, [(8, some (.lp 0 0)), (9, some (.pv (.bool true)))], [(0, some (.box 26 (bxv (eGFrame ({ fThis := a1.fThis, fClass := a1.fClass, fMethod := a1.fMethod, fVars := (y12.set (y3 : Int).toNat a3), fPC := a1.fPC, fInto := a1.fInto } : GFrame)))))], 1, [], [], 0, []⟩) (imps [2] ⟨by kernel_rfl, by kernel_rfl, trivial⟩ ⟨by kernel_rfl, trivial⟩) ?_
  refine post_next ?_
  refine aw_ret ?_
  obtain rfl := Option.some.inj hF
  exact post_ret rfl rfl (.cons _ _ _ _ _ (.agg _ _ _ _ _ 6 _ _ rfl rfl Try_agg_26 rfl rfl rfl) (.p _) (.cons _ _ _ _ _ (.tmp _ _ rfl) (.p _) .nil)) (.inl rfl)
theorem frame_Get_ok {a0 : List GClass} {a1 : GFrame} {a2 : List UInt8} {r : GVal × Bool} (hF : frame_Get a0 a1 a2 = some r) : Abs.Fn Try.prog 7 [.vs 7 (List.map eGClass a0), .agg (eGFrame a1), .str a2] [.p (.agg (eGVal r.1)), .p (.bool r.2)] := by
  unfold frame_Get at hF
  refine fn_of_body (n := 37) Try.func7 rfl rfl rfl ?_
  intro w O
  refine aw_seq ?_
  refine aw_region ?_
  refine reg_cons (guard_no rfl) (op_box 0 rfl rfl rfl rfl rfl rfl) ?_
  refine reg_cons (guard_no rfl) (op_alloc 1 rfl (ps := (eGVal zGVal)) rfl Try_zer_30 (by exact ⟨rfl, rfl, trivial⟩) rfl rfl) ?_
  refine ras ?_
  refine reg_nil ?_
  refine post_imp (s' := ⟨37, [(0, some (.pv (.vs 7 (List.map eGClass a0)))), (2, some (.pv (.str a2))), (4, some (.lp 0 0)), (6, some (.lp 1 0))], [(0, some (.box 26 (bxv (eGFrame a1)))), (1, some (.box 30 (bxv (eGVal zGVal))))], 2, [], [], 0, []⟩) (imps [0, 1] ⟨by kernel_rfl, by kernel_rfl, by kernel_rfl, by kernel_rfl, trivial⟩ ⟨by kernel_rfl, by kernel_rfl, trivial⟩) ?_
  refine post_next ?_
  refine aw_seq ?_
  refine aw_join hF (fun q => ⟨37, [(0, some (.pv (.vs 7 (List.map eGClass a0)))), (2, some (.pv (.str a2))), (4, some (.lp 0 0)), (6, some (.lp 1 0))], [(0, some (.box 26 (bxv (eGFrame a1)))), (1, some (.box 30 (bxv (eGVal zGVal))))], 2, [], [], 0, []⟩) ?_ ?_
  · refine aw_seq ?_
    refine aw_region ?_
    refine rmv ?_
    refine reg_cons (guard_no rfl) (op_str rfl rfl rfl rfl rfl rfl) ?_
    refine reg_nil ?_
    refine post_imp (s' := ⟨37, [(0, some (.pv (.vs 7 (List.map eGClass a0)))), (2, some (.pv (.str a2))), (4, some (.lp 0 0)), (6, some (.lp 1 0)), (13, some (.pv (.bool (a2 == [116, 104, 105, 115]))))], [(0, some (.box 26 (bxv (eGFrame a1)))), (1, some (.box 30 (bxv (eGVal zGVal))))], 2, [], [], 0, []⟩) (imps [0, 1] ⟨by kernel_rfl, by kernel_rfl, by kernel_rfl, by kernel_rfl, by kernel_rfl, trivial⟩ ⟨by kernel_rfl, by kernel_rfl, trivial⟩) ?_
    refine post_next ?_
    rcases go_ite hF with ⟨hb1, hF⟩ | ⟨hb1, hF⟩
    · refine aw_cond_t rfl hb1 ?_
      refine aw_seq ?_
      refine aw_region ?_
      refine rmv ?_
      refine reg_cons (guard_no rfl) (op_load_lp_agg (ps := eGFrame a1) rfl rfl rfl rfl rfl rfl Try_agg_26 rfl rfl) ?_
      obtain ⟨y4, h5, hF⟩ := go_bind hF
      refine reg_cons (guard_no rfl) (op_call 2 rfl (caps := []) (args := [.vs 7 (List.map eGClass a0), .agg (eGFrame a1)]) (rs := [.p (.agg (eGClass y4.1)), .p (.agg (eGMethod y4.2.1)), .p (.bool y4.2.2)]) rfl rfl rfl Try_cal_17 (frame_Method_ok h5) rfl rfl rfl) ?_
      refine rmv ?_
      iterate 3 (refine reg_cons (guard_no rfl) (op_extract rfl rfl rfl rfl rfl) ?_)
      refine reg_cons (guard_no rfl) (op_alloc 2 rfl (ps := (eGClass zGClass)) rfl Try_zer_49 (by exact ⟨rfl, trivial, rfl, trivial, trivial, trivial, rfl, trivial⟩) rfl rfl) ?_
      refine reg_cons (guard_no rfl) (op_alloc 3 rfl (ps := (eGMethod zGMethod)) rfl Try_zer_66 (by exact ⟨rfl, rfl, rfl, rfl, rfl, rfl, rfl, rfl, rfl, rfl, rfl, rfl, rfl, trivial, trivial, trivial, rfl, trivial⟩) rfl rfl) ?_
      refine reg_cons (guard_no rfl) (op_store_lp (n := 7) rfl rfl rfl rfl rfl (or_agg Try_agg_49) (by rw [Try_non_49]; rfl) rfl rfl rfl) ?_
      refine reg_cons (guard_no rfl) (op_store_lp (n := 17) rfl rfl rfl rfl rfl (or_agg Try_agg_66) (by rw [Try_non_66]; rfl) rfl rfl rfl) ?_
      refine ras ?_
      refine reg_nil ?_
      refine post_imp (s' := ⟨37, [(0, some (.pv (.vs 7 (List.map eGClass a0)))), (2, some (.pv (.str a2))), (4, some (.lp 0 0)), (6, some (.lp 1 0)), (10, some (.pv (.bool y4.2.2)))], [(0, some (.box 26 (bxv (eGFrame a1)))), (1, some (.box 30 (bxv (eGVal zGVal))))], 2, [], [], 0, []⟩) (imps [0, 1] ⟨by kernel_rfl, by kernel_rfl, by kernel_rfl, by kernel_rfl, by kernel_rfl, trivial⟩ ⟨by kernel_rfl, by kernel_rfl, trivial⟩) ?_
      refine post_next ?_
      refine aw_seq ?_
      refine aw_region ?_
      refine rmv ?_
      refine reg_nil ?_
      refine post_imp (s' := ⟨37, [(0, some (.pv (.vs 7 (List.map eGClass a0)))), (2, some (.pv (.str a2))), (4, some (.lp 0 0)), (6, some (.lp 1 0)), (21, some (.pv (.bool y4.2.2)))], [(0, some (.box 26 (bxv (eGFrame a1)))), (1, some (.box 30 (bxv (eGVal zGVal))))], 2, [], [], 0, []⟩) (imps [0, 1] ⟨by kernel_rfl, by kernel_rfl, by kernel_rfl, by kernel_rfl, by kernel_rfl, trivial⟩ ⟨by kernel_rfl, by kernel_rfl, trivial⟩) ?_
      refine post_next ?_
      rcases go_ite hF with ⟨hb6, hF⟩ | ⟨hb6, hF⟩
      · refine aw_cond_t rfl hb6 ?_
        refine aw_seq ?_
        refine aw_region ?_
        refine reg_cons (guard_no rfl) (op_field_lp rfl rfl Try_fld_26_0 rfl rfl) ?_
        refine reg_cons (guard_no rfl) (op_load_lp (v := .pv (.int .i64 a1.fThis)) rfl rfl rfl rfl Try_one_3 rfl rfl) ?_
        refine reg_cons (guard_no rfl) (op_build (zs := (eGVal zGVal)) (r := eGVal ({ fRef := true, fN := a1.fThis } : GVal)) rfl Try_zer_30 (by exact ⟨rfl, rfl, trivial⟩) Try_plc_30 rfl rfl rfl rfl) ?_
        refine reg_cons (guard_no rfl) (op_store_lp (n := 2) rfl rfl rfl rfl rfl (or_agg Try_agg_30) (by rw [Try_non_30]; rfl) rfl rfl rfl) ?_
        refine ras ?_
        refine reg_nil ?_
        refine post_imp (s' := ⟨37, [(6, some (.lp 0 0)), (7, some (.pv (.bool true)))], [(0, some (.box 30 (bxv (eGVal ({ fRef := true, fN := a1.fThis } : GVal)))))], 1, [], [], 0, []⟩) (imps [1] ⟨by kernel_rfl, by kernel_rfl, trivial⟩ ⟨by kernel_rfl, trivial⟩) ?_
        refine post_next ?_
        refine aw_ret ?_
        refine post_cut_ret ?_
        replace hF := go_stop hF
        refine post_then_ret ?_
        obtain rfl := Option.some.inj hF
        exact post_ret rfl rfl (.cons _ _ _ _ _ (.agg _ _ _ _ _ 2 _ _ rfl rfl Try_agg_30 rfl rfl rfl) (.p _) (.cons _ _ _ _ _ (.tmp _ _ rfl) (.p _) .nil)) (.inl rfl)
      refine aw_cond_f rfl hb6 ?_
      refine aw_skip ?_
      exact post_cut _ ⟨(), rfl, hF⟩ (imps [0, 1] ⟨by kernel_rfl, by kernel_rfl, by kernel_rfl, by kernel_rfl, trivial⟩ ⟨by kernel_rfl, by kernel_rfl, trivial⟩)
    refine aw_cond_f rfl hb1 ?_
    refine aw_skip ?_
    exact post_cut _ ⟨(), rfl, hF⟩ (imps [0, 1] ⟨by kernel_rfl, by kernel_rfl, by kernel_rfl, by kernel_rfl, trivial⟩ ⟨by kernel_rfl, by kernel_rfl, trivial⟩)
  rintro ⟨⟩ hF
  refine post_next ?_
  refine aw_seq ?_
  refine aw_region ?_
  refine rmv ?_
  refine reg_cons (guard_no rfl) (op_load_lp_agg (ps := eGFrame a1) rfl rfl rfl rfl rfl rfl Try_agg_26 rfl rfl) ?_
  refine rmv ?_
  obtain ⟨y9, h10, hF⟩ := bind_some hF
  refine reg_cons (guard_no rfl) (op_call 2 rfl (caps := []) (args := [.vs 7 (List.map eGClass a0), .agg (eGFrame a1), .str a2]) (rs := [.p (.int .i64 y9)]) rfl rfl rfl Try_cal_15 (frame_place_ok h10) rfl rfl rfl) ?_
  refine ras ?_
  refine reg_nil ?_
  refine post_imp (s' := ⟨37, [(4, some (.lp 0 0)), (6, some (.lp 1 0)), (11, some (.pv (.int .i64 y9)))], [(0, some (.box 26 (bxv (eGFrame a1)))), (1, some (.box 30 (bxv (eGVal zGVal))))], 2, [], [], 0, []⟩) (imps [0, 1] ⟨by kernel_rfl, by kernel_rfl, by kernel_rfl, trivial⟩ ⟨by kernel_rfl, by kernel_rfl, trivial⟩) ?_
  refine post_next ?_
  iterate 2 (refine aw_seq ?_)
  refine aw_region ?_
  refine rmv ?_
  refine reg_cons (guard_no rfl) (op_int (k := .i64) (m := y9) (n := 0) rfl rfl rfl rfl rfl rfl) ?_
  refine reg_nil ?_
  refine post_imp (s' := ⟨37, [(4, some (.lp 0 0)), (6, some (.lp 1 0)), (11, some (.pv (.int .i64 y9))), (30, some (.pv (.bool (decide (y9 < 0)))))], [(0, some (.box 26 (bxv (eGFrame a1)))), (1, some (.box 30 (bxv (eGVal zGVal))))], 2, [], [], 0, []⟩) (imps [0, 1] ⟨by kernel_rfl, by kernel_rfl, by kernel_rfl, by kernel_rfl, trivial⟩ ⟨by kernel_rfl, by kernel_rfl, trivial⟩) ?_
  refine post_next ?_
  rcases ite_some hF with ⟨hb11, hF⟩ | ⟨hb11, hF⟩
  · refine aw_cond_t rfl hb11 ?_
    refine aw_seq ?_
    refine aw_region ?_
    refine reg_cons (guard_no rfl) (op_build (zs := (eGVal zGVal)) (r := eGVal ({ fRef := false, fN := 0 } : GVal)) rfl Try_zer_30 (by exact ⟨rfl, rfl, trivial⟩) Try_plc_30 rfl rfl rfl rfl) ?_
    refine reg_cons (guard_no rfl) (op_store_lp (n := 2) rfl rfl rfl rfl rfl (or_agg Try_agg_30) (by rw [Try_non_30]; rfl) rfl rfl rfl) ?_
    refine ras ?_
    refine reg_nil ?_
    refine post_imp (s' := ⟨37, [(6, some (.lp 0 0)), (7, some (.pv (.bool false)))], [(0, some (.box 30 (bxv (eGVal ({ fRef := false, fN := 0 } : GVal)))))], 1, [], [], 0, []⟩) (imps [1] ⟨by kernel_rfl, by kernel_rfl, trivial⟩ ⟨by kernel_rfl, trivial⟩) ?_
    refine post_next ?_
    refine aw_ret ?_
    refine post_then_ret ?_
    obtain rfl := Option.some.inj hF
    exact post_ret rfl rfl (.cons _ _ _ _ _ (.agg _ _ _ _ _ 2 _ _ rfl rfl Try_agg_30 rfl rfl rfl) (.p _) (.cons _ _ _ _ _ (.tmp _ _ rfl) (.p _) .nil)) (.inl rfl)
  refine aw_cond_f rfl hb11 ?_
  refine aw_skip ?_
  refine post_next ?_
  refine aw_seq ?_
  refine aw_region ?_
  refine reg_cons (guard_no rfl) (op_field_lp rfl rfl Try_fld_26_3 rfl rfl) ?_
  refine reg_cons (guard_no rfl) (op_load_lp (v := .pv (.vs 2 (List.map eGVal a1.fVars))) rfl rfl rfl rfl Try_one_24 rfl rfl) ?_
  refine rmv ?_
  obtain ⟨y12, h13, hF⟩ := bind_some hF
  refine reg_cons (guard_no rfl) (op_index_vs (k := .i64) rfl rfl rfl (idx_map eGVal h13) Try_slc_24 rfl rfl) ?_
  refine reg_cons (guard_no rfl) (op_load_vp_agg (ps := eGVal y12) rfl rfl rfl rfl Try_agg_30 rfl rfl) ?_
  refine reg_cons (guard_no rfl) (op_store_lp (n := 2) rfl rfl rfl rfl rfl (or_agg Try_agg_30) (by rw [Try_non_30]; rfl) rfl rfl rfl) ?_
  refine ras ?_
  refine reg_nil ?_
  refine post_imp (s' := ⟨37, [(6, some (.lp 0 0)), (7, some (.pv (.bool true)))], [(0, some (.box 30 (bxv (eGVal y12))))], 1, [], [], 0, []⟩) (imps [1] ⟨by kernel_rfl, by kernel_rfl, trivial⟩ ⟨by kernel_rfl, trivial⟩) ?_
  refine post_next ?_
  refine aw_ret ?_
  obtain rfl := Option.some.inj hF
  exact post_ret rfl rfl (.cons _ _ _ _ _ (.agg _ _ _ _ _ 2 _ _ rfl rfl Try_agg_30 rfl rfl rfl) (.p _) (.cons _ _ _ _ _ (.tmp _ _ rfl) (.p _) .nil)) (.inl rfl)
theorem ref13_Find_ok {a0 : List GClass} {a1 : List UInt8} {r : Int} (hF : ref13_Find a0 a1 = some r) : Abs.Fn Try.prog 8 [.vs 7 (List.map eGClass a0), .str a1] [.p (.int .i64 r)] := by
  unfold ref13_Find at hF
  refine fn_of_body (n := 20) Try.func8 rfl rfl rfl ?_
  intro w O
  refine aw_seq ?_
  refine aw_region ?_
  refine ras ?_
  refine reg_nil ?_
  refine post_imp (s' := ⟨20, [(0, some (.pv (.vs 7 (List.map eGClass a0)))), (1, some (.pv (.str a1)))], [], 0, [], [], 0, []⟩) (imps [] ⟨by kernel_rfl, by kernel_rfl, trivial⟩ trivial) ?_
  refine post_next ?_
  iterate 2 (refine aw_seq ?_)
  refine aw_region ?_
  refine ras ?_
  refine reg_nil ?_
  refine post_imp (s' := ⟨20, [(0, some (.pv (.vs 7 (List.map eGClass a0)))), (1, some (.pv (.str a1))), (5, some (.pv (.int .i64 0)))], [], 0, [], [], 0, []⟩) (imps [] ⟨by kernel_rfl, by kernel_rfl, by kernel_rfl, trivial⟩ trivial) ?_
  refine post_next ?_
  obtain ⟨lr22, hF, hK23⟩ := bind_some hF
  refine aw_for ((((a0.length : Int) : Int) - (0)).toNat + 1) (fun s1 => ∃ q, lr22 = .next q ∧ s1 = ⟨20, [], [], 0, [], [], 0, []⟩) ?_ ?_
  · refine rnd_loop (α := Int) (fun q => ⟨20, [(0, some (.pv (.vs 7 (List.map eGClass a0)))), (1, some (.pv (.str a1))), (5, some (.pv (.int .i64 q)))], [], 0, [], [], 0, []⟩) (fun k q => ref13_Find_L1 a0 a1 k q = some lr22) 0 (imps [] ⟨by kernel_rfl, by kernel_rfl, by kernel_rfl, trivial⟩ trivial) hF (fun q h => by cases h) ?_
    clear hF
    rintro k x7 hF ih
    refine rnd_succ ?_
    iterate 2 (refine aw_seq ?_)
    refine aw_region ?_
    iterate 2 (refine rmv ?_)
    refine reg_cons (guard_no rfl) (op_len_vs (n := a0.length) rfl rfl (List.length_map ..) Try_slc_22 rfl rfl) ?_
    refine reg_cons (guard_no rfl) (op_int (k := .i64) (m := x7) (n := (a0.length : Int)) rfl rfl rfl rfl rfl rfl) ?_
    refine reg_nil ?_
    refine post_imp (s' := ⟨20, [(0, some (.pv (.vs 7 (List.map eGClass a0)))), (1, some (.pv (.str a1))), (5, some (.pv (.int .i64 x7))), (9, some (.pv (.bool (decide (x7 < (a0.length : Int))))))], [], 0, [], [], 0, []⟩) (imps [] ⟨by kernel_rfl, by kernel_rfl, by kernel_rfl, by kernel_rfl, trivial⟩ trivial) ?_
    refine post_next ?_
    rcases ite_some hF with ⟨hb15, hF⟩ | ⟨hb15, hF⟩
    · refine aw_cond_t rfl hb15 ?_
      refine aw_skip ?_
      refine post_next ?_
      refine aw_seq ?_
      refine aw_block ?_
      refine aw_seq ?_
      refine aw_region ?_
      iterate 2 (refine rmv ?_)
      obtain ⟨y18, h19, hF⟩ := bind_some hF
      refine reg_cons (guard_no rfl) (op_index_vs (k := .i64) rfl rfl rfl (idx_map eGClass h19) Try_slc_22 rfl rfl) ?_
      refine reg_cons (guard_no rfl) (op_field_vp rfl rfl Try_fld_49_0 rfl rfl) ?_
      refine reg_cons (guard_no rfl) (op_load_vp (p := .str y18.fName) rfl rfl rfl Try_one_9 rfl rfl) ?_
      refine rmv ?_
      refine reg_cons (guard_no rfl) (op_str rfl rfl rfl rfl rfl rfl) ?_
      refine reg_nil ?_
      refine post_imp (s' := ⟨20, [(0, some (.pv (.vs 7 (List.map eGClass a0)))), (1, some (.pv (.str a1))), (5, some (.pv (.int .i64 x7))), (18, some (.pv (.bool (y18.fName == a1))))], [], 0, [], [], 0, []⟩) (imps [] ⟨by kernel_rfl, by kernel_rfl, by kernel_rfl, by kernel_rfl, trivial⟩ trivial) ?_
      refine post_next ?_
      rcases ite_some hF with ⟨hb20, hF⟩ | ⟨hb20, hF⟩
      · refine aw_cond_t rfl hb20 ?_
        refine aw_seq ?_
        refine aw_region ?_
        refine rmv ?_
        refine ras ?_
        refine reg_nil ?_
        refine post_imp (s' := ⟨20, [(4, some (.pv (.int .i64 x7)))], [], 0, [], [], 0, []⟩) (imps [] ⟨by kernel_rfl, trivial⟩ trivial) ?_
        refine post_next ?_
        refine aw_ret ?_
        refine post_block_ret ?_
        iterate 2 (refine post_then_ret ?_)
        refine post_lp_ret ?_
        obtain rfl := Option.some.inj hF
        have hF := elim_stop hK23
        refine post_then_ret ?_
        obtain rfl := Option.some.inj hF
        exact post_ret rfl rfl (.cons _ _ _ _ _ (.tmp _ _ rfl) (.p _) .nil) (.inl rfl)
      refine aw_cond_f rfl hb20 ?_
      refine aw_skip ?_
      refine post_block_normal ?_
      refine post_next ?_
      refine aw_region ?_
      refine rmv ?_
      refine reg_cons (guard_no rfl) (op_int (k := .i64) (m := x7) (n := 1) rfl rfl rfl rfl rfl rfl) ?_
      refine ras ?_
      refine reg_nil ?_
      refine post_round ?_
      exact rnd_back (ih (w_i64 (x7 + 1)) hF) (imps [] ⟨by kernel_rfl, by kernel_rfl, by kernel_rfl, trivial⟩ trivial)
    refine aw_cond_f rfl hb15 ?_
    refine aw_exit ?_
    iterate 2 (refine post_then_exit ?_)
    obtain rfl := Option.some.inj hF
    exact post_lp_break _ ⟨_, rfl, rfl⟩ (imps [] trivial trivial)
  rintro _ ⟨⟨⟩, rfl, rfl⟩
  have hF := elim_next hK23
  clear hK23
  refine post_next ?_
  refine aw_seq ?_
  refine aw_region ?_
  refine ras ?_
  refine reg_nil ?_
  refine post_imp (s' := ⟨20, [(4, some (.pv (.int .i64 (-1))))], [], 0, [], [], 0, []⟩) (imps [] ⟨by kernel_rfl, trivial⟩ trivial) ?_
  refine post_next ?_
  refine aw_ret ?_
  obtain rfl := Option.some.inj hF
  exact post_ret rfl rfl (.cons _ _ _ _ _ (.tmp _ _ rfl) (.p _) .nil) (.inl rfl)
theorem ref15_This_ok {a0 : GClass} {r : (List GOwner)} (hF : ref15_This a0 = some r) : Abs.Fn Try.prog 18 [.agg (eGClass a0)] [.own 51 2 (List.map eGOwner r)] := by
  unfold ref15_This at hF
  refine fn_of_body (n := 21) Try.func18 rfl rfl rfl ?_
  intro w O
  refine aw_seq ?_
  refine aw_region ?_
  refine reg_cons (guard_no rfl) (op_box 0 rfl rfl rfl rfl rfl rfl) ?_
  refine ras ?_
  refine reg_nil ?_
  refine post_imp (s' := ⟨21, [(1, some (.lp 0 0))], [(0, some (.box 49 (bxv (eGClass a0))))], 1, [], [], 0, []⟩) (imps [0] ⟨by kernel_rfl, trivial⟩ ⟨by kernel_rfl, trivial⟩) ?_
  refine post_next ?_
  refine aw_seq ?_
  refine aw_region ?_
  refine reg_cons (guard_no rfl) (op_build (zs := (eGOwner zGOwner)) (r := eGOwner ({ fKind := 2, fN := 0 } : GOwner)) rfl Try_zer_51 (by exact ⟨rfl, rfl, trivial⟩) Try_plc_51 rfl rfl rfl rfl) ?_
  refine reg_cons (guard_no rfl) (op_litOwn 1 rfl (rows := List.map eGOwner ([({ fKind := 2, fN := 0 } : GOwner)] : List GOwner)) (zs := (eGOwner zGOwner)) rfl rfl Try_slc_45 Try_zer_51 (by exact ⟨rfl, rfl, trivial⟩) rfl rfl rfl rfl rfl rfl rfl rfl) ?_
  refine ras ?_
  refine reg_nil ?_
  refine post_imp (s' := ⟨21, [(1, some (.lp 0 0)), (3, some (.ls 1))], [(0, some (.box 49 (bxv (eGClass a0)))), (1, some (.row 51 2 (List.map eGOwner [({ fKind := 2, fN := 0 } : GOwner)])))], 2, [], [], 0, []⟩) (imps [0, 1] ⟨by kernel_rfl, by kernel_rfl, trivial⟩ ⟨by kernel_rfl, by kernel_rfl, trivial⟩) ?_
  refine post_next ?_
  iterate 2 (refine aw_seq ?_)
  refine aw_region ?_
  refine ras ?_
  refine reg_nil ?_
  refine post_imp (s' := ⟨21, [(1, some (.lp 0 0)), (3, some (.ls 1)), (4, some (.pv (.int .i64 0)))], [(0, some (.box 49 (bxv (eGClass a0)))), (1, some (.row 51 2 (List.map eGOwner [({ fKind := 2, fN := 0 } : GOwner)])))], 2, [], [], 0, []⟩) (imps [0, 1] ⟨by kernel_rfl, by kernel_rfl, by kernel_rfl, trivial⟩ ⟨by kernel_rfl, by kernel_rfl, trivial⟩) ?_
  refine post_next ?_
  obtain ⟨x22, hF, hK23⟩ := bind_some hF
  refine aw_for ((((a0.fParams.length : Int) : Int) - (0)).toNat + 1) (fun s1 => s1 = ⟨21, [(3, some (.ls 0))], [(0, some (.row 51 2 (List.map eGOwner x22)))], 1, [], [], 0, []⟩) ?_ ?_
  · refine rnd_loop (α := (List GOwner) × Int) (fun q => ⟨21, [(1, some (.lp 0 0)), (3, some (.ls 1)), (4, some (.pv (.int .i64 q.2)))], [(0, some (.box 49 (bxv (eGClass a0)))), (1, some (.row 51 2 (List.map eGOwner q.1)))], 2, [], [], 0, []⟩) (fun k q => ref15_This_L1 a0 k q.1 q.2 = some x22) ([({ fKind := 2, fN := 0 } : GOwner)], 0) (imps [0, 1] ⟨by kernel_rfl, by kernel_rfl, by kernel_rfl, trivial⟩ ⟨by kernel_rfl, by kernel_rfl, trivial⟩) hF (fun q h => by cases h) ?_
    clear hF
    rintro k ⟨x6, x7⟩ hF ih
    refine rnd_succ ?_
    iterate 2 (refine aw_seq ?_)
    refine aw_region ?_
    refine rmv ?_
    refine reg_cons (guard_no rfl) (op_field_lp rfl rfl Try_fld_49_1 rfl rfl) ?_
    refine reg_cons (guard_no rfl) (op_load_lp (v := .pv (.vs 1 (List.map eS a0.fParams))) rfl rfl rfl rfl Try_one_44 rfl rfl) ?_
    refine reg_cons (guard_no rfl) (op_len_vs (n := a0.fParams.length) rfl rfl (List.length_map ..) Try_slc_44 rfl rfl) ?_
    refine reg_cons (guard_no rfl) (op_int (k := .i64) (m := x7) (n := (a0.fParams.length : Int)) rfl rfl rfl rfl rfl rfl) ?_
    refine reg_nil ?_
    refine post_imp (s' := ⟨21, [(1, some (.lp 0 0)), (3, some (.ls 1)), (4, some (.pv (.int .i64 x7))), (11, some (.pv (.bool (decide (x7 < (a0.fParams.length : Int))))))], [(0, some (.box 49 (bxv (eGClass a0)))), (1, some (.row 51 2 (List.map eGOwner x6)))], 2, [], [], 0, []⟩) (imps [0, 1] ⟨by kernel_rfl, by kernel_rfl, by kernel_rfl, by kernel_rfl, trivial⟩ ⟨by kernel_rfl, by kernel_rfl, trivial⟩) ?_
    refine post_next ?_
    rcases ite_some hF with ⟨hb15, hF⟩ | ⟨hb15, hF⟩
    · refine aw_cond_t rfl hb15 ?_
      refine aw_skip ?_
      refine post_next ?_
      refine aw_seq ?_
      refine aw_block ?_
      refine aw_region ?_
      iterate 2 (refine rmv ?_)
      refine reg_cons (guard_no rfl) (op_int (k := .i64) (m := x7) (n := 1) rfl rfl rfl rfl rfl rfl) ?_
      refine reg_cons (guard_no rfl) (op_build (zs := (eGOwner zGOwner)) (r := eGOwner ({ fKind := 3, fN := w_i64 (x7 + 1) } : GOwner)) rfl Try_zer_51 (by exact ⟨rfl, rfl, trivial⟩) Try_plc_51 rfl rfl rfl rfl) ?_
      refine reg_cons (guard_no rfl) (op_lit (rows := List.map eGOwner ([({ fKind := 3, fN := w_i64 (x7 + 1) } : GOwner)] : List GOwner)) (zs := (eGOwner zGOwner)) rfl rfl Try_slc_45 Try_zer_51 (by exact ⟨rfl, rfl, trivial⟩) rfl rfl rfl rfl rfl rfl rfl rfl) ?_
      obtain ⟨u18, h19, hF⟩ := bind_some hF
      refine reg_cons (guard_no rfl) (op_append 2 rfl rfl rfl rfl rfl Try_slc_45 Try_elm_51 Try_zer_51 rfl rfl rfl (room_map (f := eGOwner) (g := eGOwner) h19) (List.map_append (f := eGOwner) (l₁ := x6) (l₂ := [({ fKind := 3, fN := w_i64 (x7 + 1) } : GOwner)])).symm rfl rfl) ?_
      refine ras ?_
      refine reg_nil ?_
      refine post_imp (s' := ⟨21, [(1, some (.lp 0 0)), (3, some (.ls 1)), (4, some (.pv (.int .i64 x7)))], [(0, some (.box 49 (bxv (eGClass a0)))), (1, some (.row 51 2 (List.map eGOwner (x6 ++ [({ fKind := 3, fN := w_i64 (x7 + 1) } : GOwner)]))))], 2, [], [], 0, []⟩) (imps [0, 2] ⟨by kernel_rfl, by kernel_rfl, by kernel_rfl, trivial⟩ ⟨by kernel_rfl, by kernel_rfl, trivial⟩) ?_
      refine post_block_normal ?_
      refine post_next ?_
      refine aw_region ?_
      refine rmv ?_
      refine reg_cons (guard_no rfl) (op_int (k := .i64) (m := x7) (n := 1) rfl rfl rfl rfl rfl rfl) ?_
      refine ras ?_
      refine reg_nil ?_
      refine post_round ?_
      exact rnd_back (ih ((x6 ++ [({ fKind := 3, fN := w_i64 (x7 + 1) } : GOwner)]), w_i64 (x7 + 1)) hF) (imps [0, 1] ⟨by kernel_rfl, by kernel_rfl, by kernel_rfl, trivial⟩ ⟨by kernel_rfl, by kernel_rfl, trivial⟩)
    refine aw_cond_f rfl hb15 ?_
    refine aw_exit ?_
    iterate 2 (refine post_then_exit ?_)
    obtain rfl := Option.some.inj hF
    exact post_lp_break _ rfl (imps [1] ⟨by kernel_rfl, trivial⟩ ⟨by kernel_rfl, trivial⟩)
  rintro _ rfl
  have hF := hK23
  clear hK23
  refine post_next ?_
  refine aw_seq ?_
  refine aw_region ?_
  refine rmv ?_
  refine ras ?_
  refine reg_nil ?_
  refine post_imp (s' := ⟨21, [(2, some (.ls 0))], [(0, some (.row 51 2 (List.map eGOwner x22)))], 1, [], [], 0, []⟩) (imps [0] ⟨by kernel_rfl, trivial⟩ ⟨by kernel_rfl, trivial⟩) ?_
  refine post_next ?_
  refine aw_ret ?_
  obtain rfl := Option.some.inj hF
  exact post_ret rfl rfl (.cons _ _ _ _ _ (.tmp _ _ rfl) (.own _ _ _ _ rfl nolent3) .nil) (.inl rfl)
theorem ref18_This_ok {a0 : GClass} {r : GType} (hF : ref18_This a0 = some r) : Abs.Fn Try.prog 9 [.agg (eGClass a0)] [.p (.agg (eGType r))] := by
  unfold ref18_This at hF
  refine fn_of_body (n := 29) Try.func9 rfl rfl rfl ?_
  intro w O
  refine aw_seq ?_
  refine aw_region ?_
  refine reg_cons (guard_no rfl) (op_box 0 rfl rfl rfl rfl rfl rfl) ?_
  refine reg_cons (guard_no rfl) (op_alloc 1 rfl (ps := (eGType zGType)) rfl Try_zer_54 (by exact ⟨rfl, rfl, rfl, rfl, rfl, rfl, rfl, rfl, rfl, rfl, rfl, trivial⟩) rfl rfl) ?_
  refine reg_nil ?_
  refine post_imp (s' := ⟨29, [(1, some (.lp 0 0)), (2, some (.lp 1 0))], [(0, some (.box 49 (bxv (eGClass a0)))), (1, some (.box 54 (bxv (eGType zGType))))], 2, [], [], 0, []⟩) (imps [0, 1] ⟨by kernel_rfl, by kernel_rfl, trivial⟩ ⟨by kernel_rfl, by kernel_rfl, trivial⟩) ?_
  refine post_next ?_
  refine aw_seq ?_
  refine aw_region ?_
  refine reg_cons (guard_no rfl) (op_field_lp rfl rfl Try_fld_49_0 rfl rfl) ?_
  refine reg_cons (guard_no rfl) (op_load_lp (v := .pv (.str a0.fName)) rfl rfl rfl rfl Try_one_9 rfl rfl) ?_
  refine reg_cons (guard_no rfl) (op_field_lp rfl rfl Try_fld_49_1 rfl rfl) ?_
  refine reg_cons (guard_no rfl) (op_load_lp (v := .pv (.vs 1 (List.map eS a0.fParams))) rfl rfl rfl rfl Try_one_44 rfl rfl) ?_
  refine reg_cons (guard_no rfl) (op_len_vs (n := a0.fParams.length) rfl rfl (List.length_map ..) Try_slc_44 rfl rfl) ?_
  refine reg_cons (guard_no rfl) (op_min2 rfl rfl rfl rfl rfl) ?_
  refine reg_cons (guard_no rfl) (op_build (zs := (eGType zGType)) (r := eGType ({ fKind := 2, fClass := a0.fName, fN := (if (a0.fParams.length : Int) < 3 then (a0.fParams.length : Int) else 3), fOwn := (⟨zGOwner, zGOwner, zGOwner, zGOwner⟩ : A4 GOwner) } : GType)) rfl Try_zer_54 (by exact ⟨rfl, rfl, rfl, rfl, rfl, rfl, rfl, rfl, rfl, rfl, rfl, trivial⟩) Try_plc_54 rfl rfl rfl rfl) ?_
  refine reg_cons (guard_no rfl) (op_alloc 2 rfl (ps := (eGType zGType)) rfl Try_zer_54 (by exact ⟨rfl, rfl, rfl, rfl, rfl, rfl, rfl, rfl, rfl, rfl, rfl, trivial⟩) rfl rfl) ?_
  refine reg_cons (guard_no rfl) (op_store_lp (n := 11) rfl rfl rfl rfl rfl (or_agg Try_agg_54) (by rw [Try_non_54]; rfl) rfl rfl rfl) ?_
  refine reg_nil ?_
  refine post_imp (s' := ⟨29, [(1, some (.lp 0 0)), (2, some (.lp 1 0)), (3, some (.lp 2 0))], [(0, some (.box 49 (bxv (eGClass a0)))), (1, some (.box 54 (bxv (eGType zGType)))), (2, some (.box 54 (bxv (eGType ({ fKind := 2, fClass := a0.fName, fN := (if (a0.fParams.length : Int) < 3 then (a0.fParams.length : Int) else 3), fOwn := (⟨zGOwner, zGOwner, zGOwner, zGOwner⟩ : A4 GOwner) } : GType)))))], 3, [], [], 0, []⟩) (imps [0, 1, 2] ⟨by kernel_rfl, by kernel_rfl, by kernel_rfl, trivial⟩ ⟨by kernel_rfl, by kernel_rfl, by kernel_rfl, trivial⟩) ?_
  refine post_next ?_
  refine aw_seq ?_
  refine aw_region ?_
  refine reg_cons (guard_no rfl) (op_load_lp_agg (ps := eGClass a0) rfl rfl rfl rfl rfl rfl Try_agg_49 rfl rfl) ?_
  obtain ⟨y3, h4, hF⟩ := bind_some hF
  refine reg_cons (guard_no rfl) (op_call 3 rfl (caps := []) (args := [.agg (eGClass a0)]) (rs := [.p (.vs 2 (List.map eGOwner y3))]) rfl rfl rfl Try_cal_18 (Fn.frozen (ref15_This_ok h4)) rfl rfl rfl) ?_
  refine ras ?_
  refine reg_nil ?_
  refine post_imp (s' := ⟨29, [(2, some (.lp 0 0)), (3, some (.lp 1 0)), (4, some (.pv (.vs 2 (List.map eGOwner y3))))], [(0, some (.box 54 (bxv (eGType zGType)))), (1, some (.box 54 (bxv (eGType ({ fKind := 2, fClass := a0.fName, fN := (if (a0.fParams.length : Int) < 3 then (a0.fParams.length : Int) else 3), fOwn := (⟨zGOwner, zGOwner, zGOwner, zGOwner⟩ : A4 GOwner) } : GType)))))], 2, [], [], 0, []⟩) (imps [1, 2] ⟨by kernel_rfl, by kernel_rfl, by kernel_rfl, trivial⟩ ⟨by kernel_rfl, by kernel_rfl, trivial⟩) ?_
  refine post_next ?_
  iterate 2 (refine aw_seq ?_)
  refine aw_region ?_
  refine ras ?_
  refine reg_nil ?_
  refine post_imp (s' := ⟨29, [(2, some (.lp 0 0)), (3, some (.lp 1 0)), (4, some (.pv (.vs 2 (List.map eGOwner y3)))), (5, some (.pv (.int .i64 0)))], [(0, some (.box 54 (bxv (eGType zGType)))), (1, some (.box 54 (bxv (eGType ({ fKind := 2, fClass := a0.fName, fN := (if (a0.fParams.length : Int) < 3 then (a0.fParams.length : Int) else 3), fOwn := (⟨zGOwner, zGOwner, zGOwner, zGOwner⟩ : A4 GOwner) } : GType)))))], 2, [], [], 0, []⟩) (imps [0, 1] ⟨by kernel_rfl, by kernel_rfl, by kernel_rfl, by kernel_rfl, trivial⟩ ⟨by kernel_rfl, by kernel_rfl, trivial⟩) ?_
  refine post_next ?_
  obtain ⟨x34, hF, hK35⟩ := bind_some hF
  refine aw_for 5 (fun s1 => s1 = ⟨29, [(2, some (.lp 0 0)), (3, some (.lp 1 0))], [(0, some (.box 54 (bxv (eGType zGType)))), (1, some (.box 54 (bxv (eGType x34))))], 2, [], [], 0, []⟩) ?_ ?_
  · refine rnd_loop (α := GType × Int) (fun q => ⟨29, [(2, some (.lp 0 0)), (3, some (.lp 1 0)), (4, some (.pv (.vs 2 (List.map eGOwner y3)))), (5, some (.pv (.int .i64 q.2)))], [(0, some (.box 54 (bxv (eGType zGType)))), (1, some (.box 54 (bxv (eGType q.1))))], 2, [], [], 0, []⟩) (fun k q => ref18_This_L1 y3 k q.1 q.2 = some x34) (({ fKind := 2, fClass := a0.fName, fN := (if (a0.fParams.length : Int) < 3 then (a0.fParams.length : Int) else 3), fOwn := (⟨zGOwner, zGOwner, zGOwner, zGOwner⟩ : A4 GOwner) } : GType), 0) (imps [0, 1] ⟨by kernel_rfl, by kernel_rfl, by kernel_rfl, by kernel_rfl, trivial⟩ ⟨by kernel_rfl, by kernel_rfl, trivial⟩) hF (fun q h => by cases h) ?_
    clear hF
    rintro k ⟨x10, x11⟩ hF ih
    refine rnd_succ ?_
    iterate 2 (refine aw_seq ?_)
    refine aw_region ?_
    refine rmv ?_
    refine reg_cons (guard_no rfl) (op_field_lp rfl rfl Try_fld_54_2 rfl rfl) ?_
    refine reg_cons (guard_no rfl) (op_load_lp (v := .pv (.int .i64 x10.fN)) rfl rfl rfl rfl Try_one_3 rfl rfl) ?_
    refine reg_cons (guard_no rfl) (op_int (k := .i64) (m := x11) (n := x10.fN) rfl rfl rfl rfl rfl rfl) ?_
    refine reg_nil ?_
    refine post_imp (s' := ⟨29, [(2, some (.lp 0 0)), (3, some (.lp 1 0)), (4, some (.pv (.vs 2 (List.map eGOwner y3)))), (5, some (.pv (.int .i64 x11))), (18, some (.pv (.bool (decide (x11 ≤ x10.fN)))))], [(0, some (.box 54 (bxv (eGType zGType)))), (1, some (.box 54 (bxv (eGType x10))))], 2, [], [], 0, []⟩) (imps [0, 1] ⟨by kernel_rfl, by kernel_rfl, by kernel_rfl, by kernel_rfl, by kernel_rfl, trivial⟩ ⟨by kernel_rfl, by kernel_rfl, trivial⟩) ?_
    refine post_next ?_
    rcases ite_some hF with ⟨hb23, hF⟩ | ⟨hb23, hF⟩
    · refine aw_cond_t rfl hb23 ?_
      refine aw_skip ?_
      refine post_next ?_
      refine aw_seq ?_
      refine aw_block ?_
      refine aw_region ?_
      iterate 3 (refine rmv ?_)
      obtain ⟨y28, h29, hF⟩ := bind_some hF
      refine reg_cons (guard_no rfl) (op_index_vs (k := .i64) rfl rfl rfl (idx_map eGOwner h29) Try_slc_45 rfl rfl) ?_
      refine reg_cons (guard_no rfl) (op_load_vp_agg (ps := eGOwner y28) rfl rfl rfl rfl Try_agg_51 rfl rfl) ?_
      refine reg_cons (guard_no rfl) (op_field_lp rfl rfl Try_fld_54_3 rfl rfl) ?_
      obtain ⟨y30, h31, hF⟩ := bind_some hF
      refine reg_cons (guard_no rfl) (op_arr_lpN (l := (x10.fOwn).l) rfl rfl rfl Try_arr_52 rfl h31 rfl rfl) ?_
      refine reg_cons (guard_no rfl) (op_store_lpV (cells' := bxv (eGType ({ x10 with fOwn := (A4.set x10.fOwn (x11 : Int).toNat y28) } : GType))) (n := 2) rfl rfl rfl rfl rfl (or_agg Try_agg_51) (by rw [Try_non_51]; rfl) (by rcases idx_l4 h31 with e | e | e | e <;> rw [e] <;> exact Nat.le_of_ble_eq_true rfl) (by rcases idx_l4 h31 with e | e | e | e <;> rw [e] <;> rfl) rfl rfl) ?_
      refine reg_nil ?_
      refine post_imp (s' := ⟨29, [(2, some (.lp 0 0)), (3, some (.lp 1 0)), (4, some (.pv (.vs 2 (List.map eGOwner y3)))), (5, some (.pv (.int .i64 x11)))], [(0, some (.box 54 (bxv (eGType zGType)))), (1, some (.box 54 (bxv (eGType ({ x10 with fOwn := (A4.set x10.fOwn (x11 : Int).toNat y28) } : GType)))))], 2, [], [], 0, []⟩) (imps [0, 1] ⟨by kernel_rfl, by kernel_rfl, by kernel_rfl, by kernel_rfl, trivial⟩ ⟨by kernel_rfl, by kernel_rfl, trivial⟩) ?_
      refine post_block_normal ?_
      refine post_next ?_
      refine aw_region ?_
      refine rmv ?_
      refine reg_cons (guard_no rfl) (op_int (k := .i64) (m := x11) (n := 1) rfl rfl rfl rfl rfl rfl) ?_
      refine ras ?_
      refine reg_nil ?_
      refine post_round ?_
      exact rnd_back (ih (({ x10 with fOwn := (A4.set x10.fOwn (x11 : Int).toNat y28) } : GType), w_i64 (x11 + 1)) hF) (imps [0, 1] ⟨by kernel_rfl, by kernel_rfl, by kernel_rfl, by kernel_rfl, trivial⟩ ⟨by kernel_rfl, by kernel_rfl, trivial⟩)
    refine aw_cond_f rfl hb23 ?_
    refine aw_exit ?_
    iterate 2 (refine post_then_exit ?_)
    obtain rfl := Option.some.inj hF
    exact post_lp_break _ rfl (imps [0, 1] ⟨by kernel_rfl, by kernel_rfl, trivial⟩ ⟨by kernel_rfl, by kernel_rfl, trivial⟩)
  rintro _ rfl
  have hF := hK35
  clear hK35
  refine post_next ?_
  refine aw_seq ?_
  refine aw_region ?_
  refine reg_cons (guard_no rfl) (op_load_lp_agg (ps := eGType x34) rfl rfl rfl rfl rfl rfl Try_agg_54 rfl rfl) ?_
  refine reg_cons (guard_no rfl) (op_store_lp (n := 11) rfl rfl rfl rfl rfl (or_agg Try_agg_54) (by rw [Try_non_54]; rfl) rfl rfl rfl) ?_
  refine reg_nil ?_
  refine post_imp (s' := ⟨29, [(2, some (.lp 0 0))], [(0, some (.box 54 (bxv (eGType x34))))], 1, [], [], 0, []⟩) (imps [0] ⟨by kernel_rfl, trivial⟩ ⟨by kernel_rfl, trivial⟩) ?_
  refine post_next ?_
  refine aw_ret ?_
  obtain rfl := Option.some.inj hF
  exact post_ret rfl rfl (.cons _ _ _ _ _ (.agg _ _ _ _ _ 11 _ _ rfl rfl Try_agg_54 rfl rfl rfl) (.p _) .nil) (.inl rfl)
theorem kind_own_ok {a0 : GType} {r : (List GOwner)} (hF : kind_own a0 = some r) : Abs.Fn Try.prog 31 [.vp (eGType a0)] [.p (.vs 2 (List.map eGOwner r))] := by
  unfold kind_own at hF
  refine fn_of_body (n := 17) Try.func31 rfl rfl rfl ?_
  intro w O
  refine aw_seq ?_
  refine aw_region ?_
  refine ras ?_
  refine reg_nil ?_
  refine post_imp (s' := ⟨17, [(0, some (.pv (.vp (eGType a0))))], [], 0, [], [], 0, []⟩) (imps [] ⟨by kernel_rfl, trivial⟩ trivial) ?_
  refine post_next ?_
  refine aw_seq ?_
  refine aw_region ?_
  refine rmv ?_
  refine reg_cons (guard_no rfl) (op_nilCheck rfl rfl rfl rfl rfl) ?_
  refine reg_cons (guard_no rfl) (op_field_vp rfl rfl Try_fld_54_2 rfl rfl) ?_
  refine reg_cons (guard_no rfl) (op_load_vp (p := .int .i64 a0.fN) rfl rfl rfl Try_one_3 rfl rfl) ?_
  refine reg_cons (guard_no rfl) (op_min2 rfl rfl rfl rfl rfl) ?_
  refine reg_cons (guard_no rfl) (op_max2 rfl rfl rfl rfl rfl) ?_
  refine reg_cons (guard_no rfl) (op_int (k := .i64) (m := (if (if 3 < a0.fN then 3 else a0.fN) > 0 then (if 3 < a0.fN then 3 else a0.fN) else 0)) (n := 1) rfl rfl rfl rfl rfl rfl) ?_
  refine ras ?_
  refine reg_nil ?_
  refine post_imp (s' := ⟨17, [(0, some (.pv (.vp (eGType a0)))), (3, some (.pv (.int .i64 (w_i64 ((if (if 3 < a0.fN then 3 else a0.fN) > 0 then (if 3 < a0.fN then 3 else a0.fN) else 0) + 1)))))], [], 0, [], [], 0, []⟩) (imps [] ⟨by kernel_rfl, by kernel_rfl, trivial⟩ trivial) ?_
  refine post_next ?_
  refine aw_seq ?_
  refine aw_region ?_
  refine rmv ?_
  refine reg_cons (guard_no rfl) (op_nilCheck rfl rfl rfl rfl rfl) ?_
  refine reg_cons (guard_no rfl) (op_field_vp rfl rfl Try_fld_54_3 rfl rfl) ?_
  iterate 2 (refine rmv ?_)
  obtain ⟨y1, h2, hF⟩ := bind_some hF
  refine reg_cons (guard_no rfl) (op_sliceArr (f := eGOwner) (l := (a0.fOwn).l) (nl := none) (nh := (some (w_i64 ((if (if 3 < a0.fN then 3 else a0.fN) > 0 then (if 3 < a0.fN then 3 else a0.fN) else 0) + 1)))) (nm := (some (w_i64 ((if (if 3 < a0.fN then 3 else a0.fN) > 0 then (if 3 < a0.fN then 3 else a0.fN) else 0) + 1)))) rfl rfl rfl rfl rfl (.inr rfl) Try_arr_52 rfl (fun _ => rfl) rfl rfl h2 rfl rfl) ?_
  refine ras ?_
  refine reg_nil ?_
  refine post_imp (s' := ⟨17, [(2, some (.pv (.vs 2 (List.map eGOwner y1))))], [], 0, [], [], 0, []⟩) (imps [] ⟨by kernel_rfl, trivial⟩ trivial) ?_
  refine post_next ?_
  refine aw_ret ?_
  obtain rfl := Option.some.inj hF
  exact post_ret rfl rfl (.cons _ _ _ _ _ (.tmp _ _ rfl) (.p _) .nil) (.inl rfl)
theorem slices_Clone_api_Owner_ok {a0 : List GOwner} {r : List GOwner} (hF : slices_Clone_api_Owner a0 = some r) : Abs.Fn Try.prog 30 [.vs 2 (List.map eGOwner a0)] [.own 51 2 (List.map eGOwner r)] := by
  unfold slices_Clone_api_Owner at hF
  obtain ⟨u, h, hF⟩ := bind_some hF
  obtain rfl := Option.some.inj hF
  refine fn_of_body (n := 8) Try.func30 rfl rfl rfl ?_
  intro w O
  refine aw_seq ?_
  refine aw_region ?_
  refine reg_cons (guard_no rfl) (op_assign rfl rfl rfl rfl) ?_
  refine reg_nil ?_
  refine post_next ?_
  iterate 2 (refine aw_seq ?_)
  refine aw_region ?_
  refine reg_cons (guard_no rfl) (op_move rfl rfl rfl rfl) ?_
  refine op_eqNil rfl rfl rfl Try_slc_45 (guard_no rfl) rfl rfl ?_ ?_
  · intro hn
    refine reg_nil ?_
    refine post_next ?_
    refine aw_cond_t rfl rfl ?_
    refine aw_seq ?_
    refine aw_region ?_
    refine reg_cons (guard_no rfl) (op_assign rfl rfl rfl rfl) ?_
    refine reg_nil ?_
    refine post_next ?_
    refine aw_ret ?_
    refine post_then_ret ?_
    refine post_imp (imp_nil_own 2 51 2 0 rfl rfl) ?_
    rw [hn]
    exact post_ret rfl rfl (.cons _ _ _ _ _ (.tmp _ _ rfl) (.own _ _ _ _ rfl nolent3) .nil) (.inl rfl)
  · refine reg_nil ?_
    refine post_next ?_
    refine aw_cond_f rfl rfl ?_
    refine aw_skip ?_
    refine post_next ?_
    refine aw_seq ?_
    refine aw_region ?_
    refine reg_cons (guard_no rfl) (op_litOwn 0 rfl (rows := List.map eGOwner ([] : List GOwner)) (zs := [.int .i64 zGOwner.fKind, .int .i64 zGOwner.fN]) rfl rfl Try_slc_45 Try_zer_51 (by exact ⟨rfl, rfl, trivial⟩) rfl rfl rfl rfl rfl rfl rfl rfl) ?_
    refine reg_cons (guard_no rfl) (op_move rfl rfl rfl rfl) ?_
    refine reg_cons (guard_no rfl) (op_append 1 rfl rfl rfl rfl rfl Try_slc_45 Try_elm_51 Try_zer_51 rfl rfl rfl (room_map (f := eGOwner) (g := eGOwner) h) (List.map_append (f := eGOwner) (l₁ := []) (l₂ := a0)).symm rfl rfl) ?_
    refine reg_cons (guard_no rfl) (op_assign rfl rfl rfl rfl) ?_
    refine reg_nil ?_
    refine post_next ?_
    refine aw_ret ?_
    exact post_ret rfl rfl (.cons _ _ _ _ _ (.tmp _ _ rfl) (.own _ _ _ _ rfl nolent3) .nil) (.inl rfl)
theorem kind_Owners_ok {a0 : GType} {r : (List GOwner)} (hF : kind_Owners a0 = some r) : Abs.Fn Try.prog 20 [.agg (eGType a0)] [.p (.vs 2 (List.map eGOwner r))] := by
  unfold kind_Owners at hF
  refine fn_of_body (n := 8) Try.func20 rfl rfl rfl ?_
  intro w O
  refine aw_seq ?_
  refine aw_region ?_
  refine reg_cons (guard_no rfl) (op_box 0 rfl rfl rfl rfl rfl rfl) ?_
  refine ras ?_
  refine reg_nil ?_
  refine post_imp (s' := ⟨8, [(1, some (.lp 0 0))], [(0, some (.box 54 (bxv (eGType a0))))], 1, [], [], 0, []⟩) (imps [0] ⟨by kernel_rfl, trivial⟩ ⟨by kernel_rfl, trivial⟩) ?_
  refine post_next ?_
  iterate 2 (refine aw_seq ?_)
  refine aw_region ?_
  refine reg_cons (guard_no rfl) (op_field_lp rfl rfl Try_fld_54_0 rfl rfl) ?_
  refine reg_cons (guard_no rfl) (op_load_lp (v := .pv (.int .i64 a0.fKind)) rfl rfl rfl rfl Try_one_3 rfl rfl) ?_
  refine reg_cons (guard_no rfl) (op_int (k := .i64) (m := a0.fKind) (n := 2) rfl rfl rfl rfl rfl rfl) ?_
  refine reg_nil ?_
  refine post_imp (s' := ⟨8, [(1, some (.lp 0 0)), (5, some (.pv (.bool (a0.fKind != 2))))], [(0, some (.box 54 (bxv (eGType a0))))], 1, [], [], 0, []⟩) (imps [0] ⟨by kernel_rfl, by kernel_rfl, trivial⟩ ⟨by kernel_rfl, trivial⟩) ?_
  refine post_next ?_
  rcases ite_some hF with ⟨hb1, hF⟩ | ⟨hb1, hF⟩
  · refine aw_cond_t rfl hb1 ?_
    refine aw_seq ?_
    refine aw_region ?_
    refine ras ?_
    refine reg_nil ?_
    refine post_imp (s' := ⟨8, [(2, some (.pv .nils))], [], 0, [], [], 0, []⟩) (imps [] ⟨by kernel_rfl, trivial⟩ trivial) ?_
    refine post_next ?_
    refine aw_ret ?_
    refine post_then_ret ?_
    refine post_imp (imp_nil_vs 2 2 rfl) ?_
    obtain rfl := Option.some.inj hF
    exact post_ret rfl rfl (.cons _ _ _ _ _ (.tmp _ _ rfl) (.p _) .nil) (.inl rfl)
  refine aw_cond_f rfl hb1 ?_
  refine aw_skip ?_
  refine post_next ?_
  refine aw_seq ?_
  refine aw_region ?_
  refine reg_imp (imp_freeze [(0, some (.box 54 (bxv (eGType a0))))] [(1, some (.pv (.vp (eGType a0))))] (FzH.spec ⟨rfl, trivial⟩) ⟨⟨_, rfl, rfl⟩, trivial⟩) ?_
  obtain ⟨y2, h3, hF⟩ := bind_some hF
  refine reg_cons (guard_no rfl) (op_call 1 rfl (caps := []) (args := [.vp (eGType a0)]) (rs := [.p (.vs 2 (List.map eGOwner y2))]) rfl rfl rfl Try_cal_31 (kind_own_ok h3) rfl rfl rfl) ?_
  obtain ⟨y4, h5, hF⟩ := bind_some hF
  refine reg_cons (guard_no rfl) (op_call 1 rfl (caps := []) (args := [.vs 2 (List.map eGOwner y2)]) (rs := [.p (.vs 2 (List.map eGOwner y4))]) rfl rfl rfl Try_cal_30 (Fn.frozen (slices_Clone_api_Owner_ok h5)) rfl rfl rfl) ?_
  refine ras ?_
  refine reg_nil ?_
  refine post_imp (s' := ⟨8, [(2, some (.pv (.vs 2 (List.map eGOwner y4))))], [], 0, [], [], 0, []⟩) (imps [] ⟨by kernel_rfl, trivial⟩ trivial) ?_
  refine post_next ?_
  refine aw_ret ?_
  obtain rfl := Option.some.inj hF
  exact post_ret rfl rfl (.cons _ _ _ _ _ (.tmp _ _ rfl) (.p _) .nil) (.inl rfl)
theorem frame_Owners_ok {a0 : List GClass} {a1 : List GCell} {a2 : GFrame} {a3 : GType} {a4 : Int} {r : (A4 Int)} (hF : frame_Owners a0 a1 a2 a3 a4 = some r) : Abs.Fn Try.prog 10 [.vs 7 (List.map eGClass a0), .vs 7 (List.map eGCell a1), .agg (eGFrame a2), .agg (eGType a3), .int .i64 a4] [.p (.agg ((eA4 eI) r))] := by
  unfold frame_Owners at hF
  refine fn_of_body (n := 40) Try.func10 rfl rfl rfl ?_
  intro w O
  refine aw_seq ?_
  refine aw_region ?_
  refine reg_cons (guard_no rfl) (op_box 0 rfl rfl rfl rfl rfl rfl) ?_
  refine reg_cons (guard_no rfl) (op_box 1 rfl rfl rfl rfl rfl rfl) ?_
  refine reg_cons (guard_no rfl) (op_alloc 2 rfl (ps := ((eA4 eI) (⟨0, 0, 0, 0⟩ : A4 Int))) rfl Try_zer_41 (by exact ⟨rfl, rfl, rfl, rfl, trivial⟩) rfl rfl) ?_
  refine reg_nil ?_
  refine post_imp (s' := ⟨40, [(0, some (.pv (.vs 7 (List.map eGClass a0)))), (1, some (.pv (.vs 7 (List.map eGCell a1)))), (4, some (.pv (.int .i64 a4))), (7, some (.lp 0 0)), (8, some (.lp 1 0)), (10, some (.lp 2 0))], [(0, some (.box 26 (bxv (eGFrame a2)))), (1, some (.box 54 (bxv (eGType a3)))), (2, some (.box 41 (bxv ((eA4 eI) (⟨0, 0, 0, 0⟩ : A4 Int)))))], 3, [], [], 0, []⟩) (imps [0, 1, 2] ⟨by kernel_rfl, by kernel_rfl, by kernel_rfl, by kernel_rfl, by kernel_rfl, by kernel_rfl, trivial⟩ ⟨by kernel_rfl, by kernel_rfl, by kernel_rfl, trivial⟩) ?_
  refine post_next ?_
  refine aw_seq ?_
  refine aw_region ?_
  refine reg_cons (guard_no rfl) (op_alloc 3 rfl (ps := ((eA4 eI) (⟨0, 0, 0, 0⟩ : A4 Int))) rfl Try_zer_41 (by exact ⟨rfl, rfl, rfl, rfl, trivial⟩) rfl rfl) ?_
  refine reg_nil ?_
  refine post_imp (s' := ⟨40, [(0, some (.pv (.vs 7 (List.map eGClass a0)))), (1, some (.pv (.vs 7 (List.map eGCell a1)))), (4, some (.pv (.int .i64 a4))), (7, some (.lp 0 0)), (8, some (.lp 1 0)), (10, some (.lp 2 0)), (11, some (.lp 3 0))], [(0, some (.box 26 (bxv (eGFrame a2)))), (1, some (.box 54 (bxv (eGType a3)))), (2, some (.box 41 (bxv ((eA4 eI) (⟨0, 0, 0, 0⟩ : A4 Int))))), (3, some (.box 41 (bxv ((eA4 eI) (⟨0, 0, 0, 0⟩ : A4 Int)))))], 4, [], [], 0, []⟩) (imps [0, 1, 2, 3] ⟨by kernel_rfl, by kernel_rfl, by kernel_rfl, by kernel_rfl, by kernel_rfl, by kernel_rfl, by kernel_rfl, trivial⟩ ⟨by kernel_rfl, by kernel_rfl, by kernel_rfl, by kernel_rfl, trivial⟩) ?_
  refine post_next ?_
  refine aw_seq ?_
  refine aw_region ?_
  iterate 2 (refine rmv ?_)
  refine reg_cons (guard_no rfl) (op_load_lp_agg (ps := eGFrame a2) rfl rfl rfl rfl rfl rfl Try_agg_26 rfl rfl) ?_
  obtain ⟨y3, h4, hF⟩ := bind_some hF
  refine reg_cons (guard_no rfl) (op_call 4 rfl (caps := []) (args := [.vs 7 (List.map eGClass a0), .vs 7 (List.map eGCell a1), .agg (eGFrame a2)]) (rs := [.p (.fn 29 [.vp (eB y3.1), .vp (eGFrame y3.2.1), .vp ((eL 1 eI) y3.2.2)])]) rfl rfl rfl Try_cal_19 (frame_teller_ok h4) rfl rfl rfl) ?_
  refine ras ?_
  refine reg_nil ?_
  refine post_imp (s' := ⟨40, [(4, some (.pv (.int .i64 a4))), (8, some (.lp 0 0)), (10, some (.lp 1 0)), (11, some (.lp 2 0)), (12, some (.pv (.fn 29 [.vp (eB y3.1), .vp (eGFrame y3.2.1), .vp ((eL 1 eI) y3.2.2)])))], [(0, some (.box 54 (bxv (eGType a3)))), (1, some (.box 41 (bxv ((eA4 eI) (⟨0, 0, 0, 0⟩ : A4 Int))))), (2, some (.box 41 (bxv ((eA4 eI) (⟨0, 0, 0, 0⟩ : A4 Int)))))], 3, [], [], 0, []⟩) (imps [1, 2, 3] ⟨by kernel_rfl, by kernel_rfl, by kernel_rfl, by kernel_rfl, by kernel_rfl, trivial⟩ ⟨by kernel_rfl, by kernel_rfl, by kernel_rfl, trivial⟩) ?_
  refine post_next ?_
  iterate 2 (refine aw_seq ?_)
  refine aw_region ?_
  refine reg_cons (guard_no rfl) (op_load_lp_agg (ps := eGType a3) rfl rfl rfl rfl rfl rfl Try_agg_54 rfl rfl) ?_
  obtain ⟨y7, h8, hF⟩ := bind_some hF
  refine reg_cons (guard_no rfl) (op_call 3 rfl (caps := []) (args := [.agg (eGType a3)]) (rs := [.p (.vs 2 (List.map eGOwner y7))]) rfl rfl rfl Try_cal_20 (kind_Owners_ok h8) rfl rfl rfl) ?_
  refine reg_cons (guard_no rfl) (op_len_vs (n := y7.length) rfl rfl (List.length_map ..) Try_slc_45 rfl rfl) ?_
  refine rmv ?_
  refine reg_nil ?_
  refine post_imp (s' := ⟨40, [(4, some (.pv (.int .i64 a4))), (10, some (.lp 0 0)), (11, some (.lp 1 0)), (12, some (.pv (.fn 29 [.vp (eB y3.1), .vp (eGFrame y3.2.1), .vp ((eL 1 eI) y3.2.2)]))), (20, some (.pv (.vs 2 (List.map eGOwner y7)))), (21, some (.pv (.int .i64 (y7.length : Int)))), (22, some (.pv (.int .i64 0)))], [(0, some (.box 41 (bxv ((eA4 eI) (⟨0, 0, 0, 0⟩ : A4 Int))))), (1, some (.box 41 (bxv ((eA4 eI) (⟨0, 0, 0, 0⟩ : A4 Int)))))], 2, [], [], 0, []⟩) (imps [1, 2] ⟨by kernel_rfl, by kernel_rfl, by kernel_rfl, by kernel_rfl, by kernel_rfl, by kernel_rfl, by kernel_rfl, trivial⟩ ⟨by kernel_rfl, by kernel_rfl, trivial⟩) ?_
  refine post_next ?_
  obtain ⟨x56, hF, hK57⟩ := bind_some hF
  refine aw_for ((((y7.length : Int) : Int) - (0)).toNat + 1) (fun s1 => s1 = ⟨40, [(10, some (.lp 0 0)), (11, some (.lp 1 0))], [(0, some (.box 41 (bxv ((eA4 eI) (⟨0, 0, 0, 0⟩ : A4 Int))))), (1, some (.box 41 (bxv ((eA4 eI) x56))))], 2, [], [], 0, []⟩) ?_ ?_
  · refine rnd_loop (α := (A4 Int) × Int) (fun q => ⟨40, [(4, some (.pv (.int .i64 a4))), (10, some (.lp 0 0)), (11, some (.lp 1 0)), (12, some (.pv (.fn 29 [.vp (eB y3.1), .vp (eGFrame y3.2.1), .vp ((eL 1 eI) y3.2.2)]))), (20, some (.pv (.vs 2 (List.map eGOwner y7)))), (21, some (.pv (.int .i64 (y7.length : Int)))), (22, some (.pv (.int .i64 q.2)))], [(0, some (.box 41 (bxv ((eA4 eI) (⟨0, 0, 0, 0⟩ : A4 Int))))), (1, some (.box 41 (bxv ((eA4 eI) q.1))))], 2, [], [], 0, []⟩) (fun k q => frame_Owners_L1 a4 y3 y7 k q.1 q.2 = some x56) ((⟨0, 0, 0, 0⟩ : A4 Int), 0) (imps [0, 1] ⟨by kernel_rfl, by kernel_rfl, by kernel_rfl, by kernel_rfl, by kernel_rfl, by kernel_rfl, by kernel_rfl, trivial⟩ ⟨by kernel_rfl, by kernel_rfl, trivial⟩) hF (fun q h => by cases h) ?_
    clear hF
    rintro k ⟨x20, x21⟩ hF ih
    refine rnd_succ ?_
    refine aw_seq ?_
    refine aw_region ?_
    refine reg_cons (guard_no rfl) (op_int (k := .i64) (m := x21) (n := (y7.length : Int)) rfl rfl rfl rfl rfl rfl) ?_
    refine reg_nil ?_
    refine post_imp (s' := ⟨40, [(4, some (.pv (.int .i64 a4))), (10, some (.lp 0 0)), (11, some (.lp 1 0)), (12, some (.pv (.fn 29 [.vp (eB y3.1), .vp (eGFrame y3.2.1), .vp ((eL 1 eI) y3.2.2)]))), (20, some (.pv (.vs 2 (List.map eGOwner y7)))), (21, some (.pv (.int .i64 (y7.length : Int)))), (22, some (.pv (.int .i64 x21))), (23, some (.pv (.bool (decide (x21 < (y7.length : Int))))))], [(0, some (.box 41 (bxv ((eA4 eI) (⟨0, 0, 0, 0⟩ : A4 Int))))), (1, some (.box 41 (bxv ((eA4 eI) x20))))], 2, [], [], 0, []⟩) (imps [0, 1] ⟨by kernel_rfl, by kernel_rfl, by kernel_rfl, by kernel_rfl, by kernel_rfl, by kernel_rfl, by kernel_rfl, by kernel_rfl, trivial⟩ ⟨by kernel_rfl, by kernel_rfl, trivial⟩) ?_
    refine post_next ?_
    refine aw_seq ?_
    rcases ite_some hF with ⟨hb39, hF⟩ | ⟨hb39, hF⟩
    · refine aw_cond_t rfl hb39 ?_
      refine aw_skip ?_
      refine post_next ?_
      refine aw_seq ?_
      obtain ⟨x51, hF, hK53⟩ := bind_some hF
      refine aw_cut (fun s1 => s1 = ⟨40, [(4, some (.pv (.int .i64 a4))), (10, some (.lp 0 0)), (11, some (.lp 1 0)), (12, some (.pv (.fn 29 [.vp (eB y3.1), .vp (eGFrame y3.2.1), .vp ((eL 1 eI) y3.2.2)]))), (20, some (.pv (.vs 2 (List.map eGOwner y7)))), (21, some (.pv (.int .i64 (y7.length : Int)))), (22, some (.pv (.int .i64 x21)))], [(0, some (.box 41 (bxv ((eA4 eI) (⟨0, 0, 0, 0⟩ : A4 Int))))), (1, some (.box 41 (bxv ((eA4 eI) x51))))], 2, [], [], 0, []⟩) ?_ ?_
      · refine aw_block ?_
        refine aw_seq ?_
        refine aw_region ?_
        refine rmv ?_
        obtain ⟨y42, h43, hF⟩ := bind_some hF
        refine reg_cons (guard_no rfl) (op_index_vs (k := .i64) rfl rfl rfl (idx_map eGOwner h43) Try_slc_45 rfl rfl) ?_
        refine reg_cons (guard_no rfl) (op_load_vp_agg (ps := eGOwner y42) rfl rfl rfl rfl Try_agg_51 rfl rfl) ?_
        refine reg_cons (guard_no rfl) (op_alloc 2 rfl (ps := (eGOwner zGOwner)) rfl Try_zer_51 (by exact ⟨rfl, rfl, trivial⟩) rfl rfl) ?_
        refine ras ?_
        refine reg_cons (guard_no rfl) (op_store_lp (n := 2) rfl rfl rfl rfl rfl (or_agg Try_agg_51) (by rw [Try_non_51]; rfl) rfl rfl rfl) ?_
        refine reg_nil ?_
        refine post_imp (s' := ⟨40, [(4, some (.pv (.int .i64 a4))), (10, some (.lp 0 0)), (11, some (.lp 1 0)), (12, some (.pv (.fn 29 [.vp (eB y3.1), .vp (eGFrame y3.2.1), .vp ((eL 1 eI) y3.2.2)]))), (13, some (.pv (.int .i64 x21))), (14, some (.lp 2 0)), (20, some (.pv (.vs 2 (List.map eGOwner y7)))), (21, some (.pv (.int .i64 (y7.length : Int)))), (22, some (.pv (.int .i64 x21)))], [(0, some (.box 41 (bxv ((eA4 eI) (⟨0, 0, 0, 0⟩ : A4 Int))))), (1, some (.box 41 (bxv ((eA4 eI) x20)))), (2, some (.box 51 (bxv (eGOwner y42))))], 3, [], [], 0, []⟩) (imps [0, 1, 2] ⟨by kernel_rfl, by kernel_rfl, by kernel_rfl, by kernel_rfl, by kernel_rfl, by kernel_rfl, by kernel_rfl, by kernel_rfl, by kernel_rfl, trivial⟩ ⟨by kernel_rfl, by kernel_rfl, by kernel_rfl, trivial⟩) ?_
        refine post_next ?_
        refine aw_seq ?_
        refine aw_region ?_
        refine reg_cons (guard_no rfl) (op_field_lp rfl rfl Try_fld_51_0 rfl rfl) ?_
        refine reg_cons (guard_no rfl) (op_load_lp (v := .pv (.int .i64 y42.fKind)) rfl rfl rfl rfl Try_one_3 rfl rfl) ?_
        refine reg_cons (guard_no rfl) (op_int (k := .i64) (m := y42.fKind) (n := 6) rfl rfl rfl rfl rfl rfl) ?_
        refine reg_nil ?_
        refine post_imp (s' := ⟨40, [(4, some (.pv (.int .i64 a4))), (10, some (.lp 0 0)), (11, some (.lp 1 0)), (12, some (.pv (.fn 29 [.vp (eB y3.1), .vp (eGFrame y3.2.1), .vp ((eL 1 eI) y3.2.2)]))), (13, some (.pv (.int .i64 x21))), (14, some (.lp 2 0)), (20, some (.pv (.vs 2 (List.map eGOwner y7)))), (21, some (.pv (.int .i64 (y7.length : Int)))), (22, some (.pv (.int .i64 x21))), (29, some (.pv (.bool (y42.fKind == 6))))], [(0, some (.box 41 (bxv ((eA4 eI) (⟨0, 0, 0, 0⟩ : A4 Int))))), (1, some (.box 41 (bxv ((eA4 eI) x20)))), (2, some (.box 51 (bxv (eGOwner y42))))], 3, [], [], 0, []⟩) (imps [0, 1, 2] ⟨by kernel_rfl, by kernel_rfl, by kernel_rfl, by kernel_rfl, by kernel_rfl, by kernel_rfl, by kernel_rfl, by kernel_rfl, by kernel_rfl, by kernel_rfl, trivial⟩ ⟨by kernel_rfl, by kernel_rfl, by kernel_rfl, trivial⟩) ?_
        refine post_next ?_
        rcases ite_some hF with ⟨hb44, hF⟩ | ⟨hb44, hF⟩
        · refine aw_cond_t rfl hb44 ?_
          refine aw_region ?_
          iterate 2 (refine rmv ?_)
          obtain ⟨y45, h46, hF⟩ := bind_some hF
          refine reg_cons (guard_no rfl) (op_arr_lpN (l := (x20).l) rfl rfl rfl Try_arr_41 rfl h46 rfl rfl) ?_
          refine reg_cons (guard_no rfl) (op_store_lpV (cells' := bxv ((eA4 eI) (A4.set x20 (x21 : Int).toNat a4))) (n := 1) rfl rfl rfl rfl rfl (or_one Try_one_3) (by rw [Try_one_3]; rfl) (by rcases idx_l4 h46 with e | e | e | e <;> rw [e] <;> exact Nat.le_of_ble_eq_true rfl) (by rcases idx_l4 h46 with e | e | e | e <;> rw [e] <;> rfl) rfl rfl) ?_
          refine reg_nil ?_
          refine post_imp (s' := ⟨40, [(4, some (.pv (.int .i64 a4))), (10, some (.lp 0 0)), (11, some (.lp 1 0)), (12, some (.pv (.fn 29 [.vp (eB y3.1), .vp (eGFrame y3.2.1), .vp ((eL 1 eI) y3.2.2)]))), (20, some (.pv (.vs 2 (List.map eGOwner y7)))), (21, some (.pv (.int .i64 (y7.length : Int)))), (22, some (.pv (.int .i64 x21)))], [(0, some (.box 41 (bxv ((eA4 eI) (⟨0, 0, 0, 0⟩ : A4 Int))))), (1, some (.box 41 (bxv ((eA4 eI) (A4.set x20 (x21 : Int).toNat a4)))))], 2, [], [], 0, []⟩) (imps [0, 1] ⟨by kernel_rfl, by kernel_rfl, by kernel_rfl, by kernel_rfl, by kernel_rfl, by kernel_rfl, by kernel_rfl, trivial⟩ ⟨by kernel_rfl, by kernel_rfl, trivial⟩) ?_
          refine post_block_normal ?_
          cases hF
          exact post_cut _ rfl (imps [0, 1] ⟨by kernel_rfl, by kernel_rfl, by kernel_rfl, by kernel_rfl, by kernel_rfl, by kernel_rfl, by kernel_rfl, trivial⟩ ⟨by kernel_rfl, by kernel_rfl, trivial⟩)
        refine aw_cond_f rfl hb44 ?_
        refine aw_region ?_
        iterate 2 (refine rmv ?_)
        refine reg_cons (guard_no rfl) (op_load_lp_agg (ps := eGOwner y42) rfl rfl rfl rfl rfl rfl Try_agg_51 rfl rfl) ?_
        obtain ⟨y47, h48, hF⟩ := bind_some hF
        refine reg_cons (guard_no rfl) (op_call 3 rfl (caps := [.vp (eB y3.1), .vp (eGFrame y3.2.1), .vp ((eL 1 eI) y3.2.2)]) (args := [.agg (eGOwner y42)]) (rs := [.p (.int .i64 y47)]) rfl rfl rfl Try_cal_29 (frame_teller_1_ok h48) rfl rfl rfl) ?_
        obtain ⟨y49, h50, hF⟩ := bind_some hF
        refine reg_cons (guard_no rfl) (op_arr_lpN (l := (x20).l) rfl rfl rfl Try_arr_41 rfl h50 rfl rfl) ?_
        refine reg_cons (guard_no rfl) (op_store_lpV (cells' := bxv ((eA4 eI) (A4.set x20 (x21 : Int).toNat y47))) (n := 1) rfl rfl rfl rfl rfl (or_one Try_one_3) (by rw [Try_one_3]; rfl) (by rcases idx_l4 h50 with e | e | e | e <;> rw [e] <;> exact Nat.le_of_ble_eq_true rfl) (by rcases idx_l4 h50 with e | e | e | e <;> rw [e] <;> rfl) rfl rfl) ?_
        refine reg_nil ?_
        refine post_imp (s' := ⟨40, [(4, some (.pv (.int .i64 a4))), (10, some (.lp 0 0)), (11, some (.lp 1 0)), (12, some (.pv (.fn 29 [.vp (eB y3.1), .vp (eGFrame y3.2.1), .vp ((eL 1 eI) y3.2.2)]))), (20, some (.pv (.vs 2 (List.map eGOwner y7)))), (21, some (.pv (.int .i64 (y7.length : Int)))), (22, some (.pv (.int .i64 x21)))], [(0, some (.box 41 (bxv ((eA4 eI) (⟨0, 0, 0, 0⟩ : A4 Int))))), (1, some (.box 41 (bxv ((eA4 eI) (A4.set x20 (x21 : Int).toNat y47)))))], 2, [], [], 0, []⟩) (imps [0, 1] ⟨by kernel_rfl, by kernel_rfl, by kernel_rfl, by kernel_rfl, by kernel_rfl, by kernel_rfl, by kernel_rfl, trivial⟩ ⟨by kernel_rfl, by kernel_rfl, trivial⟩) ?_
        refine post_block_normal ?_
        cases hF
        exact post_cut _ rfl (imps [0, 1] ⟨by kernel_rfl, by kernel_rfl, by kernel_rfl, by kernel_rfl, by kernel_rfl, by kernel_rfl, by kernel_rfl, trivial⟩ ⟨by kernel_rfl, by kernel_rfl, trivial⟩)
      rintro _ rfl
      have hF := hK53
      clear hK53
      refine post_next ?_
      refine aw_region ?_
      refine reg_cons (guard_no rfl) (op_int (k := .i64) (m := x21) (n := 1) rfl rfl rfl rfl rfl rfl) ?_
      refine rmv ?_
      refine reg_nil ?_
      refine post_round ?_
      exact rnd_back (ih (x51, w_i64 (x21 + 1)) hF) (imps [0, 1] ⟨by kernel_rfl, by kernel_rfl, by kernel_rfl, by kernel_rfl, by kernel_rfl, by kernel_rfl, by kernel_rfl, trivial⟩ ⟨by kernel_rfl, by kernel_rfl, trivial⟩)
    refine aw_cond_f rfl hb39 ?_
    refine aw_exit ?_
    iterate 2 (refine post_then_exit ?_)
    obtain rfl := Option.some.inj hF
    exact post_lp_break _ rfl (imps [0, 1] ⟨by kernel_rfl, by kernel_rfl, trivial⟩ ⟨by kernel_rfl, by kernel_rfl, trivial⟩)
  rintro _ rfl
  have hF := hK57
  clear hK57
  refine post_next ?_
  refine aw_seq ?_
  refine aw_region ?_
  refine reg_cons (guard_no rfl) (op_load_lp_agg (ps := (eA4 eI) x56) rfl rfl rfl rfl rfl rfl Try_agg_41 rfl rfl) ?_
  refine reg_cons (guard_no rfl) (op_store_lp (n := 4) rfl rfl rfl rfl rfl (or_agg Try_agg_41) (by rw [Try_non_41]; rfl) rfl rfl rfl) ?_
  refine reg_nil ?_
  refine post_imp (s' := ⟨40, [(10, some (.lp 0 0))], [(0, some (.box 41 (bxv ((eA4 eI) x56))))], 1, [], [], 0, []⟩) (imps [0] ⟨by kernel_rfl, trivial⟩ ⟨by kernel_rfl, trivial⟩) ?_
  refine post_next ?_
  refine aw_ret ?_
  obtain rfl := Option.some.inj hF
  exact post_ret rfl rfl (.cons _ _ _ _ _ (.agg _ _ _ _ _ 4 _ _ rfl rfl Try_agg_41 rfl rfl rfl) (.p _) .nil) (.inl rfl)
theorem frame_Fits_ok {a0 : List GClass} {a1 : List GCell} {a2 : GFrame} {a3 : GType} {a4 : Int} {r : Bool} (hF : frame_Fits a0 a1 a2 a3 a4 = some r) : Abs.Fn Try.prog 11 [.vs 7 (List.map eGClass a0), .vs 7 (List.map eGCell a1), .agg (eGFrame a2), .agg (eGType a3), .int .i64 a4] [.p (.bool r)] := by
  unfold frame_Fits at hF
  refine fn_of_body (n := 61) Try.func11 rfl rfl rfl ?_
  intro w O
  refine aw_seq ?_
  refine aw_region ?_
  refine reg_cons (guard_no rfl) (op_box 0 rfl rfl rfl rfl rfl rfl) ?_
  refine reg_cons (guard_no rfl) (op_box 1 rfl rfl rfl rfl rfl rfl) ?_
  refine ras ?_
  refine reg_nil ?_
  refine post_imp (s' := ⟨61, [(0, some (.pv (.vs 7 (List.map eGClass a0)))), (1, some (.pv (.vs 7 (List.map eGCell a1)))), (4, some (.pv (.int .i64 a4))), (7, some (.lp 0 0)), (8, some (.lp 1 0))], [(0, some (.box 26 (bxv (eGFrame a2)))), (1, some (.box 54 (bxv (eGType a3))))], 2, [], [], 0, []⟩) (imps [0, 1] ⟨by kernel_rfl, by kernel_rfl, by kernel_rfl, by kernel_rfl, by kernel_rfl, trivial⟩ ⟨by kernel_rfl, by kernel_rfl, trivial⟩) ?_
  refine post_next ?_
  refine aw_seq ?_
  refine aw_region ?_
  iterate 3 (refine rmv ?_)
  refine reg_cons (guard_no rfl) (op_field_lp rfl rfl Try_fld_54_1 rfl rfl) ?_
  refine reg_cons (guard_no rfl) (op_load_lp (v := .pv (.str a3.fClass)) rfl rfl rfl rfl Try_one_9 rfl rfl) ?_
  obtain ⟨y3, h4, hF⟩ := bind_some hF
  refine reg_cons (guard_no rfl) (op_call 2 rfl (caps := []) (args := [.vs 7 (List.map eGClass a0), .vs 7 (List.map eGCell a1), .int .i64 a4, .str a3.fClass]) (rs := [.p (.vs 1 (List.map eI y3.1)), .p (.bool y3.2)]) rfl rfl rfl Try_cal_21 (frame_own_ok h4) rfl rfl rfl) ?_
  refine rmv ?_
  iterate 2 (refine reg_cons (guard_no rfl) (op_extract rfl rfl rfl rfl rfl) ?_)
  iterate 2 (refine ras ?_)
  refine reg_nil ?_
  refine post_imp (s' := ⟨61, [(0, some (.pv (.vs 7 (List.map eGClass a0)))), (1, some (.pv (.vs 7 (List.map eGCell a1)))), (7, some (.lp 0 0)), (8, some (.lp 1 0)), (11, some (.pv (.vs 1 (List.map eI y3.1)))), (12, some (.pv (.bool y3.2)))], [(0, some (.box 26 (bxv (eGFrame a2)))), (1, some (.box 54 (bxv (eGType a3))))], 2, [], [], 0, []⟩) (imps [0, 1] ⟨by kernel_rfl, by kernel_rfl, by kernel_rfl, by kernel_rfl, by kernel_rfl, by kernel_rfl, trivial⟩ ⟨by kernel_rfl, by kernel_rfl, trivial⟩) ?_
  refine post_next ?_
  iterate 2 (refine aw_seq ?_)
  refine aw_region ?_
  refine rmv ?_
  refine reg_cons (guard_no rfl) (op_not rfl rfl rfl rfl) ?_
  refine reg_nil ?_
  refine post_imp (s' := ⟨61, [(0, some (.pv (.vs 7 (List.map eGClass a0)))), (1, some (.pv (.vs 7 (List.map eGCell a1)))), (7, some (.lp 0 0)), (8, some (.lp 1 0)), (11, some (.pv (.vs 1 (List.map eI y3.1)))), (26, some (.pv (.bool (!y3.2))))], [(0, some (.box 26 (bxv (eGFrame a2)))), (1, some (.box 54 (bxv (eGType a3))))], 2, [], [], 0, []⟩) (imps [0, 1] ⟨by kernel_rfl, by kernel_rfl, by kernel_rfl, by kernel_rfl, by kernel_rfl, by kernel_rfl, trivial⟩ ⟨by kernel_rfl, by kernel_rfl, trivial⟩) ?_
  refine post_next ?_
  rcases ite_some hF with ⟨hb5, hF⟩ | ⟨hb5, hF⟩
  · refine aw_cond_t rfl hb5 ?_
    refine aw_seq ?_
    refine aw_region ?_
    refine ras ?_
    refine reg_nil ?_
    refine post_imp (s' := ⟨61, [(10, some (.pv (.bool false)))], [], 0, [], [], 0, []⟩) (imps [] ⟨by kernel_rfl, trivial⟩ trivial) ?_
    refine post_next ?_
    refine aw_ret ?_
    refine post_then_ret ?_
    obtain rfl := Option.some.inj hF
    exact post_ret rfl rfl (.cons _ _ _ _ _ (.tmp _ _ rfl) (.p _) .nil) (.inl rfl)
  refine aw_cond_f rfl hb5 ?_
  refine aw_skip ?_
  refine post_next ?_
  refine aw_seq ?_
  refine aw_region ?_
  iterate 2 (refine rmv ?_)
  refine reg_cons (guard_no rfl) (op_load_lp_agg (ps := eGFrame a2) rfl rfl rfl rfl rfl rfl Try_agg_26 rfl rfl) ?_
  obtain ⟨y8, h9, hF⟩ := bind_some hF
  refine reg_cons (guard_no rfl) (op_call 2 rfl (caps := []) (args := [.vs 7 (List.map eGClass a0), .vs 7 (List.map eGCell a1), .agg (eGFrame a2)]) (rs := [.p (.fn 29 [.vp (eB y8.1), .vp (eGFrame y8.2.1), .vp ((eL 1 eI) y8.2.2)])]) rfl rfl rfl Try_cal_19 (frame_teller_ok h9) rfl rfl rfl) ?_
  refine ras ?_
  refine reg_nil ?_
  refine post_imp (s' := ⟨61, [(8, some (.lp 0 0)), (11, some (.pv (.vs 1 (List.map eI y3.1)))), (13, some (.pv (.fn 29 [.vp (eB y8.1), .vp (eGFrame y8.2.1), .vp ((eL 1 eI) y8.2.2)])))], [(0, some (.box 54 (bxv (eGType a3))))], 1, [], [], 0, []⟩) (imps [1] ⟨by kernel_rfl, by kernel_rfl, by kernel_rfl, trivial⟩ ⟨by kernel_rfl, trivial⟩) ?_
  refine post_next ?_
  iterate 2 (refine aw_seq ?_)
  refine aw_region ?_
  refine reg_cons (guard_no rfl) (op_load_lp_agg (ps := eGType a3) rfl rfl rfl rfl rfl rfl Try_agg_54 rfl rfl) ?_
  obtain ⟨y12, h13, hF⟩ := bind_some hF
  refine reg_cons (guard_no rfl) (op_call 1 rfl (caps := []) (args := [.agg (eGType a3)]) (rs := [.p (.vs 2 (List.map eGOwner y12))]) rfl rfl rfl Try_cal_20 (kind_Owners_ok h13) rfl rfl rfl) ?_
  refine reg_cons (guard_no rfl) (op_len_vs (n := y12.length) rfl rfl (List.length_map ..) Try_slc_45 rfl rfl) ?_
  refine rmv ?_
  refine reg_nil ?_
  refine post_imp (s' := ⟨61, [(11, some (.pv (.vs 1 (List.map eI y3.1)))), (13, some (.pv (.fn 29 [.vp (eB y8.1), .vp (eGFrame y8.2.1), .vp ((eL 1 eI) y8.2.2)]))), (32, some (.pv (.vs 2 (List.map eGOwner y12)))), (33, some (.pv (.int .i64 (y12.length : Int)))), (34, some (.pv (.int .i64 0)))], [], 0, [], [], 0, []⟩) (imps [] ⟨by kernel_rfl, by kernel_rfl, by kernel_rfl, by kernel_rfl, by kernel_rfl, trivial⟩ trivial) ?_
  refine post_next ?_
  obtain ⟨lr80, hF, hK81⟩ := bind_some hF
  refine aw_for ((((y12.length : Int) : Int) - (0)).toNat + 1) (fun s1 => ∃ q, lr80 = .next q ∧ s1 = ⟨61, [], [], 0, [], [], 0, []⟩) ?_ ?_
  · refine rnd_loop (α := Int) (fun q => ⟨61, [(11, some (.pv (.vs 1 (List.map eI y3.1)))), (13, some (.pv (.fn 29 [.vp (eB y8.1), .vp (eGFrame y8.2.1), .vp ((eL 1 eI) y8.2.2)]))), (32, some (.pv (.vs 2 (List.map eGOwner y12)))), (33, some (.pv (.int .i64 (y12.length : Int)))), (34, some (.pv (.int .i64 q)))], [], 0, [], [], 0, []⟩) (fun k q => frame_Fits_L1 y3 y8 y12 k q = some lr80) 0 (imps [] ⟨by kernel_rfl, by kernel_rfl, by kernel_rfl, by kernel_rfl, by kernel_rfl, trivial⟩ trivial) hF (fun q h => by cases h) ?_
    clear hF
    rintro k x35 hF ih
    refine rnd_succ ?_
    refine aw_seq ?_
    refine aw_region ?_
    refine reg_cons (guard_no rfl) (op_int (k := .i64) (m := x35) (n := (y12.length : Int)) rfl rfl rfl rfl rfl rfl) ?_
    refine reg_nil ?_
    refine post_imp (s' := ⟨61, [(11, some (.pv (.vs 1 (List.map eI y3.1)))), (13, some (.pv (.fn 29 [.vp (eB y8.1), .vp (eGFrame y8.2.1), .vp ((eL 1 eI) y8.2.2)]))), (32, some (.pv (.vs 2 (List.map eGOwner y12)))), (33, some (.pv (.int .i64 (y12.length : Int)))), (34, some (.pv (.int .i64 x35))), (35, some (.pv (.bool (decide (x35 < (y12.length : Int))))))], [], 0, [], [], 0, []⟩) (imps [] ⟨by kernel_rfl, by kernel_rfl, by kernel_rfl, by kernel_rfl, by kernel_rfl, by kernel_rfl, trivial⟩ trivial) ?_
    refine post_next ?_
    refine aw_seq ?_
    rcases ite_some hF with ⟨hb58, hF⟩ | ⟨hb58, hF⟩
    · refine aw_cond_t rfl hb58 ?_
      refine aw_skip ?_
      refine post_next ?_
      refine aw_seq ?_
      refine aw_join hF (fun q => ⟨61, [(11, some (.pv (.vs 1 (List.map eI y3.1)))), (13, some (.pv (.fn 29 [.vp (eB y8.1), .vp (eGFrame y8.2.1), .vp ((eL 1 eI) y8.2.2)]))), (32, some (.pv (.vs 2 (List.map eGOwner y12)))), (33, some (.pv (.int .i64 (y12.length : Int)))), (34, some (.pv (.int .i64 x35)))], [], 0, [], [], 0, []⟩) ?_ ?_
      · refine aw_block ?_
        refine aw_seq ?_
        refine aw_region ?_
        refine rmv ?_
        obtain ⟨y61, h62, hF⟩ := go_bind hF
        refine reg_cons (guard_no rfl) (op_index_vs (k := .i64) rfl rfl rfl (idx_map eGOwner h62) Try_slc_45 rfl rfl) ?_
        refine reg_cons (guard_no rfl) (op_load_vp_agg (ps := eGOwner y61) rfl rfl rfl rfl Try_agg_51 rfl rfl) ?_
        refine reg_cons (guard_no rfl) (op_alloc 0 rfl (ps := (eGOwner zGOwner)) rfl Try_zer_51 (by exact ⟨rfl, rfl, trivial⟩) rfl rfl) ?_
        refine ras ?_
        refine reg_cons (guard_no rfl) (op_store_lp (n := 2) rfl rfl rfl rfl rfl (or_agg Try_agg_51) (by rw [Try_non_51]; rfl) rfl rfl rfl) ?_
        refine reg_nil ?_
        refine post_imp (s' := ⟨61, [(11, some (.pv (.vs 1 (List.map eI y3.1)))), (13, some (.pv (.fn 29 [.vp (eB y8.1), .vp (eGFrame y8.2.1), .vp ((eL 1 eI) y8.2.2)]))), (14, some (.pv (.int .i64 x35))), (15, some (.lp 0 0)), (32, some (.pv (.vs 2 (List.map eGOwner y12)))), (33, some (.pv (.int .i64 (y12.length : Int)))), (34, some (.pv (.int .i64 x35)))], [(0, some (.box 51 (bxv (eGOwner y61))))], 1, [], [], 0, []⟩) (imps [0] ⟨by kernel_rfl, by kernel_rfl, by kernel_rfl, by kernel_rfl, by kernel_rfl, by kernel_rfl, by kernel_rfl, trivial⟩ ⟨by kernel_rfl, trivial⟩) ?_
        refine post_next ?_
        refine aw_seq ?_
        refine aw_region ?_
        refine reg_cons (guard_no rfl) (op_field_lp rfl rfl Try_fld_51_0 rfl rfl) ?_
        refine reg_cons (guard_no rfl) (op_load_lp (v := .pv (.int .i64 y61.fKind)) rfl rfl rfl rfl Try_one_3 rfl rfl) ?_
        refine reg_nil ?_
        refine post_imp (s' := ⟨61, [(11, some (.pv (.vs 1 (List.map eI y3.1)))), (13, some (.pv (.fn 29 [.vp (eB y8.1), .vp (eGFrame y8.2.1), .vp ((eL 1 eI) y8.2.2)]))), (14, some (.pv (.int .i64 x35))), (15, some (.lp 0 0)), (32, some (.pv (.vs 2 (List.map eGOwner y12)))), (33, some (.pv (.int .i64 (y12.length : Int)))), (34, some (.pv (.int .i64 x35))), (40, some (.pv (.int .i64 y61.fKind)))], [(0, some (.box 51 (bxv (eGOwner y61))))], 1, [], [], 0, []⟩) (imps [0] ⟨by kernel_rfl, by kernel_rfl, by kernel_rfl, by kernel_rfl, by kernel_rfl, by kernel_rfl, by kernel_rfl, by kernel_rfl, trivial⟩ ⟨by kernel_rfl, trivial⟩) ?_
        refine post_next ?_
        refine aw_block ?_
        refine aw_seq ?_
        obtain ⟨x66, hF, hK68⟩ := go_bind hF
        refine aw_cut (fun s1 => s1 = ⟨61, [(11, some (.pv (.vs 1 (List.map eI y3.1)))), (13, some (.pv (.fn 29 [.vp (eB y8.1), .vp (eGFrame y8.2.1), .vp ((eL 1 eI) y8.2.2)]))), (14, some (.pv (.int .i64 x35))), (15, some (.lp 0 0)), (32, some (.pv (.vs 2 (List.map eGOwner y12)))), (33, some (.pv (.int .i64 (y12.length : Int)))), (34, some (.pv (.int .i64 x35))), (41, some (.pv (.bool x66)))], [(0, some (.box 51 (bxv (eGOwner y61))))], 1, [], [], 0, []⟩) ?_ ?_
        · refine aw_seq ?_
          refine aw_region ?_
          refine reg_cons (guard_no rfl) (op_int (k := .i64) (m := y61.fKind) (n := 1) rfl rfl rfl rfl rfl rfl) ?_
          refine ras ?_
          refine reg_nil ?_
          refine post_imp (s' := ⟨61, [(11, some (.pv (.vs 1 (List.map eI y3.1)))), (13, some (.pv (.fn 29 [.vp (eB y8.1), .vp (eGFrame y8.2.1), .vp ((eL 1 eI) y8.2.2)]))), (14, some (.pv (.int .i64 x35))), (15, some (.lp 0 0)), (32, some (.pv (.vs 2 (List.map eGOwner y12)))), (33, some (.pv (.int .i64 (y12.length : Int)))), (34, some (.pv (.int .i64 x35))), (40, some (.pv (.int .i64 y61.fKind))), (41, some (.pv (.bool (y61.fKind == 1))))], [(0, some (.box 51 (bxv (eGOwner y61))))], 1, [], [], 0, []⟩) (imps [0] ⟨by kernel_rfl, by kernel_rfl, by kernel_rfl, by kernel_rfl, by kernel_rfl, by kernel_rfl, by kernel_rfl, by kernel_rfl, by kernel_rfl, trivial⟩ ⟨by kernel_rfl, trivial⟩) ?_
          refine post_next ?_
          rcases ite_some hF with ⟨hb63, hF⟩ | ⟨hb63, hF⟩
          · refine aw_cond_t rfl hb63 ?_
            refine aw_skip ?_
            cases hF
            exact post_cut _ rfl (imps [0] ⟨by kernel_rfl, by kernel_rfl, by kernel_rfl, by kernel_rfl, by kernel_rfl, by kernel_rfl, by kernel_rfl, by kernel_rfl, trivial⟩ ⟨by kernel_rfl, trivial⟩)
          refine aw_cond_f rfl hb63 ?_
          refine aw_seq ?_
          refine aw_region ?_
          refine reg_cons (guard_no rfl) (op_int (k := .i64) (m := y61.fKind) (n := 2) rfl rfl rfl rfl rfl rfl) ?_
          refine ras ?_
          refine reg_nil ?_
          refine post_imp (s' := ⟨61, [(11, some (.pv (.vs 1 (List.map eI y3.1)))), (13, some (.pv (.fn 29 [.vp (eB y8.1), .vp (eGFrame y8.2.1), .vp ((eL 1 eI) y8.2.2)]))), (14, some (.pv (.int .i64 x35))), (15, some (.lp 0 0)), (32, some (.pv (.vs 2 (List.map eGOwner y12)))), (33, some (.pv (.int .i64 (y12.length : Int)))), (34, some (.pv (.int .i64 x35))), (40, some (.pv (.int .i64 y61.fKind))), (41, some (.pv (.bool (y61.fKind == 2))))], [(0, some (.box 51 (bxv (eGOwner y61))))], 1, [], [], 0, []⟩) (imps [0] ⟨by kernel_rfl, by kernel_rfl, by kernel_rfl, by kernel_rfl, by kernel_rfl, by kernel_rfl, by kernel_rfl, by kernel_rfl, by kernel_rfl, trivial⟩ ⟨by kernel_rfl, trivial⟩) ?_
          refine post_next ?_
          rcases ite_some hF with ⟨hb64, hF⟩ | ⟨hb64, hF⟩
          · refine aw_cond_t rfl hb64 ?_
            refine aw_skip ?_
            cases hF
            exact post_cut _ rfl (imps [0] ⟨by kernel_rfl, by kernel_rfl, by kernel_rfl, by kernel_rfl, by kernel_rfl, by kernel_rfl, by kernel_rfl, by kernel_rfl, trivial⟩ ⟨by kernel_rfl, trivial⟩)
          refine aw_cond_f rfl hb64 ?_
          refine aw_seq ?_
          refine aw_region ?_
          refine reg_cons (guard_no rfl) (op_int (k := .i64) (m := y61.fKind) (n := 3) rfl rfl rfl rfl rfl rfl) ?_
          refine ras ?_
          refine reg_nil ?_
          refine post_imp (s' := ⟨61, [(11, some (.pv (.vs 1 (List.map eI y3.1)))), (13, some (.pv (.fn 29 [.vp (eB y8.1), .vp (eGFrame y8.2.1), .vp ((eL 1 eI) y8.2.2)]))), (14, some (.pv (.int .i64 x35))), (15, some (.lp 0 0)), (32, some (.pv (.vs 2 (List.map eGOwner y12)))), (33, some (.pv (.int .i64 (y12.length : Int)))), (34, some (.pv (.int .i64 x35))), (40, some (.pv (.int .i64 y61.fKind))), (41, some (.pv (.bool (y61.fKind == 3))))], [(0, some (.box 51 (bxv (eGOwner y61))))], 1, [], [], 0, []⟩) (imps [0] ⟨by kernel_rfl, by kernel_rfl, by kernel_rfl, by kernel_rfl, by kernel_rfl, by kernel_rfl, by kernel_rfl, by kernel_rfl, by kernel_rfl, trivial⟩ ⟨by kernel_rfl, trivial⟩) ?_
          refine post_next ?_
          rcases ite_some hF with ⟨hb65, hF⟩ | ⟨hb65, hF⟩
          · refine aw_cond_t rfl hb65 ?_
            refine aw_skip ?_
            cases hF
            exact post_cut _ rfl (imps [0] ⟨by kernel_rfl, by kernel_rfl, by kernel_rfl, by kernel_rfl, by kernel_rfl, by kernel_rfl, by kernel_rfl, by kernel_rfl, trivial⟩ ⟨by kernel_rfl, trivial⟩)
          refine aw_cond_f rfl hb65 ?_
          refine aw_region ?_
          refine reg_cons (guard_no rfl) (op_int (k := .i64) (m := y61.fKind) (n := 4) rfl rfl rfl rfl rfl rfl) ?_
          refine ras ?_
          refine reg_nil ?_
          cases hF
          exact post_cut _ rfl (imps [0] ⟨by kernel_rfl, by kernel_rfl, by kernel_rfl, by kernel_rfl, by kernel_rfl, by kernel_rfl, by kernel_rfl, by kernel_rfl, trivial⟩ ⟨by kernel_rfl, trivial⟩)
        rintro _ rfl
        have hF := hK68
        clear hK68
        refine post_next ?_
        rcases go_ite hF with ⟨hb69, hF⟩ | ⟨hb69, hF⟩
        · refine aw_cond_t rfl hb69 ?_
          refine aw_seq ?_
          obtain ⟨x75, hF, hK77⟩ := go_bind hF
          refine aw_cut (fun s1 => s1 = ⟨61, [(11, some (.pv (.vs 1 (List.map eI y3.1)))), (13, some (.pv (.fn 29 [.vp (eB y8.1), .vp (eGFrame y8.2.1), .vp ((eL 1 eI) y8.2.2)]))), (32, some (.pv (.vs 2 (List.map eGOwner y12)))), (33, some (.pv (.int .i64 (y12.length : Int)))), (34, some (.pv (.int .i64 x35))), (59, some (.pv (.bool x75)))], [], 0, [], [], 0, []⟩) ?_ ?_
          · refine dr_start ⟨_, _, _⟩ rfl ?_
            iterate 2 (refine drm ?_)
            refine dr_cons { need := [(47, .pv (.vs 1 (List.map eI y3.1)))], dst := some 48, val := some (.pv (.int .i64 (y3.1.length : Int))) } (fun m h => step_on (guard_no rfl) (op_len_vs (n := y3.1.length) rfl h.1.1 (List.length_map ..) Try_slc_73 rfl rfl) rfl) ⟨⟨rfl, trivial⟩, trivial, trivial⟩ ?_
            refine dr_cons { need := [(46, .pv (.int .i64 x35)), (48, .pv (.int .i64 (y3.1.length : Int)))], dst := some 49, val := some (.pv (.bool (decide (x35 ≥ (y3.1.length : Int))))) } (fun m h => step_on (guard_no rfl) (op_int (k := .i64) (m := x35) (n := (y3.1.length : Int)) rfl h.1.1 h.1.2.1 rfl rfl rfl) rfl) ⟨⟨rfl, rfl, trivial⟩, trivial, trivial⟩ ?_
            refine drm ?_
            rcases ite_some hF with ⟨hb70, hF⟩ | ⟨hb70, hF⟩
            · refine dro_t hb70 ?_
              iterate 7 (refine dro_t hb70 ?_)
              refine drpt hb70 ?_
              refine dr_nil Try_mixed rfl (by kernel_rfl) ?_
              refine post_imp (s' := ⟨61, [(11, some (.pv (.vs 1 (List.map eI y3.1)))), (13, some (.pv (.fn 29 [.vp (eB y8.1), .vp (eGFrame y8.2.1), .vp ((eL 1 eI) y8.2.2)]))), (32, some (.pv (.vs 2 (List.map eGOwner y12)))), (33, some (.pv (.int .i64 (y12.length : Int)))), (34, some (.pv (.int .i64 x35))), (59, some (.pv (.bool true)))], [], 0, [], [], 0, []⟩) (imps [] ⟨by kernel_rfl, by kernel_rfl, by kernel_rfl, by kernel_rfl, by kernel_rfl, by kernel_rfl, trivial⟩ trivial) ?_
              cases hF
              exact post_cut _ rfl (imps [] ⟨by kernel_rfl, by kernel_rfl, by kernel_rfl, by kernel_rfl, by kernel_rfl, by kernel_rfl, trivial⟩ trivial)
            refine dr_cons { need := [(50, .pv (.bool (decide (x35 ≥ (y3.1.length : Int))))), (11, .pv (.vs 1 (List.map eI y3.1)))], dst := some 51, val := some (.pv (.vs 1 (List.map eI y3.1))) } (fun m h => step_on (guard_on rfl rfl rfl h.1.1 hb70) (op_move rfl h.1.2.1 rfl rfl) rfl) ⟨⟨rfl, rfl, trivial⟩, trivial, trivial⟩ ?_
            refine dr_cons { need := [(50, .pv (.bool (decide (x35 ≥ (y3.1.length : Int))))), (14, .pv (.int .i64 x35))], dst := some 52, val := some (.pv (.int .i64 x35)) } (fun m h => step_on (guard_on rfl rfl rfl h.1.1 hb70) (op_move rfl h.1.2.1 rfl rfl) rfl) ⟨⟨rfl, rfl, trivial⟩, trivial, trivial⟩ ?_
            obtain ⟨y71, h72, hF⟩ := bind_some hF
            refine dr_cons { need := [(50, .pv (.bool (decide (x35 ≥ (y3.1.length : Int))))), (51, .pv (.vs 1 (List.map eI y3.1))), (52, .pv (.int .i64 x35))], dst := some 53, val := some (.pv (.vp (eI y71))) } (fun m h => step_on (guard_on rfl rfl rfl h.1.1 hb70) (op_index_vs (k := .i64) rfl h.1.2.1 h.1.2.2.1 (idx_map eI h72) Try_slc_73 rfl rfl) rfl) ⟨⟨rfl, rfl, rfl, trivial⟩, trivial, trivial⟩ ?_
            refine dr_cons { need := [(50, .pv (.bool (decide (x35 ≥ (y3.1.length : Int))))), (53, .pv (.vp (eI y71)))], dst := some 54, val := some (.pv (.int .i64 y71)) } (fun m h => step_on (guard_on rfl rfl rfl h.1.1 hb70) (op_load_vp (p := .int .i64 y71) rfl h.1.2.1 rfl Try_one_3 rfl rfl) rfl) ⟨⟨rfl, rfl, trivial⟩, trivial, trivial⟩ ?_
            refine dr_cons { need := [(50, .pv (.bool (decide (x35 ≥ (y3.1.length : Int))))), (13, .pv (.fn 29 [.vp (eB y8.1), .vp (eGFrame y8.2.1), .vp ((eL 1 eI) y8.2.2)]))], dst := some 55, val := some (.pv (.fn 29 [.vp (eB y8.1), .vp (eGFrame y8.2.1), .vp ((eL 1 eI) y8.2.2)])) } (fun m h => step_on (guard_on rfl rfl rfl h.1.1 hb70) (op_move rfl h.1.2.1 rfl rfl) rfl) ⟨⟨rfl, rfl, trivial⟩, trivial, trivial⟩ ?_
            refine dr_cons { need := [(50, .pv (.bool (decide (x35 ≥ (y3.1.length : Int))))), (15, .lp 0 0)], hneed := [(0, .box 51 (bxv (eGOwner y61)))], dst := some 56, val := some (.pv (.agg (eGOwner y61))) } (fun m h => step_on (guard_on rfl rfl rfl h.1.1 hb70) (op_load_lp_agg (ps := eGOwner y61) rfl h.1.2.1 h.2.1.1 rfl rfl rfl Try_agg_51 rfl rfl) rfl) ⟨⟨rfl, rfl, trivial⟩, ⟨rfl, trivial⟩, trivial⟩ ?_
            obtain ⟨y73, h74, hF⟩ := bind_some hF
            refine dr_cons { need := [(50, .pv (.bool (decide (x35 ≥ (y3.1.length : Int))))), (55, .pv (.fn 29 [.vp (eB y8.1), .vp (eGFrame y8.2.1), .vp ((eL 1 eI) y8.2.2)])), (56, .pv (.agg (eGOwner y61)))], dst := some 57, val := some (.pv (.int .i64 y73)) } (fun m h => step_on (guard_on rfl rfl rfl h.1.1 hb70) (op_call 1 rfl (caps := [.vp (eB y8.1), .vp (eGFrame y8.2.1), .vp ((eL 1 eI) y8.2.2)]) (args := [.agg (eGOwner y61)]) (rs := [.p (.int .i64 y73)]) rfl h.1.2.1 (evl_cons h.1.2.2.1 evl_nil) Try_cal_29 (frame_teller_1_ok h74) rfl rfl rfl) rfl) ⟨⟨rfl, rfl, rfl, trivial⟩, trivial, trivial⟩ ?_
            refine dr_cons { need := [(50, .pv (.bool (decide (x35 ≥ (y3.1.length : Int))))), (54, .pv (.int .i64 y71)), (57, .pv (.int .i64 y73))], dst := some 58, val := some (.pv (.bool (y71 != y73))) } (fun m h => step_on (guard_on rfl rfl rfl h.1.1 hb70) (op_int (k := .i64) (m := y71) (n := y73) rfl h.1.2.1 h.1.2.2.1 rfl rfl rfl) rfl) ⟨⟨rfl, rfl, rfl, trivial⟩, trivial, trivial⟩ ?_
            refine dr_cons { need := [(50, .pv (.bool (decide (x35 ≥ (y3.1.length : Int))))), (58, .pv (.bool (y71 != y73)))], dst := some 59, val := some (.pv (.bool (y71 != y73))) } (fun m h => step_on (guard_no rfl) (op_pick_f rfl h.1.1 hb70 h.1.2.1 rfl rfl) rfl) ⟨⟨rfl, rfl, trivial⟩, trivial, trivial⟩ ?_
            refine dr_nil Try_mixed rfl (by kernel_rfl) ?_
            refine post_imp (s' := ⟨61, [(11, some (.pv (.vs 1 (List.map eI y3.1)))), (13, some (.pv (.fn 29 [.vp (eB y8.1), .vp (eGFrame y8.2.1), .vp ((eL 1 eI) y8.2.2)]))), (32, some (.pv (.vs 2 (List.map eGOwner y12)))), (33, some (.pv (.int .i64 (y12.length : Int)))), (34, some (.pv (.int .i64 x35))), (59, some (.pv (.bool (y71 != y73))))], [], 0, [], [], 0, []⟩) (imps [] ⟨by kernel_rfl, by kernel_rfl, by kernel_rfl, by kernel_rfl, by kernel_rfl, by kernel_rfl, trivial⟩ trivial) ?_
            cases hF
            exact post_cut _ rfl (imps [] ⟨by kernel_rfl, by kernel_rfl, by kernel_rfl, by kernel_rfl, by kernel_rfl, by kernel_rfl, trivial⟩ trivial)
          rintro _ rfl
          have hF := hK77
          clear hK77
          refine post_next ?_
          rcases go_ite hF with ⟨hb78, hF⟩ | ⟨hb78, hF⟩
          · refine aw_cond_t rfl hb78 ?_
            refine aw_seq ?_
            refine aw_region ?_
            refine ras ?_
            refine reg_nil ?_
            refine post_imp (s' := ⟨61, [(10, some (.pv (.bool false)))], [], 0, [], [], 0, []⟩) (imps [] ⟨by kernel_rfl, trivial⟩ trivial) ?_
            refine post_next ?_
            refine aw_ret ?_
            iterate 2 (refine post_block_ret ?_)
            refine post_cut_ret ?_
            replace hF := go_stop hF
            iterate 2 (refine post_then_ret ?_)
            refine post_lp_ret ?_
            obtain rfl := Option.some.inj hF
            have hF := elim_stop hK81
            refine post_then_ret ?_
            obtain rfl := Option.some.inj hF
            exact post_ret rfl rfl (.cons _ _ _ _ _ (.tmp _ _ rfl) (.p _) .nil) (.inl rfl)
          refine aw_cond_f rfl hb78 ?_
          refine aw_skip ?_
          iterate 2 (refine post_block_normal ?_)
          exact post_cut _ ⟨(), rfl, hF⟩ (imps [] ⟨by kernel_rfl, by kernel_rfl, by kernel_rfl, by kernel_rfl, by kernel_rfl, trivial⟩ trivial)
        refine aw_cond_f rfl hb69 ?_
        refine aw_skip ?_
        iterate 2 (refine post_block_normal ?_)
        exact post_cut _ ⟨(), rfl, hF⟩ (imps [] ⟨by kernel_rfl, by kernel_rfl, by kernel_rfl, by kernel_rfl, by kernel_rfl, trivial⟩ trivial)
      rintro ⟨⟩ hF
      refine post_next ?_
      refine aw_region ?_
      refine reg_cons (guard_no rfl) (op_int (k := .i64) (m := x35) (n := 1) rfl rfl rfl rfl rfl rfl) ?_
      refine rmv ?_
      refine reg_nil ?_
      refine post_round ?_
      exact rnd_back (ih (w_i64 (x35 + 1)) hF) (imps [] ⟨by kernel_rfl, by kernel_rfl, by kernel_rfl, by kernel_rfl, by kernel_rfl, trivial⟩ trivial)
    refine aw_cond_f rfl hb58 ?_
    refine aw_exit ?_
    iterate 2 (refine post_then_exit ?_)
    obtain rfl := Option.some.inj hF
    exact post_lp_break _ ⟨_, rfl, rfl⟩ (imps [] trivial trivial)
  rintro _ ⟨⟨⟩, rfl, rfl⟩
  have hF := elim_next hK81
  clear hK81
  refine post_next ?_
  refine aw_seq ?_
  refine aw_region ?_
  refine ras ?_
  refine reg_nil ?_
  refine post_imp (s' := ⟨61, [(10, some (.pv (.bool true)))], [], 0, [], [], 0, []⟩) (imps [] ⟨by kernel_rfl, trivial⟩ trivial) ?_
  refine post_next ?_
  refine aw_ret ?_
  obtain rfl := Option.some.inj hF
  exact post_ret rfl rfl (.cons _ _ _ _ _ (.tmp _ _ rfl) (.p _) .nil) (.inl rfl)
theorem law38_FrameSet_ok {a0 : List GClass} {a1 : GWorld_law38} {a2 : A2 GPut_law38} {r : Bool} (hF : law38_FrameSet a0 a1 a2 = some r) : Abs.Fn Try.prog 3 [.vs 7 (List.map eGClass a0), .agg (eGWorld_law38 a1), .agg ((eA2 eGPut_law38) a2)] [.p (.bool r)] := by
  unfold law38_FrameSet at hF
  refine fn_of_body (n := 196) Try.func3 rfl rfl rfl ?_
  intro w O
  refine aw_seq ?_
  refine aw_region ?_
  refine reg_cons (guard_no rfl) (op_box 0 rfl rfl rfl rfl rfl rfl) ?_
  refine reg_cons (guard_no rfl) (op_box 1 rfl rfl rfl rfl rfl rfl) ?_
  refine ras ?_
  refine reg_nil ?_
  refine post_imp (s' := ⟨196, [(0, some (.pv (.vs 7 (List.map eGClass a0)))), (4, some (.lp 0 0)), (5, some (.lp 1 0))], [(0, some (.box 28 (bxv (eGWorld_law38 a1)))), (1, some (.box 33 (bxv ((eA2 eGPut_law38) a2))))], 2, [], [], 0, []⟩) (imps [0, 1] ⟨by kernel_rfl, by kernel_rfl, by kernel_rfl, trivial⟩ ⟨by kernel_rfl, by kernel_rfl, trivial⟩) ?_
  refine post_next ?_
  iterate 2 (refine aw_seq ?_)
  refine aw_region ?_
  refine rmv ?_
  refine reg_cons (guard_no rfl) (op_load_lp_agg (ps := eGWorld_law38 a1) rfl rfl rfl rfl rfl rfl Try_agg_28 rfl rfl) ?_
  obtain ⟨y3, h4, hF⟩ := bind_some hF
  refine reg_cons (guard_no rfl) (op_call 2 rfl (caps := []) (args := [.vs 7 (List.map eGClass a0), .agg (eGWorld_law38 a1)]) (rs := [.p (.bool y3)]) rfl rfl rfl Try_cal_4 (law38_great_ok h4) rfl rfl rfl) ?_
  refine reg_nil ?_
  refine post_imp (s' := ⟨196, [(0, some (.pv (.vs 7 (List.map eGClass a0)))), (4, some (.lp 0 0)), (5, some (.lp 1 0)), (21, some (.pv (.bool y3)))], [(0, some (.box 28 (bxv (eGWorld_law38 a1)))), (1, some (.box 33 (bxv ((eA2 eGPut_law38) a2))))], 2, [], [], 0, []⟩) (imps [0, 1] ⟨by kernel_rfl, by kernel_rfl, by kernel_rfl, by kernel_rfl, trivial⟩ ⟨by kernel_rfl, by kernel_rfl, trivial⟩) ?_
  refine post_next ?_
  rcases ite_some hF with ⟨hb5, hF⟩ | ⟨hb5, hF⟩
  · refine aw_cond_t rfl hb5 ?_
    refine aw_seq ?_
    refine aw_region ?_
    obtain ⟨y6, h7, hF⟩ := bind_some hF
    refine reg_cons (guard_no rfl) (op_call 2 rfl (caps := []) (args := []) (rs := [.p (.bool y6)]) rfl rfl rfl Try_cal_5 (law38_awake_ok h7) rfl rfl rfl) ?_
    refine ras ?_
    refine reg_nil ?_
    refine post_imp (s' := ⟨196, [(6, some (.pv (.bool y6)))], [], 0, [], [], 0, []⟩) (imps [] ⟨by kernel_rfl, trivial⟩ trivial) ?_
    refine post_next ?_
    refine aw_ret ?_
    refine post_then_ret ?_
    obtain rfl := Option.some.inj hF
    exact post_ret rfl rfl (.cons _ _ _ _ _ (.tmp _ _ rfl) (.p _) .nil) (.inl rfl)
  refine aw_cond_f rfl hb5 ?_
  refine aw_skip ?_
  refine post_next ?_
  refine aw_seq ?_
  refine aw_region ?_
  refine rmv ?_
  refine reg_cons (guard_no rfl) (op_field_lp rfl rfl Try_fld_28_1 rfl rfl) ?_
  refine reg_cons (guard_no rfl) (op_load_lp_agg (ps := eGFrame a1.fF) rfl rfl rfl rfl rfl rfl Try_agg_26 rfl rfl) ?_
  refine reg_cons (guard_no rfl) (op_arr_lp (k := .i64) (m := 0) (n := 2) rfl rfl rfl Try_arr_33 rfl rfl rfl rfl) ?_
  refine reg_cons (guard_no rfl) (op_field_lp rfl rfl Try_fld_32_0 rfl rfl) ?_
  refine reg_cons (guard_no rfl) (op_load_lp (v := .pv (.str a2.a0.fName)) rfl rfl rfl rfl Try_one_9 rfl rfl) ?_
  refine reg_cons (guard_no rfl) (op_arr_lp (k := .i64) (m := 0) (n := 2) rfl rfl rfl Try_arr_33 rfl rfl rfl rfl) ?_
  refine reg_cons (guard_no rfl) (op_field_lp rfl rfl Try_fld_32_1 rfl rfl) ?_
  refine reg_cons (guard_no rfl) (op_load_lp_agg (ps := eGVal a2.a0.fV) rfl rfl rfl rfl rfl rfl Try_agg_30 rfl rfl) ?_
  obtain ⟨y10, h11, hF⟩ := bind_some hF
  refine reg_cons (guard_no rfl) (op_call 2 rfl (caps := []) (args := [.vs 7 (List.map eGClass a0), .agg (eGFrame a1.fF), .str a2.a0.fName, .agg (eGVal a2.a0.fV)]) (rs := [.p (.agg (eGFrame y10.1)), .p (.bool y10.2)]) rfl rfl rfl Try_cal_6 (frame_Set_ok h11) rfl rfl rfl) ?_
  refine rmv ?_
  iterate 2 (refine reg_cons (guard_no rfl) (op_extract rfl rfl rfl rfl rfl) ?_)
  refine reg_cons (guard_no rfl) (op_alloc 2 rfl (ps := (eGFrame zGFrame)) rfl Try_zer_26 (by exact ⟨rfl, rfl, rfl, trivial, rfl, rfl, trivial⟩) rfl rfl) ?_
  refine reg_cons (guard_no rfl) (op_store_lp (n := 6) rfl rfl rfl rfl rfl (or_agg Try_agg_26) (by rw [Try_non_26]; rfl) rfl rfl rfl) ?_
  refine ras ?_
  refine reg_nil ?_
  refine post_imp (s' := ⟨196, [(0, some (.pv (.vs 7 (List.map eGClass a0)))), (4, some (.lp 0 0)), (5, some (.lp 1 0)), (7, some (.lp 2 0)), (8, some (.pv (.bool y10.2)))], [(0, some (.box 28 (bxv (eGWorld_law38 a1)))), (1, some (.box 33 (bxv ((eA2 eGPut_law38) a2)))), (2, some (.box 26 (bxv (eGFrame y10.1))))], 3, [], [], 0, []⟩) (imps [0, 1, 2] ⟨by kernel_rfl, by kernel_rfl, by kernel_rfl, by kernel_rfl, by kernel_rfl, trivial⟩ ⟨by kernel_rfl, by kernel_rfl, by kernel_rfl, trivial⟩) ?_
  refine post_next ?_
  refine aw_seq ?_
  refine aw_join hF (fun q => ⟨196, [(0, some (.pv (.vs 7 (List.map eGClass a0)))), (4, some (.lp 0 0))], [(0, some (.box 28 (bxv (eGWorld_law38 a1))))], 1, [], [], 0, []⟩) ?_ ?_
  · refine aw_seq ?_
    refine aw_region ?_
    refine rmv ?_
    refine reg_nil ?_
    refine post_imp (s' := ⟨196, [(0, some (.pv (.vs 7 (List.map eGClass a0)))), (4, some (.lp 0 0)), (5, some (.lp 1 0)), (7, some (.lp 2 0)), (36, some (.pv (.bool y10.2)))], [(0, some (.box 28 (bxv (eGWorld_law38 a1)))), (1, some (.box 33 (bxv ((eA2 eGPut_law38) a2)))), (2, some (.box 26 (bxv (eGFrame y10.1))))], 3, [], [], 0, []⟩) (imps [0, 1, 2] ⟨by kernel_rfl, by kernel_rfl, by kernel_rfl, by kernel_rfl, by kernel_rfl, trivial⟩ ⟨by kernel_rfl, by kernel_rfl, by kernel_rfl, trivial⟩) ?_
    refine post_next ?_
    rcases go_ite hF with ⟨hb12, hF⟩ | ⟨hb12, hF⟩
    · refine aw_cond_t rfl hb12 ?_
      refine aw_seq ?_
      refine aw_region ?_
      refine rmv ?_
      refine reg_cons (guard_no rfl) (op_load_lp_agg (ps := eGFrame y10.1) rfl rfl rfl rfl rfl rfl Try_agg_26 rfl rfl) ?_
      refine reg_cons (guard_no rfl) (op_arr_lp (k := .i64) (m := 0) (n := 2) rfl rfl rfl Try_arr_33 rfl rfl rfl rfl) ?_
      refine reg_cons (guard_no rfl) (op_field_lp rfl rfl Try_fld_32_0 rfl rfl) ?_
      refine reg_cons (guard_no rfl) (op_load_lp (v := .pv (.str a2.a0.fName)) rfl rfl rfl rfl Try_one_9 rfl rfl) ?_
      obtain ⟨y15, h16, hF⟩ := go_bind hF
      refine reg_cons (guard_no rfl) (op_call 3 rfl (caps := []) (args := [.vs 7 (List.map eGClass a0), .agg (eGFrame y10.1), .str a2.a0.fName]) (rs := [.p (.agg (eGVal y15.1)), .p (.bool y15.2)]) rfl rfl rfl Try_cal_7 (frame_Get_ok h16) rfl rfl rfl) ?_
      refine rmv ?_
      iterate 2 (refine reg_cons (guard_no rfl) (op_extract rfl rfl rfl rfl rfl) ?_)
      refine reg_cons (guard_no rfl) (op_alloc 3 rfl (ps := (eGVal zGVal)) rfl Try_zer_30 (by exact ⟨rfl, rfl, trivial⟩) rfl rfl) ?_
      refine reg_cons (guard_no rfl) (op_store_lp (n := 2) rfl rfl rfl rfl rfl (or_agg Try_agg_30) (by rw [Try_non_30]; rfl) rfl rfl rfl) ?_
      refine ras ?_
      refine reg_nil ?_
      refine post_imp (s' := ⟨196, [(0, some (.pv (.vs 7 (List.map eGClass a0)))), (4, some (.lp 0 0)), (5, some (.lp 1 0)), (7, some (.lp 2 0)), (9, some (.lp 3 0)), (10, some (.pv (.bool y15.2)))], [(0, some (.box 28 (bxv (eGWorld_law38 a1)))), (1, some (.box 33 (bxv ((eA2 eGPut_law38) a2)))), (2, some (.box 26 (bxv (eGFrame y10.1)))), (3, some (.box 30 (bxv (eGVal y15.1))))], 4, [], [], 0, []⟩) (imps [0, 1, 2, 3] ⟨by kernel_rfl, by kernel_rfl, by kernel_rfl, by kernel_rfl, by kernel_rfl, by kernel_rfl, trivial⟩ ⟨by kernel_rfl, by kernel_rfl, by kernel_rfl, by kernel_rfl, trivial⟩) ?_
      refine post_next ?_
      refine aw_seq ?_
      refine aw_region ?_
      refine rmv ?_
      refine reg_cons (guard_no rfl) (op_field_lp rfl rfl Try_fld_28_1 rfl rfl) ?_
      refine reg_cons (guard_no rfl) (op_load_lp_agg (ps := eGFrame a1.fF) rfl rfl rfl rfl rfl rfl Try_agg_26 rfl rfl) ?_
      refine reg_cons (guard_no rfl) (op_arr_lp (k := .i64) (m := 1) (n := 2) rfl rfl rfl Try_arr_33 rfl rfl rfl rfl) ?_
      refine reg_cons (guard_no rfl) (op_field_lp rfl rfl Try_fld_32_0 rfl rfl) ?_
      refine reg_cons (guard_no rfl) (op_load_lp (v := .pv (.str a2.a1.fName)) rfl rfl rfl rfl Try_one_9 rfl rfl) ?_
      obtain ⟨y19, h20, hF⟩ := go_bind hF
      refine reg_cons (guard_no rfl) (op_call 4 rfl (caps := []) (args := [.vs 7 (List.map eGClass a0), .agg (eGFrame a1.fF), .str a2.a1.fName]) (rs := [.p (.agg (eGVal y19.1)), .p (.bool y19.2)]) rfl rfl rfl Try_cal_7 (frame_Get_ok h20) rfl rfl rfl) ?_
      refine rmv ?_
      iterate 2 (refine reg_cons (guard_no rfl) (op_extract rfl rfl rfl rfl rfl) ?_)
      refine reg_cons (guard_no rfl) (op_alloc 4 rfl (ps := (eGVal zGVal)) rfl Try_zer_30 (by exact ⟨rfl, rfl, trivial⟩) rfl rfl) ?_
      refine reg_cons (guard_no rfl) (op_store_lp (n := 2) rfl rfl rfl rfl rfl (or_agg Try_agg_30) (by rw [Try_non_30]; rfl) rfl rfl rfl) ?_
      refine ras ?_
      refine reg_nil ?_
      refine post_imp (s' := ⟨196, [(0, some (.pv (.vs 7 (List.map eGClass a0)))), (4, some (.lp 0 0)), (5, some (.lp 1 0)), (7, some (.lp 2 0)), (9, some (.lp 3 0)), (10, some (.pv (.bool y15.2))), (11, some (.lp 4 0)), (12, some (.pv (.bool y19.2)))], [(0, some (.box 28 (bxv (eGWorld_law38 a1)))), (1, some (.box 33 (bxv ((eA2 eGPut_law38) a2)))), (2, some (.box 26 (bxv (eGFrame y10.1)))), (3, some (.box 30 (bxv (eGVal y15.1)))), (4, some (.box 30 (bxv (eGVal y19.1))))], 5, [], [], 0, []⟩) (imps [0, 1, 2, 3, 4] ⟨by kernel_rfl, by kernel_rfl, by kernel_rfl, by kernel_rfl, by kernel_rfl, by kernel_rfl, by kernel_rfl, by kernel_rfl, trivial⟩ ⟨by kernel_rfl, by kernel_rfl, by kernel_rfl, by kernel_rfl, by kernel_rfl, trivial⟩) ?_
      refine post_next ?_
      refine aw_seq ?_
      refine aw_region ?_
      refine rmv ?_
      refine reg_cons (guard_no rfl) (op_load_lp_agg (ps := eGFrame y10.1) rfl rfl rfl rfl rfl rfl Try_agg_26 rfl rfl) ?_
      refine reg_cons (guard_no rfl) (op_arr_lp (k := .i64) (m := 1) (n := 2) rfl rfl rfl Try_arr_33 rfl rfl rfl rfl) ?_
      refine reg_cons (guard_no rfl) (op_field_lp rfl rfl Try_fld_32_0 rfl rfl) ?_
      refine reg_cons (guard_no rfl) (op_load_lp (v := .pv (.str a2.a1.fName)) rfl rfl rfl rfl Try_one_9 rfl rfl) ?_
      obtain ⟨y23, h24, hF⟩ := go_bind hF
      refine reg_cons (guard_no rfl) (op_call 5 rfl (caps := []) (args := [.vs 7 (List.map eGClass a0), .agg (eGFrame y10.1), .str a2.a1.fName]) (rs := [.p (.agg (eGVal y23.1)), .p (.bool y23.2)]) rfl rfl rfl Try_cal_7 (frame_Get_ok h24) rfl rfl rfl) ?_
      refine rmv ?_
      iterate 2 (refine reg_cons (guard_no rfl) (op_extract rfl rfl rfl rfl rfl) ?_)
      refine reg_cons (guard_no rfl) (op_alloc 5 rfl (ps := (eGVal zGVal)) rfl Try_zer_30 (by exact ⟨rfl, rfl, trivial⟩) rfl rfl) ?_
      refine reg_cons (guard_no rfl) (op_store_lp (n := 2) rfl rfl rfl rfl rfl (or_agg Try_agg_30) (by rw [Try_non_30]; rfl) rfl rfl rfl) ?_
      refine ras ?_
      refine reg_nil ?_
      refine post_imp (s' := ⟨196, [(0, some (.pv (.vs 7 (List.map eGClass a0)))), (4, some (.lp 0 0)), (5, some (.lp 1 0)), (7, some (.lp 2 0)), (9, some (.lp 3 0)), (10, some (.pv (.bool y15.2))), (11, some (.lp 4 0)), (12, some (.pv (.bool y19.2))), (13, some (.lp 5 0)), (14, some (.pv (.bool y23.2)))], [(0, some (.box 28 (bxv (eGWorld_law38 a1)))), (1, some (.box 33 (bxv ((eA2 eGPut_law38) a2)))), (2, some (.box 26 (bxv (eGFrame y10.1)))), (3, some (.box 30 (bxv (eGVal y15.1)))), (4, some (.box 30 (bxv (eGVal y19.1)))), (5, some (.box 30 (bxv (eGVal y23.1))))], 6, [], [], 0, []⟩) (imps [0, 1, 2, 3, 4, 5] ⟨by kernel_rfl, by kernel_rfl, by kernel_rfl, by kernel_rfl, by kernel_rfl, by kernel_rfl, by kernel_rfl, by kernel_rfl, by kernel_rfl, by kernel_rfl, trivial⟩ ⟨by kernel_rfl, by kernel_rfl, by kernel_rfl, by kernel_rfl, by kernel_rfl, by kernel_rfl, trivial⟩) ?_
      refine post_next ?_
      refine aw_seq ?_
      obtain ⟨x30, hF, hK32⟩ := go_bind hF
      refine aw_cut (fun s1 => s1 = ⟨196, [(0, some (.pv (.vs 7 (List.map eGClass a0)))), (4, some (.lp 0 0)), (102, some (.pv (.bool x30)))], [(0, some (.box 28 (bxv (eGWorld_law38 a1))))], 1, [], [], 0, []⟩) ?_ ?_
      · refine aw_region ?_
        refine rmv ?_
        refine reg_cons (guard_no rfl) (op_not rfl rfl rfl rfl) ?_
        refine rmv ?_
        rcases ite_some hF with ⟨hb25, hF⟩ | ⟨hb25, hF⟩
        · refine rgo_t hb25 ?_
          iterate 4 (refine rgo_t hb25 ?_)
          refine rpt hb25 ?_
          refine rmv ?_
          iterate 3 (refine rgo_t rfl ?_)
          refine rpt rfl ?_
          refine rmv ?_
          iterate 8 (refine rgo_t rfl ?_)
          iterate 3 (refine rgu ?_)
          refine rgo_t rfl ?_
          refine rpt rfl ?_
          refine rmv ?_
          iterate 8 (refine rgo_t rfl ?_)
          refine rpt rfl ?_
          refine reg_nil ?_
          cases hF
          exact post_cut _ rfl (imps [0] ⟨by kernel_rfl, by kernel_rfl, by kernel_rfl, trivial⟩ ⟨by kernel_rfl, trivial⟩)
        refine reg_cons (guard_on rfl rfl rfl rfl hb25) (op_load_lp_agg (ps := eGVal y15.1) rfl rfl rfl rfl rfl rfl Try_agg_30 rfl rfl) ?_
        refine reg_cons (guard_on rfl rfl rfl rfl hb25) (op_arr_lp (k := .i64) (m := 0) (n := 2) rfl rfl rfl Try_arr_33 rfl rfl rfl rfl) ?_
        refine reg_cons (guard_on rfl rfl rfl rfl hb25) (op_field_lp rfl rfl Try_fld_32_1 rfl rfl) ?_
        refine reg_cons (guard_on rfl rfl rfl rfl hb25) (op_load_lp_agg (ps := eGVal a2.a0.fV) rfl rfl rfl rfl rfl rfl Try_agg_30 rfl rfl) ?_
        refine reg_cons (guard_on rfl rfl rfl rfl hb25) (op_eqAgg_neq (r := bGVal y15.1 a2.a0.fV) rfl rfl rfl Try_eqt_30 rfl rfl rfl rfl rfl) ?_
        refine rpf hb25 ?_
        refine rmv ?_
        rcases ite_some hF with ⟨hb26, hF⟩ | ⟨hb26, hF⟩
        · refine rgo_t hb26 ?_
          iterate 2 (refine rgo_t hb26 ?_)
          refine rpt hb26 ?_
          refine rmv ?_
          iterate 8 (refine rgo_t rfl ?_)
          iterate 3 (refine rgu ?_)
          refine rgo_t rfl ?_
          refine rpt rfl ?_
          refine rmv ?_
          iterate 8 (refine rgo_t rfl ?_)
          refine rpt rfl ?_
          refine reg_nil ?_
          cases hF
          exact post_cut _ rfl (imps [0] ⟨by kernel_rfl, by kernel_rfl, by kernel_rfl, trivial⟩ ⟨by kernel_rfl, trivial⟩)
        iterate 2 (refine reg_cons (guard_on rfl rfl rfl rfl hb26) (op_move rfl rfl rfl rfl) ?_)
        refine reg_cons (guard_on rfl rfl rfl rfl hb26) (op_eqBool_neq rfl rfl rfl Try_und_4 rfl rfl) ?_
        refine rpf hb26 ?_
        refine rmv ?_
        rcases ite_some hF with ⟨hb27, hF⟩ | ⟨hb27, hF⟩
        · refine rgo_t hb27 ?_
          iterate 7 (refine rgo_t hb27 ?_)
          iterate 3 (refine rgu ?_)
          refine rgo_t hb27 ?_
          refine rpt hb27 ?_
          refine rmv ?_
          iterate 8 (refine rgo_t rfl ?_)
          refine rpt rfl ?_
          refine reg_nil ?_
          cases hF
          exact post_cut _ rfl (imps [0] ⟨by kernel_rfl, by kernel_rfl, by kernel_rfl, trivial⟩ ⟨by kernel_rfl, trivial⟩)
        refine reg_cons (guard_on rfl rfl rfl rfl hb27) (op_arr_lp (k := .i64) (m := 0) (n := 2) rfl rfl rfl Try_arr_33 rfl rfl rfl rfl) ?_
        refine reg_cons (guard_on rfl rfl rfl rfl hb27) (op_field_lp rfl rfl Try_fld_32_0 rfl rfl) ?_
        refine reg_cons (guard_on rfl rfl rfl rfl hb27) (op_load_lp (v := .pv (.str a2.a0.fName)) rfl rfl rfl rfl Try_one_9 rfl rfl) ?_
        refine reg_cons (guard_on rfl rfl rfl rfl hb27) (op_arr_lp (k := .i64) (m := 1) (n := 2) rfl rfl rfl Try_arr_33 rfl rfl rfl rfl) ?_
        refine reg_cons (guard_on rfl rfl rfl rfl hb27) (op_field_lp rfl rfl Try_fld_32_0 rfl rfl) ?_
        refine reg_cons (guard_on rfl rfl rfl rfl hb27) (op_load_lp (v := .pv (.str a2.a1.fName)) rfl rfl rfl rfl Try_one_9 rfl rfl) ?_
        refine reg_cons (guard_on rfl rfl rfl rfl hb27) (op_str rfl rfl rfl rfl rfl rfl) ?_
        refine reg_cons (guard_on rfl rfl rfl rfl hb27) (op_move rfl rfl rfl rfl) ?_
        rcases ite_some hF with ⟨hb28, hF⟩ | ⟨hb28, hF⟩
        · refine reg_cons (guard_on rfl rfl rfl rfl hb28) (op_load_lp_agg (ps := eGVal y19.1) rfl rfl rfl rfl rfl rfl Try_agg_30 rfl rfl) ?_
          refine reg_cons (guard_on rfl rfl rfl rfl hb28) (op_load_lp_agg (ps := eGVal y23.1) rfl rfl rfl rfl rfl rfl Try_agg_30 rfl rfl) ?_
          refine reg_cons (guard_on rfl rfl rfl rfl hb28) (op_eqAgg_neq (r := bGVal y19.1 y23.1) rfl rfl rfl Try_eqt_30 rfl rfl rfl rfl rfl) ?_
          refine reg_cons (guard_on rfl rfl rfl rfl hb27) (op_pick_t rfl rfl hb28 rfl rfl rfl) ?_
          refine rpf hb27 ?_
          refine rmv ?_
          rcases ite_some hF with ⟨hb29, hF⟩ | ⟨hb29, hF⟩
          · refine rgo_t hb29 ?_
            iterate 7 (refine rgo_t hb29 ?_)
            refine rpt hb29 ?_
            refine reg_nil ?_
            cases hF
            exact post_cut _ rfl (imps [0] ⟨by kernel_rfl, by kernel_rfl, by kernel_rfl, trivial⟩ ⟨by kernel_rfl, trivial⟩)
          refine reg_cons (guard_on rfl rfl rfl rfl hb29) (op_field_lp rfl rfl Try_fld_26_3 rfl rfl) ?_
          refine reg_cons (guard_on rfl rfl rfl rfl hb29) (op_load_lp (v := .pv (.vs 2 (List.map eGVal y10.1.fVars))) rfl rfl rfl rfl Try_one_24 rfl rfl) ?_
          refine reg_cons (guard_on rfl rfl rfl rfl hb29) (op_len_vs (n := y10.1.fVars.length) rfl rfl (List.length_map ..) Try_slc_24 rfl rfl) ?_
          refine reg_cons (guard_on rfl rfl rfl rfl hb29) (op_field_lp rfl rfl Try_fld_28_1 rfl rfl) ?_
          refine reg_cons (guard_on rfl rfl rfl rfl hb29) (op_field_lp rfl rfl Try_fld_26_3 rfl rfl) ?_
          refine reg_cons (guard_on rfl rfl rfl rfl hb29) (op_load_lp (v := .pv (.vs 2 (List.map eGVal a1.fF.fVars))) rfl rfl rfl rfl Try_one_24 rfl rfl) ?_
          refine reg_cons (guard_on rfl rfl rfl rfl hb29) (op_len_vs (n := a1.fF.fVars.length) rfl rfl (List.length_map ..) Try_slc_24 rfl rfl) ?_
          refine reg_cons (guard_on rfl rfl rfl rfl hb29) (op_int (k := .i64) (m := (y10.1.fVars.length : Int)) (n := (a1.fF.fVars.length : Int)) rfl rfl rfl rfl rfl rfl) ?_
          refine rpf hb29 ?_
          refine reg_nil ?_
          cases hF
          exact post_cut _ rfl (imps [0] ⟨by kernel_rfl, by kernel_rfl, by kernel_rfl, trivial⟩ ⟨by kernel_rfl, trivial⟩)
        iterate 3 (refine rgo_f hb28 ?_)
        refine reg_cons (guard_on rfl rfl rfl rfl hb27) (op_pick_f rfl rfl hb28 rfl rfl rfl) ?_
        refine rpf hb27 ?_
        refine rmv ?_
        refine reg_cons (guard_on rfl rfl rfl rfl rfl) (op_field_lp rfl rfl Try_fld_26_3 rfl rfl) ?_
        refine reg_cons (guard_on rfl rfl rfl rfl rfl) (op_load_lp (v := .pv (.vs 2 (List.map eGVal y10.1.fVars))) rfl rfl rfl rfl Try_one_24 rfl rfl) ?_
        refine reg_cons (guard_on rfl rfl rfl rfl rfl) (op_len_vs (n := y10.1.fVars.length) rfl rfl (List.length_map ..) Try_slc_24 rfl rfl) ?_
        refine reg_cons (guard_on rfl rfl rfl rfl rfl) (op_field_lp rfl rfl Try_fld_28_1 rfl rfl) ?_
        refine reg_cons (guard_on rfl rfl rfl rfl rfl) (op_field_lp rfl rfl Try_fld_26_3 rfl rfl) ?_
        refine reg_cons (guard_on rfl rfl rfl rfl rfl) (op_load_lp (v := .pv (.vs 2 (List.map eGVal a1.fF.fVars))) rfl rfl rfl rfl Try_one_24 rfl rfl) ?_
        refine reg_cons (guard_on rfl rfl rfl rfl rfl) (op_len_vs (n := a1.fF.fVars.length) rfl rfl (List.length_map ..) Try_slc_24 rfl rfl) ?_
        refine reg_cons (guard_on rfl rfl rfl rfl rfl) (op_int (k := .i64) (m := (y10.1.fVars.length : Int)) (n := (a1.fF.fVars.length : Int)) rfl rfl rfl rfl rfl rfl) ?_
        refine rpf rfl ?_
        refine reg_nil ?_
        cases hF
        exact post_cut _ rfl (imps [0] ⟨by kernel_rfl, by kernel_rfl, by kernel_rfl, trivial⟩ ⟨by kernel_rfl, trivial⟩)
      rintro _ rfl
      have hF := hK32
      clear hK32
      refine post_next ?_
      rcases go_ite hF with ⟨hb33, hF⟩ | ⟨hb33, hF⟩
      · refine aw_cond_t rfl hb33 ?_
        refine aw_seq ?_
        refine aw_region ?_
        refine ras ?_
        refine reg_nil ?_
        refine post_imp (s' := ⟨196, [(6, some (.pv (.bool false)))], [], 0, [], [], 0, []⟩) (imps [] ⟨by kernel_rfl, trivial⟩ trivial) ?_
        refine post_next ?_
        refine aw_ret ?_
        refine post_cut_ret ?_
        replace hF := go_stop hF
        refine post_then_ret ?_
        obtain rfl := Option.some.inj hF
        exact post_ret rfl rfl (.cons _ _ _ _ _ (.tmp _ _ rfl) (.p _) .nil) (.inl rfl)
      refine aw_cond_f rfl hb33 ?_
      refine aw_skip ?_
      exact post_cut _ ⟨(), rfl, hF⟩ (imps [0] ⟨by kernel_rfl, by kernel_rfl, trivial⟩ ⟨by kernel_rfl, trivial⟩)
    refine aw_cond_f rfl hb12 ?_
    refine aw_skip ?_
    exact post_cut _ ⟨(), rfl, hF⟩ (imps [0] ⟨by kernel_rfl, by kernel_rfl, trivial⟩ ⟨by kernel_rfl, trivial⟩)
  rintro ⟨⟩ hF
  refine post_next ?_
  refine aw_seq ?_
  refine aw_region ?_
  refine rmv ?_
  refine reg_cons (guard_no rfl) (op_field_lp rfl rfl Try_fld_28_1 rfl rfl) ?_
  refine reg_cons (guard_no rfl) (op_field_lp rfl rfl Try_fld_26_1 rfl rfl) ?_
  refine reg_cons (guard_no rfl) (op_load_lp (v := .pv (.str a1.fF.fClass)) rfl rfl rfl rfl Try_one_9 rfl rfl) ?_
  obtain ⟨y36, h37, hF⟩ := bind_some hF
  refine reg_cons (guard_no rfl) (op_call 1 rfl (caps := []) (args := [.vs 7 (List.map eGClass a0), .str a1.fF.fClass]) (rs := [.p (.int .i64 y36)]) rfl rfl rfl Try_cal_8 (ref13_Find_ok h37) rfl rfl rfl) ?_
  refine ras ?_
  refine reg_nil ?_
  refine post_imp (s' := ⟨196, [(0, some (.pv (.vs 7 (List.map eGClass a0)))), (4, some (.lp 0 0)), (15, some (.pv (.int .i64 y36)))], [(0, some (.box 28 (bxv (eGWorld_law38 a1))))], 1, [], [], 0, []⟩) (imps [0] ⟨by kernel_rfl, by kernel_rfl, by kernel_rfl, trivial⟩ ⟨by kernel_rfl, trivial⟩) ?_
  refine post_next ?_
  iterate 2 (refine aw_seq ?_)
  obtain ⟨x46, hF, hK48⟩ := bind_some hF
  refine aw_cut (fun s1 => s1 = ⟨196, [(0, some (.pv (.vs 7 (List.map eGClass a0)))), (4, some (.lp 0 0)), (15, some (.pv (.int .i64 y36))), (148, some (.pv (.bool x46)))], [(0, some (.box 28 (bxv (eGWorld_law38 a1))))], 1, [], [], 0, []⟩) ?_ ?_
  · refine dr_start ⟨_, _, _⟩ rfl ?_
    refine drm ?_
    refine dr_cons { need := [(108, .pv (.int .i64 y36))], dst := some 109, val := some (.pv (.bool (decide (y36 < 0)))) } (fun m h => step_on (guard_no rfl) (op_int (k := .i64) (m := y36) (n := 0) rfl h.1.1 rfl rfl rfl rfl) rfl) ⟨⟨rfl, trivial⟩, trivial, trivial⟩ ?_
    refine drm ?_
    rcases ite_some hF with ⟨hb38, hF⟩ | ⟨hb38, hF⟩
    · refine dro_t hb38 ?_
      iterate 3 (refine dro_t hb38 ?_)
      refine drpt hb38 ?_
      refine drm ?_
      iterate 7 (refine dro_t rfl ?_)
      refine drpt rfl ?_
      refine drm ?_
      iterate 13 (refine dro_t rfl ?_)
      refine drpt rfl ?_
      refine drm ?_
      iterate 7 (refine dro_t rfl ?_)
      refine drpt rfl ?_
      refine dr_nil Try_mixed rfl (by kernel_rfl) ?_
      refine post_imp (s' := ⟨196, [(0, some (.pv (.vs 7 (List.map eGClass a0)))), (4, some (.lp 0 0)), (15, some (.pv (.int .i64 y36))), (148, some (.pv (.bool true)))], [(0, some (.box 28 (bxv (eGWorld_law38 a1))))], 1, [], [], 0, []⟩) (imps [0] ⟨by kernel_rfl, by kernel_rfl, by kernel_rfl, by kernel_rfl, trivial⟩ ⟨by kernel_rfl, trivial⟩) ?_
      cases hF
      exact post_cut _ rfl (imps [0] ⟨by kernel_rfl, by kernel_rfl, by kernel_rfl, by kernel_rfl, trivial⟩ ⟨by kernel_rfl, trivial⟩)
    refine dr_cons { need := [(110, .pv (.bool (decide (y36 < 0)))), (4, .lp 0 0)], dst := some 111, val := some (.lp 0 1) } (fun m h => step_on (guard_on rfl rfl rfl h.1.1 hb38) (op_field_lp rfl h.1.2.1 Try_fld_28_1 rfl rfl) rfl) ⟨⟨rfl, rfl, trivial⟩, trivial, trivial⟩ ?_
    refine dr_cons { need := [(110, .pv (.bool (decide (y36 < 0)))), (111, .lp 0 1)], dst := some 112, val := some (.lp 0 1) } (fun m h => step_on (guard_on rfl rfl rfl h.1.1 hb38) (op_field_lp rfl h.1.2.1 Try_fld_26_0 rfl rfl) rfl) ⟨⟨rfl, rfl, trivial⟩, trivial, trivial⟩ ?_
    refine dr_cons { need := [(110, .pv (.bool (decide (y36 < 0)))), (112, .lp 0 1)], hneed := [(0, .box 28 (bxv (eGWorld_law38 a1)))], dst := some 113, val := some (.pv (.int .i64 a1.fF.fThis)) } (fun m h => step_on (guard_on rfl rfl rfl h.1.1 hb38) (op_load_lp (v := .pv (.int .i64 a1.fF.fThis)) rfl h.1.2.1 h.2.1.1 rfl Try_one_3 rfl rfl) rfl) ⟨⟨rfl, rfl, trivial⟩, ⟨rfl, trivial⟩, trivial⟩ ?_
    refine dr_cons { need := [(110, .pv (.bool (decide (y36 < 0)))), (113, .pv (.int .i64 a1.fF.fThis))], dst := some 114, val := some (.pv (.bool (decide (a1.fF.fThis < 1)))) } (fun m h => step_on (guard_on rfl rfl rfl h.1.1 hb38) (op_int (k := .i64) (m := a1.fF.fThis) (n := 1) rfl h.1.2.1 rfl rfl rfl rfl) rfl) ⟨⟨rfl, rfl, trivial⟩, trivial, trivial⟩ ?_
    refine dr_cons { need := [(110, .pv (.bool (decide (y36 < 0)))), (114, .pv (.bool (decide (a1.fF.fThis < 1))))], dst := some 115, val := some (.pv (.bool (decide (a1.fF.fThis < 1)))) } (fun m h => step_on (guard_no rfl) (op_pick_f rfl h.1.1 hb38 h.1.2.1 rfl rfl) rfl) ⟨⟨rfl, rfl, trivial⟩, trivial, trivial⟩ ?_
    refine drm ?_
    rcases ite_some hF with ⟨hb39, hF⟩ | ⟨hb39, hF⟩
    · refine dro_t hb39 ?_
      iterate 6 (refine dro_t hb39 ?_)
      refine drpt hb39 ?_
      refine drm ?_
      iterate 13 (refine dro_t rfl ?_)
      refine drpt rfl ?_
      refine drm ?_
      iterate 7 (refine dro_t rfl ?_)
      refine drpt rfl ?_
      refine dr_nil Try_mixed rfl (by kernel_rfl) ?_
      refine post_imp (s' := ⟨196, [(0, some (.pv (.vs 7 (List.map eGClass a0)))), (4, some (.lp 0 0)), (15, some (.pv (.int .i64 y36))), (148, some (.pv (.bool true)))], [(0, some (.box 28 (bxv (eGWorld_law38 a1))))], 1, [], [], 0, []⟩) (imps [0] ⟨by kernel_rfl, by kernel_rfl, by kernel_rfl, by kernel_rfl, trivial⟩ ⟨by kernel_rfl, trivial⟩) ?_
      cases hF
      exact post_cut _ rfl (imps [0] ⟨by kernel_rfl, by kernel_rfl, by kernel_rfl, by kernel_rfl, trivial⟩ ⟨by kernel_rfl, trivial⟩)
    refine dr_cons { need := [(116, .pv (.bool (decide (a1.fF.fThis < 1)))), (4, .lp 0 0)], dst := some 117, val := some (.lp 0 1) } (fun m h => step_on (guard_on rfl rfl rfl h.1.1 hb39) (op_field_lp rfl h.1.2.1 Try_fld_28_1 rfl rfl) rfl) ⟨⟨rfl, rfl, trivial⟩, trivial, trivial⟩ ?_
    refine dr_cons { need := [(116, .pv (.bool (decide (a1.fF.fThis < 1)))), (117, .lp 0 1)], dst := some 118, val := some (.lp 0 1) } (fun m h => step_on (guard_on rfl rfl rfl h.1.1 hb39) (op_field_lp rfl h.1.2.1 Try_fld_26_0 rfl rfl) rfl) ⟨⟨rfl, rfl, trivial⟩, trivial, trivial⟩ ?_
    refine dr_cons { need := [(116, .pv (.bool (decide (a1.fF.fThis < 1)))), (118, .lp 0 1)], hneed := [(0, .box 28 (bxv (eGWorld_law38 a1)))], dst := some 119, val := some (.pv (.int .i64 a1.fF.fThis)) } (fun m h => step_on (guard_on rfl rfl rfl h.1.1 hb39) (op_load_lp (v := .pv (.int .i64 a1.fF.fThis)) rfl h.1.2.1 h.2.1.1 rfl Try_one_3 rfl rfl) rfl) ⟨⟨rfl, rfl, trivial⟩, ⟨rfl, trivial⟩, trivial⟩ ?_
    refine dr_cons { need := [(116, .pv (.bool (decide (a1.fF.fThis < 1)))), (4, .lp 0 0)], dst := some 120, val := some (.lp 0 0) } (fun m h => step_on (guard_on rfl rfl rfl h.1.1 hb39) (op_field_lp rfl h.1.2.1 Try_fld_28_0 rfl rfl) rfl) ⟨⟨rfl, rfl, trivial⟩, trivial, trivial⟩ ?_
    refine dr_cons { need := [(116, .pv (.bool (decide (a1.fF.fThis < 1)))), (120, .lp 0 0)], hneed := [(0, .box 28 (bxv (eGWorld_law38 a1)))], dst := some 121, val := some (.pv (.vs 7 (List.map eGCell a1.fL))) } (fun m h => step_on (guard_on rfl rfl rfl h.1.1 hb39) (op_load_lp (v := .pv (.vs 7 (List.map eGCell a1.fL))) rfl h.1.2.1 h.2.1.1 rfl Try_one_23 rfl rfl) rfl) ⟨⟨rfl, rfl, trivial⟩, ⟨rfl, trivial⟩, trivial⟩ ?_
    refine dr_cons { need := [(116, .pv (.bool (decide (a1.fF.fThis < 1)))), (121, .pv (.vs 7 (List.map eGCell a1.fL)))], dst := some 122, val := some (.pv (.int .i64 (a1.fL.length : Int))) } (fun m h => step_on (guard_on rfl rfl rfl h.1.1 hb39) (op_len_vs (n := a1.fL.length) rfl h.1.2.1 (List.length_map ..) Try_slc_23 rfl rfl) rfl) ⟨⟨rfl, rfl, trivial⟩, trivial, trivial⟩ ?_
    refine dr_cons { need := [(116, .pv (.bool (decide (a1.fF.fThis < 1)))), (119, .pv (.int .i64 a1.fF.fThis)), (122, .pv (.int .i64 (a1.fL.length : Int)))], dst := some 123, val := some (.pv (.bool (decide (a1.fF.fThis > (a1.fL.length : Int))))) } (fun m h => step_on (guard_on rfl rfl rfl h.1.1 hb39) (op_int (k := .i64) (m := a1.fF.fThis) (n := (a1.fL.length : Int)) rfl h.1.2.1 h.1.2.2.1 rfl rfl rfl) rfl) ⟨⟨rfl, rfl, rfl, trivial⟩, trivial, trivial⟩ ?_
    refine dr_cons { need := [(116, .pv (.bool (decide (a1.fF.fThis < 1)))), (123, .pv (.bool (decide (a1.fF.fThis > (a1.fL.length : Int)))))], dst := some 124, val := some (.pv (.bool (decide (a1.fF.fThis > (a1.fL.length : Int))))) } (fun m h => step_on (guard_no rfl) (op_pick_f rfl h.1.1 hb39 h.1.2.1 rfl rfl) rfl) ⟨⟨rfl, rfl, trivial⟩, trivial, trivial⟩ ?_
    refine drm ?_
    rcases ite_some hF with ⟨hb40, hF⟩ | ⟨hb40, hF⟩
    · refine dro_t hb40 ?_
      iterate 12 (refine dro_t hb40 ?_)
      refine drpt hb40 ?_
      refine drm ?_
      iterate 7 (refine dro_t rfl ?_)
      refine drpt rfl ?_
      refine dr_nil Try_mixed rfl (by kernel_rfl) ?_
      refine post_imp (s' := ⟨196, [(0, some (.pv (.vs 7 (List.map eGClass a0)))), (4, some (.lp 0 0)), (15, some (.pv (.int .i64 y36))), (148, some (.pv (.bool true)))], [(0, some (.box 28 (bxv (eGWorld_law38 a1))))], 1, [], [], 0, []⟩) (imps [0] ⟨by kernel_rfl, by kernel_rfl, by kernel_rfl, by kernel_rfl, trivial⟩ ⟨by kernel_rfl, trivial⟩) ?_
      cases hF
      exact post_cut _ rfl (imps [0] ⟨by kernel_rfl, by kernel_rfl, by kernel_rfl, by kernel_rfl, trivial⟩ ⟨by kernel_rfl, trivial⟩)
    refine dr_cons { need := [(125, .pv (.bool (decide (a1.fF.fThis > (a1.fL.length : Int))))), (4, .lp 0 0)], dst := some 126, val := some (.lp 0 0) } (fun m h => step_on (guard_on rfl rfl rfl h.1.1 hb40) (op_field_lp rfl h.1.2.1 Try_fld_28_0 rfl rfl) rfl) ⟨⟨rfl, rfl, trivial⟩, trivial, trivial⟩ ?_
    refine dr_cons { need := [(125, .pv (.bool (decide (a1.fF.fThis > (a1.fL.length : Int))))), (126, .lp 0 0)], hneed := [(0, .box 28 (bxv (eGWorld_law38 a1)))], dst := some 127, val := some (.pv (.vs 7 (List.map eGCell a1.fL))) } (fun m h => step_on (guard_on rfl rfl rfl h.1.1 hb40) (op_load_lp (v := .pv (.vs 7 (List.map eGCell a1.fL))) rfl h.1.2.1 h.2.1.1 rfl Try_one_23 rfl rfl) rfl) ⟨⟨rfl, rfl, trivial⟩, ⟨rfl, trivial⟩, trivial⟩ ?_
    refine dr_cons { need := [(125, .pv (.bool (decide (a1.fF.fThis > (a1.fL.length : Int))))), (4, .lp 0 0)], dst := some 128, val := some (.lp 0 1) } (fun m h => step_on (guard_on rfl rfl rfl h.1.1 hb40) (op_field_lp rfl h.1.2.1 Try_fld_28_1 rfl rfl) rfl) ⟨⟨rfl, rfl, trivial⟩, trivial, trivial⟩ ?_
    refine dr_cons { need := [(125, .pv (.bool (decide (a1.fF.fThis > (a1.fL.length : Int))))), (128, .lp 0 1)], dst := some 129, val := some (.lp 0 1) } (fun m h => step_on (guard_on rfl rfl rfl h.1.1 hb40) (op_field_lp rfl h.1.2.1 Try_fld_26_0 rfl rfl) rfl) ⟨⟨rfl, rfl, trivial⟩, trivial, trivial⟩ ?_
    refine dr_cons { need := [(125, .pv (.bool (decide (a1.fF.fThis > (a1.fL.length : Int))))), (129, .lp 0 1)], hneed := [(0, .box 28 (bxv (eGWorld_law38 a1)))], dst := some 130, val := some (.pv (.int .i64 a1.fF.fThis)) } (fun m h => step_on (guard_on rfl rfl rfl h.1.1 hb40) (op_load_lp (v := .pv (.int .i64 a1.fF.fThis)) rfl h.1.2.1 h.2.1.1 rfl Try_one_3 rfl rfl) rfl) ⟨⟨rfl, rfl, trivial⟩, ⟨rfl, trivial⟩, trivial⟩ ?_
    refine dr_cons { need := [(125, .pv (.bool (decide (a1.fF.fThis > (a1.fL.length : Int))))), (130, .pv (.int .i64 a1.fF.fThis))], dst := some 131, val := some (.pv (.int .i64 (w_i64 (a1.fF.fThis - 1)))) } (fun m h => step_on (guard_on rfl rfl rfl h.1.1 hb40) (op_int (k := .i64) (m := a1.fF.fThis) (n := 1) rfl h.1.2.1 rfl rfl rfl rfl) rfl) ⟨⟨rfl, rfl, trivial⟩, trivial, trivial⟩ ?_
    obtain ⟨y41, h42, hF⟩ := bind_some hF
    refine dr_cons { need := [(125, .pv (.bool (decide (a1.fF.fThis > (a1.fL.length : Int))))), (127, .pv (.vs 7 (List.map eGCell a1.fL))), (131, .pv (.int .i64 (w_i64 (a1.fF.fThis - 1))))], dst := some 132, val := some (.pv (.vp (eGCell y41))) } (fun m h => step_on (guard_on rfl rfl rfl h.1.1 hb40) (op_index_vs (k := .i64) rfl h.1.2.1 h.1.2.2.1 (idx_map eGCell h42) Try_slc_23 rfl rfl) rfl) ⟨⟨rfl, rfl, rfl, trivial⟩, trivial, trivial⟩ ?_
    refine dr_cons { need := [(125, .pv (.bool (decide (a1.fF.fThis > (a1.fL.length : Int))))), (132, .pv (.vp (eGCell y41)))], dst := some 133, val := some (.pv (.vp (List.drop 0 (eGCell y41)))) } (fun m h => step_on (guard_on rfl rfl rfl h.1.1 hb40) (op_field_vp rfl h.1.2.1 Try_fld_43_0 rfl rfl) rfl) ⟨⟨rfl, rfl, trivial⟩, trivial, trivial⟩ ?_
    refine dr_cons { need := [(125, .pv (.bool (decide (a1.fF.fThis > (a1.fL.length : Int))))), (133, .pv (.vp (List.drop 0 (eGCell y41))))], dst := some 134, val := some (.pv (.str y41.fClass)) } (fun m h => step_on (guard_on rfl rfl rfl h.1.1 hb40) (op_load_vp (p := .str y41.fClass) rfl h.1.2.1 rfl Try_one_9 rfl rfl) rfl) ⟨⟨rfl, rfl, trivial⟩, trivial, trivial⟩ ?_
    refine dr_cons { need := [(125, .pv (.bool (decide (a1.fF.fThis > (a1.fL.length : Int))))), (4, .lp 0 0)], dst := some 135, val := some (.lp 0 1) } (fun m h => step_on (guard_on rfl rfl rfl h.1.1 hb40) (op_field_lp rfl h.1.2.1 Try_fld_28_1 rfl rfl) rfl) ⟨⟨rfl, rfl, trivial⟩, trivial, trivial⟩ ?_
    refine dr_cons { need := [(125, .pv (.bool (decide (a1.fF.fThis > (a1.fL.length : Int))))), (135, .lp 0 1)], dst := some 136, val := some (.lp 0 2) } (fun m h => step_on (guard_on rfl rfl rfl h.1.1 hb40) (op_field_lp rfl h.1.2.1 Try_fld_26_1 rfl rfl) rfl) ⟨⟨rfl, rfl, trivial⟩, trivial, trivial⟩ ?_
    refine dr_cons { need := [(125, .pv (.bool (decide (a1.fF.fThis > (a1.fL.length : Int))))), (136, .lp 0 2)], hneed := [(0, .box 28 (bxv (eGWorld_law38 a1)))], dst := some 137, val := some (.pv (.str a1.fF.fClass)) } (fun m h => step_on (guard_on rfl rfl rfl h.1.1 hb40) (op_load_lp (v := .pv (.str a1.fF.fClass)) rfl h.1.2.1 h.2.1.1 rfl Try_one_9 rfl rfl) rfl) ⟨⟨rfl, rfl, trivial⟩, ⟨rfl, trivial⟩, trivial⟩ ?_
    refine dr_cons { need := [(125, .pv (.bool (decide (a1.fF.fThis > (a1.fL.length : Int))))), (134, .pv (.str y41.fClass)), (137, .pv (.str a1.fF.fClass))], dst := some 138, val := some (.pv (.bool (!(y41.fClass == a1.fF.fClass)))) } (fun m h => step_on (guard_on rfl rfl rfl h.1.1 hb40) (op_str rfl h.1.2.1 h.1.2.2.1 rfl rfl rfl) rfl) ⟨⟨rfl, rfl, rfl, trivial⟩, trivial, trivial⟩ ?_
    refine dr_cons { need := [(125, .pv (.bool (decide (a1.fF.fThis > (a1.fL.length : Int))))), (138, .pv (.bool (!(y41.fClass == a1.fF.fClass))))], dst := some 139, val := some (.pv (.bool (!(y41.fClass == a1.fF.fClass)))) } (fun m h => step_on (guard_no rfl) (op_pick_f rfl h.1.1 hb40 h.1.2.1 rfl rfl) rfl) ⟨⟨rfl, rfl, trivial⟩, trivial, trivial⟩ ?_
    refine drm ?_
    rcases ite_some hF with ⟨hb43, hF⟩ | ⟨hb43, hF⟩
    · refine dro_t hb43 ?_
      iterate 6 (refine dro_t hb43 ?_)
      refine drpt hb43 ?_
      refine dr_nil Try_mixed rfl (by kernel_rfl) ?_
      refine post_imp (s' := ⟨196, [(0, some (.pv (.vs 7 (List.map eGClass a0)))), (4, some (.lp 0 0)), (15, some (.pv (.int .i64 y36))), (148, some (.pv (.bool true)))], [(0, some (.box 28 (bxv (eGWorld_law38 a1))))], 1, [], [], 0, []⟩) (imps [0] ⟨by kernel_rfl, by kernel_rfl, by kernel_rfl, by kernel_rfl, trivial⟩ ⟨by kernel_rfl, trivial⟩) ?_
      cases hF
      exact post_cut _ rfl (imps [0] ⟨by kernel_rfl, by kernel_rfl, by kernel_rfl, by kernel_rfl, trivial⟩ ⟨by kernel_rfl, trivial⟩)
    refine dr_cons { need := [(140, .pv (.bool (!(y41.fClass == a1.fF.fClass)))), (0, .pv (.vs 7 (List.map eGClass a0)))], dst := some 141, val := some (.pv (.vs 7 (List.map eGClass a0))) } (fun m h => step_on (guard_on rfl rfl rfl h.1.1 hb43) (op_move rfl h.1.2.1 rfl rfl) rfl) ⟨⟨rfl, rfl, trivial⟩, trivial, trivial⟩ ?_
    refine dr_cons { need := [(140, .pv (.bool (!(y41.fClass == a1.fF.fClass)))), (15, .pv (.int .i64 y36))], dst := some 142, val := some (.pv (.int .i64 y36)) } (fun m h => step_on (guard_on rfl rfl rfl h.1.1 hb43) (op_move rfl h.1.2.1 rfl rfl) rfl) ⟨⟨rfl, rfl, trivial⟩, trivial, trivial⟩ ?_
    obtain ⟨y44, h45, hF⟩ := bind_some hF
    refine dr_cons { need := [(140, .pv (.bool (!(y41.fClass == a1.fF.fClass)))), (141, .pv (.vs 7 (List.map eGClass a0))), (142, .pv (.int .i64 y36))], dst := some 143, val := some (.pv (.vp (eGClass y44))) } (fun m h => step_on (guard_on rfl rfl rfl h.1.1 hb43) (op_index_vs (k := .i64) rfl h.1.2.1 h.1.2.2.1 (idx_map eGClass h45) Try_slc_22 rfl rfl) rfl) ⟨⟨rfl, rfl, rfl, trivial⟩, trivial, trivial⟩ ?_
    refine dr_cons { need := [(140, .pv (.bool (!(y41.fClass == a1.fF.fClass)))), (143, .pv (.vp (eGClass y44)))], dst := some 144, val := some (.pv (.vp (List.drop 1 (eGClass y44)))) } (fun m h => step_on (guard_on rfl rfl rfl h.1.1 hb43) (op_field_vp rfl h.1.2.1 Try_fld_49_1 rfl rfl) rfl) ⟨⟨rfl, rfl, trivial⟩, trivial, trivial⟩ ?_
    refine dr_cons { need := [(140, .pv (.bool (!(y41.fClass == a1.fF.fClass)))), (144, .pv (.vp (List.drop 1 (eGClass y44))))], dst := some 145, val := some (.pv (.vs 1 (List.map eS y44.fParams))) } (fun m h => step_on (guard_on rfl rfl rfl h.1.1 hb43) (op_load_vp (p := .vs 1 (List.map eS y44.fParams)) rfl h.1.2.1 rfl Try_one_44 rfl rfl) rfl) ⟨⟨rfl, rfl, trivial⟩, trivial, trivial⟩ ?_
    refine dr_cons { need := [(140, .pv (.bool (!(y41.fClass == a1.fF.fClass)))), (145, .pv (.vs 1 (List.map eS y44.fParams)))], dst := some 146, val := some (.pv (.int .i64 (y44.fParams.length : Int))) } (fun m h => step_on (guard_on rfl rfl rfl h.1.1 hb43) (op_len_vs (n := y44.fParams.length) rfl h.1.2.1 (List.length_map ..) Try_slc_44 rfl rfl) rfl) ⟨⟨rfl, rfl, trivial⟩, trivial, trivial⟩ ?_
    refine dr_cons { need := [(140, .pv (.bool (!(y41.fClass == a1.fF.fClass)))), (146, .pv (.int .i64 (y44.fParams.length : Int)))], dst := some 147, val := some (.pv (.bool (decide ((y44.fParams.length : Int) > 3)))) } (fun m h => step_on (guard_on rfl rfl rfl h.1.1 hb43) (op_int (k := .i64) (m := (y44.fParams.length : Int)) (n := 3) rfl h.1.2.1 rfl rfl rfl rfl) rfl) ⟨⟨rfl, rfl, trivial⟩, trivial, trivial⟩ ?_
    refine dr_cons { need := [(140, .pv (.bool (!(y41.fClass == a1.fF.fClass)))), (147, .pv (.bool (decide ((y44.fParams.length : Int) > 3))))], dst := some 148, val := some (.pv (.bool (decide ((y44.fParams.length : Int) > 3)))) } (fun m h => step_on (guard_no rfl) (op_pick_f rfl h.1.1 hb43 h.1.2.1 rfl rfl) rfl) ⟨⟨rfl, rfl, trivial⟩, trivial, trivial⟩ ?_
    refine dr_nil Try_mixed rfl (by kernel_rfl) ?_
    refine post_imp (s' := ⟨196, [(0, some (.pv (.vs 7 (List.map eGClass a0)))), (4, some (.lp 0 0)), (15, some (.pv (.int .i64 y36))), (148, some (.pv (.bool (decide ((y44.fParams.length : Int) > 3)))))], [(0, some (.box 28 (bxv (eGWorld_law38 a1))))], 1, [], [], 0, []⟩) (imps [0] ⟨by kernel_rfl, by kernel_rfl, by kernel_rfl, by kernel_rfl, trivial⟩ ⟨by kernel_rfl, trivial⟩) ?_
    cases hF
    exact post_cut _ rfl (imps [0] ⟨by kernel_rfl, by kernel_rfl, by kernel_rfl, by kernel_rfl, trivial⟩ ⟨by kernel_rfl, trivial⟩)
  rintro _ rfl
  have hF := hK48
  clear hK48
  refine post_next ?_
  rcases ite_some hF with ⟨hb49, hF⟩ | ⟨hb49, hF⟩
  · refine aw_cond_t rfl hb49 ?_
    refine aw_seq ?_
    refine aw_region ?_
    obtain ⟨y50, h51, hF⟩ := bind_some hF
    refine reg_cons (guard_no rfl) (op_call 1 rfl (caps := []) (args := []) (rs := [.p (.bool y50)]) rfl rfl rfl Try_cal_5 (law38_awake_ok h51) rfl rfl rfl) ?_
    refine ras ?_
    refine reg_nil ?_
    refine post_imp (s' := ⟨196, [(6, some (.pv (.bool y50)))], [], 0, [], [], 0, []⟩) (imps [] ⟨by kernel_rfl, trivial⟩ trivial) ?_
    refine post_next ?_
    refine aw_ret ?_
    refine post_then_ret ?_
    obtain rfl := Option.some.inj hF
    exact post_ret rfl rfl (.cons _ _ _ _ _ (.tmp _ _ rfl) (.p _) .nil) (.inl rfl)
  refine aw_cond_f rfl hb49 ?_
  refine aw_skip ?_
  refine post_next ?_
  refine aw_seq ?_
  refine aw_region ?_
  iterate 2 (refine rmv ?_)
  obtain ⟨y56, h57, hF⟩ := bind_some hF
  refine reg_cons (guard_no rfl) (op_index_vs (k := .i64) rfl rfl rfl (idx_map eGClass h57) Try_slc_22 rfl rfl) ?_
  refine reg_cons (guard_no rfl) (op_load_vp_agg (ps := eGClass y56) rfl rfl rfl rfl Try_agg_49 rfl rfl) ?_
  obtain ⟨y58, h59, hF⟩ := bind_some hF
  refine reg_cons (guard_no rfl) (op_call 1 rfl (caps := []) (args := [.agg (eGClass y56)]) (rs := [.p (.agg (eGType y58))]) rfl rfl rfl Try_cal_9 (ref18_This_ok h59) rfl rfl rfl) ?_
  refine reg_cons (guard_no rfl) (op_alloc 1 rfl (ps := (eGType zGType)) rfl Try_zer_54 (by exact ⟨rfl, rfl, rfl, rfl, rfl, rfl, rfl, rfl, rfl, rfl, rfl, trivial⟩) rfl rfl) ?_
  refine reg_cons (guard_no rfl) (op_store_lp (n := 11) rfl rfl rfl rfl rfl (or_agg Try_agg_54) (by rw [Try_non_54]; rfl) rfl rfl rfl) ?_
  refine reg_nil ?_
  refine post_imp (s' := ⟨196, [(0, some (.pv (.vs 7 (List.map eGClass a0)))), (4, some (.lp 0 0)), (16, some (.lp 1 0))], [(0, some (.box 28 (bxv (eGWorld_law38 a1)))), (1, some (.box 54 (bxv (eGType y58))))], 2, [], [], 0, []⟩) (imps [0, 1] ⟨by kernel_rfl, by kernel_rfl, by kernel_rfl, trivial⟩ ⟨by kernel_rfl, by kernel_rfl, trivial⟩) ?_
  refine post_next ?_
  refine aw_seq ?_
  refine aw_region ?_
  refine rmv ?_
  refine reg_cons (guard_no rfl) (op_field_lp rfl rfl Try_fld_28_0 rfl rfl) ?_
  refine reg_cons (guard_no rfl) (op_load_lp (v := .pv (.vs 7 (List.map eGCell a1.fL))) rfl rfl rfl rfl Try_one_23 rfl rfl) ?_
  refine reg_cons (guard_no rfl) (op_field_lp rfl rfl Try_fld_28_1 rfl rfl) ?_
  refine reg_cons (guard_no rfl) (op_load_lp_agg (ps := eGFrame a1.fF) rfl rfl rfl rfl rfl rfl Try_agg_26 rfl rfl) ?_
  refine reg_cons (guard_no rfl) (op_load_lp_agg (ps := eGType y58) rfl rfl rfl rfl rfl rfl Try_agg_54 rfl rfl) ?_
  obtain ⟨y62, h63, hF⟩ := bind_some hF
  refine reg_cons (guard_no rfl) (op_call 2 rfl (caps := []) (args := [.vs 7 (List.map eGClass a0), .vs 7 (List.map eGCell a1.fL), .agg (eGFrame a1.fF), .agg (eGType y58), .int .i64 0]) (rs := [.p (.agg ((eA4 eI) y62))]) rfl rfl rfl Try_cal_10 (frame_Owners_ok h63) rfl rfl rfl) ?_
  refine reg_cons (guard_no rfl) (op_alloc 2 rfl (ps := ((eA4 eI) (⟨0, 0, 0, 0⟩ : A4 Int))) rfl Try_zer_41 (by exact ⟨rfl, rfl, rfl, rfl, trivial⟩) rfl rfl) ?_
  refine reg_cons (guard_no rfl) (op_store_lp (n := 4) rfl rfl rfl rfl rfl (or_agg Try_agg_41) (by rw [Try_non_41]; rfl) rfl rfl rfl) ?_
  refine reg_nil ?_
  refine post_imp (s' := ⟨196, [(0, some (.pv (.vs 7 (List.map eGClass a0)))), (4, some (.lp 0 0)), (16, some (.lp 1 0)), (17, some (.lp 2 0))], [(0, some (.box 28 (bxv (eGWorld_law38 a1)))), (1, some (.box 54 (bxv (eGType y58)))), (2, some (.box 41 (bxv ((eA4 eI) y62))))], 3, [], [], 0, []⟩) (imps [0, 1, 2] ⟨by kernel_rfl, by kernel_rfl, by kernel_rfl, by kernel_rfl, trivial⟩ ⟨by kernel_rfl, by kernel_rfl, by kernel_rfl, trivial⟩) ?_
  refine post_next ?_
  iterate 2 (refine aw_seq ?_)
  refine aw_region ?_
  refine ras ?_
  refine reg_nil ?_
  refine post_imp (s' := ⟨196, [(0, some (.pv (.vs 7 (List.map eGClass a0)))), (4, some (.lp 0 0)), (16, some (.lp 1 0)), (17, some (.lp 2 0)), (18, some (.pv (.int .i64 0)))], [(0, some (.box 28 (bxv (eGWorld_law38 a1)))), (1, some (.box 54 (bxv (eGType y58)))), (2, some (.box 41 (bxv ((eA4 eI) y62))))], 3, [], [], 0, []⟩) (imps [0, 1, 2] ⟨by kernel_rfl, by kernel_rfl, by kernel_rfl, by kernel_rfl, by kernel_rfl, trivial⟩ ⟨by kernel_rfl, by kernel_rfl, by kernel_rfl, trivial⟩) ?_
  refine post_next ?_
  obtain ⟨lr101, hF, hK102⟩ := bind_some hF
  refine aw_for 6 (fun s1 => ∃ q, lr101 = .next q ∧ s1 = ⟨196, [(0, some (.pv (.vs 7 (List.map eGClass a0)))), (4, some (.lp 0 0)), (16, some (.lp 1 0))], [(0, some (.box 28 (bxv (eGWorld_law38 a1)))), (1, some (.box 54 (bxv (eGType y58))))], 2, [], [], 0, []⟩) ?_ ?_
  · refine rnd_loop (α := Int) (fun q => ⟨196, [(0, some (.pv (.vs 7 (List.map eGClass a0)))), (4, some (.lp 0 0)), (16, some (.lp 1 0)), (17, some (.lp 2 0)), (18, some (.pv (.int .i64 q)))], [(0, some (.box 28 (bxv (eGWorld_law38 a1)))), (1, some (.box 54 (bxv (eGType y58)))), (2, some (.box 41 (bxv ((eA4 eI) y62))))], 3, [], [], 0, []⟩) (fun k q => law38_FrameSet_L1 a1 y58 y62 k q = some lr101) 0 (imps [0, 1, 2] ⟨by kernel_rfl, by kernel_rfl, by kernel_rfl, by kernel_rfl, by kernel_rfl, trivial⟩ ⟨by kernel_rfl, by kernel_rfl, by kernel_rfl, trivial⟩) hF (fun q h => by cases h) ?_
    clear hF
    rintro k x70 hF ih
    refine rnd_succ ?_
    iterate 2 (refine aw_seq ?_)
    refine aw_region ?_
    refine rmv ?_
    refine reg_cons (guard_no rfl) (op_field_lp rfl rfl Try_fld_54_2 rfl rfl) ?_
    refine reg_cons (guard_no rfl) (op_load_lp (v := .pv (.int .i64 y58.fN)) rfl rfl rfl rfl Try_one_3 rfl rfl) ?_
    refine reg_cons (guard_no rfl) (op_int (k := .i64) (m := x70) (n := y58.fN) rfl rfl rfl rfl rfl rfl) ?_
    refine reg_nil ?_
    refine post_imp (s' := ⟨196, [(0, some (.pv (.vs 7 (List.map eGClass a0)))), (4, some (.lp 0 0)), (16, some (.lp 1 0)), (17, some (.lp 2 0)), (18, some (.pv (.int .i64 x70))), (165, some (.pv (.bool (decide (x70 ≤ y58.fN)))))], [(0, some (.box 28 (bxv (eGWorld_law38 a1)))), (1, some (.box 54 (bxv (eGType y58)))), (2, some (.box 41 (bxv ((eA4 eI) y62))))], 3, [], [], 0, []⟩) (imps [0, 1, 2] ⟨by kernel_rfl, by kernel_rfl, by kernel_rfl, by kernel_rfl, by kernel_rfl, by kernel_rfl, trivial⟩ ⟨by kernel_rfl, by kernel_rfl, by kernel_rfl, trivial⟩) ?_
    refine post_next ?_
    rcases ite_some hF with ⟨hb86, hF⟩ | ⟨hb86, hF⟩
    · refine aw_cond_t rfl hb86 ?_
      refine aw_skip ?_
      refine post_next ?_
      refine aw_seq ?_
      refine aw_block ?_
      refine aw_seq ?_
      refine dr_start ⟨_, _, _⟩ rfl ?_
      refine drm ?_
      obtain ⟨y93, h94, hF⟩ := bind_some hF
      refine dr_cons { need := [(17, .lp 2 0), (168, .pv (.int .i64 x70))], dst := some 169, val := some (.lp 2 (0 + (x70 : Int).toNat * 1)) } (fun m h => step_on (guard_no rfl) (op_arr_lpN (l := (y62).l) rfl h.1.1 h.1.2.1 Try_arr_41 rfl h94 rfl rfl) rfl) ⟨⟨rfl, rfl, trivial⟩, trivial, trivial⟩ ?_
      refine dr_cons { need := [(169, .lp 2 (0 + (x70 : Int).toNat * 1))], hneed := [(2, .box 41 (bxv ((eA4 eI) y62)))], dst := some 170, val := some (.pv (.int .i64 y93)) } (fun m h => step_on (guard_no rfl) (op_load_lp (v := .pv (.int .i64 y93)) rfl h.1.1 h.2.1.1 (arr_cellN (j := 0) (l := (y62).l) (f := eI) rfl (fun _ => rfl) rfl h94 rfl) Try_one_3 rfl rfl) rfl) ⟨⟨rfl, trivial⟩, ⟨rfl, trivial⟩, trivial⟩ ?_
      refine dr_cons { need := [(4, .lp 0 0)], dst := some 171, val := some (.lp 0 0) } (fun m h => step_on (guard_no rfl) (op_field_lp rfl h.1.1 Try_fld_28_0 rfl rfl) rfl) ⟨⟨rfl, trivial⟩, trivial, trivial⟩ ?_
      refine dr_cons { need := [(171, .lp 0 0)], hneed := [(0, .box 28 (bxv (eGWorld_law38 a1)))], dst := some 172, val := some (.pv (.vs 7 (List.map eGCell a1.fL))) } (fun m h => step_on (guard_no rfl) (op_load_lp (v := .pv (.vs 7 (List.map eGCell a1.fL))) rfl h.1.1 h.2.1.1 rfl Try_one_23 rfl rfl) rfl) ⟨⟨rfl, trivial⟩, ⟨rfl, trivial⟩, trivial⟩ ?_
      refine dr_cons { need := [(4, .lp 0 0)], dst := some 173, val := some (.lp 0 1) } (fun m h => step_on (guard_no rfl) (op_field_lp rfl h.1.1 Try_fld_28_1 rfl rfl) rfl) ⟨⟨rfl, trivial⟩, trivial, trivial⟩ ?_
      refine dr_cons { need := [(173, .lp 0 1)], dst := some 174, val := some (.lp 0 1) } (fun m h => step_on (guard_no rfl) (op_field_lp rfl h.1.1 Try_fld_26_0 rfl rfl) rfl) ⟨⟨rfl, trivial⟩, trivial, trivial⟩ ?_
      refine dr_cons { need := [(174, .lp 0 1)], hneed := [(0, .box 28 (bxv (eGWorld_law38 a1)))], dst := some 175, val := some (.pv (.int .i64 a1.fF.fThis)) } (fun m h => step_on (guard_no rfl) (op_load_lp (v := .pv (.int .i64 a1.fF.fThis)) rfl h.1.1 h.2.1.1 rfl Try_one_3 rfl rfl) rfl) ⟨⟨rfl, trivial⟩, ⟨rfl, trivial⟩, trivial⟩ ?_
      refine dr_cons { need := [(175, .pv (.int .i64 a1.fF.fThis))], dst := some 176, val := some (.pv (.int .i64 (w_i64 (a1.fF.fThis - 1)))) } (fun m h => step_on (guard_no rfl) (op_int (k := .i64) (m := a1.fF.fThis) (n := 1) rfl h.1.1 rfl rfl rfl rfl) rfl) ⟨⟨rfl, trivial⟩, trivial, trivial⟩ ?_
      refine drm ?_
      obtain ⟨y95, h96, hF⟩ := bind_some hF
      refine dr_cons { need := [(172, .pv (.vs 7 (List.map eGCell a1.fL))), (176, .pv (.int .i64 (w_i64 (a1.fF.fThis - 1))))], dst := some 178, val := some (.pv (.vp (eGCell y95))) } (fun m h => step_on (guard_no rfl) (op_index_vs (k := .i64) rfl h.1.1 h.1.2.1 (idx_map eGCell h96) Try_slc_23 rfl rfl) rfl) ⟨⟨rfl, rfl, trivial⟩, trivial, trivial⟩ ?_
      refine dr_cons { need := [(178, .pv (.vp (eGCell y95)))], dst := some 179, val := some (.pv (.vp (List.drop 1 (eGCell y95)))) } (fun m h => step_on (guard_no rfl) (op_field_vp rfl h.1.1 Try_fld_43_1 rfl rfl) rfl) ⟨⟨rfl, trivial⟩, trivial, trivial⟩ ?_
      obtain ⟨y97, h98, hF⟩ := bind_some hF
      refine dr_cons { need := [(179, .pv (.vp (List.drop 1 (eGCell y95)))), (177, .pv (.int .i64 x70))], dst := some 180, val := some (.pv (.vp [.int .i64 y97])) } (fun m h => step_on (guard_no rfl) (op_arr_vp1 (l := (y95.fOwn).l) (g := fun z => .int .i64 z) rfl h.1.1 h.1.2.1 Try_arr_41 rfl rfl h98 rfl rfl) rfl) ⟨⟨rfl, rfl, trivial⟩, trivial, trivial⟩ ?_
      refine dr_cons { need := [(180, .pv (.vp [.int .i64 y97]))], dst := some 181, val := some (.pv (.int .i64 y97)) } (fun m h => step_on (guard_no rfl) (op_load_vp (p := .int .i64 y97) rfl h.1.1 rfl Try_one_3 rfl rfl) rfl) ⟨⟨rfl, trivial⟩, trivial, trivial⟩ ?_
      refine dr_cons { need := [(170, .pv (.int .i64 y93)), (181, .pv (.int .i64 y97))], dst := some 182, val := some (.pv (.bool (y93 != y97))) } (fun m h => step_on (guard_no rfl) (op_int (k := .i64) (m := y93) (n := y97) rfl h.1.1 h.1.2.1 rfl rfl rfl) rfl) ⟨⟨rfl, rfl, trivial⟩, trivial, trivial⟩ ?_
      refine dr_nil Try_mixed rfl (by kernel_rfl) ?_
      refine post_imp (s' := ⟨196, [(0, some (.pv (.vs 7 (List.map eGClass a0)))), (4, some (.lp 0 0)), (16, some (.lp 1 0)), (17, some (.lp 2 0)), (18, some (.pv (.int .i64 x70))), (182, some (.pv (.bool (y93 != y97))))], [(0, some (.box 28 (bxv (eGWorld_law38 a1)))), (1, some (.box 54 (bxv (eGType y58)))), (2, some (.box 41 (bxv ((eA4 eI) y62))))], 3, [], [], 0, []⟩) (imps [0, 1, 2] ⟨by kernel_rfl, by kernel_rfl, by kernel_rfl, by kernel_rfl, by kernel_rfl, by kernel_rfl, trivial⟩ ⟨by kernel_rfl, by kernel_rfl, by kernel_rfl, trivial⟩) ?_
      refine post_next ?_
      rcases ite_some hF with ⟨hb99, hF⟩ | ⟨hb99, hF⟩
      · refine aw_cond_t rfl hb99 ?_
        refine aw_seq ?_
        refine aw_region ?_
        refine ras ?_
        refine reg_nil ?_
        refine post_imp (s' := ⟨196, [(6, some (.pv (.bool false)))], [], 0, [], [], 0, []⟩) (imps [] ⟨by kernel_rfl, trivial⟩ trivial) ?_
        refine post_next ?_
        refine aw_ret ?_
        refine post_block_ret ?_
        iterate 2 (refine post_then_ret ?_)
        refine post_lp_ret ?_
        obtain rfl := Option.some.inj hF
        have hF := elim_stop hK102
        refine post_then_ret ?_
        obtain rfl := Option.some.inj hF
        exact post_ret rfl rfl (.cons _ _ _ _ _ (.tmp _ _ rfl) (.p _) .nil) (.inl rfl)
      refine aw_cond_f rfl hb99 ?_
      refine aw_skip ?_
      refine post_block_normal ?_
      refine post_next ?_
      refine aw_region ?_
      refine rmv ?_
      refine reg_cons (guard_no rfl) (op_int (k := .i64) (m := x70) (n := 1) rfl rfl rfl rfl rfl rfl) ?_
      refine ras ?_
      refine reg_nil ?_
      refine post_round ?_
      exact rnd_back (ih (w_i64 (x70 + 1)) hF) (imps [0, 1, 2] ⟨by kernel_rfl, by kernel_rfl, by kernel_rfl, by kernel_rfl, by kernel_rfl, trivial⟩ ⟨by kernel_rfl, by kernel_rfl, by kernel_rfl, trivial⟩)
    refine aw_cond_f rfl hb86 ?_
    refine aw_exit ?_
    iterate 2 (refine post_then_exit ?_)
    obtain rfl := Option.some.inj hF
    exact post_lp_break _ ⟨_, rfl, rfl⟩ (imps [0, 1] ⟨by kernel_rfl, by kernel_rfl, by kernel_rfl, trivial⟩ ⟨by kernel_rfl, by kernel_rfl, trivial⟩)
  rintro _ ⟨⟨⟩, rfl, rfl⟩
  have hF := elim_next hK102
  clear hK102
  refine post_next ?_
  refine aw_seq ?_
  refine aw_region ?_
  refine rmv ?_
  refine reg_cons (guard_no rfl) (op_field_lp rfl rfl Try_fld_28_0 rfl rfl) ?_
  refine reg_cons (guard_no rfl) (op_load_lp (v := .pv (.vs 7 (List.map eGCell a1.fL))) rfl rfl rfl rfl Try_one_23 rfl rfl) ?_
  refine reg_cons (guard_no rfl) (op_field_lp rfl rfl Try_fld_28_1 rfl rfl) ?_
  refine reg_cons (guard_no rfl) (op_load_lp_agg (ps := eGFrame a1.fF) rfl rfl rfl rfl rfl rfl Try_agg_26 rfl rfl) ?_
  refine reg_cons (guard_no rfl) (op_load_lp_agg (ps := eGType y58) rfl rfl rfl rfl rfl rfl Try_agg_54 rfl rfl) ?_
  refine reg_cons (guard_no rfl) (op_field_lp rfl rfl Try_fld_28_1 rfl rfl) ?_
  refine reg_cons (guard_no rfl) (op_field_lp rfl rfl Try_fld_26_0 rfl rfl) ?_
  refine reg_cons (guard_no rfl) (op_load_lp (v := .pv (.int .i64 a1.fF.fThis)) rfl rfl rfl rfl Try_one_3 rfl rfl) ?_
  obtain ⟨y103, h104, hF⟩ := bind_some hF
  refine reg_cons (guard_no rfl) (op_call 2 rfl (caps := []) (args := [.vs 7 (List.map eGClass a0), .vs 7 (List.map eGCell a1.fL), .agg (eGFrame a1.fF), .agg (eGType y58), .int .i64 a1.fF.fThis]) (rs := [.p (.bool y103)]) rfl rfl rfl Try_cal_11 (frame_Fits_ok h104) rfl rfl rfl) ?_
  refine rmv ?_
  rcases ite_some hF with ⟨hb105, hF⟩ | ⟨hb105, hF⟩
  · obtain ⟨y106, h107, hF⟩ := bind_some hF
    refine reg_cons (guard_on rfl rfl rfl rfl hb105) (op_call 2 rfl (caps := []) (args := []) (rs := [.p (.bool y106)]) rfl rfl rfl Try_cal_5 (law38_awake_ok h107) rfl rfl rfl) ?_
    refine rpt hb105 ?_
    refine ras ?_
    refine reg_nil ?_
    refine post_imp (s' := ⟨196, [(6, some (.pv (.bool y106)))], [], 0, [], [], 0, []⟩) (imps [] ⟨by kernel_rfl, trivial⟩ trivial) ?_
    refine post_next ?_
    refine aw_ret ?_
    obtain rfl := Option.some.inj hF
    exact post_ret rfl rfl (.cons _ _ _ _ _ (.tmp _ _ rfl) (.p _) .nil) (.inl rfl)
  refine rgo_f hb105 ?_
  refine rpf hb105 ?_
  refine ras ?_
  refine reg_nil ?_
  refine post_imp (s' := ⟨196, [(6, some (.pv (.bool false)))], [], 0, [], [], 0, []⟩) (imps [] ⟨by kernel_rfl, trivial⟩ trivial) ?_
  refine post_next ?_
  refine aw_ret ?_
  obtain rfl := Option.some.inj hF
  exact post_ret rfl rfl (.cons _ _ _ _ _ (.tmp _ _ rfl) (.p _) .nil) (.inl rfl)
end Go.Proofs.Ytelohaajmagpbaa
