/- A part of the proof that the law CalcAll gives true for every input. -/
import Derived.Test.YtnnphkfiookbnaaDoorCalcAllT
import Derived.Test.YtnnphkfiookbnaaDoorCalcAllX
import Derived.Test.YtnnphkfiookbnaaDoorCalcAllI
import Derived.Test.YtnnphkfiookbnaaDoorCalcAllW0
/- Each Go function computes its plain function. -/
namespace Go.Proofs.YtnnphkfiookbnaaDoor
open Go.RowKit Go.Abs
set_option maxRecDepth 100000
set_option maxHeartbeats 4000000
theorem scope_Place_ok {a0 : GMethod} {a1 : List UInt8} {r : Int} (hF : scope_Place a0 a1 = some r) : Abs.Fn globs_Tryd Tryd.prog 125 [.agg (eGMethod a0), .str a1] [.p (.int .i64 r)] := by
  unfold scope_Place at hF
  refine fn_of_body (n := 27) Tryd.func125 rfl rfl rfl ?_
  intro w O
  refine aw_seq ?_
  refine aw_region ?_
  refine rgp (op_box 0 rfl rfl rfl rfl rfl rfl) ?_
  refine rgp (op_box 1 rfl rfl rfl rfl rfl rfl) ?_
  refine ras ?_
  refine reg_nil ?_
  refine post_imp (s' := ⟨27, [(2, some (.lp 0 0)), (3, some (.lp 1 0))], [(0, some (.box 116 (bxv (eGMethod a0)))), (1, some (.box 9 [.pv (.str a1)]))], 2, [], [], 0, []⟩) (imps [0, 1] ⟨by kernel_rfl, by kernel_rfl, trivial⟩ ⟨by kernel_rfl, by kernel_rfl, trivial⟩) ?_
  refine post_next ?_
  refine aw_seq ?_
  refine aw_region ?_
  refine rgp (op_makeFunc rfl rfl rfl rfl) ?_
  refine ras ?_
  refine reg_nil ?_
  refine post_imp (s' := ⟨27, [(2, some (.lp 0 0)), (5, some (.fn 138 [.lp 1 0]))], [(0, some (.box 116 (bxv (eGMethod a0)))), (1, some (.box 9 [.pv (.str a1)]))], 2, [], [], 0, []⟩) (imps [0, 1] ⟨by kernel_rfl, by kernel_rfl, trivial⟩ ⟨by kernel_rfl, by kernel_rfl, trivial⟩) ?_
  refine post_next ?_
  iterate 2 (refine aw_seq ?_)
  refine aw_region ?_
  refine rgp (op_field_lp rfl rfl Tryd_fld_116_3 rfl rfl) ?_
  refine rgp (op_load_lp (v := .pv (.vs 13 (List.map eGVar a0.fParams))) rfl rfl rfl rfl Tryd_one_105 rfl rfl) ?_
  refine rmv ?_
  obtain ⟨y5, h6, hF⟩ := bind_some hF
  refine rgp (op_callB 2 rfl (caps := []) (args := [.vs 13 (List.map eGVar a0.fParams), .fn 138 [.vp (eS a1)]]) [(1, some (.box 9 [.pv (.str a1)]))] rfl rfl rfl (FzH.spec ⟨rfl, trivial⟩) rfl rfl Tryd_cal_139 (slices_IndexFunc_api_Var_ok (q1_f := 138) (q1_c := [.vp (eS a1)]) (q1_b := Tryd_cal_138) (q1_h := fun _ r h => (scope_Place_1_ok h)) h6) rfl rfl rfl) ?_
  refine ras ?_
  refine reg_nil ?_
  refine post_imp (s' := ⟨27, [(2, some (.lp 0 0)), (5, some (.fn 138 [.lp 1 0])), (6, some (.pv (.int .i64 y5)))], [(0, some (.box 116 (bxv (eGMethod a0)))), (1, some (.box 9 [.pv (.str a1)]))], 2, [], [], 0, []⟩) (imps [0, 1] ⟨by kernel_rfl, by kernel_rfl, by kernel_rfl, trivial⟩ ⟨by kernel_rfl, by kernel_rfl, trivial⟩) ?_
  refine post_next ?_
  refine aw_seq ?_
  refine aw_region ?_
  refine rmv ?_
  refine rgp (op_int (k := .i64) (m := y5) (n := 0) rfl rfl rfl rfl rfl rfl) ?_
  refine reg_nil ?_
  refine post_imp (s' := ⟨27, [(2, some (.lp 0 0)), (5, some (.fn 138 [.lp 1 0])), (6, some (.pv (.int .i64 y5))), (14, some (.pv (.bool (decide (y5 ≥ 0)))))], [(0, some (.box 116 (bxv (eGMethod a0)))), (1, some (.box 9 [.pv (.str a1)]))], 2, [], [], 0, []⟩) (imps [0, 1] ⟨by kernel_rfl, by kernel_rfl, by kernel_rfl, by kernel_rfl, trivial⟩ ⟨by kernel_rfl, by kernel_rfl, trivial⟩) ?_
  refine post_next ?_
  rcases ite_some hF with ⟨hb7, hF⟩ | ⟨hb7, hF⟩
  · refine aw_cond_t rfl hb7 ?_
    refine aw_seq ?_
    refine aw_region ?_
    refine rmv ?_
    refine ras ?_
    refine reg_nil ?_
    refine post_imp (s' := ⟨27, [(4, some (.pv (.int .i64 y5)))], [], 0, [], [], 0, []⟩) (imps [] ⟨by kernel_rfl, trivial⟩ trivial) ?_
    refine post_next ?_
    refine aw_ret ?_
    refine post_then_ret ?_
    obtain rfl := Option.some.inj hF
    exact prt
  refine aw_cond_f rfl hb7 ?_
  refine aw_skip ?_
  refine post_next ?_
  refine aw_seq ?_
  refine aw_region ?_
  refine rgp (op_field_lp rfl rfl Tryd_fld_116_4 rfl rfl) ?_
  refine rgp (op_load_lp (v := .pv (.vs 13 (List.map eGVar a0.fLocals))) rfl rfl rfl rfl Tryd_one_105 rfl rfl) ?_
  refine rmv ?_
  obtain ⟨y12, h13, hF⟩ := bind_some hF
  refine rgp (op_callB 2 rfl (caps := []) (args := [.vs 13 (List.map eGVar a0.fLocals), .fn 138 [.vp (eS a1)]]) [(1, some (.box 9 [.pv (.str a1)]))] rfl rfl rfl (FzH.spec ⟨rfl, trivial⟩) rfl rfl Tryd_cal_139 (slices_IndexFunc_api_Var_ok (q1_f := 138) (q1_c := [.vp (eS a1)]) (q1_b := Tryd_cal_138) (q1_h := fun _ r h => (scope_Place_1_ok h)) h13) rfl rfl rfl) ?_
  refine ras ?_
  refine reg_nil ?_
  refine post_imp (s' := ⟨27, [(2, some (.lp 0 0)), (7, some (.pv (.int .i64 y12)))], [(0, some (.box 116 (bxv (eGMethod a0))))], 1, [], [], 0, []⟩) (imps [0] ⟨by kernel_rfl, by kernel_rfl, trivial⟩ ⟨by kernel_rfl, trivial⟩) ?_
  refine post_next ?_
  iterate 2 (refine aw_seq ?_)
  refine aw_region ?_
  refine rmv ?_
  refine rgp (op_int (k := .i64) (m := y12) (n := 0) rfl rfl rfl rfl rfl rfl) ?_
  refine reg_nil ?_
  refine post_imp (s' := ⟨27, [(2, some (.lp 0 0)), (7, some (.pv (.int .i64 y12))), (21, some (.pv (.bool (decide (y12 < 0)))))], [(0, some (.box 116 (bxv (eGMethod a0))))], 1, [], [], 0, []⟩) (imps [0] ⟨by kernel_rfl, by kernel_rfl, by kernel_rfl, trivial⟩ ⟨by kernel_rfl, trivial⟩) ?_
  refine post_next ?_
  rcases ite_some hF with ⟨hb14, hF⟩ | ⟨hb14, hF⟩
  · refine aw_cond_t rfl hb14 ?_
    refine aw_seq ?_
    refine aw_region ?_
    refine ras ?_
    refine reg_nil ?_
    refine post_imp (s' := ⟨27, [(4, some (.pv (.int .i64 (-1))))], [], 0, [], [], 0, []⟩) (imps [] ⟨by kernel_rfl, trivial⟩ trivial) ?_
    refine post_next ?_
    refine aw_ret ?_
    refine post_then_ret ?_
    obtain rfl := Option.some.inj hF
    exact prt
  refine aw_cond_f rfl hb14 ?_
  refine aw_skip ?_
  refine post_next ?_
  refine aw_seq ?_
  refine aw_region ?_
  refine rgp (op_field_lp rfl rfl Tryd_fld_116_3 rfl rfl) ?_
  refine rgp (op_load_lp (v := .pv (.vs 13 (List.map eGVar a0.fParams))) rfl rfl rfl rfl Tryd_one_105 rfl rfl) ?_
  refine rgp (op_len_vs (n := a0.fParams.length) rfl rfl (List.length_map ..) Tryd_slc_105 rfl rfl) ?_
  refine rmv ?_
  refine rgp (op_int (k := .i64) (m := (a0.fParams.length : Int)) (n := y12) rfl rfl rfl rfl rfl rfl) ?_
  refine ras ?_
  refine reg_nil ?_
  refine post_imp (s' := ⟨27, [(4, some (.pv (.int .i64 (w_i64 ((a0.fParams.length : Int) + y12)))))], [], 0, [], [], 0, []⟩) (imps [] ⟨by kernel_rfl, trivial⟩ trivial) ?_
  refine post_next ?_
  refine aw_ret ?_
  obtain rfl := Option.some.inj hF
  exact prt
theorem frame_place_ok {a0 : List GClass} {a1 : GFrame} {a2 : List UInt8} {r : Int} (hF : frame_place a0 a1 a2 = some r) : Abs.Fn globs_Tryd Tryd.prog 93 [.vs 7 (List.map eGClass a0), .agg (eGFrame a1), .str a2] [.p (.int .i64 r)] := by
  unfold frame_place at hF
  refine fn_of_body (n := 30) Tryd.func93 rfl rfl rfl ?_
  intro w O
  refine aw_seq ?_
  refine aw_region ?_
  refine rgp (op_box 0 rfl rfl rfl rfl rfl rfl) ?_
  refine ras ?_
  refine reg_nil ?_
  refine post_imp (s' := ⟨30, [(0, some (.pv (.vs 7 (List.map eGClass a0)))), (2, some (.pv (.str a2))), (4, some (.lp 0 0))], [(0, some (.box 25 (bxv (eGFrame a1))))], 1, [], [], 0, []⟩) (imps [0] ⟨by kernel_rfl, by kernel_rfl, by kernel_rfl, trivial⟩ ⟨by kernel_rfl, trivial⟩) ?_
  refine post_next ?_
  refine aw_seq ?_
  refine aw_region ?_
  refine rmv ?_
  refine rgp (op_load_lp_agg (ps := eGFrame a1) rfl rfl rfl rfl rfl rfl Tryd_agg_25 rfl rfl) ?_
  obtain ⟨y3, h4, hF⟩ := bind_some hF
  refine rgp (op_call 1 rfl (caps := []) (args := [.vs 7 (List.map eGClass a0), .agg (eGFrame a1)]) (rs := [.p (.agg (eGClass y3.1)), .p (.agg (eGMethod y3.2.1)), .p (.bool y3.2.2)]) rfl rfl rfl Tryd_cal_92 (frame_Method_ok h4) rfl rfl rfl) ?_
  refine rmv ?_
  iterate 3 (refine rgp (op_extract rfl rfl rfl rfl rfl) ?_)
  refine rgp (op_alloc 1 rfl (ps := (eGClass zGClass)) rfl Tryd_zer_108 (by exact ⟨rfl, trivial, rfl, trivial, trivial, trivial, rfl, trivial⟩) rfl rfl) ?_
  refine rgp (op_alloc 2 rfl (ps := (eGMethod zGMethod)) rfl Tryd_zer_116 (by exact ⟨rfl, rfl, rfl, rfl, rfl, rfl, rfl, rfl, rfl, rfl, rfl, rfl, rfl, trivial, trivial, trivial, rfl, trivial⟩) rfl rfl) ?_
  refine rgp (op_store_lp (n := 7) rfl rfl rfl rfl rfl (or_agg Tryd_agg_108) (by rw [Tryd_non_108]; rfl) rfl rfl rfl) ?_
  refine rgp (op_store_lp (n := 17) rfl rfl rfl rfl rfl (or_agg Tryd_agg_116) (by rw [Tryd_non_116]; rfl) rfl rfl rfl) ?_
  refine ras ?_
  refine reg_nil ?_
  refine post_imp (s' := ⟨30, [(2, some (.pv (.str a2))), (4, some (.lp 0 0)), (8, some (.lp 1 0)), (9, some (.pv (.bool y3.2.2)))], [(0, some (.box 25 (bxv (eGFrame a1)))), (1, some (.box 116 (bxv (eGMethod y3.2.1))))], 2, [], [], 0, []⟩) (imps [0, 2] ⟨by kernel_rfl, by kernel_rfl, by kernel_rfl, by kernel_rfl, trivial⟩ ⟨by kernel_rfl, by kernel_rfl, trivial⟩) ?_
  refine post_next ?_
  iterate 2 (refine aw_seq ?_)
  refine aw_region ?_
  refine rgp (op_load_lp_agg (ps := eGMethod y3.2.1) rfl rfl rfl rfl rfl rfl Tryd_agg_116 rfl rfl) ?_
  refine rmv ?_
  obtain ⟨y7, h8, hF⟩ := bind_some hF
  refine rgp (op_call 2 rfl (caps := []) (args := [.agg (eGMethod y3.2.1), .str a2]) (rs := [.p (.int .i64 y7)]) rfl rfl rfl Tryd_cal_125 (scope_Place_ok h8) rfl rfl rfl) ?_
  refine ras ?_
  refine reg_nil ?_
  refine post_imp (s' := ⟨30, [(4, some (.lp 0 0)), (9, some (.pv (.bool y3.2.2))), (10, some (.pv (.int .i64 y7)))], [(0, some (.box 25 (bxv (eGFrame a1))))], 1, [], [], 0, []⟩) (imps [0] ⟨by kernel_rfl, by kernel_rfl, by kernel_rfl, trivial⟩ ⟨by kernel_rfl, trivial⟩) ?_
  refine post_next ?_
  refine aw_seq ?_
  obtain ⟨x10, hF, hK12⟩ := bind_some hF
  refine aw_cut (fun s1 => s1 = ⟨30, [(10, some (.pv (.int .i64 y7))), (28, some (.pv (.bool x10)))], [], 0, [], [], 0, []⟩) ?_ ?_
  · refine aw_region ?_
    iterate 2 (refine rmv ?_)
    rcases ite_some hF with ⟨hb9, hF⟩ | ⟨hb9, hF⟩
    · refine rgn hb9 (op_move rfl rfl rfl rfl) ?_
      refine rgn hb9 (op_field_lp rfl rfl Tryd_fld_25_3 rfl rfl) ?_
      refine rgn hb9 (op_load_lp (v := .pv (.vs 2 (List.map eGVal a1.fVars))) rfl rfl rfl rfl Tryd_one_23 rfl rfl) ?_
      refine rgn hb9 (op_len_vs (n := a1.fVars.length) rfl rfl (List.length_map ..) Tryd_slc_23 rfl rfl) ?_
      refine rgn hb9 (op_int (k := .i64) (m := y7) (n := (a1.fVars.length : Int)) rfl rfl rfl rfl rfl rfl) ?_
      refine rpt hb9 ?_
      refine reg_nil ?_
      cases hF
      exact post_cut _ rfl (imps [] ⟨by kernel_rfl, by kernel_rfl, trivial⟩ trivial)
    iterate 5 (refine rgo_f hb9 ?_)
    refine rpf hb9 ?_
    refine reg_nil ?_
    cases hF
    exact post_cut _ rfl (imps [] ⟨by kernel_rfl, by kernel_rfl, trivial⟩ trivial)
  rintro _ rfl
  have hF := hK12
  clear hK12
  refine post_next ?_
  rcases ite_some hF with ⟨hb13, hF⟩ | ⟨hb13, hF⟩
  · refine aw_cond_t rfl hb13 ?_
    refine aw_seq ?_
    refine aw_region ?_
    refine rmv ?_
    refine ras ?_
    refine reg_nil ?_
    refine post_imp (s' := ⟨30, [(6, some (.pv (.int .i64 y7)))], [], 0, [], [], 0, []⟩) (imps [] ⟨by kernel_rfl, trivial⟩ trivial) ?_
    refine post_next ?_
    refine aw_ret ?_
    refine post_then_ret ?_
    obtain rfl := Option.some.inj hF
    exact prt
  refine aw_cond_f rfl hb13 ?_
  refine aw_skip ?_
  refine post_next ?_
  refine aw_seq ?_
  refine aw_region ?_
  refine ras ?_
  refine reg_nil ?_
  refine post_imp (s' := ⟨30, [(6, some (.pv (.int .i64 (-1))))], [], 0, [], [], 0, []⟩) (imps [] ⟨by kernel_rfl, trivial⟩ trivial) ?_
  refine post_next ?_
  refine aw_ret ?_
  obtain rfl := Option.some.inj hF
  exact prt
theorem frame_Get_ok {a0 : List GClass} {a1 : GFrame} {a2 : List UInt8} {r : GVal × Bool} (hF : frame_Get a0 a1 a2 = some r) : Abs.Fn globs_Tryd Tryd.prog 62 [.vs 7 (List.map eGClass a0), .agg (eGFrame a1), .str a2] [.p (.agg (eGVal r.1)), .p (.bool r.2)] := by
  unfold frame_Get at hF
  refine fn_of_body (n := 37) Tryd.func62 rfl rfl rfl ?_
  intro w O
  refine aw_seq ?_
  refine aw_region ?_
  refine rgp (op_box 0 rfl rfl rfl rfl rfl rfl) ?_
  refine rgp (op_alloc 1 rfl (ps := (eGVal zGVal)) rfl Tryd_zer_35 (by exact ⟨rfl, rfl, trivial⟩) rfl rfl) ?_
  refine ras ?_
  refine reg_nil ?_
  refine post_imp (s' := ⟨37, [(0, some (.pv (.vs 7 (List.map eGClass a0)))), (2, some (.pv (.str a2))), (4, some (.lp 0 0)), (6, some (.lp 1 0))], [(0, some (.box 25 (bxv (eGFrame a1)))), (1, some (.box 35 (bxv (eGVal zGVal))))], 2, [], [], 0, []⟩) (imps [0, 1] ⟨by kernel_rfl, by kernel_rfl, by kernel_rfl, by kernel_rfl, trivial⟩ ⟨by kernel_rfl, by kernel_rfl, trivial⟩) ?_
  refine post_next ?_
  refine aw_seq ?_
  refine aw_join hF (fun q => ⟨37, [(0, some (.pv (.vs 7 (List.map eGClass a0)))), (2, some (.pv (.str a2))), (4, some (.lp 0 0)), (6, some (.lp 1 0))], [(0, some (.box 25 (bxv (eGFrame a1)))), (1, some (.box 35 (bxv (eGVal zGVal))))], 2, [], [], 0, []⟩) ?_ ?_
  · refine aw_seq ?_
    refine aw_region ?_
    refine rmv ?_
    refine rgp (op_str rfl rfl rfl rfl rfl rfl) ?_
    refine reg_nil ?_
    refine post_imp (s' := ⟨37, [(0, some (.pv (.vs 7 (List.map eGClass a0)))), (2, some (.pv (.str a2))), (4, some (.lp 0 0)), (6, some (.lp 1 0)), (13, some (.pv (.bool (a2 == [116, 104, 105, 115]))))], [(0, some (.box 25 (bxv (eGFrame a1)))), (1, some (.box 35 (bxv (eGVal zGVal))))], 2, [], [], 0, []⟩) (imps [0, 1] ⟨by kernel_rfl, by kernel_rfl, by kernel_rfl, by kernel_rfl, by kernel_rfl, trivial⟩ ⟨by kernel_rfl, by kernel_rfl, trivial⟩) ?_
    refine post_next ?_
    rcases go_ite hF with ⟨hb1, hF⟩ | ⟨hb1, hF⟩
    · refine aw_cond_t rfl hb1 ?_
      refine aw_seq ?_
      refine aw_region ?_
      refine rmv ?_
      refine rgp (op_load_lp_agg (ps := eGFrame a1) rfl rfl rfl rfl rfl rfl Tryd_agg_25 rfl rfl) ?_
      obtain ⟨y4, h5, hF⟩ := go_bind hF
      refine rgp (op_call 2 rfl (caps := []) (args := [.vs 7 (List.map eGClass a0), .agg (eGFrame a1)]) (rs := [.p (.agg (eGClass y4.1)), .p (.agg (eGMethod y4.2.1)), .p (.bool y4.2.2)]) rfl rfl rfl Tryd_cal_92 (frame_Method_ok h5) rfl rfl rfl) ?_
      refine rmv ?_
      iterate 3 (refine rgp (op_extract rfl rfl rfl rfl rfl) ?_)
      refine rgp (op_alloc 2 rfl (ps := (eGClass zGClass)) rfl Tryd_zer_108 (by exact ⟨rfl, trivial, rfl, trivial, trivial, trivial, rfl, trivial⟩) rfl rfl) ?_
      refine rgp (op_alloc 3 rfl (ps := (eGMethod zGMethod)) rfl Tryd_zer_116 (by exact ⟨rfl, rfl, rfl, rfl, rfl, rfl, rfl, rfl, rfl, rfl, rfl, rfl, rfl, trivial, trivial, trivial, rfl, trivial⟩) rfl rfl) ?_
      refine rgp (op_store_lp (n := 7) rfl rfl rfl rfl rfl (or_agg Tryd_agg_108) (by rw [Tryd_non_108]; rfl) rfl rfl rfl) ?_
      refine rgp (op_store_lp (n := 17) rfl rfl rfl rfl rfl (or_agg Tryd_agg_116) (by rw [Tryd_non_116]; rfl) rfl rfl rfl) ?_
      refine ras ?_
      refine reg_nil ?_
      refine post_imp (s' := ⟨37, [(0, some (.pv (.vs 7 (List.map eGClass a0)))), (2, some (.pv (.str a2))), (4, some (.lp 0 0)), (6, some (.lp 1 0)), (10, some (.pv (.bool y4.2.2)))], [(0, some (.box 25 (bxv (eGFrame a1)))), (1, some (.box 35 (bxv (eGVal zGVal))))], 2, [], [], 0, []⟩) (imps [0, 1] ⟨by kernel_rfl, by kernel_rfl, by kernel_rfl, by kernel_rfl, by kernel_rfl, trivial⟩ ⟨by kernel_rfl, by kernel_rfl, trivial⟩) ?_
      refine post_next ?_
      refine aw_seq ?_
      refine aw_region ?_
      refine rmv ?_
      refine reg_nil ?_
      refine post_imp (s' := ⟨37, [(0, some (.pv (.vs 7 (List.map eGClass a0)))), (2, some (.pv (.str a2))), (4, some (.lp 0 0)), (6, some (.lp 1 0)), (21, some (.pv (.bool y4.2.2)))], [(0, some (.box 25 (bxv (eGFrame a1)))), (1, some (.box 35 (bxv (eGVal zGVal))))], 2, [], [], 0, []⟩) (imps [0, 1] ⟨by kernel_rfl, by kernel_rfl, by kernel_rfl, by kernel_rfl, by kernel_rfl, trivial⟩ ⟨by kernel_rfl, by kernel_rfl, trivial⟩) ?_
      refine post_next ?_
      rcases go_ite hF with ⟨hb6, hF⟩ | ⟨hb6, hF⟩
      · refine aw_cond_t rfl hb6 ?_
        refine aw_seq ?_
        refine aw_region ?_
        refine rgp (op_field_lp rfl rfl Tryd_fld_25_0 rfl rfl) ?_
        refine rgp (op_load_lp (v := .pv (.int .i64 a1.fThis)) rfl rfl rfl rfl Tryd_one_3 rfl rfl) ?_
        refine rgp (op_build (zs := (eGVal zGVal)) (r := eGVal ({ fRef := true, fN := a1.fThis } : GVal)) rfl Tryd_zer_35 (by exact ⟨rfl, rfl, trivial⟩) Tryd_plc_35 rfl rfl rfl rfl) ?_
        refine rgp (op_store_lp (n := 2) rfl rfl rfl rfl rfl (or_agg Tryd_agg_35) (by rw [Tryd_non_35]; rfl) rfl rfl rfl) ?_
        refine ras ?_
        refine reg_nil ?_
        refine post_imp (s' := ⟨37, [(6, some (.lp 0 0)), (7, some (.pv (.bool true)))], [(0, some (.box 35 (bxv (eGVal ({ fRef := true, fN := a1.fThis } : GVal)))))], 1, [], [], 0, []⟩) (imps [1] ⟨by kernel_rfl, by kernel_rfl, trivial⟩ ⟨by kernel_rfl, trivial⟩) ?_
        refine post_next ?_
        refine aw_ret ?_
        refine post_cut_ret ?_
        replace hF := go_stop hF
        refine post_then_ret ?_
        obtain rfl := Option.some.inj hF
        exact post_ret rfl rfl (.cons _ _ _ _ _ (.agg _ _ _ _ _ 2 _ _ rfl rfl Tryd_agg_35 rfl rfl rfl) (.p _) (.cons _ _ _ _ _ (.tmp _ _ rfl) (.p _) .nil)) (.inl rfl)
      refine aw_cond_f rfl hb6 ?_
      refine aw_skip ?_
      exact post_cut _ ⟨(), rfl, hF⟩ (imps [0, 1] ⟨by kernel_rfl, by kernel_rfl, by kernel_rfl, by kernel_rfl, trivial⟩ ⟨by kernel_rfl, by kernel_rfl, trivial⟩)
    refine aw_cond_f rfl hb1 ?_
    refine aw_skip ?_
    exact post_cut _ ⟨(), rfl, hF⟩ (imps [0, 1] ⟨by kernel_rfl, by kernel_rfl, by kernel_rfl, by kernel_rfl, trivial⟩ ⟨by kernel_rfl, by kernel_rfl, trivial⟩)
  rintro ⟨⟩ hF
  refine post_next ?_
  refine aw_seq ?_
  refine aw_region ?_
  refine rmv ?_
  refine rgp (op_load_lp_agg (ps := eGFrame a1) rfl rfl rfl rfl rfl rfl Tryd_agg_25 rfl rfl) ?_
  refine rmv ?_
  obtain ⟨y9, h10, hF⟩ := bind_some hF
  refine rgp (op_call 2 rfl (caps := []) (args := [.vs 7 (List.map eGClass a0), .agg (eGFrame a1), .str a2]) (rs := [.p (.int .i64 y9)]) rfl rfl rfl Tryd_cal_93 (frame_place_ok h10) rfl rfl rfl) ?_
  refine ras ?_
  refine reg_nil ?_
  refine post_imp (s' := ⟨37, [(4, some (.lp 0 0)), (6, some (.lp 1 0)), (11, some (.pv (.int .i64 y9)))], [(0, some (.box 25 (bxv (eGFrame a1)))), (1, some (.box 35 (bxv (eGVal zGVal))))], 2, [], [], 0, []⟩) (imps [0, 1] ⟨by kernel_rfl, by kernel_rfl, by kernel_rfl, trivial⟩ ⟨by kernel_rfl, by kernel_rfl, trivial⟩) ?_
  refine post_next ?_
  iterate 2 (refine aw_seq ?_)
  refine aw_region ?_
  refine rmv ?_
  refine rgp (op_int (k := .i64) (m := y9) (n := 0) rfl rfl rfl rfl rfl rfl) ?_
  refine reg_nil ?_
  refine post_imp (s' := ⟨37, [(4, some (.lp 0 0)), (6, some (.lp 1 0)), (11, some (.pv (.int .i64 y9))), (30, some (.pv (.bool (decide (y9 < 0)))))], [(0, some (.box 25 (bxv (eGFrame a1)))), (1, some (.box 35 (bxv (eGVal zGVal))))], 2, [], [], 0, []⟩) (imps [0, 1] ⟨by kernel_rfl, by kernel_rfl, by kernel_rfl, by kernel_rfl, trivial⟩ ⟨by kernel_rfl, by kernel_rfl, trivial⟩) ?_
  refine post_next ?_
  rcases ite_some hF with ⟨hb11, hF⟩ | ⟨hb11, hF⟩
  · refine aw_cond_t rfl hb11 ?_
    refine aw_seq ?_
    refine aw_region ?_
    refine rgp (op_build (zs := (eGVal zGVal)) (r := eGVal ({ fRef := false, fN := 0 } : GVal)) rfl Tryd_zer_35 (by exact ⟨rfl, rfl, trivial⟩) Tryd_plc_35 rfl rfl rfl rfl) ?_
    refine rgp (op_store_lp (n := 2) rfl rfl rfl rfl rfl (or_agg Tryd_agg_35) (by rw [Tryd_non_35]; rfl) rfl rfl rfl) ?_
    refine ras ?_
    refine reg_nil ?_
    refine post_imp (s' := ⟨37, [(6, some (.lp 0 0)), (7, some (.pv (.bool false)))], [(0, some (.box 35 (bxv (eGVal ({ fRef := false, fN := 0 } : GVal)))))], 1, [], [], 0, []⟩) (imps [1] ⟨by kernel_rfl, by kernel_rfl, trivial⟩ ⟨by kernel_rfl, trivial⟩) ?_
    refine post_next ?_
    refine aw_ret ?_
    refine post_then_ret ?_
    obtain rfl := Option.some.inj hF
    exact post_ret rfl rfl (.cons _ _ _ _ _ (.agg _ _ _ _ _ 2 _ _ rfl rfl Tryd_agg_35 rfl rfl rfl) (.p _) (.cons _ _ _ _ _ (.tmp _ _ rfl) (.p _) .nil)) (.inl rfl)
  refine aw_cond_f rfl hb11 ?_
  refine aw_skip ?_
  refine post_next ?_
  refine aw_seq ?_
  refine aw_region ?_
  refine rgp (op_field_lp rfl rfl Tryd_fld_25_3 rfl rfl) ?_
  refine rgp (op_load_lp (v := .pv (.vs 2 (List.map eGVal a1.fVars))) rfl rfl rfl rfl Tryd_one_23 rfl rfl) ?_
  refine rmv ?_
  obtain ⟨y12, h13, hF⟩ := bind_some hF
  refine rgp (op_index_vs (k := .i64) rfl rfl rfl (idx_map eGVal h13) Tryd_slc_23 rfl rfl) ?_
  refine rgp (op_load_vp_agg (ps := eGVal y12) rfl rfl rfl rfl Tryd_agg_35 rfl rfl) ?_
  refine rgp (op_store_lp (n := 2) rfl rfl rfl rfl rfl (or_agg Tryd_agg_35) (by rw [Tryd_non_35]; rfl) rfl rfl rfl) ?_
  refine ras ?_
  refine reg_nil ?_
  refine post_imp (s' := ⟨37, [(6, some (.lp 0 0)), (7, some (.pv (.bool true)))], [(0, some (.box 35 (bxv (eGVal y12))))], 1, [], [], 0, []⟩) (imps [1] ⟨by kernel_rfl, by kernel_rfl, trivial⟩ ⟨by kernel_rfl, trivial⟩) ?_
  refine post_next ?_
  refine aw_ret ?_
  obtain rfl := Option.some.inj hF
  exact post_ret rfl rfl (.cons _ _ _ _ _ (.agg _ _ _ _ _ 2 _ _ rfl rfl Tryd_agg_35 rfl rfl rfl) (.p _) (.cons _ _ _ _ _ (.tmp _ _ rfl) (.p _) .nil)) (.inl rfl)
theorem __calc_counter__fail_w_ok {b0 : Gcounter_calc} {r : GVal × Gcounter_calc} (hF : __calc_counter__fail_w b0 = some r) : Abs.FnW globs_Tryd Tryd.prog 63 [.lp 0 0] [(0, some (.box 72 (bxv (eGcounter_calc b0))))] 1 [(0, 0)] [.pv (.agg (eGVal r.1))] [(0, some (.box 72 (bxv (eGcounter_calc r.2)))), (1, some (.box 35 (bxv (eGVal r.1))))] 2 := by
  unfold __calc_counter__fail_w at hF
  refine fnW_of_body (n := 7) (m := 1) [0] Tryd.func63 rfl rfl rfl ?_
  intro c w O θ hcx
  refine aw_seq ?_
  refine aw_region ?_
  refine rgp (op_alloc 1 rfl (ps := (eGVal zGVal)) rfl Tryd_zer_35 (by exact ⟨rfl, rfl, trivial⟩) rfl rfl) ?_
  refine reg_nil ?_
  refine post_imp (s' := ⟨7, [(0, some (.lp 0 0)), (2, some (.lp 1 0))], [(0, some (.box 72 (bxv (eGcounter_calc b0)))), (1, some (.box 35 (bxv (eGVal zGVal))))], 2, [], [], 0, [0]⟩) (imps [0, 1] ⟨by kernel_rfl, by kernel_rfl, trivial⟩ ⟨by kernel_rfl, by kernel_rfl, trivial⟩) ?_
  refine post_next ?_
  refine aw_seq ?_
  refine aw_region ?_
  refine rmv ?_
  refine rgp (op_nilCheck rfl rfl rfl rfl rfl) ?_
  refine rgp (op_field_lp rfl rfl Tryd_fld_72_3 rfl rfl) ?_
  refine rgp (op_store_lp (n := 1) rfl rfl rfl rfl rfl (or_one Tryd_one_4) (by rw [Tryd_one_4]; rfl) rfl rfl rfl) ?_
  refine reg_nil ?_
  refine post_imp (s' := ⟨7, [(0, some (.lp 0 0)), (2, some (.lp 1 0))], [(0, some (.box 72 (bxv (eGcounter_calc ({ b0 with fbad := true } : Gcounter_calc))))), (1, some (.box 35 (bxv (eGVal zGVal))))], 2, [], [], 0, [0]⟩) (imps [0, 1] ⟨by kernel_rfl, by kernel_rfl, trivial⟩ ⟨by kernel_rfl, by kernel_rfl, trivial⟩) ?_
  refine post_next ?_
  refine aw_seq ?_
  refine aw_region ?_
  refine rgp (op_build (zs := (eGVal zGVal)) (r := eGVal ({ fRef := false, fN := 0 } : GVal)) rfl Tryd_zer_35 (by exact ⟨rfl, rfl, trivial⟩) Tryd_plc_35 rfl rfl rfl rfl) ?_
  refine rgp (op_store_lp (n := 2) rfl rfl rfl rfl rfl (or_agg Tryd_agg_35) (by rw [Tryd_non_35]; rfl) rfl rfl rfl) ?_
  refine reg_nil ?_
  refine post_imp (s' := ⟨7, [(0, some (.lp 0 0)), (2, some (.lp 1 0))], [(0, some (.box 72 (bxv (eGcounter_calc ({ b0 with fbad := true } : Gcounter_calc))))), (1, some (.box 35 (bxv (eGVal ({ fRef := false, fN := 0 } : GVal)))))], 2, [], [], 0, [0]⟩) (imps [0, 1] ⟨by kernel_rfl, by kernel_rfl, trivial⟩ ⟨by kernel_rfl, by kernel_rfl, trivial⟩) ?_
  refine post_next ?_
  refine aw_ret ?_
  refine post_imp (s' := ⟨7, [(0, some (.lp 0 0)), (2, some (.lp 1 0))], [(0, some (.box 72 (bxv (eGcounter_calc ({ b0 with fbad := true } : Gcounter_calc))))), (1, some (.box 35 (bxv (eGVal ({ fRef := false, fN := 0 } : GVal)))))], 2, [], [], 0, [0]⟩) (imps [0, 1] ⟨by kernel_rfl, by kernel_rfl, trivial⟩ ⟨by kernel_rfl, by kernel_rfl, trivial⟩) ?_
  obtain rfl := Option.some.inj hF
  exact post_retW hcx rfl (.cons _ _ _ _ (.agg _ _ _ _ _ 2 _ _ rfl rfl Tryd_agg_35 rfl rfl rfl) .nil) rfl (.inl rfl)
theorem __calc_counter__take_w_ok {b0 : Gcounter_calc} {r : Int × Gcounter_calc} (hF : __calc_counter__take_w b0 = some r) : Abs.FnW globs_Tryd Tryd.prog 64 [.lp 0 0] [(0, some (.box 72 (bxv (eGcounter_calc b0))))] 1 [(0, 0)] [.pv (.int .i64 r.1)] [(0, some (.box 72 (bxv (eGcounter_calc r.2))))] 1 := by
  unfold __calc_counter__take_w at hF
  refine fnW_of_body (n := 25) (m := 1) [0] Tryd.func64 rfl rfl rfl ?_
  intro c w O θ hcx
  refine aw_seq ?_
  refine aw_region ?_
  refine ras ?_
  refine reg_nil ?_
  refine post_imp (s' := ⟨25, [(0, some (.lp 0 0))], [(0, some (.box 72 (bxv (eGcounter_calc b0))))], 1, [], [], 0, [0]⟩) (imps [0] ⟨by kernel_rfl, trivial⟩ ⟨by kernel_rfl, trivial⟩) ?_
  refine post_next ?_
  iterate 2 (refine aw_seq ?_)
  refine aw_region ?_
  refine rmv ?_
  refine rgp (op_nilCheck rfl rfl rfl rfl rfl) ?_
  refine rgp (op_field_lp rfl rfl Tryd_fld_72_2 rfl rfl) ?_
  refine rgp (op_load_lp (v := .pv (.vs 1 (List.map eI b0.fin))) rfl rfl rfl rfl Tryd_one_26 rfl rfl) ?_
  refine rgp (op_len_vs (n := b0.fin.length) rfl rfl (List.length_map ..) Tryd_slc_26 rfl rfl) ?_
  refine rgp (op_int (k := .i64) (m := (b0.fin.length : Int)) (n := 0) rfl rfl rfl rfl rfl rfl) ?_
  refine reg_nil ?_
  refine post_imp (s' := ⟨25, [(0, some (.lp 0 0)), (9, some (.pv (.bool ((b0.fin.length : Int) == 0))))], [(0, some (.box 72 (bxv (eGcounter_calc b0))))], 1, [], [], 0, [0]⟩) (imps [0] ⟨by kernel_rfl, by kernel_rfl, trivial⟩ ⟨by kernel_rfl, trivial⟩) ?_
  refine post_next ?_
  rcases ite_some hF with ⟨hb1, hF⟩ | ⟨hb1, hF⟩
  · refine aw_cond_t rfl hb1 ?_
    refine aw_seq ?_
    refine aw_region ?_
    refine ras ?_
    refine reg_nil ?_
    refine post_imp (s' := ⟨25, [(0, some (.lp 0 0)), (2, some (.pv (.int .i64 0)))], [(0, some (.box 72 (bxv (eGcounter_calc b0))))], 1, [], [], 0, [0]⟩) (imps [0] ⟨by kernel_rfl, by kernel_rfl, trivial⟩ ⟨by kernel_rfl, trivial⟩) ?_
    refine post_next ?_
    refine aw_ret ?_
    refine post_then_ret ?_
    refine post_imp (s' := ⟨25, [(0, some (.lp 0 0)), (2, some (.pv (.int .i64 0)))], [(0, some (.box 72 (bxv (eGcounter_calc b0))))], 1, [], [], 0, [0]⟩) (imps [0] ⟨by kernel_rfl, by kernel_rfl, trivial⟩ ⟨by kernel_rfl, trivial⟩) ?_
    obtain rfl := Option.some.inj hF
    exact post_retW hcx rfl (.cons _ _ _ _ (.tmp _ _ rfl) .nil) rfl (.inl rfl)
  refine aw_cond_f rfl hb1 ?_
  refine aw_skip ?_
  refine post_next ?_
  refine aw_seq ?_
  refine aw_region ?_
  refine rmv ?_
  refine rgp (op_nilCheck rfl rfl rfl rfl rfl) ?_
  refine rgp (op_field_lp rfl rfl Tryd_fld_72_2 rfl rfl) ?_
  refine rgp (op_load_lp (v := .pv (.vs 1 (List.map eI b0.fin))) rfl rfl rfl rfl Tryd_one_26 rfl rfl) ?_
  obtain ⟨y4, h5, hF⟩ := bind_some hF
  refine rgp (op_index_vs (k := .i64) rfl rfl rfl (idx_map eI h5) Tryd_slc_26 rfl rfl) ?_
  refine rgp (op_load_vp (p := .int .i64 y4) rfl rfl rfl Tryd_one_3 rfl rfl) ?_
  refine ras ?_
  refine reg_nil ?_
  refine post_imp (s' := ⟨25, [(0, some (.lp 0 0)), (3, some (.pv (.int .i64 y4)))], [(0, some (.box 72 (bxv (eGcounter_calc b0))))], 1, [], [], 0, [0]⟩) (imps [0] ⟨by kernel_rfl, by kernel_rfl, trivial⟩ ⟨by kernel_rfl, trivial⟩) ?_
  refine post_next ?_
  refine aw_seq ?_
  refine aw_region ?_
  iterate 2 (refine rmv ?_)
  refine rgp (op_nilCheck rfl rfl rfl rfl rfl) ?_
  refine rgp (op_field_lp rfl rfl Tryd_fld_72_2 rfl rfl) ?_
  refine rgp (op_load_lp (v := .pv (.vs 1 (List.map eI b0.fin))) rfl rfl rfl rfl Tryd_one_26 rfl rfl) ?_
  obtain ⟨y6, h7, hF⟩ := bind_some hF
  refine rgp (op_slice_vs (nl := (some 1)) (nh := none) (nm := none) rfl rfl rfl rfl rfl (.inl rfl) Tryd_slc_26 (cut_map (nl := (some 1)) (nh := none) eI h7) rfl rfl) ?_
  refine rgp (op_nilCheck rfl rfl rfl rfl rfl) ?_
  refine rgp (op_field_lp rfl rfl Tryd_fld_72_2 rfl rfl) ?_
  refine rgp (op_store_lp (n := 1) rfl rfl rfl rfl rfl (or_one Tryd_one_26) (by rw [Tryd_one_26]; rfl) rfl rfl rfl) ?_
  refine reg_nil ?_
  refine post_imp (s' := ⟨25, [(0, some (.lp 0 0)), (3, some (.pv (.int .i64 y4)))], [(0, some (.box 72 (bxv (eGcounter_calc ({ b0 with fin := y6 } : Gcounter_calc)))))], 1, [], [], 0, [0]⟩) (imps [0] ⟨by kernel_rfl, by kernel_rfl, trivial⟩ ⟨by kernel_rfl, trivial⟩) ?_
  refine post_next ?_
  refine aw_seq ?_
  refine aw_region ?_
  refine rmv ?_
  refine ras ?_
  refine reg_nil ?_
  refine post_imp (s' := ⟨25, [(0, some (.lp 0 0)), (2, some (.pv (.int .i64 y4)))], [(0, some (.box 72 (bxv (eGcounter_calc ({ b0 with fin := y6 } : Gcounter_calc)))))], 1, [], [], 0, [0]⟩) (imps [0] ⟨by kernel_rfl, by kernel_rfl, trivial⟩ ⟨by kernel_rfl, trivial⟩) ?_
  refine post_next ?_
  refine aw_ret ?_
  refine post_imp (s' := ⟨25, [(0, some (.lp 0 0)), (2, some (.pv (.int .i64 y4)))], [(0, some (.box 72 (bxv (eGcounter_calc ({ b0 with fin := y6 } : Gcounter_calc)))))], 1, [], [], 0, [0]⟩) (imps [0] ⟨by kernel_rfl, by kernel_rfl, trivial⟩ ⟨by kernel_rfl, trivial⟩) ?_
  obtain rfl := Option.some.inj hF
  exact post_retW hcx rfl (.cons _ _ _ _ (.tmp _ _ rfl) .nil) rfl (.inl rfl)
theorem calc_sign_ok {a0 : Int} {r : Clo0} (hF : calc_sign a0 = some r) : Abs.Fn globs_Tryd Tryd.prog 65 [.int .i64 a0] [.p (.fn r.f r.c)] := by
  unfold calc_sign at hF
  refine fn_of_body (n := 17) Tryd.func65 rfl rfl rfl ?_
  intro w O
  refine aw_seq ?_
  refine aw_region ?_
  refine ras ?_
  refine reg_nil ?_
  refine post_imp (s' := ⟨17, [(0, some (.pv (.int .i64 a0)))], [], 0, [], [], 0, []⟩) (imps [] ⟨by kernel_rfl, trivial⟩ trivial) ?_
  refine post_next ?_
  iterate 2 (refine aw_seq ?_)
  refine aw_region ?_
  refine rmv ?_
  refine reg_nil ?_
  refine post_imp (s' := ⟨17, [(3, some (.pv (.int .i64 a0)))], [], 0, [], [], 0, []⟩) (imps [] ⟨by kernel_rfl, trivial⟩ trivial) ?_
  refine post_next ?_
  refine aw_block ?_
  refine aw_seq ?_
  refine aw_region ?_
  refine rgp (op_int (k := .i64) (m := a0) (n := 6) rfl rfl rfl rfl rfl rfl) ?_
  refine ras ?_
  refine reg_nil ?_
  refine post_imp (s' := ⟨17, [(3, some (.pv (.int .i64 a0))), (4, some (.pv (.bool (a0 == 6))))], [], 0, [], [], 0, []⟩) (imps [] ⟨by kernel_rfl, by kernel_rfl, trivial⟩ trivial) ?_
  refine post_next ?_
  rcases ite_some hF with ⟨hb1, hF⟩ | ⟨hb1, hF⟩
  · refine aw_cond_t rfl hb1 ?_
    refine aw_seq ?_
    refine aw_region ?_
    refine ras ?_
    refine reg_nil ?_
    refine post_imp (s' := ⟨17, [(2, some (.pv (.fn 94 [])))], [], 0, [], [], 0, []⟩) (imps [] ⟨by kernel_rfl, trivial⟩ trivial) ?_
    refine post_next ?_
    refine aw_ret ?_
    refine post_block_ret ?_
    refine post_then_ret ?_
    obtain rfl := Option.some.inj hF
    exact prt
  refine aw_cond_f rfl hb1 ?_
  refine aw_seq ?_
  refine aw_region ?_
  refine rgp (op_int (k := .i64) (m := a0) (n := 7) rfl rfl rfl rfl rfl rfl) ?_
  refine ras ?_
  refine reg_nil ?_
  refine post_imp (s' := ⟨17, [(3, some (.pv (.int .i64 a0))), (6, some (.pv (.bool (a0 == 7))))], [], 0, [], [], 0, []⟩) (imps [] ⟨by kernel_rfl, by kernel_rfl, trivial⟩ trivial) ?_
  refine post_next ?_
  rcases ite_some hF with ⟨hb2, hF⟩ | ⟨hb2, hF⟩
  · refine aw_cond_t rfl hb2 ?_
    refine aw_seq ?_
    refine aw_region ?_
    refine ras ?_
    refine reg_nil ?_
    refine post_imp (s' := ⟨17, [(2, some (.pv (.fn 95 [])))], [], 0, [], [], 0, []⟩) (imps [] ⟨by kernel_rfl, trivial⟩ trivial) ?_
    refine post_next ?_
    refine aw_ret ?_
    refine post_block_ret ?_
    refine post_then_ret ?_
    obtain rfl := Option.some.inj hF
    exact prt
  refine aw_cond_f rfl hb2 ?_
  refine aw_seq ?_
  refine aw_region ?_
  refine rgp (op_int (k := .i64) (m := a0) (n := 8) rfl rfl rfl rfl rfl rfl) ?_
  refine ras ?_
  refine reg_nil ?_
  refine post_imp (s' := ⟨17, [(3, some (.pv (.int .i64 a0))), (8, some (.pv (.bool (a0 == 8))))], [], 0, [], [], 0, []⟩) (imps [] ⟨by kernel_rfl, by kernel_rfl, trivial⟩ trivial) ?_
  refine post_next ?_
  rcases ite_some hF with ⟨hb3, hF⟩ | ⟨hb3, hF⟩
  · refine aw_cond_t rfl hb3 ?_
    refine aw_seq ?_
    refine aw_region ?_
    refine ras ?_
    refine reg_nil ?_
    refine post_imp (s' := ⟨17, [(2, some (.pv (.fn 96 [])))], [], 0, [], [], 0, []⟩) (imps [] ⟨by kernel_rfl, trivial⟩ trivial) ?_
    refine post_next ?_
    refine aw_ret ?_
    refine post_block_ret ?_
    refine post_then_ret ?_
    obtain rfl := Option.some.inj hF
    exact prt
  refine aw_cond_f rfl hb3 ?_
  refine aw_seq ?_
  refine aw_region ?_
  refine rgp (op_int (k := .i64) (m := a0) (n := 9) rfl rfl rfl rfl rfl rfl) ?_
  refine ras ?_
  refine reg_nil ?_
  refine post_imp (s' := ⟨17, [(3, some (.pv (.int .i64 a0))), (10, some (.pv (.bool (a0 == 9))))], [], 0, [], [], 0, []⟩) (imps [] ⟨by kernel_rfl, by kernel_rfl, trivial⟩ trivial) ?_
  refine post_next ?_
  rcases ite_some hF with ⟨hb4, hF⟩ | ⟨hb4, hF⟩
  · refine aw_cond_t rfl hb4 ?_
    refine aw_seq ?_
    refine aw_region ?_
    refine ras ?_
    refine reg_nil ?_
    refine post_imp (s' := ⟨17, [(2, some (.pv (.fn 97 [])))], [], 0, [], [], 0, []⟩) (imps [] ⟨by kernel_rfl, trivial⟩ trivial) ?_
    refine post_next ?_
    refine aw_ret ?_
    refine post_block_ret ?_
    refine post_then_ret ?_
    obtain rfl := Option.some.inj hF
    exact prt
  refine aw_cond_f rfl hb4 ?_
  refine aw_seq ?_
  obtain ⟨x6, hF, hK8⟩ := bind_some hF
  refine aw_cut (fun s1 => s1 = ⟨17, [(3, some (.pv (.int .i64 a0))), (12, some (.pv (.bool x6)))], [], 0, [], [], 0, []⟩) ?_ ?_
  · refine aw_seq ?_
    refine aw_region ?_
    refine rgp (op_int (k := .i64) (m := a0) (n := 10) rfl rfl rfl rfl rfl rfl) ?_
    refine ras ?_
    refine reg_nil ?_
    refine post_imp (s' := ⟨17, [(3, some (.pv (.int .i64 a0))), (12, some (.pv (.bool (a0 == 10))))], [], 0, [], [], 0, []⟩) (imps [] ⟨by kernel_rfl, by kernel_rfl, trivial⟩ trivial) ?_
    refine post_next ?_
    rcases ite_some hF with ⟨hb5, hF⟩ | ⟨hb5, hF⟩
    · refine aw_cond_t rfl hb5 ?_
      refine aw_skip ?_
      cases hF
      exact post_cut _ rfl (imps [] ⟨by kernel_rfl, by kernel_rfl, trivial⟩ trivial)
    refine aw_cond_f rfl hb5 ?_
    refine aw_region ?_
    refine rgp (op_int (k := .i64) (m := a0) (n := 14) rfl rfl rfl rfl rfl rfl) ?_
    refine ras ?_
    refine reg_nil ?_
    cases hF
    exact post_cut _ rfl (imps [] ⟨by kernel_rfl, by kernel_rfl, trivial⟩ trivial)
  rintro _ rfl
  have hF := hK8
  clear hK8
  refine post_next ?_
  rcases ite_some hF with ⟨hb9, hF⟩ | ⟨hb9, hF⟩
  · refine aw_cond_t rfl hb9 ?_
    refine aw_seq ?_
    refine aw_region ?_
    refine ras ?_
    refine reg_nil ?_
    refine post_imp (s' := ⟨17, [(2, some (.pv (.fn 99 [])))], [], 0, [], [], 0, []⟩) (imps [] ⟨by kernel_rfl, trivial⟩ trivial) ?_
    refine post_next ?_
    refine aw_ret ?_
    refine post_block_ret ?_
    refine post_then_ret ?_
    obtain rfl := Option.some.inj hF
    exact prt
  refine aw_cond_f rfl hb9 ?_
  refine aw_seq ?_
  refine aw_region ?_
  refine rgp (op_int (k := .i64) (m := a0) (n := 11) rfl rfl rfl rfl rfl rfl) ?_
  refine ras ?_
  refine reg_nil ?_
  refine post_imp (s' := ⟨17, [(15, some (.pv (.bool (a0 == 11))))], [], 0, [], [], 0, []⟩) (imps [] ⟨by kernel_rfl, trivial⟩ trivial) ?_
  refine post_next ?_
  rcases ite_some hF with ⟨hb10, hF⟩ | ⟨hb10, hF⟩
  · refine aw_cond_t rfl hb10 ?_
    refine aw_seq ?_
    refine aw_region ?_
    refine ras ?_
    refine reg_nil ?_
    refine post_imp (s' := ⟨17, [(2, some (.pv (.fn 100 [])))], [], 0, [], [], 0, []⟩) (imps [] ⟨by kernel_rfl, trivial⟩ trivial) ?_
    refine post_next ?_
    refine aw_ret ?_
    refine post_block_ret ?_
    refine post_then_ret ?_
    obtain rfl := Option.some.inj hF
    exact prt
  refine aw_cond_f rfl hb10 ?_
  refine aw_skip ?_
  refine post_block_normal ?_
  refine post_next ?_
  refine aw_seq ?_
  refine aw_region ?_
  refine ras ?_
  refine reg_nil ?_
  refine post_imp (s' := ⟨17, [(2, some (.pv (.fn 101 [])))], [], 0, [], [], 0, []⟩) (imps [] ⟨by kernel_rfl, trivial⟩ trivial) ?_
  refine post_next ?_
  refine aw_ret ?_
  obtain rfl := Option.some.inj hF
  exact prt
theorem __calc_counter__of_w_ring : ∀ (n : Nat) (a1 : GExpr) (b0 : Gcounter_calc) (r : GVal × Gcounter_calc), __calc_counter__of_w n a1 b0 = some r → Abs.FnW globs_Tryd Tryd.prog 34 [.lp 0 0, .pv (.agg (eGExpr a1))] [(0, some (.box 72 (bxv (eGcounter_calc b0))))] 1 [(0, 0)] [.pv (.agg (eGVal r.1))] [(0, some (.box 72 (bxv (eGcounter_calc r.2)))), (1, some (.box 35 (bxv (eGVal r.1))))] 2 := by
  intro n
  induction n with
  | zero => exact fun _ _ _ h => by simp [__calc_counter__of_w] at h
  | succ n ih =>
    have __calc_counter__of_w_ih := ih
    clear ih
    intro a1 b0 r hF
    unfold __calc_counter__of_w at hF
    revert hF __calc_counter__of_w_ih
    generalize __calc_counter__of_w n = __calc_counter__of_w_rec
    intro __calc_counter__of_w_ih hF
    refine fnW_of_body (n := 106) (m := 1) [0] Tryd.func34 rfl rfl rfl ?_
    intro c w O θ hcx
    refine aw_seq ?_
    refine aw_region ?_
    refine rgp (op_box 1 rfl rfl rfl rfl rfl rfl) ?_
    refine rgp (op_alloc 2 rfl (ps := (eGVal zGVal)) rfl Tryd_zer_35 (by exact ⟨rfl, rfl, trivial⟩) rfl rfl) ?_
    refine reg_nil ?_
    refine post_imp (s' := ⟨106, [(0, some (.lp 0 0)), (3, some (.lp 1 0)), (4, some (.lp 2 0))], [(0, some (.box 72 (bxv (eGcounter_calc b0)))), (1, some (.box 31 (bxv (eGExpr a1)))), (2, some (.box 35 (bxv (eGVal zGVal))))], 3, [], [], 0, [0]⟩) (imps [0, 1, 2] ⟨by kernel_rfl, by kernel_rfl, by kernel_rfl, trivial⟩ ⟨by kernel_rfl, by kernel_rfl, by kernel_rfl, trivial⟩) ?_
    refine post_next ?_
    iterate 2 (refine aw_seq ?_)
    refine aw_region ?_
    refine rgp (op_field_lp rfl rfl Tryd_fld_31_0 rfl rfl) ?_
    refine rgp (op_load_lp (v := .pv (.int .i64 a1.fKind)) rfl rfl rfl rfl Tryd_one_3 rfl rfl) ?_
    refine reg_nil ?_
    refine post_imp (s' := ⟨106, [(0, some (.lp 0 0)), (3, some (.lp 1 0)), (4, some (.lp 2 0)), (13, some (.pv (.int .i64 a1.fKind)))], [(0, some (.box 72 (bxv (eGcounter_calc b0)))), (1, some (.box 31 (bxv (eGExpr a1)))), (2, some (.box 35 (bxv (eGVal zGVal))))], 3, [], [], 0, [0]⟩) (imps [0, 1, 2] ⟨by kernel_rfl, by kernel_rfl, by kernel_rfl, by kernel_rfl, trivial⟩ ⟨by kernel_rfl, by kernel_rfl, by kernel_rfl, trivial⟩) ?_
    refine post_next ?_
    refine aw_block ?_
    refine aw_seq ?_
    refine aw_region ?_
    refine rgp (op_int (k := .i64) (m := a1.fKind) (n := 1) rfl rfl rfl rfl rfl rfl) ?_
    refine ras ?_
    refine reg_nil ?_
    refine post_imp (s' := ⟨106, [(0, some (.lp 0 0)), (3, some (.lp 1 0)), (4, some (.lp 2 0)), (13, some (.pv (.int .i64 a1.fKind))), (14, some (.pv (.bool (a1.fKind == 1))))], [(0, some (.box 72 (bxv (eGcounter_calc b0)))), (1, some (.box 31 (bxv (eGExpr a1)))), (2, some (.box 35 (bxv (eGVal zGVal))))], 3, [], [], 0, [0]⟩) (imps [0, 1, 2] ⟨by kernel_rfl, by kernel_rfl, by kernel_rfl, by kernel_rfl, by kernel_rfl, trivial⟩ ⟨by kernel_rfl, by kernel_rfl, by kernel_rfl, trivial⟩) ?_
    refine post_next ?_
    rcases ite_some hF with ⟨hb1, hF⟩ | ⟨hb1, hF⟩
    · refine aw_cond_t rfl hb1 ?_
      refine aw_seq ?_
      refine aw_region ?_
      refine rgp (op_field_lp rfl rfl Tryd_fld_31_1 rfl rfl) ?_
      refine rgp (op_load_lp (v := .pv (.int .i64 a1.fNum)) rfl rfl rfl rfl Tryd_one_3 rfl rfl) ?_
      refine rgp (op_build (zs := (eGVal zGVal)) (r := eGVal ({ fRef := false, fN := a1.fNum } : GVal)) rfl Tryd_zer_35 (by exact ⟨rfl, rfl, trivial⟩) Tryd_plc_35 rfl rfl rfl rfl) ?_
      refine rgp (op_store_lp (n := 2) rfl rfl rfl rfl rfl (or_agg Tryd_agg_35) (by rw [Tryd_non_35]; rfl) rfl rfl rfl) ?_
      refine reg_nil ?_
      refine post_imp (s' := ⟨106, [(0, some (.lp 0 0)), (4, some (.lp 1 0))], [(0, some (.box 72 (bxv (eGcounter_calc b0)))), (1, some (.box 35 (bxv (eGVal ({ fRef := false, fN := a1.fNum } : GVal)))))], 2, [], [], 0, [0]⟩) (imps [0, 2] ⟨by kernel_rfl, by kernel_rfl, trivial⟩ ⟨by kernel_rfl, by kernel_rfl, trivial⟩) ?_
      refine post_next ?_
      refine aw_ret ?_
      refine post_block_ret ?_
      refine post_then_ret ?_
      refine post_imp (s' := ⟨106, [(0, some (.lp 0 0)), (4, some (.lp 1 0))], [(0, some (.box 72 (bxv (eGcounter_calc b0)))), (1, some (.box 35 (bxv (eGVal ({ fRef := false, fN := a1.fNum } : GVal)))))], 2, [], [], 0, [0]⟩) (imps [0, 1] ⟨by kernel_rfl, by kernel_rfl, trivial⟩ ⟨by kernel_rfl, by kernel_rfl, trivial⟩) ?_
      obtain rfl := Option.some.inj hF
      exact post_retW hcx rfl (.cons _ _ _ _ (.agg _ _ _ _ _ 2 _ _ rfl rfl Tryd_agg_35 rfl rfl rfl) .nil) rfl (.inl rfl)
    refine aw_cond_f rfl hb1 ?_
    refine aw_seq ?_
    refine aw_region ?_
    refine rgp (op_int (k := .i64) (m := a1.fKind) (n := 2) rfl rfl rfl rfl rfl rfl) ?_
    refine ras ?_
    refine reg_nil ?_
    refine post_imp (s' := ⟨106, [(0, some (.lp 0 0)), (3, some (.lp 1 0)), (4, some (.lp 2 0)), (13, some (.pv (.int .i64 a1.fKind))), (19, some (.pv (.bool (a1.fKind == 2))))], [(0, some (.box 72 (bxv (eGcounter_calc b0)))), (1, some (.box 31 (bxv (eGExpr a1)))), (2, some (.box 35 (bxv (eGVal zGVal))))], 3, [], [], 0, [0]⟩) (imps [0, 1, 2] ⟨by kernel_rfl, by kernel_rfl, by kernel_rfl, by kernel_rfl, by kernel_rfl, trivial⟩ ⟨by kernel_rfl, by kernel_rfl, by kernel_rfl, trivial⟩) ?_
    refine post_next ?_
    rcases ite_some hF with ⟨hb2, hF⟩ | ⟨hb2, hF⟩
    · refine aw_cond_t rfl hb2 ?_
      refine aw_seq ?_
      refine aw_imp (imp_names 1) ?_
      refine dr_start ⟨_, _, _⟩ rfl ?_
      refine drm ?_
      refine dr_cons { need := [(22, .lp 0 0)], dst := some 23, val := some (.lp 0 0) } (fun m h => step_on (guard_no rfl) (op_nilCheck rfl h.1.1 rfl rfl rfl) rfl) ⟨⟨rfl, trivial⟩, trivial, trivial⟩ ?_
      refine dr_cons { need := [(23, .lp 0 0)], dst := some 24, val := some (.lp 0 0) } (fun m h => step_on (guard_no rfl) (op_field_lp rfl h.1.1 Tryd_fld_72_0 rfl rfl) rfl) ⟨⟨rfl, trivial⟩, trivial, trivial⟩ ?_
      refine dr_cons { need := [(24, .lp 0 0)], hneed := [(0, .box 72 (bxv (eGcounter_calc b0)))], dst := some 25, val := some (.pv (.vs 7 (List.map eGClass b0.fp))) } (fun m h => step_on (guard_no rfl) (op_load_lp (v := .pv (.vs 7 (List.map eGClass b0.fp))) rfl h.1.1 h.2.1.1 rfl Tryd_one_22 rfl rfl) rfl) ⟨⟨rfl, trivial⟩, ⟨rfl, trivial⟩, trivial⟩ ?_
      refine drm ?_
      refine dr_cons { need := [(26, .lp 0 0)], dst := some 27, val := some (.lp 0 0) } (fun m h => step_on (guard_no rfl) (op_nilCheck rfl h.1.1 rfl rfl rfl) rfl) ⟨⟨rfl, trivial⟩, trivial, trivial⟩ ?_
      refine dr_cons { need := [(27, .lp 0 0)], dst := some 28, val := some (.lp 0 1) } (fun m h => step_on (guard_no rfl) (op_field_lp rfl h.1.1 Tryd_fld_72_1 rfl rfl) rfl) ⟨⟨rfl, trivial⟩, trivial, trivial⟩ ?_
      refine dr_cons { need := [(28, .lp 0 1)], hneed := [(0, .box 72 (bxv (eGcounter_calc b0)))], dst := some 29, val := some (.pv (.agg (eGFrame b0.ff))) } (fun m h => step_on (guard_no rfl) (op_load_lp_agg (ps := eGFrame b0.ff) rfl h.1.1 h.2.1.1 rfl rfl rfl Tryd_agg_25 rfl rfl) rfl) ⟨⟨rfl, trivial⟩, ⟨rfl, trivial⟩, trivial⟩ ?_
      refine dr_cons { need := [(3, .lp 1 0)], dst := some 30, val := some (.lp 1 2) } (fun m h => step_on (guard_no rfl) (op_field_lp rfl h.1.1 Tryd_fld_31_2 rfl rfl) rfl) ⟨⟨rfl, trivial⟩, trivial, trivial⟩ ?_
      refine dr_cons { need := [(30, .lp 1 2)], hneed := [(1, .box 31 (bxv (eGExpr a1)))], dst := some 31, val := some (.pv (.str a1.fName)) } (fun m h => step_on (guard_no rfl) (op_load_lp (v := .pv (.str a1.fName)) rfl h.1.1 h.2.1.1 rfl Tryd_one_9 rfl rfl) rfl) ⟨⟨rfl, trivial⟩, ⟨rfl, trivial⟩, trivial⟩ ?_
      obtain ⟨y5, h6, hF⟩ := bind_some hF
      refine dr_cons { need := [(31, .pv (.str a1.fName)), (29, .pv (.agg (eGFrame b0.ff))), (25, .pv (.vs 7 (List.map eGClass b0.fp)))], dst := some 32, val := some (.tup [.pv (.agg (eGVal y5.1)), .pv (.bool y5.2)]) } (fun m h => step_on (guard_no rfl) (op_call 4 rfl (caps := []) (args := [.vs 7 (List.map eGClass b0.fp), .agg (eGFrame b0.ff), .str a1.fName]) (rs := [.p (.agg (eGVal y5.1)), .p (.bool y5.2)]) rfl rfl (evl_cons h.1.2.2.1 (evl_cons h.1.2.1 (evl_cons h.1.1 evl_nil))) Tryd_cal_62 (frame_Get_ok h6) rfl rfl rfl) rfl) ⟨⟨rfl, rfl, rfl, trivial⟩, trivial, trivial⟩ ?_
      refine drm ?_
      refine dr_cons { need := [(21, .tup [.pv (.agg (eGVal y5.1)), .pv (.bool y5.2)])], dst := some 33, val := some (.pv (.agg (eGVal y5.1))) } (fun m h => step_on (guard_no rfl) (op_extract rfl h.1.1 rfl rfl rfl) rfl) ⟨⟨rfl, trivial⟩, trivial, trivial⟩ ?_
      refine dr_cons { need := [(21, .tup [.pv (.agg (eGVal y5.1)), .pv (.bool y5.2)])], dst := some 34, val := some (.pv (.bool y5.2)) } (fun m h => step_on (guard_no rfl) (op_extract rfl h.1.1 rfl rfl rfl) rfl) ⟨⟨rfl, trivial⟩, trivial, trivial⟩ ?_
      refine dr_cons { names := [3], dst := some 5, val := some (.lp 3 0), upd := [(3, some (.box 35 (bxv (eGVal zGVal))))] } (fun m h => step_on (guard_no rfl) (op_alloc 3 (fresh_free h.2.2.1) (ps := (eGVal zGVal)) rfl Tryd_zer_35 (by exact ⟨rfl, rfl, trivial⟩) rfl rfl) rfl) ⟨trivial, trivial, ⟨rfl, trivial⟩⟩ ?_
      refine dr_cons { need := [(5, .lp 3 0), (33, .pv (.agg (eGVal y5.1)))], hneed := [(3, .box 35 (bxv (eGVal zGVal)))], upd := [(3, some (.box 35 (bxv (eGVal y5.1))))] } (fun m h => step_on (guard_no rfl) (op_store_lp (n := 2) rfl h.1.1 h.1.2.1 rfl h.2.1.1 (or_agg Tryd_agg_35) (by rw [Tryd_non_35]; rfl) rfl rfl rfl) rfl) ⟨⟨rfl, rfl, trivial⟩, ⟨rfl, trivial⟩, trivial⟩ ?_
      refine dr_cons { need := [(34, .pv (.bool y5.2))], dst := some 6, val := some (.pv (.bool y5.2)) } (fun m h => step_on (guard_no rfl) (op_assign rfl h.1.1 rfl rfl) rfl) ⟨⟨rfl, trivial⟩, trivial, trivial⟩ ?_
      refine dr_nil Tryd_mixed rfl (by kernel_rfl) ?_
      refine post_imp (s' := ⟨106, [(0, some (.lp 0 0)), (4, some (.lp 1 0)), (5, some (.lp 2 0)), (6, some (.pv (.bool y5.2)))], [(0, some (.box 72 (bxv (eGcounter_calc b0)))), (1, some (.box 35 (bxv (eGVal zGVal)))), (2, some (.box 35 (bxv (eGVal y5.1))))], 3, [], [], 0, [0]⟩) (imps [0, 2, 3] ⟨by kernel_rfl, by kernel_rfl, by kernel_rfl, by kernel_rfl, trivial⟩ ⟨by kernel_rfl, by kernel_rfl, by kernel_rfl, trivial⟩) ?_
      refine post_next ?_
      iterate 2 (refine aw_seq ?_)
      refine aw_region ?_
      refine rmv ?_
      refine rgp (op_not rfl rfl rfl rfl) ?_
      refine reg_nil ?_
      refine post_imp (s' := ⟨106, [(0, some (.lp 0 0)), (4, some (.lp 1 0)), (5, some (.lp 2 0)), (36, some (.pv (.bool (!y5.2))))], [(0, some (.box 72 (bxv (eGcounter_calc b0)))), (1, some (.box 35 (bxv (eGVal zGVal)))), (2, some (.box 35 (bxv (eGVal y5.1))))], 3, [], [], 0, [0]⟩) (imps [0, 1, 2] ⟨by kernel_rfl, by kernel_rfl, by kernel_rfl, by kernel_rfl, trivial⟩ ⟨by kernel_rfl, by kernel_rfl, by kernel_rfl, trivial⟩) ?_
      refine post_next ?_
      rcases ite_some hF with ⟨hb7, hF⟩ | ⟨hb7, hF⟩
      · refine aw_cond_t rfl hb7 ?_
        refine aw_seq ?_
        refine aw_region ?_
        refine rmv ?_
        obtain ⟨y8, h9, hF⟩ := bind_some hF
        refine rgp (op_callW (args := [.lp 0 0]) [0] [0, 3] [] 4 rfl rfl rfl rfl rfl Tryd_cal_63 (__calc_counter__fail_w_ok h9) rfl (by decide) ⟨rfl, trivial⟩ rfl (by decide) ⟨.inl rfl, .inr rfl, trivial⟩ (by kernel_rfl) (by kernel_rfl) rfl rfl rfl rfl) ?_
        refine rgp (op_store_lp (n := 2) rfl rfl rfl rfl rfl (or_agg Tryd_agg_35) (by rw [Tryd_non_35]; rfl) rfl rfl rfl) ?_
        refine reg_nil ?_
        refine post_imp (s' := ⟨106, [(0, some (.lp 0 0)), (4, some (.lp 1 0))], [(0, some (.box 72 (bxv (eGcounter_calc y8.2)))), (1, some (.box 35 (bxv (eGVal y8.1))))], 2, [], [], 0, [0]⟩) (imps [0, 1] ⟨by kernel_rfl, by kernel_rfl, trivial⟩ ⟨by kernel_rfl, by kernel_rfl, trivial⟩) ?_
        refine post_next ?_
        refine aw_ret ?_
        refine post_then_ret ?_
        refine post_block_ret ?_
        refine post_then_ret ?_
        refine post_imp (s' := ⟨106, [(0, some (.lp 0 0)), (4, some (.lp 1 0))], [(0, some (.box 72 (bxv (eGcounter_calc y8.2)))), (1, some (.box 35 (bxv (eGVal y8.1))))], 2, [], [], 0, [0]⟩) (imps [0, 1] ⟨by kernel_rfl, by kernel_rfl, trivial⟩ ⟨by kernel_rfl, by kernel_rfl, trivial⟩) ?_
        obtain rfl := Option.some.inj hF
        exact post_retW hcx rfl (.cons _ _ _ _ (.agg _ _ _ _ _ 2 _ _ rfl rfl Tryd_agg_35 rfl rfl rfl) .nil) rfl (.inl rfl)
      refine aw_cond_f rfl hb7 ?_
      refine aw_skip ?_
      refine post_next ?_
      refine aw_seq ?_
      refine aw_region ?_
      refine rgp (op_load_lp_agg (ps := eGVal y5.1) rfl rfl rfl rfl rfl rfl Tryd_agg_35 rfl rfl) ?_
      refine rgp (op_store_lp (n := 2) rfl rfl rfl rfl rfl (or_agg Tryd_agg_35) (by rw [Tryd_non_35]; rfl) rfl rfl rfl) ?_
      refine reg_nil ?_
      refine post_imp (s' := ⟨106, [(0, some (.lp 0 0)), (4, some (.lp 1 0))], [(0, some (.box 72 (bxv (eGcounter_calc b0)))), (1, some (.box 35 (bxv (eGVal y5.1))))], 2, [], [], 0, [0]⟩) (imps [0, 1] ⟨by kernel_rfl, by kernel_rfl, trivial⟩ ⟨by kernel_rfl, by kernel_rfl, trivial⟩) ?_
      refine post_next ?_
      refine aw_ret ?_
      refine post_block_ret ?_
      refine post_then_ret ?_
      refine post_imp (s' := ⟨106, [(0, some (.lp 0 0)), (4, some (.lp 1 0))], [(0, some (.box 72 (bxv (eGcounter_calc b0)))), (1, some (.box 35 (bxv (eGVal y5.1))))], 2, [], [], 0, [0]⟩) (imps [0, 1] ⟨by kernel_rfl, by kernel_rfl, trivial⟩ ⟨by kernel_rfl, by kernel_rfl, trivial⟩) ?_
      obtain rfl := Option.some.inj hF
      exact post_retW hcx rfl (.cons _ _ _ _ (.agg _ _ _ _ _ 2 _ _ rfl rfl Tryd_agg_35 rfl rfl rfl) .nil) rfl (.inl rfl)
    refine aw_cond_f rfl hb2 ?_
    refine aw_seq ?_
    refine aw_region ?_
    refine rgp (op_int (k := .i64) (m := a1.fKind) (n := 3) rfl rfl rfl rfl rfl rfl) ?_
    refine ras ?_
    refine reg_nil ?_
    refine post_imp (s' := ⟨106, [(0, some (.lp 0 0)), (3, some (.lp 1 0)), (4, some (.lp 2 0)), (13, some (.pv (.int .i64 a1.fKind))), (40, some (.pv (.bool (a1.fKind == 3))))], [(0, some (.box 72 (bxv (eGcounter_calc b0)))), (1, some (.box 31 (bxv (eGExpr a1)))), (2, some (.box 35 (bxv (eGVal zGVal))))], 3, [], [], 0, [0]⟩) (imps [0, 1, 2] ⟨by kernel_rfl, by kernel_rfl, by kernel_rfl, by kernel_rfl, by kernel_rfl, trivial⟩ ⟨by kernel_rfl, by kernel_rfl, by kernel_rfl, trivial⟩) ?_
    refine post_next ?_
    rcases ite_some hF with ⟨hb10, hF⟩ | ⟨hb10, hF⟩
    · refine aw_cond_t rfl hb10 ?_
      refine aw_seq ?_
      refine aw_region ?_
      refine rmv ?_
      refine rgp (op_nilCheck rfl rfl rfl rfl rfl) ?_
      refine rgp (op_field_lp rfl rfl Tryd_fld_72_1 rfl rfl) ?_
      refine rgp (op_field_lp rfl rfl Tryd_fld_25_0 rfl rfl) ?_
      refine rgp (op_load_lp (v := .pv (.int .i64 b0.ff.fThis)) rfl rfl rfl rfl Tryd_one_3 rfl rfl) ?_
      refine rgp (op_build (zs := (eGVal zGVal)) (r := eGVal ({ fRef := true, fN := b0.ff.fThis } : GVal)) rfl Tryd_zer_35 (by exact ⟨rfl, rfl, trivial⟩) Tryd_plc_35 rfl rfl rfl rfl) ?_
      refine rgp (op_store_lp (n := 2) rfl rfl rfl rfl rfl (or_agg Tryd_agg_35) (by rw [Tryd_non_35]; rfl) rfl rfl rfl) ?_
      refine reg_nil ?_
      refine post_imp (s' := ⟨106, [(0, some (.lp 0 0)), (4, some (.lp 1 0))], [(0, some (.box 72 (bxv (eGcounter_calc b0)))), (1, some (.box 35 (bxv (eGVal ({ fRef := true, fN := b0.ff.fThis } : GVal)))))], 2, [], [], 0, [0]⟩) (imps [0, 2] ⟨by kernel_rfl, by kernel_rfl, trivial⟩ ⟨by kernel_rfl, by kernel_rfl, trivial⟩) ?_
      refine post_next ?_
      refine aw_ret ?_
      refine post_block_ret ?_
      refine post_then_ret ?_
      refine post_imp (s' := ⟨106, [(0, some (.lp 0 0)), (4, some (.lp 1 0))], [(0, some (.box 72 (bxv (eGcounter_calc b0)))), (1, some (.box 35 (bxv (eGVal ({ fRef := true, fN := b0.ff.fThis } : GVal)))))], 2, [], [], 0, [0]⟩) (imps [0, 1] ⟨by kernel_rfl, by kernel_rfl, trivial⟩ ⟨by kernel_rfl, by kernel_rfl, trivial⟩) ?_
      obtain rfl := Option.some.inj hF
      exact post_retW hcx rfl (.cons _ _ _ _ (.agg _ _ _ _ _ 2 _ _ rfl rfl Tryd_agg_35 rfl rfl rfl) .nil) rfl (.inl rfl)
    refine aw_cond_f rfl hb10 ?_
    refine aw_seq ?_
    refine aw_region ?_
    refine rgp (op_int (k := .i64) (m := a1.fKind) (n := 4) rfl rfl rfl rfl rfl rfl) ?_
    refine ras ?_
    refine reg_nil ?_
    refine post_imp (s' := ⟨106, [(0, some (.lp 0 0)), (3, some (.lp 1 0)), (4, some (.lp 2 0)), (13, some (.pv (.int .i64 a1.fKind))), (48, some (.pv (.bool (a1.fKind == 4))))], [(0, some (.box 72 (bxv (eGcounter_calc b0)))), (1, some (.box 31 (bxv (eGExpr a1)))), (2, some (.box 35 (bxv (eGVal zGVal))))], 3, [], [], 0, [0]⟩) (imps [0, 1, 2] ⟨by kernel_rfl, by kernel_rfl, by kernel_rfl, by kernel_rfl, by kernel_rfl, trivial⟩ ⟨by kernel_rfl, by kernel_rfl, by kernel_rfl, trivial⟩) ?_
    refine post_next ?_
    rcases ite_some hF with ⟨hb11, hF⟩ | ⟨hb11, hF⟩
    · refine aw_cond_t rfl hb11 ?_
      refine aw_seq ?_
      refine aw_region ?_
      refine rgp (op_build (zs := (eGVal zGVal)) (r := eGVal ({ fRef := true, fN := 0 } : GVal)) rfl Tryd_zer_35 (by exact ⟨rfl, rfl, trivial⟩) Tryd_plc_35 rfl rfl rfl rfl) ?_
      refine rgp (op_store_lp (n := 2) rfl rfl rfl rfl rfl (or_agg Tryd_agg_35) (by rw [Tryd_non_35]; rfl) rfl rfl rfl) ?_
      refine reg_nil ?_
      refine post_imp (s' := ⟨106, [(0, some (.lp 0 0)), (4, some (.lp 1 0))], [(0, some (.box 72 (bxv (eGcounter_calc b0)))), (1, some (.box 35 (bxv (eGVal ({ fRef := true, fN := 0 } : GVal)))))], 2, [], [], 0, [0]⟩) (imps [0, 2] ⟨by kernel_rfl, by kernel_rfl, trivial⟩ ⟨by kernel_rfl, by kernel_rfl, trivial⟩) ?_
      refine post_next ?_
      refine aw_ret ?_
      refine post_block_ret ?_
      refine post_then_ret ?_
      refine post_imp (s' := ⟨106, [(0, some (.lp 0 0)), (4, some (.lp 1 0))], [(0, some (.box 72 (bxv (eGcounter_calc b0)))), (1, some (.box 35 (bxv (eGVal ({ fRef := true, fN := 0 } : GVal)))))], 2, [], [], 0, [0]⟩) (imps [0, 1] ⟨by kernel_rfl, by kernel_rfl, trivial⟩ ⟨by kernel_rfl, by kernel_rfl, trivial⟩) ?_
      obtain rfl := Option.some.inj hF
      exact post_retW hcx rfl (.cons _ _ _ _ (.agg _ _ _ _ _ 2 _ _ rfl rfl Tryd_agg_35 rfl rfl rfl) .nil) rfl (.inl rfl)
    refine aw_cond_f rfl hb11 ?_
    refine aw_seq ?_
    refine aw_region ?_
    refine rgp (op_int (k := .i64) (m := a1.fKind) (n := 5) rfl rfl rfl rfl rfl rfl) ?_
    refine ras ?_
    refine reg_nil ?_
    refine post_imp (s' := ⟨106, [(0, some (.lp 0 0)), (3, some (.lp 1 0)), (4, some (.lp 2 0)), (51, some (.pv (.bool (a1.fKind == 5))))], [(0, some (.box 72 (bxv (eGcounter_calc b0)))), (1, some (.box 31 (bxv (eGExpr a1)))), (2, some (.box 35 (bxv (eGVal zGVal))))], 3, [], [], 0, [0]⟩) (imps [0, 1, 2] ⟨by kernel_rfl, by kernel_rfl, by kernel_rfl, by kernel_rfl, trivial⟩ ⟨by kernel_rfl, by kernel_rfl, by kernel_rfl, trivial⟩) ?_
    refine post_next ?_
    rcases ite_some hF with ⟨hb12, hF⟩ | ⟨hb12, hF⟩
    · refine aw_cond_t rfl hb12 ?_
      refine aw_seq ?_
      refine aw_region ?_
      refine rmv ?_
      obtain ⟨y13, h14, hF⟩ := bind_some hF
      refine rgp (op_callW (args := [.lp 0 0]) [0] [0] [] 3 rfl rfl rfl rfl rfl Tryd_cal_64 (__calc_counter__take_w_ok h14) rfl (by decide) ⟨rfl, trivial⟩ rfl (by decide) ⟨.inl rfl, trivial⟩ (by kernel_rfl) (by kernel_rfl) rfl rfl rfl rfl) ?_
      refine rgp (op_build (zs := (eGVal zGVal)) (r := eGVal ({ fRef := false, fN := y13.1 } : GVal)) rfl Tryd_zer_35 (by exact ⟨rfl, rfl, trivial⟩) Tryd_plc_35 rfl rfl rfl rfl) ?_
      refine rgp (op_store_lp (n := 2) rfl rfl rfl rfl rfl (or_agg Tryd_agg_35) (by rw [Tryd_non_35]; rfl) rfl rfl rfl) ?_
      refine reg_nil ?_
      refine post_imp (s' := ⟨106, [(0, some (.lp 0 0)), (4, some (.lp 1 0))], [(0, some (.box 72 (bxv (eGcounter_calc y13.2)))), (1, some (.box 35 (bxv (eGVal ({ fRef := false, fN := y13.1 } : GVal)))))], 2, [], [], 0, [0]⟩) (imps [0, 2] ⟨by kernel_rfl, by kernel_rfl, trivial⟩ ⟨by kernel_rfl, by kernel_rfl, trivial⟩) ?_
      refine post_next ?_
      refine aw_ret ?_
      refine post_block_ret ?_
      refine post_then_ret ?_
      refine post_imp (s' := ⟨106, [(0, some (.lp 0 0)), (4, some (.lp 1 0))], [(0, some (.box 72 (bxv (eGcounter_calc y13.2)))), (1, some (.box 35 (bxv (eGVal ({ fRef := false, fN := y13.1 } : GVal)))))], 2, [], [], 0, [0]⟩) (imps [0, 1] ⟨by kernel_rfl, by kernel_rfl, trivial⟩ ⟨by kernel_rfl, by kernel_rfl, trivial⟩) ?_
      obtain rfl := Option.some.inj hF
      exact post_retW hcx rfl (.cons _ _ _ _ (.agg _ _ _ _ _ 2 _ _ rfl rfl Tryd_agg_35 rfl rfl rfl) .nil) rfl (.inl rfl)
    refine aw_cond_f rfl hb12 ?_
    refine aw_skip ?_
    refine post_block_normal ?_
    refine post_next ?_
    refine aw_seq ?_
    obtain ⟨x16, hF, hK18⟩ := bind_some hF
    refine aw_cut (fun s1 => s1 = ⟨106, [(0, some (.lp 0 0)), (3, some (.lp 1 0)), (4, some (.lp 2 0)), (7, some (.pv (.bool x16)))], [(0, some (.box 72 (bxv (eGcounter_calc b0)))), (1, some (.box 31 (bxv (eGExpr a1)))), (2, some (.box 35 (bxv (eGVal zGVal))))], 3, [], [], 0, [0]⟩) ?_ ?_
    · refine aw_region ?_
      refine rgp (op_field_lp rfl rfl Tryd_fld_31_0 rfl rfl) ?_
      refine rgp (op_load_lp (v := .pv (.int .i64 a1.fKind)) rfl rfl rfl rfl Tryd_one_3 rfl rfl) ?_
      refine rgp (op_int (k := .i64) (m := a1.fKind) (n := 13) rfl rfl rfl rfl rfl rfl) ?_
      refine rmv ?_
      rcases ite_some hF with ⟨hb15, hF⟩ | ⟨hb15, hF⟩
      · refine rgo_t hb15 ?_
        iterate 2 (refine rgo_t hb15 ?_)
        refine rpt hb15 ?_
        refine ras ?_
        refine reg_nil ?_
        cases hF
        exact post_cut _ rfl (imps [0, 1, 2] ⟨by kernel_rfl, by kernel_rfl, by kernel_rfl, by kernel_rfl, trivial⟩ ⟨by kernel_rfl, by kernel_rfl, by kernel_rfl, trivial⟩)
      refine rgn hb15 (op_field_lp rfl rfl Tryd_fld_31_0 rfl rfl) ?_
      refine rgn hb15 (op_load_lp (v := .pv (.int .i64 a1.fKind)) rfl rfl rfl rfl Tryd_one_3 rfl rfl) ?_
      refine rgn hb15 (op_int (k := .i64) (m := a1.fKind) (n := 14) rfl rfl rfl rfl rfl rfl) ?_
      refine rpf hb15 ?_
      refine ras ?_
      refine reg_nil ?_
      cases hF
      exact post_cut _ rfl (imps [0, 1, 2] ⟨by kernel_rfl, by kernel_rfl, by kernel_rfl, by kernel_rfl, trivial⟩ ⟨by kernel_rfl, by kernel_rfl, by kernel_rfl, trivial⟩)
    rintro _ rfl
    have hF := hK18
    clear hK18
    refine post_next ?_
    refine aw_seq ?_
    refine aw_region ?_
    refine ras ?_
    refine reg_imp (imp_nil_own 8 3 1 3 rfl rfl) ?_
    refine reg_nil ?_
    refine post_imp (s' := ⟨106, [(0, some (.lp 0 0)), (3, some (.lp 1 0)), (4, some (.lp 2 0)), (7, some (.pv (.bool x16))), (8, some (.ls 3))], [(0, some (.box 72 (bxv (eGcounter_calc b0)))), (1, some (.box 31 (bxv (eGExpr a1)))), (2, some (.box 35 (bxv (eGVal zGVal)))), (3, some (.row 3 1 (List.map eI [])))], 4, [], [], 0, [0]⟩) (imps [0, 1, 2, 3] ⟨by kernel_rfl, by kernel_rfl, by kernel_rfl, by kernel_rfl, by kernel_rfl, trivial⟩ ⟨by kernel_rfl, by kernel_rfl, by kernel_rfl, by kernel_rfl, trivial⟩) ?_
    refine post_next ?_
    iterate 2 (refine aw_seq ?_)
    refine aw_region ?_
    refine rgp (op_field_lp rfl rfl Tryd_fld_31_3 rfl rfl) ?_
    refine rgp (op_load_lp (v := .pv (.vs 4 (eLGExpr a1.fKids))) rfl rfl rfl rfl Tryd_one_29 rfl rfl) ?_
    refine rgp (op_len_vs (n := a1.fKids.length) rfl rfl (lenR eLGExpr_map) Tryd_slc_29 rfl rfl) ?_
    refine rmv ?_
    refine reg_nil ?_
    refine post_imp (s' := ⟨106, [(0, some (.lp 0 0)), (3, some (.lp 1 0)), (4, some (.lp 2 0)), (7, some (.pv (.bool x16))), (8, some (.ls 3)), (65, some (.pv (.vs 4 (eLGExpr a1.fKids)))), (66, some (.pv (.int .i64 (a1.fKids.length : Int)))), (67, some (.pv (.int .i64 0)))], [(0, some (.box 72 (bxv (eGcounter_calc b0)))), (1, some (.box 31 (bxv (eGExpr a1)))), (2, some (.box 35 (bxv (eGVal zGVal)))), (3, some (.row 3 1 (List.map eI [])))], 4, [], [], 0, [0]⟩) (imps [0, 1, 2, 3] ⟨by kernel_rfl, by kernel_rfl, by kernel_rfl, by kernel_rfl, by kernel_rfl, by kernel_rfl, by kernel_rfl, by kernel_rfl, trivial⟩ ⟨by kernel_rfl, by kernel_rfl, by kernel_rfl, by kernel_rfl, trivial⟩) ?_
    refine post_next ?_
    obtain ⟨lr90, hF, hK91⟩ := bind_some hF
    refine aw_for ((((a1.fKids.length : Int) : Int) - (0)).toNat + 1) (fun s1 => ∃ q, lr90 = .next q ∧ s1 = ⟨106, [(0, some (.lp 0 0)), (3, some (.lp 1 0)), (4, some (.lp 2 0)), (8, some (.ls 3))], [(0, some (.box 72 (bxv (eGcounter_calc q.1)))), (1, some (.box 31 (bxv (eGExpr a1)))), (2, some (.box 35 (bxv (eGVal zGVal)))), (3, some (.row 3 1 (List.map eI q.2)))], 4, [], [], 0, [0]⟩) ?_ ?_
    · refine rnd_loop (α := Gcounter_calc × (List Int) × Int) (fun q => ⟨106, [(0, some (.lp 0 0)), (3, some (.lp 1 0)), (4, some (.lp 2 0)), (7, some (.pv (.bool x16))), (8, some (.ls 3)), (65, some (.pv (.vs 4 (eLGExpr a1.fKids)))), (66, some (.pv (.int .i64 (a1.fKids.length : Int)))), (67, some (.pv (.int .i64 q.2.2)))], [(0, some (.box 72 (bxv (eGcounter_calc q.1)))), (1, some (.box 31 (bxv (eGExpr a1)))), (2, some (.box 35 (bxv (eGVal zGVal)))), (3, some (.row 3 1 (List.map eI q.2.1)))], 4, [], [], 0, [0]⟩) (fun k q => __calc_counter__of_w_L1 a1 x16 __calc_counter__of_w_rec k q.1 q.2.1 q.2.2 = some lr90) (b0, [], 0) (imps [0, 1, 2, 3] ⟨by kernel_rfl, by kernel_rfl, by kernel_rfl, by kernel_rfl, by kernel_rfl, by kernel_rfl, by kernel_rfl, by kernel_rfl, trivial⟩ ⟨by kernel_rfl, by kernel_rfl, by kernel_rfl, by kernel_rfl, trivial⟩) hF (fun q h => by cases h) ?_
      clear hF
      rintro k ⟨x39, x40, x41⟩ hF ih
      refine rnd_succ ?_
      refine aw_seq ?_
      refine aw_region ?_
      refine rgp (op_int (k := .i64) (m := x41) (n := (a1.fKids.length : Int)) rfl rfl rfl rfl rfl rfl) ?_
      refine reg_nil ?_
      refine post_imp (s' := ⟨106, [(0, some (.lp 0 0)), (3, some (.lp 1 0)), (4, some (.lp 2 0)), (7, some (.pv (.bool x16))), (8, some (.ls 3)), (65, some (.pv (.vs 4 (eLGExpr a1.fKids)))), (66, some (.pv (.int .i64 (a1.fKids.length : Int)))), (67, some (.pv (.int .i64 x41))), (68, some (.pv (.bool (decide (x41 < (a1.fKids.length : Int))))))], [(0, some (.box 72 (bxv (eGcounter_calc x39)))), (1, some (.box 31 (bxv (eGExpr a1)))), (2, some (.box 35 (bxv (eGVal zGVal)))), (3, some (.row 3 1 (List.map eI x40)))], 4, [], [], 0, [0]⟩) (imps [0, 1, 2, 3] ⟨by kernel_rfl, by kernel_rfl, by kernel_rfl, by kernel_rfl, by kernel_rfl, by kernel_rfl, by kernel_rfl, by kernel_rfl, by kernel_rfl, trivial⟩ ⟨by kernel_rfl, by kernel_rfl, by kernel_rfl, by kernel_rfl, trivial⟩) ?_
      refine post_next ?_
      refine aw_seq ?_
      rcases ite_some hF with ⟨hb65, hF⟩ | ⟨hb65, hF⟩
      · refine aw_cond_t rfl hb65 ?_
        refine aw_skip ?_
        refine post_next ?_
        refine aw_seq ?_
        refine aw_block ?_
        refine aw_seq ?_
        refine aw_region ?_
        obtain ⟨y68, h69, hF⟩ := bind_some hF
        refine rgp (op_index_vs (k := .i64) rfl rfl rfl (idxR eLGExpr_map h69) Tryd_slc_29 rfl rfl) ?_
        refine rgp (op_load_vp_agg (ps := eGExpr y68) rfl rfl rfl rfl Tryd_agg_31 rfl rfl) ?_
        refine rgp (op_alloc 4 rfl (ps := (eGExpr zGExpr)) rfl Tryd_zer_31 (by exact ⟨rfl, rfl, rfl, trivial, trivial⟩) rfl rfl) ?_
        refine rgp (op_store_lp (n := 4) rfl rfl rfl rfl rfl (or_agg Tryd_agg_31) (by rw [Tryd_non_31]; rfl) rfl rfl rfl) ?_
        refine reg_nil ?_
        refine post_imp (s' := ⟨106, [(0, some (.lp 0 0)), (3, some (.lp 1 0)), (4, some (.lp 2 0)), (7, some (.pv (.bool x16))), (8, some (.ls 3)), (10, some (.lp 4 0)), (65, some (.pv (.vs 4 (eLGExpr a1.fKids)))), (66, some (.pv (.int .i64 (a1.fKids.length : Int)))), (67, some (.pv (.int .i64 x41)))], [(0, some (.box 72 (bxv (eGcounter_calc x39)))), (1, some (.box 31 (bxv (eGExpr a1)))), (2, some (.box 35 (bxv (eGVal zGVal)))), (3, some (.row 3 1 (List.map eI x40))), (4, some (.box 31 (bxv (eGExpr y68))))], 5, [], [], 0, [0]⟩) (imps [0, 1, 2, 3, 4] ⟨by kernel_rfl, by kernel_rfl, by kernel_rfl, by kernel_rfl, by kernel_rfl, by kernel_rfl, by kernel_rfl, by kernel_rfl, by kernel_rfl, trivial⟩ ⟨by kernel_rfl, by kernel_rfl, by kernel_rfl, by kernel_rfl, by kernel_rfl, trivial⟩) ?_
        refine post_next ?_
        refine aw_seq ?_
        refine aw_region ?_
        refine rmv ?_
        refine rgp (op_load_lp_agg (ps := eGExpr y68) rfl rfl rfl rfl rfl rfl Tryd_agg_31 rfl rfl) ?_
        obtain ⟨y72, h73, hF⟩ := bind_some hF
        refine rgp (op_callW (args := [.lp 0 0, .pv (.agg (eGExpr y68))]) [0] [0, 5] [] 6 rfl rfl rfl rfl rfl Tryd_cal_34 (__calc_counter__of_w_ih _ _ _ h73) rfl (by decide) ⟨rfl, trivial⟩ rfl (by decide) ⟨.inl rfl, .inr rfl, trivial⟩ (by kernel_rfl) (by kernel_rfl) rfl rfl rfl rfl) ?_
        refine rgp (op_alloc 6 rfl (ps := (eGVal zGVal)) rfl Tryd_zer_35 (by exact ⟨rfl, rfl, trivial⟩) rfl rfl) ?_
        refine rgp (op_store_lp (n := 2) rfl rfl rfl rfl rfl (or_agg Tryd_agg_35) (by rw [Tryd_non_35]; rfl) rfl rfl rfl) ?_
        refine reg_nil ?_
        refine post_imp (s' := ⟨106, [(0, some (.lp 0 0)), (3, some (.lp 1 0)), (4, some (.lp 2 0)), (7, some (.pv (.bool x16))), (8, some (.ls 3)), (11, some (.lp 4 0)), (65, some (.pv (.vs 4 (eLGExpr a1.fKids)))), (66, some (.pv (.int .i64 (a1.fKids.length : Int)))), (67, some (.pv (.int .i64 x41)))], [(0, some (.box 72 (bxv (eGcounter_calc y72.2)))), (1, some (.box 31 (bxv (eGExpr a1)))), (2, some (.box 35 (bxv (eGVal zGVal)))), (3, some (.row 3 1 (List.map eI x40))), (4, some (.box 35 (bxv (eGVal y72.1))))], 5, [], [], 0, [0]⟩) (imps [0, 1, 2, 3, 6] ⟨by kernel_rfl, by kernel_rfl, by kernel_rfl, by kernel_rfl, by kernel_rfl, by kernel_rfl, by kernel_rfl, by kernel_rfl, by kernel_rfl, trivial⟩ ⟨by kernel_rfl, by kernel_rfl, by kernel_rfl, by kernel_rfl, by kernel_rfl, trivial⟩) ?_
        refine post_next ?_
        iterate 2 (refine aw_seq ?_)
        obtain ⟨x75, hF, hK77⟩ := bind_some hF
        refine aw_cut (fun s1 => s1 = ⟨106, [(0, some (.lp 0 0)), (3, some (.lp 1 0)), (4, some (.lp 2 0)), (7, some (.pv (.bool x16))), (8, some (.ls 3)), (11, some (.lp 4 0)), (65, some (.pv (.vs 4 (eLGExpr a1.fKids)))), (66, some (.pv (.int .i64 (a1.fKids.length : Int)))), (67, some (.pv (.int .i64 x41))), (83, some (.pv (.bool x75)))], [(0, some (.box 72 (bxv (eGcounter_calc y72.2)))), (1, some (.box 31 (bxv (eGExpr a1)))), (2, some (.box 35 (bxv (eGVal zGVal)))), (3, some (.row 3 1 (List.map eI x40))), (4, some (.box 35 (bxv (eGVal y72.1))))], 5, [], [], 0, [0]⟩) ?_ ?_
        · refine aw_region ?_
          refine rmv ?_
          refine rgp (op_nilCheck rfl rfl rfl rfl rfl) ?_
          refine rgp (op_field_lp rfl rfl Tryd_fld_72_3 rfl rfl) ?_
          refine rgp (op_load_lp (v := .pv (.bool y72.2.fbad)) rfl rfl rfl rfl Tryd_one_4 rfl rfl) ?_
          refine rmv ?_
          rcases ite_some hF with ⟨hb74, hF⟩ | ⟨hb74, hF⟩
          · refine rgo_t hb74 ?_
            iterate 3 (refine rgo_t hb74 ?_)
            refine rpt hb74 ?_
            refine reg_nil ?_
            cases hF
            exact post_cut _ rfl (imps [0, 1, 2, 3, 4] ⟨by kernel_rfl, by kernel_rfl, by kernel_rfl, by kernel_rfl, by kernel_rfl, by kernel_rfl, by kernel_rfl, by kernel_rfl, by kernel_rfl, by kernel_rfl, trivial⟩ ⟨by kernel_rfl, by kernel_rfl, by kernel_rfl, by kernel_rfl, by kernel_rfl, trivial⟩)
          refine rgn hb74 (op_field_lp rfl rfl Tryd_fld_35_0 rfl rfl) ?_
          refine rgn hb74 (op_load_lp (v := .pv (.bool y72.1.fRef)) rfl rfl rfl rfl Tryd_one_4 rfl rfl) ?_
          refine rgn hb74 (op_move rfl rfl rfl rfl) ?_
          refine rgn hb74 (op_eqBool_neq rfl rfl rfl Tryd_und_4 rfl rfl) ?_
          refine rpf hb74 ?_
          refine reg_nil ?_
          cases hF
          exact post_cut _ rfl (imps [0, 1, 2, 3, 4] ⟨by kernel_rfl, by kernel_rfl, by kernel_rfl, by kernel_rfl, by kernel_rfl, by kernel_rfl, by kernel_rfl, by kernel_rfl, by kernel_rfl, by kernel_rfl, trivial⟩ ⟨by kernel_rfl, by kernel_rfl, by kernel_rfl, by kernel_rfl, by kernel_rfl, trivial⟩)
        rintro _ rfl
        have hF := hK77
        clear hK77
        refine post_next ?_
        rcases ite_some hF with ⟨hb78, hF⟩ | ⟨hb78, hF⟩
        · refine aw_cond_t rfl hb78 ?_
          refine aw_seq ?_
          refine aw_region ?_
          refine rmv ?_
          obtain ⟨y79, h80, hF⟩ := bind_some hF
          refine rgp (op_callW (args := [.lp 0 0]) [0] [0, 5] [] 6 rfl rfl rfl rfl rfl Tryd_cal_63 (__calc_counter__fail_w_ok h80) rfl (by decide) ⟨rfl, trivial⟩ rfl (by decide) ⟨.inl rfl, .inr rfl, trivial⟩ (by kernel_rfl) (by kernel_rfl) rfl rfl rfl rfl) ?_
          refine rgp (op_store_lp (n := 2) rfl rfl rfl rfl rfl (or_agg Tryd_agg_35) (by rw [Tryd_non_35]; rfl) rfl rfl rfl) ?_
          refine reg_nil ?_
          refine post_imp (s' := ⟨106, [(0, some (.lp 0 0)), (4, some (.lp 1 0))], [(0, some (.box 72 (bxv (eGcounter_calc y79.2)))), (1, some (.box 35 (bxv (eGVal y79.1))))], 2, [], [], 0, [0]⟩) (imps [0, 2] ⟨by kernel_rfl, by kernel_rfl, trivial⟩ ⟨by kernel_rfl, by kernel_rfl, trivial⟩) ?_
          refine post_next ?_
          refine aw_ret ?_
          refine post_then_ret ?_
          refine post_block_ret ?_
          iterate 2 (refine post_then_ret ?_)
          refine post_lp_ret ?_
          obtain rfl := Option.some.inj hF
          have hF := elim_stop hK91
          refine post_then_ret ?_
          refine post_imp (s' := ⟨106, [(0, some (.lp 0 0)), (4, some (.lp 1 0))], [(0, some (.box 72 (bxv (eGcounter_calc y79.2)))), (1, some (.box 35 (bxv (eGVal y79.1))))], 2, [], [], 0, [0]⟩) (imps [0, 1] ⟨by kernel_rfl, by kernel_rfl, trivial⟩ ⟨by kernel_rfl, by kernel_rfl, trivial⟩) ?_
          obtain rfl := Option.some.inj hF
          exact post_retW hcx rfl (.cons _ _ _ _ (.agg _ _ _ _ _ 2 _ _ rfl rfl Tryd_agg_35 rfl rfl rfl) .nil) rfl (.inl rfl)
        refine aw_cond_f rfl hb78 ?_
        refine aw_skip ?_
        refine post_next ?_
        refine aw_region ?_
        refine rmv ?_
        refine rgp (op_field_lp rfl rfl Tryd_fld_35_1 rfl rfl) ?_
        refine rgp (op_load_lp (v := .pv (.int .i64 y72.1.fN)) rfl rfl rfl rfl Tryd_one_3 rfl rfl) ?_
        refine rgp (op_lit (rows := List.map eI ([y72.1.fN] : List Int)) (zs := [.int .i64 0]) rfl rfl Tryd_slc_26 Tryd_zer_3 (by exact ⟨rfl, trivial⟩) rfl rfl rfl rfl rfl rfl rfl rfl) ?_
        obtain ⟨u83, h84, hF⟩ := bind_some hF
        refine rgp (op_append 5 rfl rfl rfl rfl rfl Tryd_slc_26 Tryd_elm_3 Tryd_zer_3 rfl rfl rfl (room_map (f := eI) (g := eI) h84) (List.map_append (f := eI) (l₁ := x40) (l₂ := [y72.1.fN])).symm rfl rfl) ?_
        refine ras ?_
        refine reg_nil ?_
        refine post_imp (s' := ⟨106, [(0, some (.lp 0 0)), (3, some (.lp 1 0)), (4, some (.lp 2 0)), (7, some (.pv (.bool x16))), (8, some (.ls 3)), (65, some (.pv (.vs 4 (eLGExpr a1.fKids)))), (66, some (.pv (.int .i64 (a1.fKids.length : Int)))), (67, some (.pv (.int .i64 x41)))], [(0, some (.box 72 (bxv (eGcounter_calc y72.2)))), (1, some (.box 31 (bxv (eGExpr a1)))), (2, some (.box 35 (bxv (eGVal zGVal)))), (3, some (.row 3 1 (List.map eI (x40 ++ [y72.1.fN]))))], 4, [], [], 0, [0]⟩) (imps [0, 1, 2, 5] ⟨by kernel_rfl, by kernel_rfl, by kernel_rfl, by kernel_rfl, by kernel_rfl, by kernel_rfl, by kernel_rfl, by kernel_rfl, trivial⟩ ⟨by kernel_rfl, by kernel_rfl, by kernel_rfl, by kernel_rfl, trivial⟩) ?_
        refine post_block_normal ?_
        refine post_next ?_
        refine aw_region ?_
        refine rgp (op_int (k := .i64) (m := x41) (n := 1) rfl rfl rfl rfl rfl rfl) ?_
        refine rmv ?_
        refine reg_nil ?_
        refine post_round ?_
        exact rnd_back (ih (y72.2, (x40 ++ [y72.1.fN]), w_i64 (x41 + 1)) hF) (imps [0, 1, 2, 3] ⟨by kernel_rfl, by kernel_rfl, by kernel_rfl, by kernel_rfl, by kernel_rfl, by kernel_rfl, by kernel_rfl, by kernel_rfl, trivial⟩ ⟨by kernel_rfl, by kernel_rfl, by kernel_rfl, by kernel_rfl, trivial⟩)
      refine aw_cond_f rfl hb65 ?_
      refine aw_exit ?_
      iterate 2 (refine post_then_exit ?_)
      obtain rfl := Option.some.inj hF
      exact post_lp_break _ ⟨_, rfl, rfl⟩ (imps [0, 1, 2, 3] ⟨by kernel_rfl, by kernel_rfl, by kernel_rfl, by kernel_rfl, trivial⟩ ⟨by kernel_rfl, by kernel_rfl, by kernel_rfl, by kernel_rfl, trivial⟩)
    rintro _ ⟨⟨x88, x89⟩, rfl, rfl⟩
    have hF := elim_next hK91
    clear hK91
    refine post_next ?_
    refine aw_seq ?_
    refine dr_start ⟨_, _, _⟩ rfl ?_
    refine dr_cons { need := [(3, .lp 1 0)], dst := some 92, val := some (.lp 1 0) } (fun m h => step_on (guard_no rfl) (op_field_lp rfl h.1.1 Tryd_fld_31_0 rfl rfl) rfl) ⟨⟨rfl, trivial⟩, trivial, trivial⟩ ?_
    refine dr_cons { need := [(92, .lp 1 0)], hneed := [(1, .box 31 (bxv (eGExpr a1)))], dst := some 93, val := some (.pv (.int .i64 a1.fKind)) } (fun m h => step_on (guard_no rfl) (op_load_lp (v := .pv (.int .i64 a1.fKind)) rfl h.1.1 h.2.1.1 rfl Tryd_one_3 rfl rfl) rfl) ⟨⟨rfl, trivial⟩, ⟨rfl, trivial⟩, trivial⟩ ?_
    obtain ⟨y92, h93, hF⟩ := bind_some hF
    refine dr_cons { need := [(93, .pv (.int .i64 a1.fKind))], dst := some 94, val := some (.pv (.fn y92.f y92.c)) } (fun m h => step_on (guard_no rfl) (op_call 4 rfl (caps := []) (args := [.int .i64 a1.fKind]) (rs := [.p (.fn y92.f y92.c)]) rfl rfl (evl_cons h.1.1 evl_nil) Tryd_cal_65 (calc_sign_ok h93) rfl rfl rfl) rfl) ⟨⟨rfl, trivial⟩, trivial, trivial⟩ ?_
    refine drm ?_
    obtain ⟨y94, h95, hF⟩ := bind_some hF
    refine dr_cons { need := [(95, .ls 3)], hneed := [(3, .row 3 1 (List.map eI x89))], dst := some 96, val := some (.le 3 1 (0 : Int).toNat 0) } (fun m h => step_on (guard_no rfl) (op_index_ls (k := .i64) rfl h.1.1 rfl h.2.1.1 (idx_map eI h95) Tryd_slc_26 rfl rfl) rfl) ⟨⟨rfl, trivial⟩, ⟨rfl, trivial⟩, trivial⟩ ?_
    refine dr_cons { need := [(96, .le 3 1 (0 : Int).toNat 0)], hneed := [(3, .row 3 1 (List.map eI x89))], dst := some 97, val := some (.pv (.int .i64 y94)) } (fun m h => step_on (guard_no rfl) (op_load_le (p := .int .i64 y94) rfl h.1.1 h.2.1.1 (map_get eI h95) rfl Tryd_one_3 rfl rfl) rfl) ⟨⟨rfl, trivial⟩, ⟨rfl, trivial⟩, trivial⟩ ?_
    iterate 2 (refine drm ?_)
    refine dr_cons { need := [(99, .ls 3)], hneed := [(3, .row 3 1 (List.map eI x89))], dst := some 100, val := some (.pv (.int .i64 (x89.length : Int))) } (fun m h => step_on (guard_no rfl) (op_len_ls (n := x89.length) rfl h.1.1 h.2.1.1 (List.length_map ..) Tryd_slc_26 rfl rfl) rfl) ⟨⟨rfl, trivial⟩, ⟨rfl, trivial⟩, trivial⟩ ?_
    refine dr_cons { need := [(100, .pv (.int .i64 (x89.length : Int)))], dst := some 101, val := some (.pv (.int .i64 (w_i64 ((x89.length : Int) - 1)))) } (fun m h => step_on (guard_no rfl) (op_int (k := .i64) (m := (x89.length : Int)) (n := 1) rfl h.1.1 rfl rfl rfl rfl) rfl) ⟨⟨rfl, trivial⟩, trivial, trivial⟩ ?_
    obtain ⟨y96, h97, hF⟩ := bind_some hF
    refine dr_cons { need := [(98, .ls 3), (101, .pv (.int .i64 (w_i64 ((x89.length : Int) - 1))))], hneed := [(3, .row 3 1 (List.map eI x89))], dst := some 102, val := some (.le 3 1 (w_i64 ((x89.length : Int) - 1) : Int).toNat 0) } (fun m h => step_on (guard_no rfl) (op_index_ls (k := .i64) rfl h.1.1 h.1.2.1 h.2.1.1 (idx_map eI h97) Tryd_slc_26 rfl rfl) rfl) ⟨⟨rfl, rfl, trivial⟩, ⟨rfl, trivial⟩, trivial⟩ ?_
    refine dr_cons { need := [(102, .le 3 1 (w_i64 ((x89.length : Int) - 1) : Int).toNat 0)], hneed := [(3, .row 3 1 (List.map eI x89))], dst := some 103, val := some (.pv (.int .i64 y96)) } (fun m h => step_on (guard_no rfl) (op_load_le (p := .int .i64 y96) rfl h.1.1 h.2.1.1 (map_get eI h97) rfl Tryd_one_3 rfl rfl) rfl) ⟨⟨rfl, trivial⟩, ⟨rfl, trivial⟩, trivial⟩ ?_
    obtain ⟨y98, h99, hF⟩ := bind_some hF
    refine dr_cons { need := [(94, .pv (.fn y92.f y92.c)), (103, .pv (.int .i64 y96)), (97, .pv (.int .i64 y94))], dst := some 104, val := some (.pv (.int .i64 y98)) } (fun m h => step_on (guard_no rfl) (op_call 4 rfl (caps := y92.c) (args := [.int .i64 y94, .int .i64 y96]) (rs := [.p (.int .i64 y98)]) rfl h.1.1 (evl_cons h.1.2.2.1 (evl_cons h.1.2.1 evl_nil)) y92.b (y92.h (y94, y96) _ h99) rfl rfl rfl) rfl) ⟨⟨rfl, rfl, rfl, trivial⟩, trivial, trivial⟩ ?_
    refine dr_cons { need := [(104, .pv (.int .i64 y98))], dst := some 105, val := some (.pv (.agg (eGVal ({ fRef := false, fN := y98 } : GVal)))) } (fun m h => step_on (guard_no rfl) (op_build (zs := (eGVal zGVal)) (r := eGVal ({ fRef := false, fN := y98 } : GVal)) rfl Tryd_zer_35 (by exact ⟨rfl, rfl, trivial⟩) Tryd_plc_35 (evs_cons h.1.1 evs_nil) rfl rfl rfl) rfl) ⟨⟨rfl, trivial⟩, trivial, trivial⟩ ?_
    refine dr_cons { need := [(4, .lp 2 0), (105, .pv (.agg (eGVal ({ fRef := false, fN := y98 } : GVal))))], hneed := [(2, .box 35 (bxv (eGVal zGVal)))], upd := [(2, some (.box 35 (bxv (eGVal ({ fRef := false, fN := y98 } : GVal)))))] } (fun m h => step_on (guard_no rfl) (op_store_lp (n := 2) rfl h.1.1 h.1.2.1 rfl h.2.1.1 (or_agg Tryd_agg_35) (by rw [Tryd_non_35]; rfl) rfl rfl rfl) rfl) ⟨⟨rfl, rfl, trivial⟩, ⟨rfl, trivial⟩, trivial⟩ ?_
    refine dr_nil Tryd_mixed rfl (by kernel_rfl) ?_
    refine post_imp (s' := ⟨106, [(0, some (.lp 0 0)), (4, some (.lp 1 0))], [(0, some (.box 72 (bxv (eGcounter_calc x88)))), (1, some (.box 35 (bxv (eGVal ({ fRef := false, fN := y98 } : GVal)))))], 2, [], [], 0, [0]⟩) (imps [0, 2] ⟨by kernel_rfl, by kernel_rfl, trivial⟩ ⟨by kernel_rfl, by kernel_rfl, trivial⟩) ?_
    refine post_next ?_
    refine aw_ret ?_
    refine post_imp (s' := ⟨106, [(0, some (.lp 0 0)), (4, some (.lp 1 0))], [(0, some (.box 72 (bxv (eGcounter_calc x88)))), (1, some (.box 35 (bxv (eGVal ({ fRef := false, fN := y98 } : GVal)))))], 2, [], [], 0, [0]⟩) (imps [0, 1] ⟨by kernel_rfl, by kernel_rfl, trivial⟩ ⟨by kernel_rfl, by kernel_rfl, trivial⟩) ?_
    obtain rfl := Option.some.inj hF
    exact post_retW hcx rfl (.cons _ _ _ _ (.agg _ _ _ _ _ 2 _ _ rfl rfl Tryd_agg_35 rfl rfl rfl) .nil) rfl (.inl rfl)
theorem __calc_counter__of_w_ok {n : Nat} {a1 : GExpr} {b0 : Gcounter_calc} {r : GVal × Gcounter_calc} (hF : __calc_counter__of_w n a1 b0 = some r) : Abs.FnW globs_Tryd Tryd.prog 34 [.lp 0 0, .pv (.agg (eGExpr a1))] [(0, some (.box 72 (bxv (eGcounter_calc b0))))] 1 [(0, 0)] [.pv (.agg (eGVal r.1))] [(0, some (.box 72 (bxv (eGcounter_calc r.2)))), (1, some (.box 35 (bxv (eGVal r.1))))] 2 := __calc_counter__of_w_ring n a1 b0 r hF
theorem slices_Clone_int_ok {a0 : List Int} {r : List Int} (hF : slices_Clone_int a0 = some r) : Abs.Fn globs_Tryd Tryd.prog 35 [.vs 1 (List.map eI a0)] [.own 3 1 (List.map eI r)] := by
  unfold slices_Clone_int at hF
  obtain ⟨u, h, hF⟩ := bind_some hF
  obtain rfl := Option.some.inj hF
  refine fn_of_body (n := 8) Tryd.func35 rfl rfl rfl ?_
  intro w O
  refine aw_seq ?_
  refine aw_region ?_
  refine reg_cons (guard_no rfl) (op_assign rfl rfl rfl rfl) ?_
  refine reg_nil ?_
  refine post_next ?_
  iterate 2 (refine aw_seq ?_)
  refine aw_region ?_
  refine reg_cons (guard_no rfl) (op_move rfl rfl rfl rfl) ?_
  refine op_eqNil rfl rfl rfl Tryd_slc_26 (guard_no rfl) rfl rfl ?_ ?_
  · intro hn
    refine reg_nil ?_
    refine post_next ?_
    refine aw_cond_t rfl rfl ?_
    refine aw_seq ?_
    refine aw_region ?_
    refine reg_cons (guard_no rfl) (op_assign rfl rfl rfl rfl) ?_
    refine reg_nil ?_
    refine post_next ?_
    refine aw_ret ?_
    refine post_then_ret ?_
    refine post_imp (imp_nil_own 2 3 1 0 rfl rfl) ?_
    rw [hn]
    exact post_ret rfl rfl (.cons _ _ _ _ _ (.tmp _ _ rfl) (.own _ _ _ _ rfl nolent3) .nil) (.inl rfl)
  · refine reg_nil ?_
    refine post_next ?_
    refine aw_cond_f rfl rfl ?_
    refine aw_skip ?_
    refine post_next ?_
    refine aw_seq ?_
    refine aw_region ?_
    refine reg_cons (guard_no rfl) (op_litOwn 0 rfl (rows := List.map eI ([] : List Int)) (zs := [.int .i64 0]) rfl rfl Tryd_slc_26 Tryd_zer_3 (by exact ⟨rfl, trivial⟩) rfl rfl rfl rfl rfl rfl rfl rfl) ?_
    refine reg_cons (guard_no rfl) (op_move rfl rfl rfl rfl) ?_
    refine reg_cons (guard_no rfl) (op_append 1 rfl rfl rfl rfl rfl Tryd_slc_26 Tryd_elm_3 Tryd_zer_3 rfl rfl rfl (room_map (f := eI) (g := eI) h) (List.map_append (f := eI) (l₁ := []) (l₂ := a0)).symm rfl rfl) ?_
    refine reg_cons (guard_no rfl) (op_assign rfl rfl rfl rfl) ?_
    refine reg_nil ?_
    refine post_next ?_
    refine aw_ret ?_
    exact post_ret rfl rfl (.cons _ _ _ _ _ (.tmp _ _ rfl) (.own _ _ _ _ rfl nolent3) .nil) (.inl rfl)
theorem calc_All_ok {a0 : List GClass} {a1 : GFrame} {a2 : List Int} {a3 : List GExpr} {r : (List GVal) × (List Int) × Int} (hF : calc_All a0 a1 a2 a3 = some r) : Abs.Fn globs_Tryd Tryd.prog 14 [.vs 7 (List.map eGClass a0), .agg (eGFrame a1), .vs 1 (List.map eI a2), .vs 4 (eLGExpr a3)] [.own 35 2 (List.map eGVal r.1), .p (.vs 1 (List.map eI r.2.1)), .p (.int .i64 r.2.2)] := by
  unfold calc_All at hF
  refine fn_of_body (n := 46) Tryd.func14 rfl rfl rfl ?_
  intro w O
  refine aw_seq ?_
  refine aw_region ?_
  refine rgp (op_box 0 rfl rfl rfl rfl rfl rfl) ?_
  iterate 3 (refine ras ?_)
  refine reg_nil ?_
  refine post_imp (s' := ⟨46, [(0, some (.pv (.vs 7 (List.map eGClass a0)))), (2, some (.pv (.vs 1 (List.map eI a2)))), (3, some (.pv (.vs 4 (eLGExpr a3)))), (5, some (.lp 0 0))], [(0, some (.box 25 (bxv (eGFrame a1))))], 1, [], [], 0, []⟩) (imps [0] ⟨by kernel_rfl, by kernel_rfl, by kernel_rfl, by kernel_rfl, trivial⟩ ⟨by kernel_rfl, trivial⟩) ?_
  refine post_next ?_
  refine aw_seq ?_
  refine aw_region ?_
  refine rmv ?_
  refine rgp (op_load_lp_agg (ps := eGFrame a1) rfl rfl rfl rfl rfl rfl Tryd_agg_25 rfl rfl) ?_
  refine rmv ?_
  refine rgp (op_build (zs := (eGcounter_calc zGcounter_calc)) (r := eGcounter_calc ({ fp := a0, ff := a1, fin := a2, fbad := false } : Gcounter_calc)) rfl Tryd_zer_72 (by exact ⟨trivial, rfl, rfl, rfl, trivial, rfl, rfl, trivial, rfl, trivial⟩) Tryd_plc_72 rfl rfl rfl rfl) ?_
  refine rgp (op_box 1 rfl rfl rfl rfl rfl rfl) ?_
  refine ras ?_
  refine reg_nil ?_
  refine post_imp (s' := ⟨46, [(3, some (.pv (.vs 4 (eLGExpr a3)))), (11, some (.lp 0 0))], [(0, some (.box 72 (bxv (eGcounter_calc ({ fp := a0, ff := a1, fin := a2, fbad := false } : Gcounter_calc)))))], 1, [], [], 0, []⟩) (imps [1] ⟨by kernel_rfl, by kernel_rfl, trivial⟩ ⟨by kernel_rfl, trivial⟩) ?_
  refine post_next ?_
  refine aw_seq ?_
  refine aw_region ?_
  refine ras ?_
  refine reg_imp (imp_nil_own 12 35 2 1 rfl rfl) ?_
  refine reg_nil ?_
  refine post_imp (s' := ⟨46, [(3, some (.pv (.vs 4 (eLGExpr a3)))), (11, some (.lp 0 0)), (12, some (.ls 1))], [(0, some (.box 72 (bxv (eGcounter_calc ({ fp := a0, ff := a1, fin := a2, fbad := false } : Gcounter_calc))))), (1, some (.row 35 2 (List.map eGVal [])))], 2, [], [], 0, []⟩) (imps [0, 1] ⟨by kernel_rfl, by kernel_rfl, by kernel_rfl, trivial⟩ ⟨by kernel_rfl, by kernel_rfl, trivial⟩) ?_
  refine post_next ?_
  iterate 2 (refine aw_seq ?_)
  refine aw_region ?_
  refine rmv ?_
  refine rgp (op_len_vs (n := a3.length) rfl rfl (lenR eLGExpr_map) Tryd_slc_29 rfl rfl) ?_
  refine rmv ?_
  refine reg_nil ?_
  refine post_imp (s' := ⟨46, [(11, some (.lp 0 0)), (12, some (.ls 1)), (20, some (.pv (.vs 4 (eLGExpr a3)))), (21, some (.pv (.int .i64 (a3.length : Int)))), (22, some (.pv (.int .i64 0)))], [(0, some (.box 72 (bxv (eGcounter_calc ({ fp := a0, ff := a1, fin := a2, fbad := false } : Gcounter_calc))))), (1, some (.row 35 2 (List.map eGVal [])))], 2, [], [], 0, []⟩) (imps [0, 1] ⟨by kernel_rfl, by kernel_rfl, by kernel_rfl, by kernel_rfl, by kernel_rfl, trivial⟩ ⟨by kernel_rfl, by kernel_rfl, trivial⟩) ?_
  refine post_next ?_
  obtain ⟨lr69, hF, hK70⟩ := bind_some hF
  refine aw_for ((((a3.length : Int) : Int) - (0)).toNat + 1) (fun s1 => ∃ q, lr69 = .next q ∧ s1 = ⟨46, [(11, some (.lp 0 0)), (12, some (.ls 1))], [(0, some (.box 72 (bxv (eGcounter_calc q.1)))), (1, some (.row 35 2 (List.map eGVal q.2)))], 2, [], [], 0, []⟩) ?_ ?_
  · refine rnd_loop (α := Gcounter_calc × (List GVal) × Int) (fun q => ⟨46, [(11, some (.lp 0 0)), (12, some (.ls 1)), (20, some (.pv (.vs 4 (eLGExpr a3)))), (21, some (.pv (.int .i64 (a3.length : Int)))), (22, some (.pv (.int .i64 q.2.2)))], [(0, some (.box 72 (bxv (eGcounter_calc q.1)))), (1, some (.row 35 2 (List.map eGVal q.2.1)))], 2, [], [], 0, []⟩) (fun k q => calc_All_L1 a3 k q.1 q.2.1 q.2.2 = some lr69) (({ fp := a0, ff := a1, fin := a2, fbad := false } : Gcounter_calc), [], 0) (imps [0, 1] ⟨by kernel_rfl, by kernel_rfl, by kernel_rfl, by kernel_rfl, by kernel_rfl, trivial⟩ ⟨by kernel_rfl, by kernel_rfl, trivial⟩) hF (fun q h => by cases h) ?_
    clear hF
    rintro k ⟨x20, x21, x22⟩ hF ih
    refine rnd_succ ?_
    refine aw_seq ?_
    refine aw_region ?_
    refine rgp (op_int (k := .i64) (m := x22) (n := (a3.length : Int)) rfl rfl rfl rfl rfl rfl) ?_
    refine reg_nil ?_
    refine post_imp (s' := ⟨46, [(11, some (.lp 0 0)), (12, some (.ls 1)), (20, some (.pv (.vs 4 (eLGExpr a3)))), (21, some (.pv (.int .i64 (a3.length : Int)))), (22, some (.pv (.int .i64 x22))), (23, some (.pv (.bool (decide (x22 < (a3.length : Int))))))], [(0, some (.box 72 (bxv (eGcounter_calc x20)))), (1, some (.row 35 2 (List.map eGVal x21)))], 2, [], [], 0, []⟩) (imps [0, 1] ⟨by kernel_rfl, by kernel_rfl, by kernel_rfl, by kernel_rfl, by kernel_rfl, by kernel_rfl, trivial⟩ ⟨by kernel_rfl, by kernel_rfl, trivial⟩) ?_
    refine post_next ?_
    refine aw_seq ?_
    rcases ite_some hF with ⟨hb45, hF⟩ | ⟨hb45, hF⟩
    · refine aw_cond_t rfl hb45 ?_
      refine aw_skip ?_
      refine post_next ?_
      refine aw_seq ?_
      refine aw_block ?_
      refine aw_seq ?_
      refine aw_region ?_
      obtain ⟨y48, h49, hF⟩ := bind_some hF
      refine rgp (op_index_vs (k := .i64) rfl rfl rfl (idxR eLGExpr_map h49) Tryd_slc_29 rfl rfl) ?_
      refine rgp (op_load_vp_agg (ps := eGExpr y48) rfl rfl rfl rfl Tryd_agg_31 rfl rfl) ?_
      refine rgp (op_alloc 2 rfl (ps := (eGExpr zGExpr)) rfl Tryd_zer_31 (by exact ⟨rfl, rfl, rfl, trivial, trivial⟩) rfl rfl) ?_
      refine rgp (op_store_lp (n := 4) rfl rfl rfl rfl rfl (or_agg Tryd_agg_31) (by rw [Tryd_non_31]; rfl) rfl rfl rfl) ?_
      refine reg_nil ?_
      refine post_imp (s' := ⟨46, [(11, some (.lp 0 0)), (12, some (.ls 1)), (14, some (.lp 2 0)), (20, some (.pv (.vs 4 (eLGExpr a3)))), (21, some (.pv (.int .i64 (a3.length : Int)))), (22, some (.pv (.int .i64 x22)))], [(0, some (.box 72 (bxv (eGcounter_calc x20)))), (1, some (.row 35 2 (List.map eGVal x21))), (2, some (.box 31 (bxv (eGExpr y48))))], 3, [], [], 0, []⟩) (imps [0, 1, 2] ⟨by kernel_rfl, by kernel_rfl, by kernel_rfl, by kernel_rfl, by kernel_rfl, by kernel_rfl, trivial⟩ ⟨by kernel_rfl, by kernel_rfl, by kernel_rfl, trivial⟩) ?_
      refine post_next ?_
      iterate 2 (refine aw_seq ?_)
      refine aw_region ?_
      refine rgp (op_load_lp_agg (ps := eGExpr y48) rfl rfl rfl rfl rfl rfl Tryd_agg_31 rfl rfl) ?_
      obtain ⟨y52, h53, hF⟩ := bind_some hF
      refine rgp (op_call 3 rfl (caps := []) (args := [.agg (eGExpr y48)]) (rs := [.p (.bool y52)]) rfl rfl rfl Tryd_cal_33 (expr_Right_ok h53) rfl rfl rfl) ?_
      refine rgp (op_not rfl rfl rfl rfl) ?_
      refine reg_nil ?_
      refine post_imp (s' := ⟨46, [(11, some (.lp 0 0)), (12, some (.ls 1)), (14, some (.lp 2 0)), (20, some (.pv (.vs 4 (eLGExpr a3)))), (21, some (.pv (.int .i64 (a3.length : Int)))), (22, some (.pv (.int .i64 x22))), (28, some (.pv (.bool (!y52))))], [(0, some (.box 72 (bxv (eGcounter_calc x20)))), (1, some (.row 35 2 (List.map eGVal x21))), (2, some (.box 31 (bxv (eGExpr y48))))], 3, [], [], 0, []⟩) (imps [0, 1, 2] ⟨by kernel_rfl, by kernel_rfl, by kernel_rfl, by kernel_rfl, by kernel_rfl, by kernel_rfl, by kernel_rfl, trivial⟩ ⟨by kernel_rfl, by kernel_rfl, by kernel_rfl, trivial⟩) ?_
      refine post_next ?_
      rcases ite_some hF with ⟨hb54, hF⟩ | ⟨hb54, hF⟩
      · refine aw_cond_t rfl hb54 ?_
        refine aw_seq ?_
        refine aw_region ?_
        iterate 3 (refine ras ?_)
        refine reg_nil ?_
        refine post_imp (s' := ⟨46, [(8, some (.pv .nils)), (9, some (.pv .nils)), (10, some (.pv (.int .i64 10)))], [], 0, [], [], 0, []⟩) (imps [] ⟨by kernel_rfl, by kernel_rfl, by kernel_rfl, trivial⟩ trivial) ?_
        refine post_next ?_
        refine aw_ret ?_
        refine post_then_ret ?_
        refine post_block_ret ?_
        iterate 2 (refine post_then_ret ?_)
        refine post_lp_ret ?_
        obtain rfl := Option.some.inj hF
        have hF := elim_stop hK70
        refine post_then_ret ?_
        refine post_imp (imp_nil_own 8 35 2 0 rfl rfl) ?_
        refine post_imp (imp_nil_vs 9 1 rfl) ?_
        obtain rfl := Option.some.inj hF
        exact post_ret rfl rfl (.cons _ _ _ _ _ (.tmp _ _ rfl) (.own _ _ _ _ rfl nolent3) (.cons _ _ _ _ _ (.tmp _ _ rfl) (.p _) (.cons _ _ _ _ _ (.tmp _ _ rfl) (.p _) .nil))) (.inl rfl)
      refine aw_cond_f rfl hb54 ?_
      refine aw_skip ?_
      refine post_next ?_
      refine aw_seq ?_
      refine aw_region ?_
      iterate 2 (refine rmv ?_)
      refine rgp (op_load_lp_agg (ps := eGExpr y48) rfl rfl rfl rfl rfl rfl Tryd_agg_31 rfl rfl) ?_
      obtain ⟨y59, h60, hF⟩ := bind_some hF
      refine rgp (op_callW (args := [.lp 0 0, .pv (.agg (eGExpr y48))]) [0] [0, 3] [] 4 rfl rfl rfl rfl rfl Tryd_cal_34 (__calc_counter__of_w_ok h60) rfl (by decide) ⟨rfl, trivial⟩ rfl (by decide) ⟨.inl rfl, .inr rfl, trivial⟩ (by kernel_rfl) (by kernel_rfl) rfl rfl rfl rfl) ?_
      refine rgp (op_lit (rows := List.map eGVal ([y59.1] : List GVal)) (zs := (eGVal zGVal)) rfl rfl Tryd_slc_23 Tryd_zer_35 (by exact ⟨rfl, rfl, trivial⟩) rfl rfl rfl rfl rfl rfl rfl rfl) ?_
      obtain ⟨u61, h62, hF⟩ := bind_some hF
      refine rgp (op_append 4 rfl rfl rfl rfl rfl Tryd_slc_23 Tryd_elm_35 Tryd_zer_35 rfl rfl rfl (room_map (f := eGVal) (g := eGVal) h62) (List.map_append (f := eGVal) (l₁ := x21) (l₂ := [y59.1])).symm rfl rfl) ?_
      refine ras ?_
      refine reg_nil ?_
      refine post_imp (s' := ⟨46, [(11, some (.lp 0 0)), (12, some (.ls 1)), (20, some (.pv (.vs 4 (eLGExpr a3)))), (21, some (.pv (.int .i64 (a3.length : Int)))), (22, some (.pv (.int .i64 x22)))], [(0, some (.box 72 (bxv (eGcounter_calc y59.2)))), (1, some (.row 35 2 (List.map eGVal (x21 ++ [y59.1]))))], 2, [], [], 0, []⟩) (imps [0, 4] ⟨by kernel_rfl, by kernel_rfl, by kernel_rfl, by kernel_rfl, by kernel_rfl, trivial⟩ ⟨by kernel_rfl, by kernel_rfl, trivial⟩) ?_
      refine post_next ?_
      refine aw_seq ?_
      refine aw_region ?_
      refine rmv ?_
      refine rgp (op_nilCheck rfl rfl rfl rfl rfl) ?_
      refine rgp (op_field_lp rfl rfl Tryd_fld_72_3 rfl rfl) ?_
      refine rgp (op_load_lp (v := .pv (.bool y59.2.fbad)) rfl rfl rfl rfl Tryd_one_4 rfl rfl) ?_
      refine reg_nil ?_
      refine post_imp (s' := ⟨46, [(11, some (.lp 0 0)), (12, some (.ls 1)), (20, some (.pv (.vs 4 (eLGExpr a3)))), (21, some (.pv (.int .i64 (a3.length : Int)))), (22, some (.pv (.int .i64 x22))), (38, some (.pv (.bool y59.2.fbad)))], [(0, some (.box 72 (bxv (eGcounter_calc y59.2)))), (1, some (.row 35 2 (List.map eGVal (x21 ++ [y59.1]))))], 2, [], [], 0, []⟩) (imps [0, 1] ⟨by kernel_rfl, by kernel_rfl, by kernel_rfl, by kernel_rfl, by kernel_rfl, by kernel_rfl, trivial⟩ ⟨by kernel_rfl, by kernel_rfl, trivial⟩) ?_
      refine post_next ?_
      rcases ite_some hF with ⟨hb63, hF⟩ | ⟨hb63, hF⟩
      · refine aw_cond_t rfl hb63 ?_
        refine aw_seq ?_
        refine aw_region ?_
        iterate 3 (refine ras ?_)
        refine reg_nil ?_
        refine post_imp (s' := ⟨46, [(8, some (.pv .nils)), (9, some (.pv .nils)), (10, some (.pv (.int .i64 10)))], [], 0, [], [], 0, []⟩) (imps [] ⟨by kernel_rfl, by kernel_rfl, by kernel_rfl, trivial⟩ trivial) ?_
        refine post_next ?_
        refine aw_ret ?_
        refine post_block_ret ?_
        iterate 2 (refine post_then_ret ?_)
        refine post_lp_ret ?_
        obtain rfl := Option.some.inj hF
        have hF := elim_stop hK70
        refine post_then_ret ?_
        refine post_imp (imp_nil_own 8 35 2 0 rfl rfl) ?_
        refine post_imp (imp_nil_vs 9 1 rfl) ?_
        obtain rfl := Option.some.inj hF
        exact post_ret rfl rfl (.cons _ _ _ _ _ (.tmp _ _ rfl) (.own _ _ _ _ rfl nolent3) (.cons _ _ _ _ _ (.tmp _ _ rfl) (.p _) (.cons _ _ _ _ _ (.tmp _ _ rfl) (.p _) .nil))) (.inl rfl)
      refine aw_cond_f rfl hb63 ?_
      refine aw_skip ?_
      refine post_block_normal ?_
      refine post_next ?_
      refine aw_region ?_
      refine rgp (op_int (k := .i64) (m := x22) (n := 1) rfl rfl rfl rfl rfl rfl) ?_
      refine rmv ?_
      refine reg_nil ?_
      refine post_round ?_
      exact rnd_back (ih (y59.2, (x21 ++ [y59.1]), w_i64 (x22 + 1)) hF) (imps [0, 1] ⟨by kernel_rfl, by kernel_rfl, by kernel_rfl, by kernel_rfl, by kernel_rfl, trivial⟩ ⟨by kernel_rfl, by kernel_rfl, trivial⟩)
    refine aw_cond_f rfl hb45 ?_
    refine aw_exit ?_
    iterate 2 (refine post_then_exit ?_)
    obtain rfl := Option.some.inj hF
    exact post_lp_break _ ⟨_, rfl, rfl⟩ (imps [0, 1] ⟨by kernel_rfl, by kernel_rfl, trivial⟩ ⟨by kernel_rfl, by kernel_rfl, trivial⟩)
  rintro _ ⟨⟨x67, x68⟩, rfl, rfl⟩
  have hF := elim_next hK70
  clear hK70
  refine post_next ?_
  refine aw_seq ?_
  refine aw_region ?_
  iterate 2 (refine rmv ?_)
  refine rgp (op_nilCheck rfl rfl rfl rfl rfl) ?_
  refine rgp (op_field_lp rfl rfl Tryd_fld_72_2 rfl rfl) ?_
  refine rgp (op_load_lp (v := .pv (.vs 1 (List.map eI x67.fin))) rfl rfl rfl rfl Tryd_one_26 rfl rfl) ?_
  obtain ⟨y71, h72, hF⟩ := bind_some hF
  refine rgp (op_call 2 rfl (caps := []) (args := [.vs 1 (List.map eI x67.fin)]) (rs := [.p (.vs 1 (List.map eI y71))]) rfl rfl rfl Tryd_cal_35 (Fn.frozen (slices_Clone_int_ok h72)) rfl rfl rfl) ?_
  iterate 3 (refine ras ?_)
  refine reg_nil ?_
  refine post_imp (s' := ⟨46, [(8, some (.ls 0)), (9, some (.pv (.vs 1 (List.map eI y71)))), (10, some (.pv (.int .i64 0)))], [(0, some (.row 35 2 (List.map eGVal x68)))], 1, [], [], 0, []⟩) (imps [1] ⟨by kernel_rfl, by kernel_rfl, by kernel_rfl, trivial⟩ ⟨by kernel_rfl, trivial⟩) ?_
  refine post_next ?_
  refine aw_ret ?_
  obtain rfl := Option.some.inj hF
  exact post_ret rfl rfl (.cons _ _ _ _ _ (.tmp _ _ rfl) (.own _ _ _ _ rfl nolent3) (.cons _ _ _ _ _ (.tmp _ _ rfl) (.p _) (.cons _ _ _ _ _ (.tmp _ _ rfl) (.p _) .nil))) (.inl rfl)
theorem calc_Of_ok {a0 : List GClass} {a1 : GFrame} {a2 : List Int} {a3 : GExpr} {r : GVal × (List Int) × Int} (hF : calc_Of a0 a1 a2 a3 = some r) : Abs.Fn globs_Tryd Tryd.prog 11 [.vs 7 (List.map eGClass a0), .agg (eGFrame a1), .vs 1 (List.map eI a2), .agg (eGExpr a3)] [.p (.agg (eGVal r.1)), .p (.vs 1 (List.map eI r.2.1)), .p (.int .i64 r.2.2)] := by
  unfold calc_Of at hF
  refine fn_of_body (n := 33) Tryd.func11 rfl rfl rfl ?_
  intro w O
  refine aw_seq ?_
  refine aw_region ?_
  refine rgp (op_box 0 rfl rfl rfl rfl rfl rfl) ?_
  refine rgp (op_box 1 rfl rfl rfl rfl rfl rfl) ?_
  refine rgp (op_alloc 2 rfl (ps := (eGVal zGVal)) rfl Tryd_zer_35 (by exact ⟨rfl, rfl, trivial⟩) rfl rfl) ?_
  iterate 2 (refine ras ?_)
  refine reg_nil ?_
  refine post_imp (s' := ⟨33, [(0, some (.pv (.vs 7 (List.map eGClass a0)))), (2, some (.pv (.vs 1 (List.map eI a2)))), (5, some (.lp 0 0)), (7, some (.lp 1 0)), (8, some (.lp 2 0))], [(0, some (.box 25 (bxv (eGFrame a1)))), (1, some (.box 31 (bxv (eGExpr a3)))), (2, some (.box 35 (bxv (eGVal zGVal))))], 3, [], [], 0, []⟩) (imps [0, 1, 2] ⟨by kernel_rfl, by kernel_rfl, by kernel_rfl, by kernel_rfl, by kernel_rfl, trivial⟩ ⟨by kernel_rfl, by kernel_rfl, by kernel_rfl, trivial⟩) ?_
  refine post_next ?_
  refine aw_seq ?_
  refine aw_region ?_
  refine rmv ?_
  refine rgp (op_load_lp_agg (ps := eGFrame a1) rfl rfl rfl rfl rfl rfl Tryd_agg_25 rfl rfl) ?_
  refine rmv ?_
  refine rgp (op_load_lp_agg (ps := eGExpr a3) rfl rfl rfl rfl rfl rfl Tryd_agg_31 rfl rfl) ?_
  refine rgp (op_litR (rows := List.map eGExpr ([a3] : List GExpr)) (rows' := eLGExpr ([a3] : List GExpr)) (zs := (eGExpr zGExpr)) rfl rfl Tryd_slc_29 Tryd_zer_31 (by exact ⟨rfl, rfl, rfl, trivial, trivial⟩) rfl rfl rfl rfl rfl rfl (eLGExpr_map _) rfl rfl) ?_
  obtain ⟨y3, h4, hF⟩ := bind_some hF
  refine rgp (op_call 3 rfl (caps := []) (args := [.vs 7 (List.map eGClass a0), .agg (eGFrame a1), .vs 1 (List.map eI a2), .vs 4 (eLGExpr [a3])]) (rs := [.p (.vs 2 (List.map eGVal y3.1)), .p (.vs 1 (List.map eI y3.2.1)), .p (.int .i64 y3.2.2)]) rfl rfl rfl Tryd_cal_14 (Fn.frozen (calc_All_ok h4)) rfl rfl rfl) ?_
  refine rmv ?_
  iterate 3 (refine rgp (op_extract rfl rfl rfl rfl rfl) ?_)
  iterate 3 (refine ras ?_)
  refine reg_nil ?_
  refine post_imp (s' := ⟨33, [(8, some (.lp 0 0)), (11, some (.pv (.vs 2 (List.map eGVal y3.1)))), (12, some (.pv (.vs 1 (List.map eI y3.2.1)))), (13, some (.pv (.int .i64 y3.2.2)))], [(0, some (.box 35 (bxv (eGVal zGVal))))], 1, [], [], 0, []⟩) (imps [2] ⟨by kernel_rfl, by kernel_rfl, by kernel_rfl, by kernel_rfl, trivial⟩ ⟨by kernel_rfl, trivial⟩) ?_
  refine post_next ?_
  iterate 2 (refine aw_seq ?_)
  refine aw_region ?_
  refine rmv ?_
  refine rgp (op_int (k := .i64) (m := y3.2.2) (n := 0) rfl rfl rfl rfl rfl rfl) ?_
  refine reg_nil ?_
  refine post_imp (s' := ⟨33, [(8, some (.lp 0 0)), (11, some (.pv (.vs 2 (List.map eGVal y3.1)))), (12, some (.pv (.vs 1 (List.map eI y3.2.1)))), (13, some (.pv (.int .i64 y3.2.2))), (25, some (.pv (.bool (y3.2.2 != 0))))], [(0, some (.box 35 (bxv (eGVal zGVal))))], 1, [], [], 0, []⟩) (imps [0] ⟨by kernel_rfl, by kernel_rfl, by kernel_rfl, by kernel_rfl, by kernel_rfl, trivial⟩ ⟨by kernel_rfl, trivial⟩) ?_
  refine post_next ?_
  rcases ite_some hF with ⟨hb5, hF⟩ | ⟨hb5, hF⟩
  · refine aw_cond_t rfl hb5 ?_
    refine aw_seq ?_
    refine aw_region ?_
    refine rgp (op_build (zs := (eGVal zGVal)) (r := eGVal ({ fRef := false, fN := 0 } : GVal)) rfl Tryd_zer_35 (by exact ⟨rfl, rfl, trivial⟩) Tryd_plc_35 rfl rfl rfl rfl) ?_
    refine rmv ?_
    refine rgp (op_store_lp (n := 2) rfl rfl rfl rfl rfl (or_agg Tryd_agg_35) (by rw [Tryd_non_35]; rfl) rfl rfl rfl) ?_
    iterate 2 (refine ras ?_)
    refine reg_nil ?_
    refine post_imp (s' := ⟨33, [(8, some (.lp 0 0)), (9, some (.pv .nils)), (10, some (.pv (.int .i64 y3.2.2)))], [(0, some (.box 35 (bxv (eGVal ({ fRef := false, fN := 0 } : GVal)))))], 1, [], [], 0, []⟩) (imps [0] ⟨by kernel_rfl, by kernel_rfl, by kernel_rfl, trivial⟩ ⟨by kernel_rfl, trivial⟩) ?_
    refine post_next ?_
    refine aw_ret ?_
    refine post_then_ret ?_
    refine post_imp (imp_nil_vs 9 1 rfl) ?_
    obtain rfl := Option.some.inj hF
    exact post_ret rfl rfl (.cons _ _ _ _ _ (.agg _ _ _ _ _ 2 _ _ rfl rfl Tryd_agg_35 rfl rfl rfl) (.p _) (.cons _ _ _ _ _ (.tmp _ _ rfl) (.p _) (.cons _ _ _ _ _ (.tmp _ _ rfl) (.p _) .nil))) (.inl rfl)
  refine aw_cond_f rfl hb5 ?_
  refine aw_skip ?_
  refine post_next ?_
  refine aw_seq ?_
  refine aw_region ?_
  refine rmv ?_
  obtain ⟨y6, h7, hF⟩ := bind_some hF
  refine rgp (op_index_vs (k := .i64) rfl rfl rfl (idx_map eGVal h7) Tryd_slc_23 rfl rfl) ?_
  refine rgp (op_load_vp_agg (ps := eGVal y6) rfl rfl rfl rfl Tryd_agg_35 rfl rfl) ?_
  iterate 2 (refine rmv ?_)
  refine rgp (op_store_lp (n := 2) rfl rfl rfl rfl rfl (or_agg Tryd_agg_35) (by rw [Tryd_non_35]; rfl) rfl rfl rfl) ?_
  iterate 2 (refine ras ?_)
  refine reg_nil ?_
  refine post_imp (s' := ⟨33, [(8, some (.lp 0 0)), (9, some (.pv (.vs 1 (List.map eI y3.2.1)))), (10, some (.pv (.int .i64 y3.2.2)))], [(0, some (.box 35 (bxv (eGVal y6))))], 1, [], [], 0, []⟩) (imps [0] ⟨by kernel_rfl, by kernel_rfl, by kernel_rfl, trivial⟩ ⟨by kernel_rfl, trivial⟩) ?_
  refine post_next ?_
  refine aw_ret ?_
  obtain rfl := Option.some.inj hF
  exact post_ret rfl rfl (.cons _ _ _ _ _ (.agg _ _ _ _ _ 2 _ _ rfl rfl Tryd_agg_35 rfl rfl rfl) (.p _) (.cons _ _ _ _ _ (.tmp _ _ rfl) (.p _) (.cons _ _ _ _ _ (.tmp _ _ rfl) (.p _) .nil))) (.inl rfl)
theorem law39_awake_ok  {r : Bool} (hF : law39_awake = some r) : Abs.Fn globs_Tryd Tryd.prog 10 [] [.p (.bool r)] := by
  unfold law39_awake at hF
  refine fn_of_body (n := 38) Tryd.func10 rfl rfl rfl ?_
  intro w O
  refine aw_seq ?_
  refine aw_region ?_
  refine ras ?_
  refine reg_nil ?_
  refine post_imp (s' := ⟨38, [], [], 0, [], [], 0, []⟩) (imps [] trivial trivial) ?_
  refine post_next ?_
  refine aw_seq ?_
  refine aw_region ?_
  refine rgp (op_build (zs := (eGExpr zGExpr)) (r := eGExpr ({ fKind := 5, fNum := 0, fName := [], fKids := [] } : GExpr)) rfl Tryd_zer_31 (by exact ⟨rfl, rfl, rfl, trivial, trivial⟩) Tryd_plc_31 rfl rfl rfl rfl) ?_
  refine rgp (op_alloc 0 rfl (ps := (eGExpr zGExpr)) rfl Tryd_zer_31 (by exact ⟨rfl, rfl, rfl, trivial, trivial⟩) rfl rfl) ?_
  refine rgp (op_store_lp (n := 4) rfl rfl rfl rfl rfl (or_agg Tryd_agg_31) (by rw [Tryd_non_31]; rfl) rfl rfl rfl) ?_
  refine reg_nil ?_
  refine post_imp (s' := ⟨38, [(1, some (.lp 0 0))], [(0, some (.box 31 (bxv (eGExpr ({ fKind := 5, fNum := 0, fName := [], fKids := [] } : GExpr)))))], 1, [], [], 0, []⟩) (imps [0] ⟨by kernel_rfl, trivial⟩ ⟨by kernel_rfl, trivial⟩) ?_
  refine post_next ?_
  refine aw_seq ?_
  refine aw_region ?_
  refine rgp (op_build (zs := (eGFrame zGFrame)) (r := eGFrame ({ fThis := 0, fClass := [], fMethod := [], fVars := [], fPC := 0, fInto := 0 } : GFrame)) rfl Tryd_zer_25 (by exact ⟨rfl, rfl, rfl, trivial, rfl, rfl, trivial⟩) Tryd_plc_25 rfl rfl rfl rfl) ?_
  refine rgp (op_lit (rows := List.map eI ([3, 4, 5] : List Int)) (zs := [.int .i64 0]) rfl rfl Tryd_slc_26 Tryd_zer_3 (by exact ⟨rfl, trivial⟩) rfl rfl rfl rfl rfl rfl rfl rfl) ?_
  refine rgp (op_load_lp_agg (ps := eGExpr ({ fKind := 5, fNum := 0, fName := [], fKids := [] } : GExpr)) rfl rfl rfl rfl rfl rfl Tryd_agg_31 rfl rfl) ?_
  refine rgp (op_build (zs := (eGExpr zGExpr)) (r := eGExpr ({ fKind := 1, fNum := 2, fName := [], fKids := [] } : GExpr)) rfl Tryd_zer_31 (by exact ⟨rfl, rfl, rfl, trivial, trivial⟩) Tryd_plc_31 rfl rfl rfl rfl) ?_
  refine rgp (op_litR (rows := List.map eGExpr ([({ fKind := 5, fNum := 0, fName := [], fKids := [] } : GExpr), ({ fKind := 1, fNum := 2, fName := [], fKids := [] } : GExpr)] : List GExpr)) (rows' := eLGExpr ([({ fKind := 5, fNum := 0, fName := [], fKids := [] } : GExpr), ({ fKind := 1, fNum := 2, fName := [], fKids := [] } : GExpr)] : List GExpr)) (zs := (eGExpr zGExpr)) rfl rfl Tryd_slc_29 Tryd_zer_31 (by exact ⟨rfl, rfl, rfl, trivial, trivial⟩) rfl rfl rfl rfl rfl rfl (eLGExpr_map _) rfl rfl) ?_
  refine rgp (op_build (zs := (eGExpr zGExpr)) (r := eGExpr ({ fKind := 8, fNum := 0, fName := [], fKids := [({ fKind := 5, fNum := 0, fName := [], fKids := [] } : GExpr), ({ fKind := 1, fNum := 2, fName := [], fKids := [] } : GExpr)] } : GExpr)) rfl Tryd_zer_31 (by exact ⟨rfl, rfl, rfl, trivial, trivial⟩) Tryd_plc_31 rfl rfl rfl rfl) ?_
  refine rgp (op_load_lp_agg (ps := eGExpr ({ fKind := 5, fNum := 0, fName := [], fKids := [] } : GExpr)) rfl rfl rfl rfl rfl rfl Tryd_agg_31 rfl rfl) ?_
  refine rgp (op_litR (rows := List.map eGExpr ([({ fKind := 8, fNum := 0, fName := [], fKids := [({ fKind := 5, fNum := 0, fName := [], fKids := [] } : GExpr), ({ fKind := 1, fNum := 2, fName := [], fKids := [] } : GExpr)] } : GExpr), ({ fKind := 5, fNum := 0, fName := [], fKids := [] } : GExpr)] : List GExpr)) (rows' := eLGExpr ([({ fKind := 8, fNum := 0, fName := [], fKids := [({ fKind := 5, fNum := 0, fName := [], fKids := [] } : GExpr), ({ fKind := 1, fNum := 2, fName := [], fKids := [] } : GExpr)] } : GExpr), ({ fKind := 5, fNum := 0, fName := [], fKids := [] } : GExpr)] : List GExpr)) (zs := (eGExpr zGExpr)) rfl rfl Tryd_slc_29 Tryd_zer_31 (by exact ⟨rfl, rfl, rfl, trivial, trivial⟩) rfl rfl rfl rfl rfl rfl (eLGExpr_map _) rfl rfl) ?_
  refine rgp (op_build (zs := (eGExpr zGExpr)) (r := eGExpr ({ fKind := 6, fNum := 0, fName := [], fKids := [({ fKind := 8, fNum := 0, fName := [], fKids := [({ fKind := 5, fNum := 0, fName := [], fKids := [] } : GExpr), ({ fKind := 1, fNum := 2, fName := [], fKids := [] } : GExpr)] } : GExpr), ({ fKind := 5, fNum := 0, fName := [], fKids := [] } : GExpr)] } : GExpr)) rfl Tryd_zer_31 (by exact ⟨rfl, rfl, rfl, trivial, trivial⟩) Tryd_plc_31 rfl rfl rfl rfl) ?_
  obtain ⟨y3, h4, hF⟩ := bind_some hF
  refine rgp (op_call 1 rfl (caps := []) (args := [.nils, .agg (eGFrame ({ fThis := 0, fClass := [], fMethod := [], fVars := [], fPC := 0, fInto := 0 } : GFrame)), .vs 1 (List.map eI [3, 4, 5]), .agg (eGExpr ({ fKind := 6, fNum := 0, fName := [], fKids := [({ fKind := 8, fNum := 0, fName := [], fKids := [({ fKind := 5, fNum := 0, fName := [], fKids := [] } : GExpr), ({ fKind := 1, fNum := 2, fName := [], fKids := [] } : GExpr)] } : GExpr), ({ fKind := 5, fNum := 0, fName := [], fKids := [] } : GExpr)] } : GExpr))]) (rs := [.p (.agg (eGVal y3.1)), .p (.vs 1 (List.map eI y3.2.1)), .p (.int .i64 y3.2.2)]) rfl rfl rfl Tryd_cal_11 (Fn.nils 0 7 rfl (calc_Of_ok h4)) rfl rfl rfl) ?_
  refine rmv ?_
  iterate 3 (refine rgp (op_extract rfl rfl rfl rfl rfl) ?_)
  refine rgp (op_alloc 1 rfl (ps := (eGVal zGVal)) rfl Tryd_zer_35 (by exact ⟨rfl, rfl, trivial⟩) rfl rfl) ?_
  refine rgp (op_store_lp (n := 2) rfl rfl rfl rfl rfl (or_agg Tryd_agg_35) (by rw [Tryd_non_35]; rfl) rfl rfl rfl) ?_
  iterate 2 (refine ras ?_)
  refine reg_nil ?_
  refine post_imp (s' := ⟨38, [(2, some (.lp 0 0)), (3, some (.pv (.vs 1 (List.map eI y3.2.1)))), (4, some (.pv (.int .i64 y3.2.2)))], [(0, some (.box 35 (bxv (eGVal y3.1))))], 1, [], [], 0, []⟩) (imps [1] ⟨by kernel_rfl, by kernel_rfl, by kernel_rfl, trivial⟩ ⟨by kernel_rfl, trivial⟩) ?_
  refine post_next ?_
  refine aw_seq ?_
  refine aw_region ?_
  refine rgp (op_load_lp_agg (ps := eGVal y3.1) rfl rfl rfl rfl rfl rfl Tryd_agg_35 rfl rfl) ?_
  refine rgp (op_build (zs := (eGVal zGVal)) (r := eGVal ({ fRef := false, fN := 10 } : GVal)) rfl Tryd_zer_35 (by exact ⟨rfl, rfl, trivial⟩) Tryd_plc_35 rfl rfl rfl rfl) ?_
  refine rgp (op_eqAgg_eql (r := bGVal y3.1 ({ fRef := false, fN := 10 } : GVal)) rfl rfl rfl Tryd_eqt_35 rfl rfl rfl rfl rfl) ?_
  refine rmv ?_
  rcases ite_some hF with ⟨hb5, hF⟩ | ⟨hb5, hF⟩
  · refine rgn hb5 (op_move rfl rfl rfl rfl) ?_
    refine rgn hb5 (op_len_vs (n := y3.2.1.length) rfl rfl (List.length_map ..) Tryd_slc_26 rfl rfl) ?_
    refine rgn hb5 (op_int (k := .i64) (m := (y3.2.1.length : Int)) (n := 1) rfl rfl rfl rfl rfl rfl) ?_
    refine rpt hb5 ?_
    refine rmv ?_
    rcases ite_some hF with ⟨hb6, hF⟩ | ⟨hb6, hF⟩
    · refine rgn hb6 (op_move rfl rfl rfl rfl) ?_
      obtain ⟨y7, h8, hF⟩ := bind_some hF
      refine rgn hb6 (op_index_vs (k := .i64) rfl rfl rfl (idx_map eI h8) Tryd_slc_26 rfl rfl) ?_
      refine rgn hb6 (op_load_vp (p := .int .i64 y7) rfl rfl rfl Tryd_one_3 rfl rfl) ?_
      refine rgn hb6 (op_int (k := .i64) (m := y7) (n := 5) rfl rfl rfl rfl rfl rfl) ?_
      refine rpt hb6 ?_
      refine rmv ?_
      rcases ite_some hF with ⟨hb9, hF⟩ | ⟨hb9, hF⟩
      · refine rgn hb9 (op_move rfl rfl rfl rfl) ?_
        refine rgn hb9 (op_int (k := .i64) (m := y3.2.2) (n := 0) rfl rfl rfl rfl rfl rfl) ?_
        refine rpt hb9 ?_
        refine ras ?_
        refine reg_nil ?_
        refine post_imp (s' := ⟨38, [(0, some (.pv (.bool (y3.2.2 == 0))))], [], 0, [], [], 0, []⟩) (imps [] ⟨by kernel_rfl, trivial⟩ trivial) ?_
        refine post_next ?_
        refine aw_ret ?_
        obtain rfl := Option.some.inj hF
        exact prt
      iterate 2 (refine rgo_f hb9 ?_)
      refine rpf hb9 ?_
      refine ras ?_
      refine reg_nil ?_
      refine post_imp (s' := ⟨38, [(0, some (.pv (.bool false)))], [], 0, [], [], 0, []⟩) (imps [] ⟨by kernel_rfl, trivial⟩ trivial) ?_
      refine post_next ?_
      refine aw_ret ?_
      obtain rfl := Option.some.inj hF
      exact prt
    iterate 4 (refine rgo_f hb6 ?_)
    refine rpf hb6 ?_
    refine rmv ?_
    iterate 2 (refine rgo_f rfl ?_)
    refine rpf rfl ?_
    refine ras ?_
    refine reg_nil ?_
    refine post_imp (s' := ⟨38, [(0, some (.pv (.bool false)))], [], 0, [], [], 0, []⟩) (imps [] ⟨by kernel_rfl, trivial⟩ trivial) ?_
    refine post_next ?_
    refine aw_ret ?_
    obtain rfl := Option.some.inj hF
    exact prt
  iterate 3 (refine rgo_f hb5 ?_)
  refine rpf hb5 ?_
  refine rmv ?_
  iterate 4 (refine rgo_f rfl ?_)
  refine rpf rfl ?_
  refine rmv ?_
  iterate 2 (refine rgo_f rfl ?_)
  refine rpf rfl ?_
  refine ras ?_
  refine reg_nil ?_
  refine post_imp (s' := ⟨38, [(0, some (.pv (.bool false)))], [], 0, [], [], 0, []⟩) (imps [] ⟨by kernel_rfl, trivial⟩ trivial) ?_
  refine post_next ?_
  refine aw_ret ?_
  obtain rfl := Option.some.inj hF
  exact prt
theorem ref06_kids_ok {a0 : Int} {r : Int} (hF : ref06_kids a0 = some r) : Abs.Fn globs_Tryd Tryd.prog 80 [.int .i64 a0] [.p (.int .i64 r)] := by
  unfold ref06_kids at hF
  refine fn_of_body (n := 19) Tryd.func80 rfl rfl rfl ?_
  intro w O
  refine aw_seq ?_
  refine aw_region ?_
  refine ras ?_
  refine reg_nil ?_
  refine post_imp (s' := ⟨19, [(0, some (.pv (.int .i64 a0)))], [], 0, [], [], 0, []⟩) (imps [] ⟨by kernel_rfl, trivial⟩ trivial) ?_
  refine post_next ?_
  iterate 2 (refine aw_seq ?_)
  obtain ⟨x3, hF, hK5⟩ := bind_some hF
  refine aw_cut (fun s1 => s1 = ⟨19, [(0, some (.pv (.int .i64 a0))), (12, some (.pv (.bool x3)))], [], 0, [], [], 0, []⟩) ?_ ?_
  · refine aw_region ?_
    refine rmv ?_
    refine rgp (op_int (k := .i64) (m := a0) (n := 6) rfl rfl rfl rfl rfl rfl) ?_
    refine rmv ?_
    rcases ite_some hF with ⟨hb1, hF⟩ | ⟨hb1, hF⟩
    · refine rgn hb1 (op_move rfl rfl rfl rfl) ?_
      refine rgn hb1 (op_int (k := .i64) (m := a0) (n := 11) rfl rfl rfl rfl rfl rfl) ?_
      refine rpt hb1 ?_
      refine rmv ?_
      rcases ite_some hF with ⟨hb2, hF⟩ | ⟨hb2, hF⟩
      · refine rgo_t hb2 ?_
        refine rgo_t hb2 ?_
        refine rpt hb2 ?_
        refine reg_nil ?_
        cases hF
        exact post_cut _ rfl (imps [] ⟨by kernel_rfl, by kernel_rfl, trivial⟩ trivial)
      refine rgn hb2 (op_move rfl rfl rfl rfl) ?_
      refine rgn hb2 (op_int (k := .i64) (m := a0) (n := 14) rfl rfl rfl rfl rfl rfl) ?_
      refine rpf hb2 ?_
      refine reg_nil ?_
      cases hF
      exact post_cut _ rfl (imps [] ⟨by kernel_rfl, by kernel_rfl, trivial⟩ trivial)
    iterate 2 (refine rgo_f hb1 ?_)
    refine rpf hb1 ?_
    refine rmv ?_
    refine rgn rfl (op_move rfl rfl rfl rfl) ?_
    refine rgn rfl (op_int (k := .i64) (m := a0) (n := 14) rfl rfl rfl rfl rfl rfl) ?_
    refine rpf rfl ?_
    refine reg_nil ?_
    cases hF
    exact post_cut _ rfl (imps [] ⟨by kernel_rfl, by kernel_rfl, trivial⟩ trivial)
  rintro _ rfl
  have hF := hK5
  clear hK5
  refine post_next ?_
  rcases ite_some hF with ⟨hb6, hF⟩ | ⟨hb6, hF⟩
  · refine aw_cond_t rfl hb6 ?_
    refine aw_seq ?_
    refine aw_region ?_
    refine ras ?_
    refine reg_nil ?_
    refine post_imp (s' := ⟨19, [(2, some (.pv (.int .i64 2)))], [], 0, [], [], 0, []⟩) (imps [] ⟨by kernel_rfl, trivial⟩ trivial) ?_
    refine post_next ?_
    refine aw_ret ?_
    refine post_then_ret ?_
    obtain rfl := Option.some.inj hF
    exact prt
  refine aw_cond_f rfl hb6 ?_
  refine aw_skip ?_
  refine post_next ?_
  iterate 2 (refine aw_seq ?_)
  obtain ⟨x8, hF, hK10⟩ := bind_some hF
  refine aw_cut (fun s1 => s1 = ⟨19, [(18, some (.pv (.bool x8)))], [], 0, [], [], 0, []⟩) ?_ ?_
  · refine aw_region ?_
    refine rmv ?_
    refine rgp (op_int (k := .i64) (m := a0) (n := 12) rfl rfl rfl rfl rfl rfl) ?_
    refine rmv ?_
    rcases ite_some hF with ⟨hb7, hF⟩ | ⟨hb7, hF⟩
    · refine rgo_t hb7 ?_
      refine rgo_t hb7 ?_
      refine rpt hb7 ?_
      refine reg_nil ?_
      cases hF
      exact post_cut _ rfl (imps [] ⟨by kernel_rfl, trivial⟩ trivial)
    refine rgn hb7 (op_move rfl rfl rfl rfl) ?_
    refine rgn hb7 (op_int (k := .i64) (m := a0) (n := 13) rfl rfl rfl rfl rfl rfl) ?_
    refine rpf hb7 ?_
    refine reg_nil ?_
    cases hF
    exact post_cut _ rfl (imps [] ⟨by kernel_rfl, trivial⟩ trivial)
  rintro _ rfl
  have hF := hK10
  clear hK10
  refine post_next ?_
  rcases ite_some hF with ⟨hb11, hF⟩ | ⟨hb11, hF⟩
  · refine aw_cond_t rfl hb11 ?_
    refine aw_seq ?_
    refine aw_region ?_
    refine ras ?_
    refine reg_nil ?_
    refine post_imp (s' := ⟨19, [(2, some (.pv (.int .i64 1)))], [], 0, [], [], 0, []⟩) (imps [] ⟨by kernel_rfl, trivial⟩ trivial) ?_
    refine post_next ?_
    refine aw_ret ?_
    refine post_then_ret ?_
    obtain rfl := Option.some.inj hF
    exact prt
  refine aw_cond_f rfl hb11 ?_
  refine aw_skip ?_
  refine post_next ?_
  refine aw_seq ?_
  refine aw_region ?_
  refine ras ?_
  refine reg_nil ?_
  refine post_imp (s' := ⟨19, [(2, some (.pv (.int .i64 0)))], [], 0, [], [], 0, []⟩) (imps [] ⟨by kernel_rfl, trivial⟩ trivial) ?_
  refine post_next ?_
  refine aw_ret ?_
  obtain rfl := Option.some.inj hF
  exact prt
theorem ref02_Letter_ok {a0 : Int} {r : Bool} (hF : ref02_Letter a0 = some r) : Abs.Fn globs_Tryd Tryd.prog 112 [.int .u8 a0] [.p (.bool r)] := by
  unfold ref02_Letter at hF
  refine fn_of_body (n := 17) Tryd.func112 rfl rfl rfl ?_
  intro w O
  refine aw_seq ?_
  refine aw_region ?_
  refine ras ?_
  refine reg_nil ?_
  refine post_imp (s' := ⟨17, [(0, some (.pv (.int .u8 a0)))], [], 0, [], [], 0, []⟩) (imps [] ⟨by kernel_rfl, trivial⟩ trivial) ?_
  refine post_next ?_
  refine aw_seq ?_
  refine aw_region ?_
  refine rmv ?_
  refine rgp (op_int (k := .u8) (m := a0) (n := 97) rfl rfl rfl rfl rfl rfl) ?_
  refine rmv ?_
  rcases ite_some hF with ⟨hb1, hF⟩ | ⟨hb1, hF⟩
  · refine rgn hb1 (op_move rfl rfl rfl rfl) ?_
    refine rgn hb1 (op_int (k := .u8) (m := a0) (n := 122) rfl rfl rfl rfl rfl rfl) ?_
    refine rpt hb1 ?_
    refine rmv ?_
    rcases ite_some hF with ⟨hb2, hF⟩ | ⟨hb2, hF⟩
    · refine rgo_t hb2 ?_
      iterate 2 (refine rgo_t hb2 ?_)
      iterate 2 (refine rgu ?_)
      refine rgo_t hb2 ?_
      refine rpt hb2 ?_
      refine ras ?_
      refine reg_nil ?_
      refine post_imp (s' := ⟨17, [(2, some (.pv (.bool true)))], [], 0, [], [], 0, []⟩) (imps [] ⟨by kernel_rfl, trivial⟩ trivial) ?_
      refine post_next ?_
      refine aw_ret ?_
      obtain rfl := Option.some.inj hF
      exact prt
    refine rgn hb2 (op_move rfl rfl rfl rfl) ?_
    refine rgn hb2 (op_int (k := .u8) (m := a0) (n := 65) rfl rfl rfl rfl rfl rfl) ?_
    refine rgn hb2 (op_move rfl rfl rfl rfl) ?_
    rcases ite_some hF with ⟨hb3, hF⟩ | ⟨hb3, hF⟩
    · refine rgn hb3 (op_move rfl rfl rfl rfl) ?_
      refine rgn hb3 (op_int (k := .u8) (m := a0) (n := 90) rfl rfl rfl rfl rfl rfl) ?_
      refine rgn hb2 (op_pick_t rfl rfl hb3 rfl rfl rfl) ?_
      refine rpf hb2 ?_
      refine ras ?_
      refine reg_nil ?_
      refine post_imp (s' := ⟨17, [(2, some (.pv (.bool (decide (a0 ≤ 90)))))], [], 0, [], [], 0, []⟩) (imps [] ⟨by kernel_rfl, trivial⟩ trivial) ?_
      refine post_next ?_
      refine aw_ret ?_
      obtain rfl := Option.some.inj hF
      exact prt
    iterate 2 (refine rgo_f hb3 ?_)
    refine rgn hb2 (op_pick_f rfl rfl hb3 rfl rfl rfl) ?_
    refine rpf hb2 ?_
    refine ras ?_
    refine reg_nil ?_
    refine post_imp (s' := ⟨17, [(2, some (.pv (.bool false)))], [], 0, [], [], 0, []⟩) (imps [] ⟨by kernel_rfl, trivial⟩ trivial) ?_
    refine post_next ?_
    refine aw_ret ?_
    obtain rfl := Option.some.inj hF
    exact prt
  iterate 2 (refine rgo_f hb1 ?_)
  refine rpf hb1 ?_
  refine rmv ?_
  refine rgn rfl (op_move rfl rfl rfl rfl) ?_
  refine rgn rfl (op_int (k := .u8) (m := a0) (n := 65) rfl rfl rfl rfl rfl rfl) ?_
  refine rgn rfl (op_move rfl rfl rfl rfl) ?_
  rcases ite_some hF with ⟨hb4, hF⟩ | ⟨hb4, hF⟩
  · refine rgn hb4 (op_move rfl rfl rfl rfl) ?_
    refine rgn hb4 (op_int (k := .u8) (m := a0) (n := 90) rfl rfl rfl rfl rfl rfl) ?_
    refine rgn rfl (op_pick_t rfl rfl hb4 rfl rfl rfl) ?_
    refine rpf rfl ?_
    refine ras ?_
    refine reg_nil ?_
    refine post_imp (s' := ⟨17, [(2, some (.pv (.bool (decide (a0 ≤ 90)))))], [], 0, [], [], 0, []⟩) (imps [] ⟨by kernel_rfl, trivial⟩ trivial) ?_
    refine post_next ?_
    refine aw_ret ?_
    obtain rfl := Option.some.inj hF
    exact prt
  iterate 2 (refine rgo_f hb4 ?_)
  refine rgn rfl (op_pick_f rfl rfl hb4 rfl rfl rfl) ?_
  refine rpf rfl ?_
  refine ras ?_
  refine reg_nil ?_
  refine post_imp (s' := ⟨17, [(2, some (.pv (.bool false)))], [], 0, [], [], 0, []⟩) (imps [] ⟨by kernel_rfl, trivial⟩ trivial) ?_
  refine post_next ?_
  refine aw_ret ?_
  obtain rfl := Option.some.inj hF
  exact prt
theorem ref02_Words_ok  {r : (List (List UInt8))} (hF : ref02_Words = some r) : Abs.Fn globs_Tryd Tryd.prog 132 [] [.p (.vs 1 (List.map eS r))] := by
  unfold ref02_Words at hF
  refine fn_of_body (n := 2) Tryd.func132 rfl rfl rfl ?_
  intro w O
  refine aw_seq ?_
  refine aw_region ?_
  refine ras ?_
  refine reg_nil ?_
  refine post_imp (s' := ⟨2, [], [], 0, [], [], 0, []⟩) (imps [] trivial trivial) ?_
  refine post_next ?_
  refine aw_seq ?_
  refine aw_region ?_
  refine rgp (op_lit (rows := List.map eS ([[99, 108, 97, 115, 115], [101, 120, 116, 101, 110, 100, 115], [114, 101, 112], [112, 101, 101, 114], [119, 111, 114, 108, 100], [97, 110, 121], [117, 110, 105, 113, 117, 101], [112, 117, 114, 101], [118, 111, 105, 100], [105, 110, 116], [105, 102], [101, 108, 115, 101], [119, 104, 105, 108, 101], [114, 101, 116, 117, 114, 110], [110, 101, 119], [109, 111, 118, 101], [100, 101, 108, 101, 116, 101], [116, 104, 105, 115], [110, 117, 108, 108], [105, 110, 112, 117, 116], [110, 105, 108], [115, 97, 109, 101], [99, 97, 115, 116]] : List (List UInt8))) (zs := [.str []]) rfl rfl Tryd_slc_77 Tryd_zer_9 (by exact ⟨rfl, trivial⟩) rfl rfl rfl rfl rfl rfl rfl rfl) ?_
  refine ras ?_
  refine reg_nil ?_
  refine post_imp (s' := ⟨2, [(0, some (.pv (.vs 1 (List.map eS [[99, 108, 97, 115, 115], [101, 120, 116, 101, 110, 100, 115], [114, 101, 112], [112, 101, 101, 114], [119, 111, 114, 108, 100], [97, 110, 121], [117, 110, 105, 113, 117, 101], [112, 117, 114, 101], [118, 111, 105, 100], [105, 110, 116], [105, 102], [101, 108, 115, 101], [119, 104, 105, 108, 101], [114, 101, 116, 117, 114, 110], [110, 101, 119], [109, 111, 118, 101], [100, 101, 108, 101, 116, 101], [116, 104, 105, 115], [110, 117, 108, 108], [105, 110, 112, 117, 116], [110, 105, 108], [115, 97, 109, 101], [99, 97, 115, 116]]))))], [], 0, [], [], 0, []⟩) (imps [] ⟨by kernel_rfl, trivial⟩ trivial) ?_
  refine post_next ?_
  refine aw_ret ?_
  obtain rfl := Option.some.inj hF
  exact prt
theorem ref02_Find_ok {a0 : List UInt8} {r : Int} (hF : ref02_Find a0 = some r) : Abs.Fn globs_Tryd Tryd.prog 113 [.str a0] [.p (.int .i64 r)] := by
  unfold ref02_Find at hF
  refine fn_of_body (n := 20) Tryd.func113 rfl rfl rfl ?_
  intro w O
  refine aw_seq ?_
  refine aw_region ?_
  refine ras ?_
  refine reg_nil ?_
  refine post_imp (s' := ⟨20, [(0, some (.pv (.str a0)))], [], 0, [], [], 0, []⟩) (imps [] ⟨by kernel_rfl, trivial⟩ trivial) ?_
  refine post_next ?_
  refine aw_seq ?_
  refine aw_region ?_
  obtain ⟨y3, h4, hF⟩ := bind_some hF
  refine rgp (op_call 0 rfl (caps := []) (args := []) (rs := [.p (.vs 1 (List.map eS y3))]) rfl rfl rfl Tryd_cal_132 (ref02_Words_ok h4) rfl rfl rfl) ?_
  refine ras ?_
  refine reg_nil ?_
  refine post_imp (s' := ⟨20, [(0, some (.pv (.str a0))), (3, some (.pv (.vs 1 (List.map eS y3))))], [], 0, [], [], 0, []⟩) (imps [] ⟨by kernel_rfl, by kernel_rfl, trivial⟩ trivial) ?_
  refine post_next ?_
  iterate 2 (refine aw_seq ?_)
  refine aw_region ?_
  refine ras ?_
  refine reg_nil ?_
  refine post_imp (s' := ⟨20, [(0, some (.pv (.str a0))), (3, some (.pv (.vs 1 (List.map eS y3)))), (4, some (.pv (.int .i64 0)))], [], 0, [], [], 0, []⟩) (imps [] ⟨by kernel_rfl, by kernel_rfl, by kernel_rfl, trivial⟩ trivial) ?_
  refine post_next ?_
  obtain ⟨lr26, hF, hK27⟩ := bind_some hF
  refine aw_for ((((y3.length : Int) : Int) - (0)).toNat + 1) (fun s1 => ∃ q, lr26 = .next q ∧ s1 = ⟨20, [], [], 0, [], [], 0, []⟩) ?_ ?_
  · refine rnd_loop (α := Int) (fun q => ⟨20, [(0, some (.pv (.str a0))), (3, some (.pv (.vs 1 (List.map eS y3)))), (4, some (.pv (.int .i64 q)))], [], 0, [], [], 0, []⟩) (fun k q => ref02_Find_L1 a0 y3 k q = some lr26) 0 (imps [] ⟨by kernel_rfl, by kernel_rfl, by kernel_rfl, trivial⟩ trivial) hF (fun q h => by cases h) ?_
    clear hF
    rintro k x11 hF ih
    refine rnd_succ ?_
    iterate 2 (refine aw_seq ?_)
    refine aw_region ?_
    iterate 2 (refine rmv ?_)
    refine rgp (op_len_vs (n := y3.length) rfl rfl (List.length_map ..) Tryd_slc_77 rfl rfl) ?_
    refine rgp (op_int (k := .i64) (m := x11) (n := (y3.length : Int)) rfl rfl rfl rfl rfl rfl) ?_
    refine reg_nil ?_
    refine post_imp (s' := ⟨20, [(0, some (.pv (.str a0))), (3, some (.pv (.vs 1 (List.map eS y3)))), (4, some (.pv (.int .i64 x11))), (9, some (.pv (.bool (decide (x11 < (y3.length : Int))))))], [], 0, [], [], 0, []⟩) (imps [] ⟨by kernel_rfl, by kernel_rfl, by kernel_rfl, by kernel_rfl, trivial⟩ trivial) ?_
    refine post_next ?_
    rcases ite_some hF with ⟨hb19, hF⟩ | ⟨hb19, hF⟩
    · refine aw_cond_t rfl hb19 ?_
      refine aw_skip ?_
      refine post_next ?_
      refine aw_seq ?_
      refine aw_block ?_
      refine aw_seq ?_
      refine aw_region ?_
      iterate 2 (refine rmv ?_)
      obtain ⟨y22, h23, hF⟩ := bind_some hF
      refine rgp (op_index_vs (k := .i64) rfl rfl rfl (idx_map eS h23) Tryd_slc_77 rfl rfl) ?_
      refine rgp (op_load_vp (p := .str y22) rfl rfl rfl Tryd_one_9 rfl rfl) ?_
      refine rmv ?_
      refine rgp (op_str rfl rfl rfl rfl rfl rfl) ?_
      refine reg_nil ?_
      refine post_imp (s' := ⟨20, [(0, some (.pv (.str a0))), (3, some (.pv (.vs 1 (List.map eS y3)))), (4, some (.pv (.int .i64 x11))), (17, some (.pv (.bool (y22 == a0))))], [], 0, [], [], 0, []⟩) (imps [] ⟨by kernel_rfl, by kernel_rfl, by kernel_rfl, by kernel_rfl, trivial⟩ trivial) ?_
      refine post_next ?_
      rcases ite_some hF with ⟨hb24, hF⟩ | ⟨hb24, hF⟩
      · refine aw_cond_t rfl hb24 ?_
        refine aw_seq ?_
        refine aw_region ?_
        refine rmv ?_
        refine rgp (op_int (k := .i64) (m := x11) (n := 1) rfl rfl rfl rfl rfl rfl) ?_
        refine ras ?_
        refine reg_nil ?_
        refine post_imp (s' := ⟨20, [(2, some (.pv (.int .i64 (w_i64 (x11 + 1)))))], [], 0, [], [], 0, []⟩) (imps [] ⟨by kernel_rfl, trivial⟩ trivial) ?_
        refine post_next ?_
        refine aw_ret ?_
        refine post_block_ret ?_
        iterate 2 (refine post_then_ret ?_)
        refine post_lp_ret ?_
        obtain rfl := Option.some.inj hF
        have hF := elim_stop hK27
        refine post_then_ret ?_
        obtain rfl := Option.some.inj hF
        exact prt
      refine aw_cond_f rfl hb24 ?_
      refine aw_skip ?_
      refine post_block_normal ?_
      refine post_next ?_
      refine aw_region ?_
      refine rmv ?_
      refine rgp (op_int (k := .i64) (m := x11) (n := 1) rfl rfl rfl rfl rfl rfl) ?_
      refine ras ?_
      refine reg_nil ?_
      refine post_round ?_
      exact rnd_back (ih (w_i64 (x11 + 1)) hF) (imps [] ⟨by kernel_rfl, by kernel_rfl, by kernel_rfl, trivial⟩ trivial)
    refine aw_cond_f rfl hb19 ?_
    refine aw_exit ?_
    iterate 2 (refine post_then_exit ?_)
    obtain rfl := Option.some.inj hF
    exact post_lp_break _ ⟨_, rfl, rfl⟩ (imps [] trivial trivial)
  rintro _ ⟨⟨⟩, rfl, rfl⟩
  have hF := elim_next hK27
  clear hK27
  refine post_next ?_
  refine aw_seq ?_
  refine aw_region ?_
  refine ras ?_
  refine reg_nil ?_
  refine post_imp (s' := ⟨20, [(2, some (.pv (.int .i64 0)))], [], 0, [], [], 0, []⟩) (imps [] ⟨by kernel_rfl, trivial⟩ trivial) ?_
  refine post_next ?_
  refine aw_ret ?_
  obtain rfl := Option.some.inj hF
  exact prt
theorem ref02_Digit_ok {a0 : Int} {r : Bool} (hF : ref02_Digit a0 = some r) : Abs.Fn globs_Tryd Tryd.prog 114 [.int .u8 a0] [.p (.bool r)] := by
  unfold ref02_Digit at hF
  refine fn_of_body (n := 9) Tryd.func114 rfl rfl rfl ?_
  intro w O
  refine aw_seq ?_
  refine aw_region ?_
  refine ras ?_
  refine reg_nil ?_
  refine post_imp (s' := ⟨9, [(0, some (.pv (.int .u8 a0)))], [], 0, [], [], 0, []⟩) (imps [] ⟨by kernel_rfl, trivial⟩ trivial) ?_
  refine post_next ?_
  refine aw_seq ?_
  refine aw_region ?_
  refine rmv ?_
  refine rgp (op_int (k := .u8) (m := a0) (n := 48) rfl rfl rfl rfl rfl rfl) ?_
  refine rmv ?_
  rcases ite_some hF with ⟨hb1, hF⟩ | ⟨hb1, hF⟩
  · refine rgn hb1 (op_move rfl rfl rfl rfl) ?_
    refine rgn hb1 (op_int (k := .u8) (m := a0) (n := 57) rfl rfl rfl rfl rfl rfl) ?_
    refine rpt hb1 ?_
    refine ras ?_
    refine reg_nil ?_
    refine post_imp (s' := ⟨9, [(2, some (.pv (.bool (decide (a0 ≤ 57)))))], [], 0, [], [], 0, []⟩) (imps [] ⟨by kernel_rfl, trivial⟩ trivial) ?_
    refine post_next ?_
    refine aw_ret ?_
    obtain rfl := Option.some.inj hF
    exact prt
  iterate 2 (refine rgo_f hb1 ?_)
  refine rpf hb1 ?_
  refine ras ?_
  refine reg_nil ?_
  refine post_imp (s' := ⟨9, [(2, some (.pv (.bool false)))], [], 0, [], [], 0, []⟩) (imps [] ⟨by kernel_rfl, trivial⟩ trivial) ?_
  refine post_next ?_
  refine aw_ret ?_
  obtain rfl := Option.some.inj hF
  exact prt
theorem ref02_Name_ok {a0 : List UInt8} {r : Bool} (hF : ref02_Name a0 = some r) : Abs.Fn globs_Tryd Tryd.prog 81 [.str a0] [.p (.bool r)] := by
  unfold ref02_Name at hF
  refine fn_of_body (n := 41) Tryd.func81 rfl rfl rfl ?_
  intro w O
  refine aw_seq ?_
  refine aw_region ?_
  refine ras ?_
  refine reg_nil ?_
  refine post_imp (s' := ⟨41, [(0, some (.pv (.str a0)))], [], 0, [], [], 0, []⟩) (imps [] ⟨by kernel_rfl, trivial⟩ trivial) ?_
  refine post_next ?_
  iterate 2 (refine aw_seq ?_)
  obtain ⟨x10, hF, hK12⟩ := bind_some hF
  refine aw_cut (fun s1 => s1 = ⟨41, [(0, some (.pv (.str a0))), (22, some (.pv (.bool x10)))], [], 0, [], [], 0, []⟩) ?_ ?_
  · refine aw_region ?_
    refine rmv ?_
    refine rgp (op_len_str rfl rfl Tryd_und_9 rfl rfl) ?_
    refine rgp (op_int (k := .i64) (m := (a0.length : Int)) (n := 1) rfl rfl rfl rfl rfl rfl) ?_
    refine rmv ?_
    rcases ite_some hF with ⟨hb1, hF⟩ | ⟨hb1, hF⟩
    · refine rgo_t hb1 ?_
      iterate 2 (refine rgo_t hb1 ?_)
      refine rpt hb1 ?_
      refine rmv ?_
      iterate 4 (refine rgo_t rfl ?_)
      refine rpt rfl ?_
      refine rmv ?_
      iterate 3 (refine rgo_t rfl ?_)
      refine rpt rfl ?_
      refine reg_nil ?_
      cases hF
      exact post_cut _ rfl (imps [] ⟨by kernel_rfl, by kernel_rfl, trivial⟩ trivial)
    refine rgn hb1 (op_move rfl rfl rfl rfl) ?_
    refine rgn hb1 (op_len_str rfl rfl Tryd_und_9 rfl rfl) ?_
    refine rgn hb1 (op_int (k := .i64) (m := (a0.length : Int)) (n := 20) rfl rfl rfl rfl rfl rfl) ?_
    refine rpf hb1 ?_
    refine rmv ?_
    rcases ite_some hF with ⟨hb2, hF⟩ | ⟨hb2, hF⟩
    · refine rgo_t hb2 ?_
      iterate 3 (refine rgo_t hb2 ?_)
      refine rpt hb2 ?_
      refine rmv ?_
      iterate 3 (refine rgo_t rfl ?_)
      refine rpt rfl ?_
      refine reg_nil ?_
      cases hF
      exact post_cut _ rfl (imps [] ⟨by kernel_rfl, by kernel_rfl, trivial⟩ trivial)
    refine rgn hb2 (op_move rfl rfl rfl rfl) ?_
    obtain ⟨y3, h4, hF⟩ := bind_some hF
    refine rgn hb2 (op_index_str (k := .i64) rfl rfl rfl h4 Tryd_und_9 rfl rfl) ?_
    obtain ⟨y5, h6, hF⟩ := bind_some hF
    refine rgn hb2 (op_call 0 rfl (caps := []) (args := [.int .u8 (y3.toNat : Int)]) (rs := [.p (.bool y5)]) rfl rfl rfl Tryd_cal_112 (ref02_Letter_ok h6) rfl rfl rfl) ?_
    refine rgn hb2 (op_not rfl rfl rfl rfl) ?_
    refine rpf hb2 ?_
    refine rmv ?_
    rcases ite_some hF with ⟨hb7, hF⟩ | ⟨hb7, hF⟩
    · refine rgo_t hb7 ?_
      iterate 2 (refine rgo_t hb7 ?_)
      refine rpt hb7 ?_
      refine reg_nil ?_
      cases hF
      exact post_cut _ rfl (imps [] ⟨by kernel_rfl, by kernel_rfl, trivial⟩ trivial)
    refine rgn hb7 (op_move rfl rfl rfl rfl) ?_
    obtain ⟨y8, h9, hF⟩ := bind_some hF
    refine rgn hb7 (op_call 0 rfl (caps := []) (args := [.str a0]) (rs := [.p (.int .i64 y8)]) rfl rfl rfl Tryd_cal_113 (ref02_Find_ok h9) rfl rfl rfl) ?_
    refine rgn hb7 (op_int (k := .i64) (m := y8) (n := 0) rfl rfl rfl rfl rfl rfl) ?_
    refine rpf hb7 ?_
    refine reg_nil ?_
    cases hF
    exact post_cut _ rfl (imps [] ⟨by kernel_rfl, by kernel_rfl, trivial⟩ trivial)
  rintro _ rfl
  have hF := hK12
  clear hK12
  refine post_next ?_
  rcases ite_some hF with ⟨hb13, hF⟩ | ⟨hb13, hF⟩
  · refine aw_cond_t rfl hb13 ?_
    refine aw_seq ?_
    refine aw_region ?_
    refine ras ?_
    refine reg_nil ?_
    refine post_imp (s' := ⟨41, [(2, some (.pv (.bool false)))], [], 0, [], [], 0, []⟩) (imps [] ⟨by kernel_rfl, trivial⟩ trivial) ?_
    refine post_next ?_
    refine aw_ret ?_
    refine post_then_ret ?_
    obtain rfl := Option.some.inj hF
    exact prt
  refine aw_cond_f rfl hb13 ?_
  refine aw_skip ?_
  refine post_next ?_
  iterate 2 (refine aw_seq ?_)
  refine aw_region ?_
  refine ras ?_
  refine reg_nil ?_
  refine post_imp (s' := ⟨41, [(0, some (.pv (.str a0))), (3, some (.pv (.int .i64 0)))], [], 0, [], [], 0, []⟩) (imps [] ⟨by kernel_rfl, by kernel_rfl, trivial⟩ trivial) ?_
  refine post_next ?_
  obtain ⟨lr71, hF, hK72⟩ := bind_some hF
  refine aw_for ((((a0.length : Int) : Int) - (0)).toNat + 1) (fun s1 => ∃ q, lr71 = .next q ∧ s1 = ⟨41, [], [], 0, [], [], 0, []⟩) ?_ ?_
  · refine rnd_loop (α := Int) (fun q => ⟨41, [(0, some (.pv (.str a0))), (3, some (.pv (.int .i64 q)))], [], 0, [], [], 0, []⟩) (fun k q => ref02_Name_L1 a0 k q = some lr71) 0 (imps [] ⟨by kernel_rfl, by kernel_rfl, trivial⟩ trivial) hF (fun q h => by cases h) ?_
    clear hF
    rintro k x32 hF ih
    refine rnd_succ ?_
    iterate 2 (refine aw_seq ?_)
    refine aw_region ?_
    iterate 2 (refine rmv ?_)
    refine rgp (op_len_str rfl rfl Tryd_und_9 rfl rfl) ?_
    refine rgp (op_int (k := .i64) (m := x32) (n := (a0.length : Int)) rfl rfl rfl rfl rfl rfl) ?_
    refine reg_nil ?_
    refine post_imp (s' := ⟨41, [(0, some (.pv (.str a0))), (3, some (.pv (.int .i64 x32))), (26, some (.pv (.bool (decide (x32 < (a0.length : Int))))))], [], 0, [], [], 0, []⟩) (imps [] ⟨by kernel_rfl, by kernel_rfl, by kernel_rfl, trivial⟩ trivial) ?_
    refine post_next ?_
    rcases ite_some hF with ⟨hb52, hF⟩ | ⟨hb52, hF⟩
    · refine aw_cond_t rfl hb52 ?_
      refine aw_skip ?_
      refine post_next ?_
      refine aw_seq ?_
      refine aw_block ?_
      refine aw_seq ?_
      obtain ⟨x66, hF, hK68⟩ := bind_some hF
      refine aw_cut (fun s1 => s1 = ⟨41, [(0, some (.pv (.str a0))), (3, some (.pv (.int .i64 x32))), (40, some (.pv (.bool x66)))], [], 0, [], [], 0, []⟩) ?_ ?_
      · refine aw_region ?_
        iterate 2 (refine rmv ?_)
        obtain ⟨y57, h58, hF⟩ := bind_some hF
        refine rgp (op_index_str (k := .i64) rfl rfl rfl h58 Tryd_und_9 rfl rfl) ?_
        obtain ⟨y59, h60, hF⟩ := bind_some hF
        refine rgp (op_call 0 rfl (caps := []) (args := [.int .u8 (y57.toNat : Int)]) (rs := [.p (.bool y59)]) rfl rfl rfl Tryd_cal_112 (ref02_Letter_ok h60) rfl rfl rfl) ?_
        refine rgp (op_not rfl rfl rfl rfl) ?_
        refine rmv ?_
        rcases ite_some hF with ⟨hb61, hF⟩ | ⟨hb61, hF⟩
        · refine rgn hb61 (op_move rfl rfl rfl rfl) ?_
          refine rgn hb61 (op_move rfl rfl rfl rfl) ?_
          obtain ⟨y62, h63, hF⟩ := bind_some hF
          refine rgn hb61 (op_index_str (k := .i64) rfl rfl rfl h63 Tryd_und_9 rfl rfl) ?_
          obtain ⟨y64, h65, hF⟩ := bind_some hF
          refine rgn hb61 (op_call 0 rfl (caps := []) (args := [.int .u8 (y62.toNat : Int)]) (rs := [.p (.bool y64)]) rfl rfl rfl Tryd_cal_114 (ref02_Digit_ok h65) rfl rfl rfl) ?_
          refine rgn hb61 (op_not rfl rfl rfl rfl) ?_
          refine rpt hb61 ?_
          refine reg_nil ?_
          cases hF
          exact post_cut _ rfl (imps [] ⟨by kernel_rfl, by kernel_rfl, by kernel_rfl, trivial⟩ trivial)
        iterate 5 (refine rgo_f hb61 ?_)
        refine rpf hb61 ?_
        refine reg_nil ?_
        cases hF
        exact post_cut _ rfl (imps [] ⟨by kernel_rfl, by kernel_rfl, by kernel_rfl, trivial⟩ trivial)
      rintro _ rfl
      have hF := hK68
      clear hK68
      refine post_next ?_
      rcases ite_some hF with ⟨hb69, hF⟩ | ⟨hb69, hF⟩
      · refine aw_cond_t rfl hb69 ?_
        refine aw_seq ?_
        refine aw_region ?_
        refine ras ?_
        refine reg_nil ?_
        refine post_imp (s' := ⟨41, [(2, some (.pv (.bool false)))], [], 0, [], [], 0, []⟩) (imps [] ⟨by kernel_rfl, trivial⟩ trivial) ?_
        refine post_next ?_
        refine aw_ret ?_
        refine post_block_ret ?_
        iterate 2 (refine post_then_ret ?_)
        refine post_lp_ret ?_
        obtain rfl := Option.some.inj hF
        have hF := elim_stop hK72
        refine post_then_ret ?_
        obtain rfl := Option.some.inj hF
        exact prt
      refine aw_cond_f rfl hb69 ?_
      refine aw_skip ?_
      refine post_block_normal ?_
      refine post_next ?_
      refine aw_region ?_
      refine rmv ?_
      refine rgp (op_int (k := .i64) (m := x32) (n := 1) rfl rfl rfl rfl rfl rfl) ?_
      refine ras ?_
      refine reg_nil ?_
      refine post_round ?_
      exact rnd_back (ih (w_i64 (x32 + 1)) hF) (imps [] ⟨by kernel_rfl, by kernel_rfl, trivial⟩ trivial)
    refine aw_cond_f rfl hb52 ?_
    refine aw_exit ?_
    iterate 2 (refine post_then_exit ?_)
    obtain rfl := Option.some.inj hF
    exact post_lp_break _ ⟨_, rfl, rfl⟩ (imps [] trivial trivial)
  rintro _ ⟨⟨⟩, rfl, rfl⟩
  have hF := elim_next hK72
  clear hK72
  refine post_next ?_
  refine aw_seq ?_
  refine aw_region ?_
  refine ras ?_
  refine reg_nil ?_
  refine post_imp (s' := ⟨41, [(2, some (.pv (.bool true)))], [], 0, [], [], 0, []⟩) (imps [] ⟨by kernel_rfl, trivial⟩ trivial) ?_
  refine post_next ?_
  refine aw_ret ?_
  obtain rfl := Option.some.inj hF
  exact prt
abbrev ref06_form_e165 (a0 : GExpr) : Eff := { need := [(36, .pv (.bool (a0.fKind != 2))), (37, .lp 0 2)], hneed := [(0, .box 31 (bxv (eGExpr a0)))], dst := some 38, val := some (.pv (.str a0.fName)) }
abbrev ref06_form_e166 (a0 : GExpr) : Eff := { need := [(36, .pv (.bool (a0.fKind != 2))), (38, .pv (.str a0.fName))], dst := some 39, val := some (.pv (.bool (!(a0.fName == [])))) }
abbrev ref06_form_e170 (a0 : GExpr) : Eff := { need := [(42, .pv (.bool (!(a0.fName == [])))), (43, .lp 0 1)], hneed := [(0, .box 31 (bxv (eGExpr a0)))], dst := some 44, val := some (.pv (.int .i64 a0.fNum)) }
abbrev ref06_form_e171 (a0 : GExpr) : Eff := { need := [(42, .pv (.bool (!(a0.fName == [])))), (44, .pv (.int .i64 a0.fNum))], dst := some 45, val := some (.pv (.bool (decide (a0.fNum < 0)))) }
abbrev ref06_form_e172 (a0 : GExpr) : Eff := { need := [(42, .pv (.bool (!(a0.fName == [])))), (45, .pv (.bool (decide (a0.fNum < 0))))], dst := some 46, val := some (.pv (.bool (decide (a0.fNum < 0)))) }
abbrev ref06_form_e173 (a0 : GExpr) : Eff := { need := [(47, .pv (.bool (decide (a0.fNum < 0)))), (1, .lp 0 0)], dst := some 48, val := some (.lp 0 1) }
abbrev ref06_form_e174 (a0 : GExpr) : Eff := { need := [(47, .pv (.bool (decide (a0.fNum < 0)))), (48, .lp 0 1)], hneed := [(0, .box 31 (bxv (eGExpr a0)))], dst := some 49, val := some (.pv (.int .i64 a0.fNum)) }
abbrev ref06_form_e175 (a0 : GExpr) : Eff := { need := [(47, .pv (.bool (decide (a0.fNum < 0)))), (49, .pv (.int .i64 a0.fNum))], dst := some 50, val := some (.pv (.bool (decide (a0.fNum > 999999999)))) }
abbrev ref06_form_e176 (a0 : GExpr) : Eff := { need := [(47, .pv (.bool (decide (a0.fNum < 0)))), (50, .pv (.bool (decide (a0.fNum > 999999999))))], dst := some 51, val := some (.pv (.bool (decide (a0.fNum > 999999999)))) }
abbrev ref06_form_e177 (a0 : GExpr) : Eff := { need := [(52, .pv (.bool (decide (a0.fNum > 999999999)))), (1, .lp 0 0)], dst := some 53, val := some (.lp 0 0) }
abbrev ref06_form_e178 (a0 : GExpr) : Eff := { need := [(52, .pv (.bool (decide (a0.fNum > 999999999)))), (53, .lp 0 0)], hneed := [(0, .box 31 (bxv (eGExpr a0)))], dst := some 54, val := some (.pv (.int .i64 a0.fKind)) }
abbrev ref06_form_e179 (a0 : GExpr) : Eff := { need := [(52, .pv (.bool (decide (a0.fNum > 999999999)))), (54, .pv (.int .i64 a0.fKind))], dst := some 55, val := some (.pv (.bool (a0.fKind == 2))) }
abbrev ref06_form_e180 (a0 : GExpr) : Eff := { need := [(52, .pv (.bool (decide (a0.fNum > 999999999)))), (55, .pv (.bool (a0.fKind == 2)))], dst := some 56, val := some (.pv (.bool (a0.fKind == 2))) }
abbrev ref06_form_e181 (a0 : GExpr) : Eff := { need := [(56, .pv (.bool (a0.fKind == 2))), (1, .lp 0 0)], dst := some 57, val := some (.lp 0 2) }
abbrev ref06_form_e182 (a0 : GExpr) : Eff := { need := [(56, .pv (.bool (a0.fKind == 2))), (57, .lp 0 2)], hneed := [(0, .box 31 (bxv (eGExpr a0)))], dst := some 58, val := some (.pv (.str a0.fName)) }
abbrev ref06_form_e187 (a0 : GExpr) : Eff := { need := [(52, .pv (.bool (decide (a0.fNum > 999999999)))), (56, .pv (.bool (a0.fKind == 2)))], dst := some 61, val := some (.pv (.bool false)) }
abbrev ref06_form_e188 (a0 : GExpr) : Eff := { need := [(52, .pv (.bool (decide (a0.fNum > 999999999)))), (61, .pv (.bool false))], dst := some 62, val := some (.pv (.bool false)) }
abbrev ref06_form_e192 (a0 : GExpr) : Eff := { need := [(42, .pv (.bool false)), (43, .lp 0 1)], hneed := [(0, .box 31 (bxv (eGExpr a0)))], dst := some 44, val := some (.pv (.int .i64 a0.fNum)) }
abbrev ref06_form_e193 (a0 : GExpr) : Eff := { need := [(42, .pv (.bool false)), (44, .pv (.int .i64 a0.fNum))], dst := some 45, val := some (.pv (.bool (decide (a0.fNum < 0)))) }
abbrev ref06_form_e194 (a0 : GExpr) : Eff := { need := [(42, .pv (.bool false)), (45, .pv (.bool (decide (a0.fNum < 0))))], dst := some 46, val := some (.pv (.bool (decide (a0.fNum < 0)))) }
theorem ref06_form_ring : ∀ n : Nat, (∀ (a0 : GExpr) (r : Bool), ref06_form n a0 = some r → Abs.Fn globs_Tryd Tryd.prog 55 [.agg (eGExpr a0)] [.p (.bool r)]) := by
  intro n
  induction n with
  | zero => exact (fun _ _ h => by simp [ref06_form] at h)
  | succ n ih =>
    have ref06_form_ih := ih
    clear ih
    intro a0 r hF
    unfold ref06_form at hF
    revert hF ref06_form_ih
    generalize ref06_form n = ref06_form_rec
    intro ref06_form_ih hF
    refine fn_of_body (n := 113) Tryd.func55 rfl rfl rfl ?_
    intro w O
    refine aw_seq ?_
    refine aw_region ?_
    refine rgp (op_box 0 rfl rfl rfl rfl rfl rfl) ?_
    refine ras ?_
    refine reg_nil ?_
    refine post_imp (s' := ⟨113, [(1, some (.lp 0 0))], [(0, some (.box 31 (bxv (eGExpr a0))))], 1, [], [], 0, []⟩) (imps [0] ⟨by kernel_rfl, trivial⟩ ⟨by kernel_rfl, trivial⟩) ?_
    refine post_next ?_
    iterate 2 (refine aw_seq ?_)
    obtain ⟨x32, hF, hK34⟩ := bind_some hF
    refine aw_cut (fun s1 => s1 = ⟨113, [(1, some (.lp 0 0)), (62, some (.pv (.bool x32)))], [(0, some (.box 31 (bxv (eGExpr a0))))], 1, [], [], 0, []⟩) ?_ ?_
    · refine dr_start ⟨_, _, _⟩ rfl ?_
      refine dr_cons { need := [(1, .lp 0 0)], dst := some 5, val := some (.lp 0 0) } (fun m h => step_on (guard_no rfl) (op_field_lp rfl h.1.1 Tryd_fld_31_0 rfl rfl) rfl) ⟨⟨rfl, trivial⟩, trivial, trivial⟩ ?_
      refine dr_cons { need := [(5, .lp 0 0)], hneed := [(0, .box 31 (bxv (eGExpr a0)))], dst := some 6, val := some (.pv (.int .i64 a0.fKind)) } (fun m h => step_on (guard_no rfl) (op_load_lp (v := .pv (.int .i64 a0.fKind)) rfl h.1.1 h.2.1.1 rfl Tryd_one_3 rfl rfl) rfl) ⟨⟨rfl, trivial⟩, ⟨rfl, trivial⟩, trivial⟩ ?_
      refine dr_cons { need := [(6, .pv (.int .i64 a0.fKind))], dst := some 7, val := some (.pv (.bool (decide (a0.fKind < 1)))) } (fun m h => step_on (guard_no rfl) (op_int (k := .i64) (m := a0.fKind) (n := 1) rfl h.1.1 rfl rfl rfl rfl) rfl) ⟨⟨rfl, trivial⟩, trivial, trivial⟩ ?_
      refine drm ?_
      rcases ite_some hF with ⟨hb1, hF⟩ | ⟨hb1, hF⟩
      · refine dro_t hb1 ?_
        iterate 2 (refine dro_t hb1 ?_)
        refine drpt hb1 ?_
        refine drm ?_
        iterate 7 (refine dro_t rfl ?_)
        refine drpt rfl ?_
        refine drm ?_
        iterate 4 (refine dro_t rfl ?_)
        iterate 3 (refine dru ?_)
        refine dro_t rfl ?_
        refine drpt rfl ?_
        refine drm ?_
        iterate 4 (refine dro_t rfl ?_)
        iterate 3 (refine dru ?_)
        refine dro_t rfl ?_
        refine drpt rfl ?_
        refine drm ?_
        iterate 3 (refine dro_t rfl ?_)
        refine drpt rfl ?_
        refine drm ?_
        iterate 3 (refine dro_t rfl ?_)
        refine drpt rfl ?_
        refine drm ?_
        iterate 4 (refine dro_t rfl ?_)
        iterate 4 (refine dru ?_)
        refine dro_t rfl ?_
        refine drpt rfl ?_
        refine dr_nil Tryd_mixed rfl (by kernel_rfl) ?_
        refine post_imp (s' := ⟨113, [(1, some (.lp 0 0)), (62, some (.pv (.bool true)))], [(0, some (.box 31 (bxv (eGExpr a0))))], 1, [], [], 0, []⟩) (imps [0] ⟨by kernel_rfl, by kernel_rfl, trivial⟩ ⟨by kernel_rfl, trivial⟩) ?_
        cases hF
        exact post_cut _ rfl (imps [0] ⟨by kernel_rfl, by kernel_rfl, trivial⟩ ⟨by kernel_rfl, trivial⟩)
      refine dr_cons { need := [(8, .pv (.bool (decide (a0.fKind < 1)))), (1, .lp 0 0)], dst := some 9, val := some (.lp 0 0) } (fun m h => step_on (guard_on rfl rfl rfl h.1.1 hb1) (op_field_lp rfl h.1.2.1 Tryd_fld_31_0 rfl rfl) rfl) ⟨⟨rfl, rfl, trivial⟩, trivial, trivial⟩ ?_
      refine dr_cons { need := [(8, .pv (.bool (decide (a0.fKind < 1)))), (9, .lp 0 0)], hneed := [(0, .box 31 (bxv (eGExpr a0)))], dst := some 10, val := some (.pv (.int .i64 a0.fKind)) } (fun m h => step_on (guard_on rfl rfl rfl h.1.1 hb1) (op_load_lp (v := .pv (.int .i64 a0.fKind)) rfl h.1.2.1 h.2.1.1 rfl Tryd_one_3 rfl rfl) rfl) ⟨⟨rfl, rfl, trivial⟩, ⟨rfl, trivial⟩, trivial⟩ ?_
      refine dr_cons { need := [(8, .pv (.bool (decide (a0.fKind < 1)))), (10, .pv (.int .i64 a0.fKind))], dst := some 11, val := some (.pv (.bool (decide (a0.fKind > 14)))) } (fun m h => step_on (guard_on rfl rfl rfl h.1.1 hb1) (op_int (k := .i64) (m := a0.fKind) (n := 14) rfl h.1.2.1 rfl rfl rfl rfl) rfl) ⟨⟨rfl, rfl, trivial⟩, trivial, trivial⟩ ?_
      refine dr_cons { need := [(8, .pv (.bool (decide (a0.fKind < 1)))), (11, .pv (.bool (decide (a0.fKind > 14))))], dst := some 12, val := some (.pv (.bool (decide (a0.fKind > 14)))) } (fun m h => step_on (guard_no rfl) (op_pick_f rfl h.1.1 hb1 h.1.2.1 rfl rfl) rfl) ⟨⟨rfl, rfl, trivial⟩, trivial, trivial⟩ ?_
      refine drm ?_
      rcases ite_some hF with ⟨hb2, hF⟩ | ⟨hb2, hF⟩
      · refine dro_t hb2 ?_
        iterate 6 (refine dro_t hb2 ?_)
        refine drpt hb2 ?_
        refine drm ?_
        iterate 4 (refine dro_t rfl ?_)
        iterate 3 (refine dru ?_)
        refine dro_t rfl ?_
        refine drpt rfl ?_
        refine drm ?_
        iterate 4 (refine dro_t rfl ?_)
        iterate 3 (refine dru ?_)
        refine dro_t rfl ?_
        refine drpt rfl ?_
        refine drm ?_
        iterate 3 (refine dro_t rfl ?_)
        refine drpt rfl ?_
        refine drm ?_
        iterate 3 (refine dro_t rfl ?_)
        refine drpt rfl ?_
        refine drm ?_
        iterate 4 (refine dro_t rfl ?_)
        iterate 4 (refine dru ?_)
        refine dro_t rfl ?_
        refine drpt rfl ?_
        refine dr_nil Tryd_mixed rfl (by kernel_rfl) ?_
        refine post_imp (s' := ⟨113, [(1, some (.lp 0 0)), (62, some (.pv (.bool true)))], [(0, some (.box 31 (bxv (eGExpr a0))))], 1, [], [], 0, []⟩) (imps [0] ⟨by kernel_rfl, by kernel_rfl, trivial⟩ ⟨by kernel_rfl, trivial⟩) ?_
        cases hF
        exact post_cut _ rfl (imps [0] ⟨by kernel_rfl, by kernel_rfl, trivial⟩ ⟨by kernel_rfl, trivial⟩)
      refine dr_cons { need := [(13, .pv (.bool (decide (a0.fKind > 14)))), (1, .lp 0 0)], dst := some 14, val := some (.lp 0 3) } (fun m h => step_on (guard_on rfl rfl rfl h.1.1 hb2) (op_field_lp rfl h.1.2.1 Tryd_fld_31_3 rfl rfl) rfl) ⟨⟨rfl, rfl, trivial⟩, trivial, trivial⟩ ?_
      refine dr_cons { need := [(13, .pv (.bool (decide (a0.fKind > 14)))), (14, .lp 0 3)], hneed := [(0, .box 31 (bxv (eGExpr a0)))], dst := some 15, val := some (.pv (.vs 4 (eLGExpr a0.fKids))) } (fun m h => step_on (guard_on rfl rfl rfl h.1.1 hb2) (op_load_lp (v := .pv (.vs 4 (eLGExpr a0.fKids))) rfl h.1.2.1 h.2.1.1 rfl Tryd_one_29 rfl rfl) rfl) ⟨⟨rfl, rfl, trivial⟩, ⟨rfl, trivial⟩, trivial⟩ ?_
      refine dr_cons { need := [(13, .pv (.bool (decide (a0.fKind > 14)))), (15, .pv (.vs 4 (eLGExpr a0.fKids)))], dst := some 16, val := some (.pv (.int .i64 (a0.fKids.length : Int))) } (fun m h => step_on (guard_on rfl rfl rfl h.1.1 hb2) (op_len_vs (n := a0.fKids.length) rfl h.1.2.1 (lenR eLGExpr_map) Tryd_slc_29 rfl rfl) rfl) ⟨⟨rfl, rfl, trivial⟩, trivial, trivial⟩ ?_
      refine dr_cons { need := [(13, .pv (.bool (decide (a0.fKind > 14)))), (1, .lp 0 0)], dst := some 17, val := some (.lp 0 0) } (fun m h => step_on (guard_on rfl rfl rfl h.1.1 hb2) (op_field_lp rfl h.1.2.1 Tryd_fld_31_0 rfl rfl) rfl) ⟨⟨rfl, rfl, trivial⟩, trivial, trivial⟩ ?_
      refine dr_cons { need := [(13, .pv (.bool (decide (a0.fKind > 14)))), (17, .lp 0 0)], hneed := [(0, .box 31 (bxv (eGExpr a0)))], dst := some 18, val := some (.pv (.int .i64 a0.fKind)) } (fun m h => step_on (guard_on rfl rfl rfl h.1.1 hb2) (op_load_lp (v := .pv (.int .i64 a0.fKind)) rfl h.1.2.1 h.2.1.1 rfl Tryd_one_3 rfl rfl) rfl) ⟨⟨rfl, rfl, trivial⟩, ⟨rfl, trivial⟩, trivial⟩ ?_
      obtain ⟨y3, h4, hF⟩ := bind_some hF
      refine dr_cons { need := [(13, .pv (.bool (decide (a0.fKind > 14)))), (18, .pv (.int .i64 a0.fKind))], dst := some 19, val := some (.pv (.int .i64 y3)) } (fun m h => step_on (guard_on rfl rfl rfl h.1.1 hb2) (op_call 1 rfl (caps := []) (args := [.int .i64 a0.fKind]) (rs := [.p (.int .i64 y3)]) rfl rfl (evl_cons h.1.2.1 evl_nil) Tryd_cal_80 (ref06_kids_ok h4) rfl rfl rfl) rfl) ⟨⟨rfl, rfl, trivial⟩, trivial, trivial⟩ ?_
      refine dr_cons { need := [(13, .pv (.bool (decide (a0.fKind > 14)))), (16, .pv (.int .i64 (a0.fKids.length : Int))), (19, .pv (.int .i64 y3))], dst := some 20, val := some (.pv (.bool ((a0.fKids.length : Int) != y3))) } (fun m h => step_on (guard_on rfl rfl rfl h.1.1 hb2) (op_int (k := .i64) (m := (a0.fKids.length : Int)) (n := y3) rfl h.1.2.1 h.1.2.2.1 rfl rfl rfl) rfl) ⟨⟨rfl, rfl, rfl, trivial⟩, trivial, trivial⟩ ?_
      refine dr_cons { need := [(13, .pv (.bool (decide (a0.fKind > 14)))), (20, .pv (.bool ((a0.fKids.length : Int) != y3)))], dst := some 21, val := some (.pv (.bool ((a0.fKids.length : Int) != y3))) } (fun m h => step_on (guard_no rfl) (op_pick_f rfl h.1.1 hb2 h.1.2.1 rfl rfl) rfl) ⟨⟨rfl, rfl, trivial⟩, trivial, trivial⟩ ?_
      refine drm ?_
      rcases ite_some hF with ⟨hb5, hF⟩ | ⟨hb5, hF⟩
      · refine dro_t hb5 ?_
        iterate 3 (refine dro_t hb5 ?_)
        iterate 3 (refine dru ?_)
        refine dro_t hb5 ?_
        refine drpt hb5 ?_
        refine drm ?_
        iterate 4 (refine dro_t rfl ?_)
        iterate 3 (refine dru ?_)
        refine dro_t rfl ?_
        refine drpt rfl ?_
        refine drm ?_
        iterate 3 (refine dro_t rfl ?_)
        refine drpt rfl ?_
        refine drm ?_
        iterate 3 (refine dro_t rfl ?_)
        refine drpt rfl ?_
        refine drm ?_
        iterate 4 (refine dro_t rfl ?_)
        iterate 4 (refine dru ?_)
        refine dro_t rfl ?_
        refine drpt rfl ?_
        refine dr_nil Tryd_mixed rfl (by kernel_rfl) ?_
        refine post_imp (s' := ⟨113, [(1, some (.lp 0 0)), (62, some (.pv (.bool true)))], [(0, some (.box 31 (bxv (eGExpr a0))))], 1, [], [], 0, []⟩) (imps [0] ⟨by kernel_rfl, by kernel_rfl, trivial⟩ ⟨by kernel_rfl, trivial⟩) ?_
        cases hF
        exact post_cut _ rfl (imps [0] ⟨by kernel_rfl, by kernel_rfl, trivial⟩ ⟨by kernel_rfl, trivial⟩)
      refine dr_cons { need := [(22, .pv (.bool ((a0.fKids.length : Int) != y3))), (1, .lp 0 0)], dst := some 23, val := some (.lp 0 0) } (fun m h => step_on (guard_on rfl rfl rfl h.1.1 hb5) (op_field_lp rfl h.1.2.1 Tryd_fld_31_0 rfl rfl) rfl) ⟨⟨rfl, rfl, trivial⟩, trivial, trivial⟩ ?_
      refine dr_cons { need := [(22, .pv (.bool ((a0.fKids.length : Int) != y3))), (23, .lp 0 0)], hneed := [(0, .box 31 (bxv (eGExpr a0)))], dst := some 24, val := some (.pv (.int .i64 a0.fKind)) } (fun m h => step_on (guard_on rfl rfl rfl h.1.1 hb5) (op_load_lp (v := .pv (.int .i64 a0.fKind)) rfl h.1.2.1 h.2.1.1 rfl Tryd_one_3 rfl rfl) rfl) ⟨⟨rfl, rfl, trivial⟩, ⟨rfl, trivial⟩, trivial⟩ ?_
      refine dr_cons { need := [(22, .pv (.bool ((a0.fKids.length : Int) != y3))), (24, .pv (.int .i64 a0.fKind))], dst := some 25, val := some (.pv (.bool (a0.fKind != 1))) } (fun m h => step_on (guard_on rfl rfl rfl h.1.1 hb5) (op_int (k := .i64) (m := a0.fKind) (n := 1) rfl h.1.2.1 rfl rfl rfl rfl) rfl) ⟨⟨rfl, rfl, trivial⟩, trivial, trivial⟩ ?_
      refine dr_cons { need := [(22, .pv (.bool ((a0.fKids.length : Int) != y3))), (25, .pv (.bool (a0.fKind != 1)))], dst := some 26, val := some (.pv (.bool (a0.fKind != 1))) } (fun m h => step_on (guard_on rfl rfl rfl h.1.1 hb5) (op_move rfl h.1.2.1 rfl rfl) rfl) ⟨⟨rfl, rfl, trivial⟩, trivial, trivial⟩ ?_
      rcases ite_some hF with ⟨hb6, hF⟩ | ⟨hb6, hF⟩
      · refine dr_cons { need := [(26, .pv (.bool (a0.fKind != 1))), (1, .lp 0 0)], dst := some 27, val := some (.lp 0 1) } (fun m h => step_on (guard_on rfl rfl rfl h.1.1 hb6) (op_field_lp rfl h.1.2.1 Tryd_fld_31_1 rfl rfl) rfl) ⟨⟨rfl, rfl, trivial⟩, trivial, trivial⟩ ?_
        refine dr_cons { need := [(26, .pv (.bool (a0.fKind != 1))), (27, .lp 0 1)], hneed := [(0, .box 31 (bxv (eGExpr a0)))], dst := some 28, val := some (.pv (.int .i64 a0.fNum)) } (fun m h => step_on (guard_on rfl rfl rfl h.1.1 hb6) (op_load_lp (v := .pv (.int .i64 a0.fNum)) rfl h.1.2.1 h.2.1.1 rfl Tryd_one_3 rfl rfl) rfl) ⟨⟨rfl, rfl, trivial⟩, ⟨rfl, trivial⟩, trivial⟩ ?_
        refine dr_cons { need := [(26, .pv (.bool (a0.fKind != 1))), (28, .pv (.int .i64 a0.fNum))], dst := some 29, val := some (.pv (.bool (a0.fNum != 0))) } (fun m h => step_on (guard_on rfl rfl rfl h.1.1 hb6) (op_int (k := .i64) (m := a0.fNum) (n := 0) rfl h.1.2.1 rfl rfl rfl rfl) rfl) ⟨⟨rfl, rfl, trivial⟩, trivial, trivial⟩ ?_
        refine dr_cons { need := [(22, .pv (.bool ((a0.fKids.length : Int) != y3))), (26, .pv (.bool (a0.fKind != 1))), (29, .pv (.bool (a0.fNum != 0)))], dst := some 30, val := some (.pv (.bool (a0.fNum != 0))) } (fun m h => step_on (guard_on rfl rfl rfl h.1.1 hb5) (op_pick_t rfl h.1.2.1 hb6 h.1.2.2.1 rfl rfl) rfl) ⟨⟨rfl, rfl, rfl, trivial⟩, trivial, trivial⟩ ?_
        refine dr_cons { need := [(22, .pv (.bool ((a0.fKids.length : Int) != y3))), (30, .pv (.bool (a0.fNum != 0)))], dst := some 31, val := some (.pv (.bool (a0.fNum != 0))) } (fun m h => step_on (guard_no rfl) (op_pick_f rfl h.1.1 hb5 h.1.2.1 rfl rfl) rfl) ⟨⟨rfl, rfl, trivial⟩, trivial, trivial⟩ ?_
        refine drm ?_
        rcases ite_some hF with ⟨hb7, hF⟩ | ⟨hb7, hF⟩
        · refine dro_t hb7 ?_
          iterate 3 (refine dro_t hb7 ?_)
          iterate 3 (refine dru ?_)
          refine dro_t hb7 ?_
          refine drpt hb7 ?_
          refine drm ?_
          iterate 3 (refine dro_t rfl ?_)
          refine drpt rfl ?_
          refine drm ?_
          iterate 3 (refine dro_t rfl ?_)
          refine drpt rfl ?_
          refine drm ?_
          iterate 4 (refine dro_t rfl ?_)
          iterate 4 (refine dru ?_)
          refine dro_t rfl ?_
          refine drpt rfl ?_
          refine dr_nil Tryd_mixed rfl (by kernel_rfl) ?_
          refine post_imp (s' := ⟨113, [(1, some (.lp 0 0)), (62, some (.pv (.bool true)))], [(0, some (.box 31 (bxv (eGExpr a0))))], 1, [], [], 0, []⟩) (imps [0] ⟨by kernel_rfl, by kernel_rfl, trivial⟩ ⟨by kernel_rfl, trivial⟩) ?_
          cases hF
          exact post_cut _ rfl (imps [0] ⟨by kernel_rfl, by kernel_rfl, trivial⟩ ⟨by kernel_rfl, trivial⟩)
        refine dr_cons { need := [(32, .pv (.bool (a0.fNum != 0))), (1, .lp 0 0)], dst := some 33, val := some (.lp 0 0) } (fun m h => step_on (guard_on rfl rfl rfl h.1.1 hb7) (op_field_lp rfl h.1.2.1 Tryd_fld_31_0 rfl rfl) rfl) ⟨⟨rfl, rfl, trivial⟩, trivial, trivial⟩ ?_
        refine dr_cons { need := [(32, .pv (.bool (a0.fNum != 0))), (33, .lp 0 0)], hneed := [(0, .box 31 (bxv (eGExpr a0)))], dst := some 34, val := some (.pv (.int .i64 a0.fKind)) } (fun m h => step_on (guard_on rfl rfl rfl h.1.1 hb7) (op_load_lp (v := .pv (.int .i64 a0.fKind)) rfl h.1.2.1 h.2.1.1 rfl Tryd_one_3 rfl rfl) rfl) ⟨⟨rfl, rfl, trivial⟩, ⟨rfl, trivial⟩, trivial⟩ ?_
        refine dr_cons { need := [(32, .pv (.bool (a0.fNum != 0))), (34, .pv (.int .i64 a0.fKind))], dst := some 35, val := some (.pv (.bool (a0.fKind != 2))) } (fun m h => step_on (guard_on rfl rfl rfl h.1.1 hb7) (op_int (k := .i64) (m := a0.fKind) (n := 2) rfl h.1.2.1 rfl rfl rfl rfl) rfl) ⟨⟨rfl, rfl, trivial⟩, trivial, trivial⟩ ?_
        refine dr_cons { need := [(32, .pv (.bool (a0.fNum != 0))), (35, .pv (.bool (a0.fKind != 2)))], dst := some 36, val := some (.pv (.bool (a0.fKind != 2))) } (fun m h => step_on (guard_on rfl rfl rfl h.1.1 hb7) (op_move rfl h.1.2.1 rfl rfl) rfl) ⟨⟨rfl, rfl, trivial⟩, trivial, trivial⟩ ?_
        rcases ite_some hF with ⟨hb8, hF⟩ | ⟨hb8, hF⟩
        · refine dr_cons { need := [(36, .pv (.bool (a0.fKind != 2))), (1, .lp 0 0)], dst := some 37, val := some (.lp 0 2) } (fun m h => step_on (guard_on rfl rfl rfl h.1.1 hb8) (op_field_lp rfl h.1.2.1 Tryd_fld_31_2 rfl rfl) rfl) ⟨⟨rfl, rfl, trivial⟩, trivial, trivial⟩ ?_
          refine dr_cons (ref06_form_e165 a0) (fun m h => step_on (guard_on rfl rfl rfl h.1.1 hb8) (op_load_lp (v := .pv (.str a0.fName)) rfl h.1.2.1 h.2.1.1 rfl Tryd_one_9 rfl rfl) rfl) ⟨⟨rfl, rfl, trivial⟩, ⟨rfl, trivial⟩, trivial⟩ ?_
          refine dr_cons (ref06_form_e166 a0) (fun m h => step_on (guard_on rfl rfl rfl h.1.1 hb8) (op_str rfl h.1.2.1 rfl rfl rfl rfl) rfl) ⟨⟨rfl, rfl, trivial⟩, trivial, trivial⟩ ?_
          refine dr_cons { need := [(32, .pv (.bool (a0.fNum != 0))), (36, .pv (.bool (a0.fKind != 2))), (39, .pv (.bool (!(a0.fName == []))))], dst := some 40, val := some (.pv (.bool (!(a0.fName == [])))) } (fun m h => step_on (guard_on rfl rfl rfl h.1.1 hb7) (op_pick_t rfl h.1.2.1 hb8 h.1.2.2.1 rfl rfl) rfl) ⟨⟨rfl, rfl, rfl, trivial⟩, trivial, trivial⟩ ?_
          refine dr_cons { need := [(32, .pv (.bool (a0.fNum != 0))), (40, .pv (.bool (!(a0.fName == []))))], dst := some 41, val := some (.pv (.bool (!(a0.fName == [])))) } (fun m h => step_on (guard_no rfl) (op_pick_f rfl h.1.1 hb7 h.1.2.1 rfl rfl) rfl) ⟨⟨rfl, rfl, trivial⟩, trivial, trivial⟩ ?_
          refine drm ?_
          rcases ite_some hF with ⟨hb9, hF⟩ | ⟨hb9, hF⟩
          · refine dro_t hb9 ?_
            iterate 2 (refine dro_t hb9 ?_)
            refine drpt hb9 ?_
            refine drm ?_
            iterate 3 (refine dro_t rfl ?_)
            refine drpt rfl ?_
            refine drm ?_
            iterate 4 (refine dro_t rfl ?_)
            iterate 4 (refine dru ?_)
            refine dro_t rfl ?_
            refine drpt rfl ?_
            refine dr_nil Tryd_mixed rfl (by kernel_rfl) ?_
            refine post_imp (s' := ⟨113, [(1, some (.lp 0 0)), (62, some (.pv (.bool true)))], [(0, some (.box 31 (bxv (eGExpr a0))))], 1, [], [], 0, []⟩) (imps [0] ⟨by kernel_rfl, by kernel_rfl, trivial⟩ ⟨by kernel_rfl, trivial⟩) ?_
            cases hF
            exact post_cut _ rfl (imps [0] ⟨by kernel_rfl, by kernel_rfl, trivial⟩ ⟨by kernel_rfl, trivial⟩)
          refine dr_cons { need := [(42, .pv (.bool (!(a0.fName == [])))), (1, .lp 0 0)], dst := some 43, val := some (.lp 0 1) } (fun m h => step_on (guard_on rfl rfl rfl h.1.1 hb9) (op_field_lp rfl h.1.2.1 Tryd_fld_31_1 rfl rfl) rfl) ⟨⟨rfl, rfl, trivial⟩, trivial, trivial⟩ ?_
          refine dr_cons (ref06_form_e170 a0) (fun m h => step_on (guard_on rfl rfl rfl h.1.1 hb9) (op_load_lp (v := .pv (.int .i64 a0.fNum)) rfl h.1.2.1 h.2.1.1 rfl Tryd_one_3 rfl rfl) rfl) ⟨⟨rfl, rfl, trivial⟩, ⟨rfl, trivial⟩, trivial⟩ ?_
          refine dr_cons (ref06_form_e171 a0) (fun m h => step_on (guard_on rfl rfl rfl h.1.1 hb9) (op_int (k := .i64) (m := a0.fNum) (n := 0) rfl h.1.2.1 rfl rfl rfl rfl) rfl) ⟨⟨rfl, rfl, trivial⟩, trivial, trivial⟩ ?_
          refine dr_cons (ref06_form_e172 a0) (fun m h => step_on (guard_no rfl) (op_pick_f rfl h.1.1 hb9 h.1.2.1 rfl rfl) rfl) ⟨⟨rfl, rfl, trivial⟩, trivial, trivial⟩ ?_
          refine drm ?_
          rcases ite_some hF with ⟨hb10, hF⟩ | ⟨hb10, hF⟩
          · refine dro_t hb10 ?_
            iterate 2 (refine dro_t hb10 ?_)
            refine drpt hb10 ?_
            refine drm ?_
            iterate 4 (refine dro_t rfl ?_)
            iterate 4 (refine dru ?_)
            refine dro_t rfl ?_
            refine drpt rfl ?_
            refine dr_nil Tryd_mixed rfl (by kernel_rfl) ?_
            refine post_imp (s' := ⟨113, [(1, some (.lp 0 0)), (62, some (.pv (.bool true)))], [(0, some (.box 31 (bxv (eGExpr a0))))], 1, [], [], 0, []⟩) (imps [0] ⟨by kernel_rfl, by kernel_rfl, trivial⟩ ⟨by kernel_rfl, trivial⟩) ?_
            cases hF
            exact post_cut _ rfl (imps [0] ⟨by kernel_rfl, by kernel_rfl, trivial⟩ ⟨by kernel_rfl, trivial⟩)
          refine dr_cons (ref06_form_e173 a0) (fun m h => step_on (guard_on rfl rfl rfl h.1.1 hb10) (op_field_lp rfl h.1.2.1 Tryd_fld_31_1 rfl rfl) rfl) ⟨⟨rfl, rfl, trivial⟩, trivial, trivial⟩ ?_
          refine dr_cons (ref06_form_e174 a0) (fun m h => step_on (guard_on rfl rfl rfl h.1.1 hb10) (op_load_lp (v := .pv (.int .i64 a0.fNum)) rfl h.1.2.1 h.2.1.1 rfl Tryd_one_3 rfl rfl) rfl) ⟨⟨rfl, rfl, trivial⟩, ⟨rfl, trivial⟩, trivial⟩ ?_
          refine dr_cons (ref06_form_e175 a0) (fun m h => step_on (guard_on rfl rfl rfl h.1.1 hb10) (op_int (k := .i64) (m := a0.fNum) (n := 999999999) rfl h.1.2.1 rfl rfl rfl rfl) rfl) ⟨⟨rfl, rfl, trivial⟩, trivial, trivial⟩ ?_
          refine dr_cons (ref06_form_e176 a0) (fun m h => step_on (guard_no rfl) (op_pick_f rfl h.1.1 hb10 h.1.2.1 rfl rfl) rfl) ⟨⟨rfl, rfl, trivial⟩, trivial, trivial⟩ ?_
          refine drm ?_
          rcases ite_some hF with ⟨hb11, hF⟩ | ⟨hb11, hF⟩
          · refine dro_t hb11 ?_
            iterate 3 (refine dro_t hb11 ?_)
            iterate 4 (refine dru ?_)
            refine dro_t hb11 ?_
            refine drpt hb11 ?_
            refine dr_nil Tryd_mixed rfl (by kernel_rfl) ?_
            refine post_imp (s' := ⟨113, [(1, some (.lp 0 0)), (62, some (.pv (.bool true)))], [(0, some (.box 31 (bxv (eGExpr a0))))], 1, [], [], 0, []⟩) (imps [0] ⟨by kernel_rfl, by kernel_rfl, trivial⟩ ⟨by kernel_rfl, trivial⟩) ?_
            cases hF
            exact post_cut _ rfl (imps [0] ⟨by kernel_rfl, by kernel_rfl, trivial⟩ ⟨by kernel_rfl, trivial⟩)
          refine dr_cons (ref06_form_e177 a0) (fun m h => step_on (guard_on rfl rfl rfl h.1.1 hb11) (op_field_lp rfl h.1.2.1 Tryd_fld_31_0 rfl rfl) rfl) ⟨⟨rfl, rfl, trivial⟩, trivial, trivial⟩ ?_
          refine dr_cons (ref06_form_e178 a0) (fun m h => step_on (guard_on rfl rfl rfl h.1.1 hb11) (op_load_lp (v := .pv (.int .i64 a0.fKind)) rfl h.1.2.1 h.2.1.1 rfl Tryd_one_3 rfl rfl) rfl) ⟨⟨rfl, rfl, trivial⟩, ⟨rfl, trivial⟩, trivial⟩ ?_
          refine dr_cons (ref06_form_e179 a0) (fun m h => step_on (guard_on rfl rfl rfl h.1.1 hb11) (op_int (k := .i64) (m := a0.fKind) (n := 2) rfl h.1.2.1 rfl rfl rfl rfl) rfl) ⟨⟨rfl, rfl, trivial⟩, trivial, trivial⟩ ?_
          refine dr_cons (ref06_form_e180 a0) (fun m h => step_on (guard_on rfl rfl rfl h.1.1 hb11) (op_move rfl h.1.2.1 rfl rfl) rfl) ⟨⟨rfl, rfl, trivial⟩, trivial, trivial⟩ ?_
          rcases ite_some hF with ⟨hb12, hF⟩ | ⟨hb12, hF⟩
          · refine dr_cons (ref06_form_e181 a0) (fun m h => step_on (guard_on rfl rfl rfl h.1.1 hb12) (op_field_lp rfl h.1.2.1 Tryd_fld_31_2 rfl rfl) rfl) ⟨⟨rfl, rfl, trivial⟩, trivial, trivial⟩ ?_
            refine dr_cons (ref06_form_e182 a0) (fun m h => step_on (guard_on rfl rfl rfl h.1.1 hb12) (op_load_lp (v := .pv (.str a0.fName)) rfl h.1.2.1 h.2.1.1 rfl Tryd_one_9 rfl rfl) rfl) ⟨⟨rfl, rfl, trivial⟩, ⟨rfl, trivial⟩, trivial⟩ ?_
            obtain ⟨y13, h14, hF⟩ := bind_some hF
            refine dr_cons { need := [(56, .pv (.bool (a0.fKind == 2))), (58, .pv (.str a0.fName))], dst := some 59, val := some (.pv (.bool y13)) } (fun m h => step_on (guard_on rfl rfl rfl h.1.1 hb12) (op_call 1 rfl (caps := []) (args := [.str a0.fName]) (rs := [.p (.bool y13)]) rfl rfl (evl_cons h.1.2.1 evl_nil) Tryd_cal_81 (ref02_Name_ok h14) rfl rfl rfl) rfl) ⟨⟨rfl, rfl, trivial⟩, trivial, trivial⟩ ?_
            refine dr_cons { need := [(56, .pv (.bool (a0.fKind == 2))), (59, .pv (.bool y13))], dst := some 60, val := some (.pv (.bool (!y13))) } (fun m h => step_on (guard_on rfl rfl rfl h.1.1 hb12) (op_not rfl h.1.2.1 rfl rfl) rfl) ⟨⟨rfl, rfl, trivial⟩, trivial, trivial⟩ ?_
            refine dr_cons { need := [(52, .pv (.bool (decide (a0.fNum > 999999999)))), (56, .pv (.bool (a0.fKind == 2))), (60, .pv (.bool (!y13)))], dst := some 61, val := some (.pv (.bool (!y13))) } (fun m h => step_on (guard_on rfl rfl rfl h.1.1 hb11) (op_pick_t rfl h.1.2.1 hb12 h.1.2.2.1 rfl rfl) rfl) ⟨⟨rfl, rfl, rfl, trivial⟩, trivial, trivial⟩ ?_
            refine dr_cons { need := [(52, .pv (.bool (decide (a0.fNum > 999999999)))), (61, .pv (.bool (!y13)))], dst := some 62, val := some (.pv (.bool (!y13))) } (fun m h => step_on (guard_no rfl) (op_pick_f rfl h.1.1 hb11 h.1.2.1 rfl rfl) rfl) ⟨⟨rfl, rfl, trivial⟩, trivial, trivial⟩ ?_
            refine dr_nil Tryd_mixed rfl (by kernel_rfl) ?_
            refine post_imp (s' := ⟨113, [(1, some (.lp 0 0)), (62, some (.pv (.bool (!y13))))], [(0, some (.box 31 (bxv (eGExpr a0))))], 1, [], [], 0, []⟩) (imps [0] ⟨by kernel_rfl, by kernel_rfl, trivial⟩ ⟨by kernel_rfl, trivial⟩) ?_
            cases hF
            exact post_cut _ rfl (imps [0] ⟨by kernel_rfl, by kernel_rfl, trivial⟩ ⟨by kernel_rfl, trivial⟩)
          iterate 4 (refine dro_f hb12 ?_)
          refine dr_cons (ref06_form_e187 a0) (fun m h => step_on (guard_on rfl rfl rfl h.1.1 hb11) (op_pick_f rfl h.1.2.1 hb12 rfl rfl rfl) rfl) ⟨⟨rfl, rfl, trivial⟩, trivial, trivial⟩ ?_
          refine dr_cons (ref06_form_e188 a0) (fun m h => step_on (guard_no rfl) (op_pick_f rfl h.1.1 hb11 h.1.2.1 rfl rfl) rfl) ⟨⟨rfl, rfl, trivial⟩, trivial, trivial⟩ ?_
          refine dr_nil Tryd_mixed rfl (by kernel_rfl) ?_
          refine post_imp (s' := ⟨113, [(1, some (.lp 0 0)), (62, some (.pv (.bool false)))], [(0, some (.box 31 (bxv (eGExpr a0))))], 1, [], [], 0, []⟩) (imps [0] ⟨by kernel_rfl, by kernel_rfl, trivial⟩ ⟨by kernel_rfl, trivial⟩) ?_
          cases hF
          exact post_cut _ rfl (imps [0] ⟨by kernel_rfl, by kernel_rfl, trivial⟩ ⟨by kernel_rfl, trivial⟩)
        iterate 3 (refine dro_f hb8 ?_)
        refine dr_cons { need := [(32, .pv (.bool (a0.fNum != 0))), (36, .pv (.bool (a0.fKind != 2)))], dst := some 40, val := some (.pv (.bool false)) } (fun m h => step_on (guard_on rfl rfl rfl h.1.1 hb7) (op_pick_f rfl h.1.2.1 hb8 rfl rfl rfl) rfl) ⟨⟨rfl, rfl, trivial⟩, trivial, trivial⟩ ?_
        refine dr_cons { need := [(32, .pv (.bool (a0.fNum != 0))), (40, .pv (.bool false))], dst := some 41, val := some (.pv (.bool false)) } (fun m h => step_on (guard_no rfl) (op_pick_f rfl h.1.1 hb7 h.1.2.1 rfl rfl) rfl) ⟨⟨rfl, rfl, trivial⟩, trivial, trivial⟩ ?_
        refine drm ?_
        refine dr_cons { need := [(42, .pv (.bool false)), (1, .lp 0 0)], dst := some 43, val := some (.lp 0 1) } (fun m h => step_on (guard_on rfl rfl rfl h.1.1 rfl) (op_field_lp rfl h.1.2.1 Tryd_fld_31_1 rfl rfl) rfl) ⟨⟨rfl, rfl, trivial⟩, trivial, trivial⟩ ?_
        refine dr_cons (ref06_form_e192 a0) (fun m h => step_on (guard_on rfl rfl rfl h.1.1 rfl) (op_load_lp (v := .pv (.int .i64 a0.fNum)) rfl h.1.2.1 h.2.1.1 rfl Tryd_one_3 rfl rfl) rfl) ⟨⟨rfl, rfl, trivial⟩, ⟨rfl, trivial⟩, trivial⟩ ?_
        refine dr_cons (ref06_form_e193 a0) (fun m h => step_on (guard_on rfl rfl rfl h.1.1 rfl) (op_int (k := .i64) (m := a0.fNum) (n := 0) rfl h.1.2.1 rfl rfl rfl rfl) rfl) ⟨⟨rfl, rfl, trivial⟩, trivial, trivial⟩ ?_
        refine dr_cons (ref06_form_e194 a0) (fun m h => step_on (guard_no rfl) (op_pick_f rfl h.1.1 rfl h.1.2.1 rfl rfl) rfl) ⟨⟨rfl, rfl, trivial⟩, trivial, trivial⟩ ?_
        refine drm ?_
        rcases ite_some hF with ⟨hb15, hF⟩ | ⟨hb15, hF⟩
        · refine dro_t hb15 ?_
          iterate 2 (refine dro_t hb15 ?_)
          refine drpt hb15 ?_
          refine drm ?_
          iterate 4 (refine dro_t rfl ?_)
          iterate 4 (refine dru ?_)
          refine dro_t rfl ?_
          refine drpt rfl ?_
          refine dr_nil Tryd_mixed rfl (by kernel_rfl) ?_
          refine post_imp (s' := ⟨113, [(1, some (.lp 0 0)), (62, some (.pv (.bool true)))], [(0, some (.box 31 (bxv (eGExpr a0))))], 1, [], [], 0, []⟩) (imps [0] ⟨by kernel_rfl, by kernel_rfl, trivial⟩ ⟨by kernel_rfl, trivial⟩) ?_
          cases hF
          exact post_cut _ rfl (imps [0] ⟨by kernel_rfl, by kernel_rfl, trivial⟩ ⟨by kernel_rfl, trivial⟩)
        refine dr_cons (ref06_form_e173 a0) (fun m h => step_on (guard_on rfl rfl rfl h.1.1 hb15) (op_field_lp rfl h.1.2.1 Tryd_fld_31_1 rfl rfl) rfl) ⟨⟨rfl, rfl, trivial⟩, trivial, trivial⟩ ?_
        refine dr_cons (ref06_form_e174 a0) (fun m h => step_on (guard_on rfl rfl rfl h.1.1 hb15) (op_load_lp (v := .pv (.int .i64 a0.fNum)) rfl h.1.2.1 h.2.1.1 rfl Tryd_one_3 rfl rfl) rfl) ⟨⟨rfl, rfl, trivial⟩, ⟨rfl, trivial⟩, trivial⟩ ?_
        refine dr_cons (ref06_form_e175 a0) (fun m h => step_on (guard_on rfl rfl rfl h.1.1 hb15) (op_int (k := .i64) (m := a0.fNum) (n := 999999999) rfl h.1.2.1 rfl rfl rfl rfl) rfl) ⟨⟨rfl, rfl, trivial⟩, trivial, trivial⟩ ?_
        refine dr_cons (ref06_form_e176 a0) (fun m h => step_on (guard_no rfl) (op_pick_f rfl h.1.1 hb15 h.1.2.1 rfl rfl) rfl) ⟨⟨rfl, rfl, trivial⟩, trivial, trivial⟩ ?_
        refine drm ?_
        rcases ite_some hF with ⟨hb16, hF⟩ | ⟨hb16, hF⟩
        · refine dro_t hb16 ?_
          iterate 3 (refine dro_t hb16 ?_)
          iterate 4 (refine dru ?_)
          refine dro_t hb16 ?_
          refine drpt hb16 ?_
          refine dr_nil Tryd_mixed rfl (by kernel_rfl) ?_
          refine post_imp (s' := ⟨113, [(1, some (.lp 0 0)), (62, some (.pv (.bool true)))], [(0, some (.box 31 (bxv (eGExpr a0))))], 1, [], [], 0, []⟩) (imps [0] ⟨by kernel_rfl, by kernel_rfl, trivial⟩ ⟨by kernel_rfl, trivial⟩) ?_
          cases hF
          exact post_cut _ rfl (imps [0] ⟨by kernel_rfl, by kernel_rfl, trivial⟩ ⟨by kernel_rfl, trivial⟩)
        refine dr_cons (ref06_form_e177 a0) (fun m h => step_on (guard_on rfl rfl rfl h.1.1 hb16) (op_field_lp rfl h.1.2.1 Tryd_fld_31_0 rfl rfl) rfl) ⟨⟨rfl, rfl, trivial⟩, trivial, trivial⟩ ?_
        refine dr_cons (ref06_form_e178 a0) (fun m h => step_on (guard_on rfl rfl rfl h.1.1 hb16) (op_load_lp (v := .pv (.int .i64 a0.fKind)) rfl h.1.2.1 h.2.1.1 rfl Tryd_one_3 rfl rfl) rfl) ⟨⟨rfl, rfl, trivial⟩, ⟨rfl, trivial⟩, trivial⟩ ?_
        refine dr_cons (ref06_form_e179 a0) (fun m h => step_on (guard_on rfl rfl rfl h.1.1 hb16) (op_int (k := .i64) (m := a0.fKind) (n := 2) rfl h.1.2.1 rfl rfl rfl rfl) rfl) ⟨⟨rfl, rfl, trivial⟩, trivial, trivial⟩ ?_
        refine dr_cons (ref06_form_e180 a0) (fun m h => step_on (guard_on rfl rfl rfl h.1.1 hb16) (op_move rfl h.1.2.1 rfl rfl) rfl) ⟨⟨rfl, rfl, trivial⟩, trivial, trivial⟩ ?_
        rcases ite_some hF with ⟨hb17, hF⟩ | ⟨hb17, hF⟩
        · refine dr_cons (ref06_form_e181 a0) (fun m h => step_on (guard_on rfl rfl rfl h.1.1 hb17) (op_field_lp rfl h.1.2.1 Tryd_fld_31_2 rfl rfl) rfl) ⟨⟨rfl, rfl, trivial⟩, trivial, trivial⟩ ?_
          refine dr_cons (ref06_form_e182 a0) (fun m h => step_on (guard_on rfl rfl rfl h.1.1 hb17) (op_load_lp (v := .pv (.str a0.fName)) rfl h.1.2.1 h.2.1.1 rfl Tryd_one_9 rfl rfl) rfl) ⟨⟨rfl, rfl, trivial⟩, ⟨rfl, trivial⟩, trivial⟩ ?_
          obtain ⟨y18, h19, hF⟩ := bind_some hF
          refine dr_cons { need := [(56, .pv (.bool (a0.fKind == 2))), (58, .pv (.str a0.fName))], dst := some 59, val := some (.pv (.bool y18)) } (fun m h => step_on (guard_on rfl rfl rfl h.1.1 hb17) (op_call 1 rfl (caps := []) (args := [.str a0.fName]) (rs := [.p (.bool y18)]) rfl rfl (evl_cons h.1.2.1 evl_nil) Tryd_cal_81 (ref02_Name_ok h19) rfl rfl rfl) rfl) ⟨⟨rfl, rfl, trivial⟩, trivial, trivial⟩ ?_
          refine dr_cons { need := [(56, .pv (.bool (a0.fKind == 2))), (59, .pv (.bool y18))], dst := some 60, val := some (.pv (.bool (!y18))) } (fun m h => step_on (guard_on rfl rfl rfl h.1.1 hb17) (op_not rfl h.1.2.1 rfl rfl) rfl) ⟨⟨rfl, rfl, trivial⟩, trivial, trivial⟩ ?_
          refine dr_cons { need := [(52, .pv (.bool (decide (a0.fNum > 999999999)))), (56, .pv (.bool (a0.fKind == 2))), (60, .pv (.bool (!y18)))], dst := some 61, val := some (.pv (.bool (!y18))) } (fun m h => step_on (guard_on rfl rfl rfl h.1.1 hb16) (op_pick_t rfl h.1.2.1 hb17 h.1.2.2.1 rfl rfl) rfl) ⟨⟨rfl, rfl, rfl, trivial⟩, trivial, trivial⟩ ?_
          refine dr_cons { need := [(52, .pv (.bool (decide (a0.fNum > 999999999)))), (61, .pv (.bool (!y18)))], dst := some 62, val := some (.pv (.bool (!y18))) } (fun m h => step_on (guard_no rfl) (op_pick_f rfl h.1.1 hb16 h.1.2.1 rfl rfl) rfl) ⟨⟨rfl, rfl, trivial⟩, trivial, trivial⟩ ?_
          refine dr_nil Tryd_mixed rfl (by kernel_rfl) ?_
          refine post_imp (s' := ⟨113, [(1, some (.lp 0 0)), (62, some (.pv (.bool (!y18))))], [(0, some (.box 31 (bxv (eGExpr a0))))], 1, [], [], 0, []⟩) (imps [0] ⟨by kernel_rfl, by kernel_rfl, trivial⟩ ⟨by kernel_rfl, trivial⟩) ?_
          cases hF
          exact post_cut _ rfl (imps [0] ⟨by kernel_rfl, by kernel_rfl, trivial⟩ ⟨by kernel_rfl, trivial⟩)
        iterate 4 (refine dro_f hb17 ?_)
        refine dr_cons (ref06_form_e187 a0) (fun m h => step_on (guard_on rfl rfl rfl h.1.1 hb16) (op_pick_f rfl h.1.2.1 hb17 rfl rfl rfl) rfl) ⟨⟨rfl, rfl, trivial⟩, trivial, trivial⟩ ?_
        refine dr_cons (ref06_form_e188 a0) (fun m h => step_on (guard_no rfl) (op_pick_f rfl h.1.1 hb16 h.1.2.1 rfl rfl) rfl) ⟨⟨rfl, rfl, trivial⟩, trivial, trivial⟩ ?_
        refine dr_nil Tryd_mixed rfl (by kernel_rfl) ?_
        refine post_imp (s' := ⟨113, [(1, some (.lp 0 0)), (62, some (.pv (.bool false)))], [(0, some (.box 31 (bxv (eGExpr a0))))], 1, [], [], 0, []⟩) (imps [0] ⟨by kernel_rfl, by kernel_rfl, trivial⟩ ⟨by kernel_rfl, trivial⟩) ?_
        cases hF
        exact post_cut _ rfl (imps [0] ⟨by kernel_rfl, by kernel_rfl, trivial⟩ ⟨by kernel_rfl, trivial⟩)
      iterate 3 (refine dro_f hb6 ?_)
      refine dr_cons { need := [(22, .pv (.bool ((a0.fKids.length : Int) != y3))), (26, .pv (.bool (a0.fKind != 1)))], dst := some 30, val := some (.pv (.bool false)) } (fun m h => step_on (guard_on rfl rfl rfl h.1.1 hb5) (op_pick_f rfl h.1.2.1 hb6 rfl rfl rfl) rfl) ⟨⟨rfl, rfl, trivial⟩, trivial, trivial⟩ ?_
      refine dr_cons { need := [(22, .pv (.bool ((a0.fKids.length : Int) != y3))), (30, .pv (.bool false))], dst := some 31, val := some (.pv (.bool false)) } (fun m h => step_on (guard_no rfl) (op_pick_f rfl h.1.1 hb5 h.1.2.1 rfl rfl) rfl) ⟨⟨rfl, rfl, trivial⟩, trivial, trivial⟩ ?_
      refine drm ?_
      refine dr_cons { need := [(32, .pv (.bool false)), (1, .lp 0 0)], dst := some 33, val := some (.lp 0 0) } (fun m h => step_on (guard_on rfl rfl rfl h.1.1 rfl) (op_field_lp rfl h.1.2.1 Tryd_fld_31_0 rfl rfl) rfl) ⟨⟨rfl, rfl, trivial⟩, trivial, trivial⟩ ?_
      refine dr_cons { need := [(32, .pv (.bool false)), (33, .lp 0 0)], hneed := [(0, .box 31 (bxv (eGExpr a0)))], dst := some 34, val := some (.pv (.int .i64 a0.fKind)) } (fun m h => step_on (guard_on rfl rfl rfl h.1.1 rfl) (op_load_lp (v := .pv (.int .i64 a0.fKind)) rfl h.1.2.1 h.2.1.1 rfl Tryd_one_3 rfl rfl) rfl) ⟨⟨rfl, rfl, trivial⟩, ⟨rfl, trivial⟩, trivial⟩ ?_
      refine dr_cons { need := [(32, .pv (.bool false)), (34, .pv (.int .i64 a0.fKind))], dst := some 35, val := some (.pv (.bool (a0.fKind != 2))) } (fun m h => step_on (guard_on rfl rfl rfl h.1.1 rfl) (op_int (k := .i64) (m := a0.fKind) (n := 2) rfl h.1.2.1 rfl rfl rfl rfl) rfl) ⟨⟨rfl, rfl, trivial⟩, trivial, trivial⟩ ?_
      refine dr_cons { need := [(32, .pv (.bool false)), (35, .pv (.bool (a0.fKind != 2)))], dst := some 36, val := some (.pv (.bool (a0.fKind != 2))) } (fun m h => step_on (guard_on rfl rfl rfl h.1.1 rfl) (op_move rfl h.1.2.1 rfl rfl) rfl) ⟨⟨rfl, rfl, trivial⟩, trivial, trivial⟩ ?_
      rcases ite_some hF with ⟨hb20, hF⟩ | ⟨hb20, hF⟩
      · refine dr_cons { need := [(36, .pv (.bool (a0.fKind != 2))), (1, .lp 0 0)], dst := some 37, val := some (.lp 0 2) } (fun m h => step_on (guard_on rfl rfl rfl h.1.1 hb20) (op_field_lp rfl h.1.2.1 Tryd_fld_31_2 rfl rfl) rfl) ⟨⟨rfl, rfl, trivial⟩, trivial, trivial⟩ ?_
        refine dr_cons (ref06_form_e165 a0) (fun m h => step_on (guard_on rfl rfl rfl h.1.1 hb20) (op_load_lp (v := .pv (.str a0.fName)) rfl h.1.2.1 h.2.1.1 rfl Tryd_one_9 rfl rfl) rfl) ⟨⟨rfl, rfl, trivial⟩, ⟨rfl, trivial⟩, trivial⟩ ?_
        refine dr_cons (ref06_form_e166 a0) (fun m h => step_on (guard_on rfl rfl rfl h.1.1 hb20) (op_str rfl h.1.2.1 rfl rfl rfl rfl) rfl) ⟨⟨rfl, rfl, trivial⟩, trivial, trivial⟩ ?_
        refine dr_cons { need := [(32, .pv (.bool false)), (36, .pv (.bool (a0.fKind != 2))), (39, .pv (.bool (!(a0.fName == []))))], dst := some 40, val := some (.pv (.bool (!(a0.fName == [])))) } (fun m h => step_on (guard_on rfl rfl rfl h.1.1 rfl) (op_pick_t rfl h.1.2.1 hb20 h.1.2.2.1 rfl rfl) rfl) ⟨⟨rfl, rfl, rfl, trivial⟩, trivial, trivial⟩ ?_
        refine dr_cons { need := [(32, .pv (.bool false)), (40, .pv (.bool (!(a0.fName == []))))], dst := some 41, val := some (.pv (.bool (!(a0.fName == [])))) } (fun m h => step_on (guard_no rfl) (op_pick_f rfl h.1.1 rfl h.1.2.1 rfl rfl) rfl) ⟨⟨rfl, rfl, trivial⟩, trivial, trivial⟩ ?_
        refine drm ?_
        rcases ite_some hF with ⟨hb21, hF⟩ | ⟨hb21, hF⟩
        · refine dro_t hb21 ?_
          iterate 2 (refine dro_t hb21 ?_)
          refine drpt hb21 ?_
          refine drm ?_
          iterate 3 (refine dro_t rfl ?_)
          refine drpt rfl ?_
          refine drm ?_
          iterate 4 (refine dro_t rfl ?_)
          iterate 4 (refine dru ?_)
          refine dro_t rfl ?_
          refine drpt rfl ?_
          refine dr_nil Tryd_mixed rfl (by kernel_rfl) ?_
          refine post_imp (s' := ⟨113, [(1, some (.lp 0 0)), (62, some (.pv (.bool true)))], [(0, some (.box 31 (bxv (eGExpr a0))))], 1, [], [], 0, []⟩) (imps [0] ⟨by kernel_rfl, by kernel_rfl, trivial⟩ ⟨by kernel_rfl, trivial⟩) ?_
          cases hF
          exact post_cut _ rfl (imps [0] ⟨by kernel_rfl, by kernel_rfl, trivial⟩ ⟨by kernel_rfl, trivial⟩)
        refine dr_cons { need := [(42, .pv (.bool (!(a0.fName == [])))), (1, .lp 0 0)], dst := some 43, val := some (.lp 0 1) } (fun m h => step_on (guard_on rfl rfl rfl h.1.1 hb21) (op_field_lp rfl h.1.2.1 Tryd_fld_31_1 rfl rfl) rfl) ⟨⟨rfl, rfl, trivial⟩, trivial, trivial⟩ ?_
        refine dr_cons (ref06_form_e170 a0) (fun m h => step_on (guard_on rfl rfl rfl h.1.1 hb21) (op_load_lp (v := .pv (.int .i64 a0.fNum)) rfl h.1.2.1 h.2.1.1 rfl Tryd_one_3 rfl rfl) rfl) ⟨⟨rfl, rfl, trivial⟩, ⟨rfl, trivial⟩, trivial⟩ ?_
        refine dr_cons (ref06_form_e171 a0) (fun m h => step_on (guard_on rfl rfl rfl h.1.1 hb21) (op_int (k := .i64) (m := a0.fNum) (n := 0) rfl h.1.2.1 rfl rfl rfl rfl) rfl) ⟨⟨rfl, rfl, trivial⟩, trivial, trivial⟩ ?_
        refine dr_cons (ref06_form_e172 a0) (fun m h => step_on (guard_no rfl) (op_pick_f rfl h.1.1 hb21 h.1.2.1 rfl rfl) rfl) ⟨⟨rfl, rfl, trivial⟩, trivial, trivial⟩ ?_
        refine drm ?_
        rcases ite_some hF with ⟨hb22, hF⟩ | ⟨hb22, hF⟩
        · refine dro_t hb22 ?_
          iterate 2 (refine dro_t hb22 ?_)
          refine drpt hb22 ?_
          refine drm ?_
          iterate 4 (refine dro_t rfl ?_)
          iterate 4 (refine dru ?_)
          refine dro_t rfl ?_
          refine drpt rfl ?_
          refine dr_nil Tryd_mixed rfl (by kernel_rfl) ?_
          refine post_imp (s' := ⟨113, [(1, some (.lp 0 0)), (62, some (.pv (.bool true)))], [(0, some (.box 31 (bxv (eGExpr a0))))], 1, [], [], 0, []⟩) (imps [0] ⟨by kernel_rfl, by kernel_rfl, trivial⟩ ⟨by kernel_rfl, trivial⟩) ?_
          cases hF
          exact post_cut _ rfl (imps [0] ⟨by kernel_rfl, by kernel_rfl, trivial⟩ ⟨by kernel_rfl, trivial⟩)
        refine dr_cons (ref06_form_e173 a0) (fun m h => step_on (guard_on rfl rfl rfl h.1.1 hb22) (op_field_lp rfl h.1.2.1 Tryd_fld_31_1 rfl rfl) rfl) ⟨⟨rfl, rfl, trivial⟩, trivial, trivial⟩ ?_
        refine dr_cons (ref06_form_e174 a0) (fun m h => step_on (guard_on rfl rfl rfl h.1.1 hb22) (op_load_lp (v := .pv (.int .i64 a0.fNum)) rfl h.1.2.1 h.2.1.1 rfl Tryd_one_3 rfl rfl) rfl) ⟨⟨rfl, rfl, trivial⟩, ⟨rfl, trivial⟩, trivial⟩ ?_
        refine dr_cons (ref06_form_e175 a0) (fun m h => step_on (guard_on rfl rfl rfl h.1.1 hb22) (op_int (k := .i64) (m := a0.fNum) (n := 999999999) rfl h.1.2.1 rfl rfl rfl rfl) rfl) ⟨⟨rfl, rfl, trivial⟩, trivial, trivial⟩ ?_
        refine dr_cons (ref06_form_e176 a0) (fun m h => step_on (guard_no rfl) (op_pick_f rfl h.1.1 hb22 h.1.2.1 rfl rfl) rfl) ⟨⟨rfl, rfl, trivial⟩, trivial, trivial⟩ ?_
        refine drm ?_
        rcases ite_some hF with ⟨hb23, hF⟩ | ⟨hb23, hF⟩
        · refine dro_t hb23 ?_
          iterate 3 (refine dro_t hb23 ?_)
          iterate 4 (refine dru ?_)
          refine dro_t hb23 ?_
          refine drpt hb23 ?_
          refine dr_nil Tryd_mixed rfl (by kernel_rfl) ?_
          refine post_imp (s' := ⟨113, [(1, some (.lp 0 0)), (62, some (.pv (.bool true)))], [(0, some (.box 31 (bxv (eGExpr a0))))], 1, [], [], 0, []⟩) (imps [0] ⟨by kernel_rfl, by kernel_rfl, trivial⟩ ⟨by kernel_rfl, trivial⟩) ?_
          cases hF
          exact post_cut _ rfl (imps [0] ⟨by kernel_rfl, by kernel_rfl, trivial⟩ ⟨by kernel_rfl, trivial⟩)
        refine dr_cons (ref06_form_e177 a0) (fun m h => step_on (guard_on rfl rfl rfl h.1.1 hb23) (op_field_lp rfl h.1.2.1 Tryd_fld_31_0 rfl rfl) rfl) ⟨⟨rfl, rfl, trivial⟩, trivial, trivial⟩ ?_
        refine dr_cons (ref06_form_e178 a0) (fun m h => step_on (guard_on rfl rfl rfl h.1.1 hb23) (op_load_lp (v := .pv (.int .i64 a0.fKind)) rfl h.1.2.1 h.2.1.1 rfl Tryd_one_3 rfl rfl) rfl) ⟨⟨rfl, rfl, trivial⟩, ⟨rfl, trivial⟩, trivial⟩ ?_
        refine dr_cons (ref06_form_e179 a0) (fun m h => step_on (guard_on rfl rfl rfl h.1.1 hb23) (op_int (k := .i64) (m := a0.fKind) (n := 2) rfl h.1.2.1 rfl rfl rfl rfl) rfl) ⟨⟨rfl, rfl, trivial⟩, trivial, trivial⟩ ?_
        refine dr_cons (ref06_form_e180 a0) (fun m h => step_on (guard_on rfl rfl rfl h.1.1 hb23) (op_move rfl h.1.2.1 rfl rfl) rfl) ⟨⟨rfl, rfl, trivial⟩, trivial, trivial⟩ ?_
        rcases ite_some hF with ⟨hb24, hF⟩ | ⟨hb24, hF⟩
        · refine dr_cons (ref06_form_e181 a0) (fun m h => step_on (guard_on rfl rfl rfl h.1.1 hb24) (op_field_lp rfl h.1.2.1 Tryd_fld_31_2 rfl rfl) rfl) ⟨⟨rfl, rfl, trivial⟩, trivial, trivial⟩ ?_
          refine dr_cons (ref06_form_e182 a0) (fun m h => step_on (guard_on rfl rfl rfl h.1.1 hb24) (op_load_lp (v := .pv (.str a0.fName)) rfl h.1.2.1 h.2.1.1 rfl Tryd_one_9 rfl rfl) rfl) ⟨⟨rfl, rfl, trivial⟩, ⟨rfl, trivial⟩, trivial⟩ ?_
          obtain ⟨y25, h26, hF⟩ := bind_some hF
          refine dr_cons { need := [(56, .pv (.bool (a0.fKind == 2))), (58, .pv (.str a0.fName))], dst := some 59, val := some (.pv (.bool y25)) } (fun m h => step_on (guard_on rfl rfl rfl h.1.1 hb24) (op_call 1 rfl (caps := []) (args := [.str a0.fName]) (rs := [.p (.bool y25)]) rfl rfl (evl_cons h.1.2.1 evl_nil) Tryd_cal_81 (ref02_Name_ok h26) rfl rfl rfl) rfl) ⟨⟨rfl, rfl, trivial⟩, trivial, trivial⟩ ?_
          refine dr_cons { need := [(56, .pv (.bool (a0.fKind == 2))), (59, .pv (.bool y25))], dst := some 60, val := some (.pv (.bool (!y25))) } (fun m h => step_on (guard_on rfl rfl rfl h.1.1 hb24) (op_not rfl h.1.2.1 rfl rfl) rfl) ⟨⟨rfl, rfl, trivial⟩, trivial, trivial⟩ ?_
          refine dr_cons { need := [(52, .pv (.bool (decide (a0.fNum > 999999999)))), (56, .pv (.bool (a0.fKind == 2))), (60, .pv (.bool (!y25)))], dst := some 61, val := some (.pv (.bool (!y25))) } (fun m h => step_on (guard_on rfl rfl rfl h.1.1 hb23) (op_pick_t rfl h.1.2.1 hb24 h.1.2.2.1 rfl rfl) rfl) ⟨⟨rfl, rfl, rfl, trivial⟩, trivial, trivial⟩ ?_
          refine dr_cons { need := [(52, .pv (.bool (decide (a0.fNum > 999999999)))), (61, .pv (.bool (!y25)))], dst := some 62, val := some (.pv (.bool (!y25))) } (fun m h => step_on (guard_no rfl) (op_pick_f rfl h.1.1 hb23 h.1.2.1 rfl rfl) rfl) ⟨⟨rfl, rfl, trivial⟩, trivial, trivial⟩ ?_
          refine dr_nil Tryd_mixed rfl (by kernel_rfl) ?_
          refine post_imp (s' := ⟨113, [(1, some (.lp 0 0)), (62, some (.pv (.bool (!y25))))], [(0, some (.box 31 (bxv (eGExpr a0))))], 1, [], [], 0, []⟩) (imps [0] ⟨by kernel_rfl, by kernel_rfl, trivial⟩ ⟨by kernel_rfl, trivial⟩) ?_
          cases hF
          exact post_cut _ rfl (imps [0] ⟨by kernel_rfl, by kernel_rfl, trivial⟩ ⟨by kernel_rfl, trivial⟩)
        iterate 4 (refine dro_f hb24 ?_)
        refine dr_cons (ref06_form_e187 a0) (fun m h => step_on (guard_on rfl rfl rfl h.1.1 hb23) (op_pick_f rfl h.1.2.1 hb24 rfl rfl rfl) rfl) ⟨⟨rfl, rfl, trivial⟩, trivial, trivial⟩ ?_
        refine dr_cons (ref06_form_e188 a0) (fun m h => step_on (guard_no rfl) (op_pick_f rfl h.1.1 hb23 h.1.2.1 rfl rfl) rfl) ⟨⟨rfl, rfl, trivial⟩, trivial, trivial⟩ ?_
        refine dr_nil Tryd_mixed rfl (by kernel_rfl) ?_
        refine post_imp (s' := ⟨113, [(1, some (.lp 0 0)), (62, some (.pv (.bool false)))], [(0, some (.box 31 (bxv (eGExpr a0))))], 1, [], [], 0, []⟩) (imps [0] ⟨by kernel_rfl, by kernel_rfl, trivial⟩ ⟨by kernel_rfl, trivial⟩) ?_
        cases hF
        exact post_cut _ rfl (imps [0] ⟨by kernel_rfl, by kernel_rfl, trivial⟩ ⟨by kernel_rfl, trivial⟩)
      iterate 3 (refine dro_f hb20 ?_)
      refine dr_cons { need := [(32, .pv (.bool false)), (36, .pv (.bool (a0.fKind != 2)))], dst := some 40, val := some (.pv (.bool false)) } (fun m h => step_on (guard_on rfl rfl rfl h.1.1 rfl) (op_pick_f rfl h.1.2.1 hb20 rfl rfl rfl) rfl) ⟨⟨rfl, rfl, trivial⟩, trivial, trivial⟩ ?_
      refine dr_cons { need := [(32, .pv (.bool false)), (40, .pv (.bool false))], dst := some 41, val := some (.pv (.bool false)) } (fun m h => step_on (guard_no rfl) (op_pick_f rfl h.1.1 rfl h.1.2.1 rfl rfl) rfl) ⟨⟨rfl, rfl, trivial⟩, trivial, trivial⟩ ?_
      refine drm ?_
      refine dr_cons { need := [(42, .pv (.bool false)), (1, .lp 0 0)], dst := some 43, val := some (.lp 0 1) } (fun m h => step_on (guard_on rfl rfl rfl h.1.1 rfl) (op_field_lp rfl h.1.2.1 Tryd_fld_31_1 rfl rfl) rfl) ⟨⟨rfl, rfl, trivial⟩, trivial, trivial⟩ ?_
      refine dr_cons (ref06_form_e192 a0) (fun m h => step_on (guard_on rfl rfl rfl h.1.1 rfl) (op_load_lp (v := .pv (.int .i64 a0.fNum)) rfl h.1.2.1 h.2.1.1 rfl Tryd_one_3 rfl rfl) rfl) ⟨⟨rfl, rfl, trivial⟩, ⟨rfl, trivial⟩, trivial⟩ ?_
      refine dr_cons (ref06_form_e193 a0) (fun m h => step_on (guard_on rfl rfl rfl h.1.1 rfl) (op_int (k := .i64) (m := a0.fNum) (n := 0) rfl h.1.2.1 rfl rfl rfl rfl) rfl) ⟨⟨rfl, rfl, trivial⟩, trivial, trivial⟩ ?_
      refine dr_cons (ref06_form_e194 a0) (fun m h => step_on (guard_no rfl) (op_pick_f rfl h.1.1 rfl h.1.2.1 rfl rfl) rfl) ⟨⟨rfl, rfl, trivial⟩, trivial, trivial⟩ ?_
      refine drm ?_
      rcases ite_some hF with ⟨hb27, hF⟩ | ⟨hb27, hF⟩
      · refine dro_t hb27 ?_
        iterate 2 (refine dro_t hb27 ?_)
        refine drpt hb27 ?_
        refine drm ?_
        iterate 4 (refine dro_t rfl ?_)
        iterate 4 (refine dru ?_)
        refine dro_t rfl ?_
        refine drpt rfl ?_
        refine dr_nil Tryd_mixed rfl (by kernel_rfl) ?_
        refine post_imp (s' := ⟨113, [(1, some (.lp 0 0)), (62, some (.pv (.bool true)))], [(0, some (.box 31 (bxv (eGExpr a0))))], 1, [], [], 0, []⟩) (imps [0] ⟨by kernel_rfl, by kernel_rfl, trivial⟩ ⟨by kernel_rfl, trivial⟩) ?_
        cases hF
        exact post_cut _ rfl (imps [0] ⟨by kernel_rfl, by kernel_rfl, trivial⟩ ⟨by kernel_rfl, trivial⟩)
      refine dr_cons (ref06_form_e173 a0) (fun m h => step_on (guard_on rfl rfl rfl h.1.1 hb27) (op_field_lp rfl h.1.2.1 Tryd_fld_31_1 rfl rfl) rfl) ⟨⟨rfl, rfl, trivial⟩, trivial, trivial⟩ ?_
      refine dr_cons (ref06_form_e174 a0) (fun m h => step_on (guard_on rfl rfl rfl h.1.1 hb27) (op_load_lp (v := .pv (.int .i64 a0.fNum)) rfl h.1.2.1 h.2.1.1 rfl Tryd_one_3 rfl rfl) rfl) ⟨⟨rfl, rfl, trivial⟩, ⟨rfl, trivial⟩, trivial⟩ ?_
      refine dr_cons (ref06_form_e175 a0) (fun m h => step_on (guard_on rfl rfl rfl h.1.1 hb27) (op_int (k := .i64) (m := a0.fNum) (n := 999999999) rfl h.1.2.1 rfl rfl rfl rfl) rfl) ⟨⟨rfl, rfl, trivial⟩, trivial, trivial⟩ ?_
      refine dr_cons (ref06_form_e176 a0) (fun m h => step_on (guard_no rfl) (op_pick_f rfl h.1.1 hb27 h.1.2.1 rfl rfl) rfl) ⟨⟨rfl, rfl, trivial⟩, trivial, trivial⟩ ?_
      refine drm ?_
      rcases ite_some hF with ⟨hb28, hF⟩ | ⟨hb28, hF⟩
      · refine dro_t hb28 ?_
        iterate 3 (refine dro_t hb28 ?_)
        iterate 4 (refine dru ?_)
        refine dro_t hb28 ?_
        refine drpt hb28 ?_
        refine dr_nil Tryd_mixed rfl (by kernel_rfl) ?_
        refine post_imp (s' := ⟨113, [(1, some (.lp 0 0)), (62, some (.pv (.bool true)))], [(0, some (.box 31 (bxv (eGExpr a0))))], 1, [], [], 0, []⟩) (imps [0] ⟨by kernel_rfl, by kernel_rfl, trivial⟩ ⟨by kernel_rfl, trivial⟩) ?_
        cases hF
        exact post_cut _ rfl (imps [0] ⟨by kernel_rfl, by kernel_rfl, trivial⟩ ⟨by kernel_rfl, trivial⟩)
      refine dr_cons (ref06_form_e177 a0) (fun m h => step_on (guard_on rfl rfl rfl h.1.1 hb28) (op_field_lp rfl h.1.2.1 Tryd_fld_31_0 rfl rfl) rfl) ⟨⟨rfl, rfl, trivial⟩, trivial, trivial⟩ ?_
      refine dr_cons (ref06_form_e178 a0) (fun m h => step_on (guard_on rfl rfl rfl h.1.1 hb28) (op_load_lp (v := .pv (.int .i64 a0.fKind)) rfl h.1.2.1 h.2.1.1 rfl Tryd_one_3 rfl rfl) rfl) ⟨⟨rfl, rfl, trivial⟩, ⟨rfl, trivial⟩, trivial⟩ ?_
      refine dr_cons (ref06_form_e179 a0) (fun m h => step_on (guard_on rfl rfl rfl h.1.1 hb28) (op_int (k := .i64) (m := a0.fKind) (n := 2) rfl h.1.2.1 rfl rfl rfl rfl) rfl) ⟨⟨rfl, rfl, trivial⟩, trivial, trivial⟩ ?_
      refine dr_cons (ref06_form_e180 a0) (fun m h => step_on (guard_on rfl rfl rfl h.1.1 hb28) (op_move rfl h.1.2.1 rfl rfl) rfl) ⟨⟨rfl, rfl, trivial⟩, trivial, trivial⟩ ?_
      rcases ite_some hF with ⟨hb29, hF⟩ | ⟨hb29, hF⟩
      · refine dr_cons (ref06_form_e181 a0) (fun m h => step_on (guard_on rfl rfl rfl h.1.1 hb29) (op_field_lp rfl h.1.2.1 Tryd_fld_31_2 rfl rfl) rfl) ⟨⟨rfl, rfl, trivial⟩, trivial, trivial⟩ ?_
        refine dr_cons (ref06_form_e182 a0) (fun m h => step_on (guard_on rfl rfl rfl h.1.1 hb29) (op_load_lp (v := .pv (.str a0.fName)) rfl h.1.2.1 h.2.1.1 rfl Tryd_one_9 rfl rfl) rfl) ⟨⟨rfl, rfl, trivial⟩, ⟨rfl, trivial⟩, trivial⟩ ?_
        obtain ⟨y30, h31, hF⟩ := bind_some hF
        refine dr_cons { need := [(56, .pv (.bool (a0.fKind == 2))), (58, .pv (.str a0.fName))], dst := some 59, val := some (.pv (.bool y30)) } (fun m h => step_on (guard_on rfl rfl rfl h.1.1 hb29) (op_call 1 rfl (caps := []) (args := [.str a0.fName]) (rs := [.p (.bool y30)]) rfl rfl (evl_cons h.1.2.1 evl_nil) Tryd_cal_81 (ref02_Name_ok h31) rfl rfl rfl) rfl) ⟨⟨rfl, rfl, trivial⟩, trivial, trivial⟩ ?_
        refine dr_cons { need := [(56, .pv (.bool (a0.fKind == 2))), (59, .pv (.bool y30))], dst := some 60, val := some (.pv (.bool (!y30))) } (fun m h => step_on (guard_on rfl rfl rfl h.1.1 hb29) (op_not rfl h.1.2.1 rfl rfl) rfl) ⟨⟨rfl, rfl, trivial⟩, trivial, trivial⟩ ?_
        refine dr_cons { need := [(52, .pv (.bool (decide (a0.fNum > 999999999)))), (56, .pv (.bool (a0.fKind == 2))), (60, .pv (.bool (!y30)))], dst := some 61, val := some (.pv (.bool (!y30))) } (fun m h => step_on (guard_on rfl rfl rfl h.1.1 hb28) (op_pick_t rfl h.1.2.1 hb29 h.1.2.2.1 rfl rfl) rfl) ⟨⟨rfl, rfl, rfl, trivial⟩, trivial, trivial⟩ ?_
        refine dr_cons { need := [(52, .pv (.bool (decide (a0.fNum > 999999999)))), (61, .pv (.bool (!y30)))], dst := some 62, val := some (.pv (.bool (!y30))) } (fun m h => step_on (guard_no rfl) (op_pick_f rfl h.1.1 hb28 h.1.2.1 rfl rfl) rfl) ⟨⟨rfl, rfl, trivial⟩, trivial, trivial⟩ ?_
        refine dr_nil Tryd_mixed rfl (by kernel_rfl) ?_
        refine post_imp (s' := ⟨113, [(1, some (.lp 0 0)), (62, some (.pv (.bool (!y30))))], [(0, some (.box 31 (bxv (eGExpr a0))))], 1, [], [], 0, []⟩) (imps [0] ⟨by kernel_rfl, by kernel_rfl, trivial⟩ ⟨by kernel_rfl, trivial⟩) ?_
        cases hF
        exact post_cut _ rfl (imps [0] ⟨by kernel_rfl, by kernel_rfl, trivial⟩ ⟨by kernel_rfl, trivial⟩)
      iterate 4 (refine dro_f hb29 ?_)
      refine dr_cons (ref06_form_e187 a0) (fun m h => step_on (guard_on rfl rfl rfl h.1.1 hb28) (op_pick_f rfl h.1.2.1 hb29 rfl rfl rfl) rfl) ⟨⟨rfl, rfl, trivial⟩, trivial, trivial⟩ ?_
      refine dr_cons (ref06_form_e188 a0) (fun m h => step_on (guard_no rfl) (op_pick_f rfl h.1.1 hb28 h.1.2.1 rfl rfl) rfl) ⟨⟨rfl, rfl, trivial⟩, trivial, trivial⟩ ?_
      refine dr_nil Tryd_mixed rfl (by kernel_rfl) ?_
      refine post_imp (s' := ⟨113, [(1, some (.lp 0 0)), (62, some (.pv (.bool false)))], [(0, some (.box 31 (bxv (eGExpr a0))))], 1, [], [], 0, []⟩) (imps [0] ⟨by kernel_rfl, by kernel_rfl, trivial⟩ ⟨by kernel_rfl, trivial⟩) ?_
      cases hF
      exact post_cut _ rfl (imps [0] ⟨by kernel_rfl, by kernel_rfl, trivial⟩ ⟨by kernel_rfl, trivial⟩)
    rintro _ rfl
    have hF := hK34
    clear hK34
    refine post_next ?_
    rcases ite_some hF with ⟨hb35, hF⟩ | ⟨hb35, hF⟩
    · refine aw_cond_t rfl hb35 ?_
      refine aw_seq ?_
      refine aw_region ?_
      refine ras ?_
      refine reg_nil ?_
      refine post_imp (s' := ⟨113, [(2, some (.pv (.bool false)))], [], 0, [], [], 0, []⟩) (imps [] ⟨by kernel_rfl, trivial⟩ trivial) ?_
      refine post_next ?_
      refine aw_ret ?_
      refine post_then_ret ?_
      obtain rfl := Option.some.inj hF
      exact prt
    refine aw_cond_f rfl hb35 ?_
    refine aw_skip ?_
    refine post_next ?_
    iterate 2 (refine aw_seq ?_)
    refine aw_region ?_
    refine ras ?_
    refine reg_nil ?_
    refine post_imp (s' := ⟨113, [(1, some (.lp 0 0)), (3, some (.pv (.int .i64 0)))], [(0, some (.box 31 (bxv (eGExpr a0))))], 1, [], [], 0, []⟩) (imps [0] ⟨by kernel_rfl, by kernel_rfl, trivial⟩ ⟨by kernel_rfl, trivial⟩) ?_
    refine post_next ?_
    obtain ⟨lr117, hF, hK118⟩ := bind_some hF
    refine aw_for ((((a0.fKids.length : Int) : Int) - (0)).toNat + 1) (fun s1 => ∃ q, lr117 = .next q ∧ s1 = ⟨113, [], [], 0, [], [], 0, []⟩) ?_ ?_
    · refine rnd_loop (α := Int) (fun q => ⟨113, [(1, some (.lp 0 0)), (3, some (.pv (.int .i64 q)))], [(0, some (.box 31 (bxv (eGExpr a0))))], 1, [], [], 0, []⟩) (fun k q => ref06_form_L1 a0 ref06_form_rec k q = some lr117) 0 (imps [0] ⟨by kernel_rfl, by kernel_rfl, trivial⟩ ⟨by kernel_rfl, trivial⟩) hF (fun q h => by cases h) ?_
      clear hF
      rintro k x62 hF ih
      refine rnd_succ ?_
      iterate 2 (refine aw_seq ?_)
      refine aw_region ?_
      refine rmv ?_
      refine rgp (op_field_lp rfl rfl Tryd_fld_31_3 rfl rfl) ?_
      refine rgp (op_load_lp (v := .pv (.vs 4 (eLGExpr a0.fKids))) rfl rfl rfl rfl Tryd_one_29 rfl rfl) ?_
      refine rgp (op_len_vs (n := a0.fKids.length) rfl rfl (lenR eLGExpr_map) Tryd_slc_29 rfl rfl) ?_
      refine rgp (op_int (k := .i64) (m := x62) (n := (a0.fKids.length : Int)) rfl rfl rfl rfl rfl rfl) ?_
      refine reg_nil ?_
      refine post_imp (s' := ⟨113, [(1, some (.lp 0 0)), (3, some (.pv (.int .i64 x62))), (67, some (.pv (.bool (decide (x62 < (a0.fKids.length : Int))))))], [(0, some (.box 31 (bxv (eGExpr a0))))], 1, [], [], 0, []⟩) (imps [0] ⟨by kernel_rfl, by kernel_rfl, by kernel_rfl, trivial⟩ ⟨by kernel_rfl, trivial⟩) ?_
      refine post_next ?_
      rcases ite_some hF with ⟨hb90, hF⟩ | ⟨hb90, hF⟩
      · refine aw_cond_t rfl hb90 ?_
        refine aw_skip ?_
        refine post_next ?_
        refine aw_seq ?_
        refine aw_block ?_
        refine aw_seq ?_
        refine aw_region ?_
        refine rgp (op_field_lp rfl rfl Tryd_fld_31_3 rfl rfl) ?_
        refine rgp (op_load_lp (v := .pv (.vs 4 (eLGExpr a0.fKids))) rfl rfl rfl rfl Tryd_one_29 rfl rfl) ?_
        refine rmv ?_
        obtain ⟨y93, h94, hF⟩ := bind_some hF
        refine rgp (op_index_vs (k := .i64) rfl rfl rfl (idxR eLGExpr_map h94) Tryd_slc_29 rfl rfl) ?_
        refine rgp (op_field_vp rfl rfl Tryd_fld_31_0 rfl rfl) ?_
        refine rgp (op_load_vp (p := .int .i64 y93.fKind) rfl rfl rfl Tryd_one_3 rfl rfl) ?_
        refine ras ?_
        refine reg_nil ?_
        refine post_imp (s' := ⟨113, [(1, some (.lp 0 0)), (3, some (.pv (.int .i64 x62))), (4, some (.pv (.int .i64 y93.fKind)))], [(0, some (.box 31 (bxv (eGExpr a0))))], 1, [], [], 0, []⟩) (imps [0] ⟨by kernel_rfl, by kernel_rfl, by kernel_rfl, trivial⟩ ⟨by kernel_rfl, trivial⟩) ?_
        refine post_next ?_
        refine aw_seq ?_
        obtain ⟨x112, hF, hK114⟩ := bind_some hF
        refine aw_cut (fun s1 => s1 = ⟨113, [(1, some (.lp 0 0)), (3, some (.pv (.int .i64 x62))), (112, some (.pv (.bool x112)))], [(0, some (.box 31 (bxv (eGExpr a0))))], 1, [], [], 0, []⟩) ?_ ?_
        · refine aw_region ?_
          refine rgp (op_field_lp rfl rfl Tryd_fld_31_3 rfl rfl) ?_
          refine rgp (op_load_lp (v := .pv (.vs 4 (eLGExpr a0.fKids))) rfl rfl rfl rfl Tryd_one_29 rfl rfl) ?_
          refine rmv ?_
          obtain ⟨y99, h100, hF⟩ := bind_some hF
          refine rgp (op_index_vs (k := .i64) rfl rfl rfl (idxR eLGExpr_map h100) Tryd_slc_29 rfl rfl) ?_
          refine rgp (op_load_vp_agg (ps := eGExpr y99) rfl rfl rfl rfl Tryd_agg_31 rfl rfl) ?_
          obtain ⟨y101, h102, hF⟩ := bind_some hF
          refine rgp (op_call 1 rfl (caps := []) (args := [.agg (eGExpr y99)]) (rs := [.p (.bool y101)]) rfl rfl rfl Tryd_cal_55 (ref06_form_ih _ _ h102) rfl rfl rfl) ?_
          refine rgp (op_not rfl rfl rfl rfl) ?_
          refine rmv ?_
          rcases ite_some hF with ⟨hb103, hF⟩ | ⟨hb103, hF⟩
          · refine rgo_t hb103 ?_
            iterate 3 (refine rgo_t hb103 ?_)
            iterate 2 (refine rgu ?_)
            iterate 2 (refine rgo_t hb103 ?_)
            iterate 2 (refine rgu ?_)
            refine rgo_t hb103 ?_
            refine rpt hb103 ?_
            refine rmv ?_
            iterate 4 (refine rgo_t rfl ?_)
            iterate 2 (refine rgu ?_)
            iterate 2 (refine rgo_t rfl ?_)
            iterate 2 (refine rgu ?_)
            iterate 2 (refine rgo_t rfl ?_)
            iterate 2 (refine rgu ?_)
            refine rgo_t rfl ?_
            refine rpt rfl ?_
            refine reg_nil ?_
            cases hF
            exact post_cut _ rfl (imps [0] ⟨by kernel_rfl, by kernel_rfl, by kernel_rfl, trivial⟩ ⟨by kernel_rfl, trivial⟩)
          refine rgn hb103 (op_field_lp rfl rfl Tryd_fld_31_0 rfl rfl) ?_
          refine rgn hb103 (op_load_lp (v := .pv (.int .i64 a0.fKind)) rfl rfl rfl rfl Tryd_one_3 rfl rfl) ?_
          refine rgn hb103 (op_int (k := .i64) (m := a0.fKind) (n := 13) rfl rfl rfl rfl rfl rfl) ?_
          refine rgn hb103 (op_move rfl rfl rfl rfl) ?_
          rcases ite_some hF with ⟨hb104, hF⟩ | ⟨hb104, hF⟩
          · refine rgn hb104 (op_move rfl rfl rfl rfl) ?_
            refine rgn hb104 (op_int (k := .i64) (m := y93.fKind) (n := 2) rfl rfl rfl rfl rfl rfl) ?_
            refine rgn hb103 (op_pick_t rfl rfl hb104 rfl rfl rfl) ?_
            refine rgn hb103 (op_move rfl rfl rfl rfl) ?_
            rcases ite_some hF with ⟨hb105, hF⟩ | ⟨hb105, hF⟩
            · refine rgn hb105 (op_move rfl rfl rfl rfl) ?_
              refine rgn hb105 (op_int (k := .i64) (m := y93.fKind) (n := 3) rfl rfl rfl rfl rfl rfl) ?_
              refine rgn hb103 (op_pick_t rfl rfl hb105 rfl rfl rfl) ?_
              refine rpf hb103 ?_
              refine rmv ?_
              rcases ite_some hF with ⟨hb106, hF⟩ | ⟨hb106, hF⟩
              · refine rgo_t hb106 ?_
                iterate 3 (refine rgo_t hb106 ?_)
                iterate 2 (refine rgu ?_)
                iterate 2 (refine rgo_t hb106 ?_)
                iterate 2 (refine rgu ?_)
                iterate 2 (refine rgo_t hb106 ?_)
                iterate 2 (refine rgu ?_)
                refine rgo_t hb106 ?_
                refine rpt hb106 ?_
                refine reg_nil ?_
                cases hF
                exact post_cut _ rfl (imps [0] ⟨by kernel_rfl, by kernel_rfl, by kernel_rfl, trivial⟩ ⟨by kernel_rfl, trivial⟩)
              refine rgn hb106 (op_field_lp rfl rfl Tryd_fld_31_0 rfl rfl) ?_
              refine rgn hb106 (op_load_lp (v := .pv (.int .i64 a0.fKind)) rfl rfl rfl rfl Tryd_one_3 rfl rfl) ?_
              refine rgn hb106 (op_int (k := .i64) (m := a0.fKind) (n := 14) rfl rfl rfl rfl rfl rfl) ?_
              refine rgn hb106 (op_move rfl rfl rfl rfl) ?_
              rcases ite_some hF with ⟨hb107, hF⟩ | ⟨hb107, hF⟩
              · refine rgn hb107 (op_move rfl rfl rfl rfl) ?_
                refine rgn hb107 (op_int (k := .i64) (m := y93.fKind) (n := 2) rfl rfl rfl rfl rfl rfl) ?_
                refine rgn hb106 (op_pick_t rfl rfl hb107 rfl rfl rfl) ?_
                refine rgn hb106 (op_move rfl rfl rfl rfl) ?_
                refine rgn hb105 (op_move rfl rfl rfl rfl) ?_
                refine rgn hb105 (op_int (k := .i64) (m := y93.fKind) (n := 3) rfl rfl rfl rfl rfl rfl) ?_
                refine rgn hb106 (op_pick_t rfl rfl hb105 rfl rfl rfl) ?_
                refine rgn hb106 (op_move rfl rfl rfl rfl) ?_
                iterate 2 (refine rgo_f hb106 ?_)
                refine rgn hb106 (op_pick_f rfl rfl hb106 rfl rfl rfl) ?_
                refine rpf hb106 ?_
                refine reg_nil ?_
                cases hF
                exact post_cut _ rfl (imps [0] ⟨by kernel_rfl, by kernel_rfl, by kernel_rfl, trivial⟩ ⟨by kernel_rfl, trivial⟩)
              iterate 2 (refine rgo_f hb107 ?_)
              refine rgn hb106 (op_pick_f rfl rfl hb107 rfl rfl rfl) ?_
              refine rgn hb106 (op_move rfl rfl rfl rfl) ?_
              iterate 2 (refine rgo_f rfl ?_)
              refine rgn hb106 (op_pick_f rfl rfl rfl rfl rfl rfl) ?_
              refine rgn hb106 (op_move rfl rfl rfl rfl) ?_
              iterate 2 (refine rgo_f rfl ?_)
              refine rgn hb106 (op_pick_f rfl rfl rfl rfl rfl rfl) ?_
              refine rpf hb106 ?_
              refine reg_nil ?_
              cases hF
              exact post_cut _ rfl (imps [0] ⟨by kernel_rfl, by kernel_rfl, by kernel_rfl, trivial⟩ ⟨by kernel_rfl, trivial⟩)
            iterate 2 (refine rgo_f hb105 ?_)
            refine rgn hb103 (op_pick_f rfl rfl hb105 rfl rfl rfl) ?_
            refine rpf hb103 ?_
            refine rmv ?_
            refine rgn rfl (op_field_lp rfl rfl Tryd_fld_31_0 rfl rfl) ?_
            refine rgn rfl (op_load_lp (v := .pv (.int .i64 a0.fKind)) rfl rfl rfl rfl Tryd_one_3 rfl rfl) ?_
            refine rgn rfl (op_int (k := .i64) (m := a0.fKind) (n := 14) rfl rfl rfl rfl rfl rfl) ?_
            refine rgn rfl (op_move rfl rfl rfl rfl) ?_
            rcases ite_some hF with ⟨hb108, hF⟩ | ⟨hb108, hF⟩
            · refine rgn hb108 (op_move rfl rfl rfl rfl) ?_
              refine rgn hb108 (op_int (k := .i64) (m := y93.fKind) (n := 2) rfl rfl rfl rfl rfl rfl) ?_
              refine rgn rfl (op_pick_t rfl rfl hb108 rfl rfl rfl) ?_
              refine rgn rfl (op_move rfl rfl rfl rfl) ?_
              iterate 2 (refine rgo_f hb105 ?_)
              refine rgn rfl (op_pick_f rfl rfl hb105 rfl rfl rfl) ?_
              refine rgn rfl (op_move rfl rfl rfl rfl) ?_
              iterate 2 (refine rgo_f rfl ?_)
              refine rgn rfl (op_pick_f rfl rfl rfl rfl rfl rfl) ?_
              refine rpf rfl ?_
              refine reg_nil ?_
              cases hF
              exact post_cut _ rfl (imps [0] ⟨by kernel_rfl, by kernel_rfl, by kernel_rfl, trivial⟩ ⟨by kernel_rfl, trivial⟩)
            iterate 2 (refine rgo_f hb108 ?_)
            refine rgn rfl (op_pick_f rfl rfl hb108 rfl rfl rfl) ?_
            refine rgn rfl (op_move rfl rfl rfl rfl) ?_
            iterate 2 (refine rgo_f rfl ?_)
            refine rgn rfl (op_pick_f rfl rfl rfl rfl rfl rfl) ?_
            refine rgn rfl (op_move rfl rfl rfl rfl) ?_
            iterate 2 (refine rgo_f rfl ?_)
            refine rgn rfl (op_pick_f rfl rfl rfl rfl rfl rfl) ?_
            refine rpf rfl ?_
            refine reg_nil ?_
            cases hF
            exact post_cut _ rfl (imps [0] ⟨by kernel_rfl, by kernel_rfl, by kernel_rfl, trivial⟩ ⟨by kernel_rfl, trivial⟩)
          iterate 2 (refine rgo_f hb104 ?_)
          refine rgn hb103 (op_pick_f rfl rfl hb104 rfl rfl rfl) ?_
          refine rgn hb103 (op_move rfl rfl rfl rfl) ?_
          iterate 2 (refine rgo_f rfl ?_)
          refine rgn hb103 (op_pick_f rfl rfl rfl rfl rfl rfl) ?_
          refine rpf hb103 ?_
          refine rmv ?_
          refine rgn rfl (op_field_lp rfl rfl Tryd_fld_31_0 rfl rfl) ?_
          refine rgn rfl (op_load_lp (v := .pv (.int .i64 a0.fKind)) rfl rfl rfl rfl Tryd_one_3 rfl rfl) ?_
          refine rgn rfl (op_int (k := .i64) (m := a0.fKind) (n := 14) rfl rfl rfl rfl rfl rfl) ?_
          refine rgn rfl (op_move rfl rfl rfl rfl) ?_
          rcases ite_some hF with ⟨hb109, hF⟩ | ⟨hb109, hF⟩
          · refine rgn hb109 (op_move rfl rfl rfl rfl) ?_
            refine rgn hb109 (op_int (k := .i64) (m := y93.fKind) (n := 2) rfl rfl rfl rfl rfl rfl) ?_
            refine rgn rfl (op_pick_t rfl rfl hb109 rfl rfl rfl) ?_
            refine rgn rfl (op_move rfl rfl rfl rfl) ?_
            rcases ite_some hF with ⟨hb110, hF⟩ | ⟨hb110, hF⟩
            · refine rgn hb110 (op_move rfl rfl rfl rfl) ?_
              refine rgn hb110 (op_int (k := .i64) (m := y93.fKind) (n := 3) rfl rfl rfl rfl rfl rfl) ?_
              refine rgn rfl (op_pick_t rfl rfl hb110 rfl rfl rfl) ?_
              refine rgn rfl (op_move rfl rfl rfl rfl) ?_
              rcases ite_some hF with ⟨hb111, hF⟩ | ⟨hb111, hF⟩
              · refine rgn hb111 (op_move rfl rfl rfl rfl) ?_
                refine rgn hb111 (op_int (k := .i64) (m := y93.fKind) (n := 4) rfl rfl rfl rfl rfl rfl) ?_
                refine rgn rfl (op_pick_t rfl rfl hb111 rfl rfl rfl) ?_
                refine rpf rfl ?_
                refine reg_nil ?_
                cases hF
                exact post_cut _ rfl (imps [0] ⟨by kernel_rfl, by kernel_rfl, by kernel_rfl, trivial⟩ ⟨by kernel_rfl, trivial⟩)
              iterate 2 (refine rgo_f hb111 ?_)
              refine rgn rfl (op_pick_f rfl rfl hb111 rfl rfl rfl) ?_
              refine rpf rfl ?_
              refine reg_nil ?_
              cases hF
              exact post_cut _ rfl (imps [0] ⟨by kernel_rfl, by kernel_rfl, by kernel_rfl, trivial⟩ ⟨by kernel_rfl, trivial⟩)
            iterate 2 (refine rgo_f hb110 ?_)
            refine rgn rfl (op_pick_f rfl rfl hb110 rfl rfl rfl) ?_
            refine rgn rfl (op_move rfl rfl rfl rfl) ?_
            iterate 2 (refine rgo_f rfl ?_)
            refine rgn rfl (op_pick_f rfl rfl rfl rfl rfl rfl) ?_
            refine rpf rfl ?_
            refine reg_nil ?_
            cases hF
            exact post_cut _ rfl (imps [0] ⟨by kernel_rfl, by kernel_rfl, by kernel_rfl, trivial⟩ ⟨by kernel_rfl, trivial⟩)
          iterate 2 (refine rgo_f hb109 ?_)
          refine rgn rfl (op_pick_f rfl rfl hb109 rfl rfl rfl) ?_
          refine rgn rfl (op_move rfl rfl rfl rfl) ?_
          iterate 2 (refine rgo_f rfl ?_)
          refine rgn rfl (op_pick_f rfl rfl rfl rfl rfl rfl) ?_
          refine rgn rfl (op_move rfl rfl rfl rfl) ?_
          iterate 2 (refine rgo_f rfl ?_)
          refine rgn rfl (op_pick_f rfl rfl rfl rfl rfl rfl) ?_
          refine rpf rfl ?_
          refine reg_nil ?_
          cases hF
          exact post_cut _ rfl (imps [0] ⟨by kernel_rfl, by kernel_rfl, by kernel_rfl, trivial⟩ ⟨by kernel_rfl, trivial⟩)
        rintro _ rfl
        have hF := hK114
        clear hK114
        refine post_next ?_
        rcases ite_some hF with ⟨hb115, hF⟩ | ⟨hb115, hF⟩
        · refine aw_cond_t rfl hb115 ?_
          refine aw_seq ?_
          refine aw_region ?_
          refine ras ?_
          refine reg_nil ?_
          refine post_imp (s' := ⟨113, [(2, some (.pv (.bool false)))], [], 0, [], [], 0, []⟩) (imps [] ⟨by kernel_rfl, trivial⟩ trivial) ?_
          refine post_next ?_
          refine aw_ret ?_
          refine post_block_ret ?_
          iterate 2 (refine post_then_ret ?_)
          refine post_lp_ret ?_
          obtain rfl := Option.some.inj hF
          have hF := elim_stop hK118
          refine post_then_ret ?_
          obtain rfl := Option.some.inj hF
          exact prt
        refine aw_cond_f rfl hb115 ?_
        refine aw_skip ?_
        refine post_block_normal ?_
        refine post_next ?_
        refine aw_region ?_
        refine rmv ?_
        refine rgp (op_int (k := .i64) (m := x62) (n := 1) rfl rfl rfl rfl rfl rfl) ?_
        refine ras ?_
        refine reg_nil ?_
        refine post_round ?_
        exact rnd_back (ih (w_i64 (x62 + 1)) hF) (imps [0] ⟨by kernel_rfl, by kernel_rfl, trivial⟩ ⟨by kernel_rfl, trivial⟩)
      refine aw_cond_f rfl hb90 ?_
      refine aw_exit ?_
      iterate 2 (refine post_then_exit ?_)
      obtain rfl := Option.some.inj hF
      exact post_lp_break _ ⟨_, rfl, rfl⟩ (imps [] trivial trivial)
    rintro _ ⟨⟨⟩, rfl, rfl⟩
    have hF := elim_next hK118
    clear hK118
    refine post_next ?_
    refine aw_seq ?_
    refine aw_region ?_
    refine ras ?_
    refine reg_nil ?_
    refine post_imp (s' := ⟨113, [(2, some (.pv (.bool true)))], [], 0, [], [], 0, []⟩) (imps [] ⟨by kernel_rfl, trivial⟩ trivial) ?_
    refine post_next ?_
    refine aw_ret ?_
    obtain rfl := Option.some.inj hF
    exact prt
theorem ref06_form_ok {n : Nat} {a0 : GExpr} {r : Bool} (hF : ref06_form n a0 = some r) : Abs.Fn globs_Tryd Tryd.prog 55 [.agg (eGExpr a0)] [.p (.bool r)] := (ref06_form_ring n) _ _ hF

theorem ref06_Deep_ring : ∀ n : Nat, (∀ (a0 : GExpr) (r : Int), ref06_Deep n a0 = some r → Abs.Fn globs_Tryd Tryd.prog 56 [.agg (eGExpr a0)] [.p (.int .i64 r)]) := by
  intro n
  induction n with
  | zero => exact (fun _ _ h => by simp [ref06_Deep] at h)
  | succ n ih =>
    have ref06_Deep_ih := ih
    clear ih
    intro a0 r hF
    unfold ref06_Deep at hF
    revert hF ref06_Deep_ih
    generalize ref06_Deep n = ref06_Deep_rec
    intro ref06_Deep_ih hF
    refine fn_of_body (n := 22) Tryd.func56 rfl rfl rfl ?_
    intro w O
    refine aw_seq ?_
    refine aw_region ?_
    refine rgp (op_box 0 rfl rfl rfl rfl rfl rfl) ?_
    refine ras ?_
    refine reg_nil ?_
    refine post_imp (s' := ⟨22, [(1, some (.lp 0 0))], [(0, some (.box 31 (bxv (eGExpr a0))))], 1, [], [], 0, []⟩) (imps [0] ⟨by kernel_rfl, trivial⟩ ⟨by kernel_rfl, trivial⟩) ?_
    refine post_next ?_
    refine aw_seq ?_
    refine aw_region ?_
    refine ras ?_
    refine reg_nil ?_
    refine post_imp (s' := ⟨22, [(1, some (.lp 0 0)), (3, some (.pv (.int .i64 0)))], [(0, some (.box 31 (bxv (eGExpr a0))))], 1, [], [], 0, []⟩) (imps [0] ⟨by kernel_rfl, by kernel_rfl, trivial⟩ ⟨by kernel_rfl, trivial⟩) ?_
    refine post_next ?_
    iterate 2 (refine aw_seq ?_)
    refine aw_region ?_
    refine ras ?_
    refine reg_nil ?_
    refine post_imp (s' := ⟨22, [(1, some (.lp 0 0)), (3, some (.pv (.int .i64 0))), (4, some (.pv (.int .i64 0)))], [(0, some (.box 31 (bxv (eGExpr a0))))], 1, [], [], 0, []⟩) (imps [0] ⟨by kernel_rfl, by kernel_rfl, by kernel_rfl, trivial⟩ ⟨by kernel_rfl, trivial⟩) ?_
    refine post_next ?_
    obtain ⟨x34, hF, hK35⟩ := bind_some hF
    refine aw_for ((((a0.fKids.length : Int) : Int) - (0)).toNat + 1) (fun s1 => s1 = ⟨22, [(3, some (.pv (.int .i64 x34)))], [], 0, [], [], 0, []⟩) ?_ ?_
    · refine rnd_loop (α := Int × Int) (fun q => ⟨22, [(1, some (.lp 0 0)), (3, some (.pv (.int .i64 q.1))), (4, some (.pv (.int .i64 q.2)))], [(0, some (.box 31 (bxv (eGExpr a0))))], 1, [], [], 0, []⟩) (fun k q => ref06_Deep_L1 a0 ref06_Deep_rec k q.1 q.2 = some x34) (0, 0) (imps [0] ⟨by kernel_rfl, by kernel_rfl, by kernel_rfl, trivial⟩ ⟨by kernel_rfl, trivial⟩) hF (fun q h => by cases h) ?_
      clear hF
      rintro k ⟨x10, x11⟩ hF ih
      refine rnd_succ ?_
      iterate 2 (refine aw_seq ?_)
      refine aw_region ?_
      refine rmv ?_
      refine rgp (op_field_lp rfl rfl Tryd_fld_31_3 rfl rfl) ?_
      refine rgp (op_load_lp (v := .pv (.vs 4 (eLGExpr a0.fKids))) rfl rfl rfl rfl Tryd_one_29 rfl rfl) ?_
      refine rgp (op_len_vs (n := a0.fKids.length) rfl rfl (lenR eLGExpr_map) Tryd_slc_29 rfl rfl) ?_
      refine rgp (op_int (k := .i64) (m := x11) (n := (a0.fKids.length : Int)) rfl rfl rfl rfl rfl rfl) ?_
      refine reg_nil ?_
      refine post_imp (s' := ⟨22, [(1, some (.lp 0 0)), (3, some (.pv (.int .i64 x10))), (4, some (.pv (.int .i64 x11))), (9, some (.pv (.bool (decide (x11 < (a0.fKids.length : Int))))))], [(0, some (.box 31 (bxv (eGExpr a0))))], 1, [], [], 0, []⟩) (imps [0] ⟨by kernel_rfl, by kernel_rfl, by kernel_rfl, by kernel_rfl, trivial⟩ ⟨by kernel_rfl, trivial⟩) ?_
      refine post_next ?_
      rcases ite_some hF with ⟨hb23, hF⟩ | ⟨hb23, hF⟩
      · refine aw_cond_t rfl hb23 ?_
        refine aw_skip ?_
        refine post_next ?_
        refine aw_seq ?_
        refine aw_block ?_
        refine aw_region ?_
        refine rmv ?_
        refine rgp (op_field_lp rfl rfl Tryd_fld_31_3 rfl rfl) ?_
        refine rgp (op_load_lp (v := .pv (.vs 4 (eLGExpr a0.fKids))) rfl rfl rfl rfl Tryd_one_29 rfl rfl) ?_
        refine rmv ?_
        obtain ⟨y28, h29, hF⟩ := bind_some hF
        refine rgp (op_index_vs (k := .i64) rfl rfl rfl (idxR eLGExpr_map h29) Tryd_slc_29 rfl rfl) ?_
        refine rgp (op_load_vp_agg (ps := eGExpr y28) rfl rfl rfl rfl Tryd_agg_31 rfl rfl) ?_
        obtain ⟨y30, h31, hF⟩ := bind_some hF
        refine rgp (op_call 1 rfl (caps := []) (args := [.agg (eGExpr y28)]) (rs := [.p (.int .i64 y30)]) rfl rfl rfl Tryd_cal_56 (ref06_Deep_ih _ _ h31) rfl rfl rfl) ?_
        refine rgp (op_max2 rfl rfl rfl rfl rfl) ?_
        refine ras ?_
        refine reg_nil ?_
        refine post_imp (s' := ⟨22, [(1, some (.lp 0 0)), (3, some (.pv (.int .i64 (if y30 > x10 then y30 else x10)))), (4, some (.pv (.int .i64 x11)))], [(0, some (.box 31 (bxv (eGExpr a0))))], 1, [], [], 0, []⟩) (imps [0] ⟨by kernel_rfl, by kernel_rfl, by kernel_rfl, trivial⟩ ⟨by kernel_rfl, trivial⟩) ?_
        refine post_block_normal ?_
        refine post_next ?_
        refine aw_region ?_
        refine rmv ?_
        refine rgp (op_int (k := .i64) (m := x11) (n := 1) rfl rfl rfl rfl rfl rfl) ?_
        refine ras ?_
        refine reg_nil ?_
        refine post_round ?_
        exact rnd_back (ih ((if y30 > x10 then y30 else x10), w_i64 (x11 + 1)) hF) (imps [0] ⟨by kernel_rfl, by kernel_rfl, by kernel_rfl, trivial⟩ ⟨by kernel_rfl, trivial⟩)
      refine aw_cond_f rfl hb23 ?_
      refine aw_exit ?_
      iterate 2 (refine post_then_exit ?_)
      obtain rfl := Option.some.inj hF
      exact post_lp_break _ rfl (imps [] ⟨by kernel_rfl, trivial⟩ trivial)
    rintro _ rfl
    have hF := hK35
    clear hK35
    refine post_next ?_
    refine aw_seq ?_
    refine aw_region ?_
    refine rmv ?_
    refine rgp (op_int (k := .i64) (m := x34) (n := 1) rfl rfl rfl rfl rfl rfl) ?_
    refine ras ?_
    refine reg_nil ?_
    refine post_imp (s' := ⟨22, [(2, some (.pv (.int .i64 (w_i64 (x34 + 1)))))], [], 0, [], [], 0, []⟩) (imps [] ⟨by kernel_rfl, trivial⟩ trivial) ?_
    refine post_next ?_
    refine aw_ret ?_
    obtain rfl := Option.some.inj hF
    exact prt
theorem ref06_Deep_ok {n : Nat} {a0 : GExpr} {r : Int} (hF : ref06_Deep n a0 = some r) : Abs.Fn globs_Tryd Tryd.prog 56 [.agg (eGExpr a0)] [.p (.int .i64 r)] := (ref06_Deep_ring n) _ _ hF

theorem ref06_Right_ok {a0 : GExpr} {r : Bool} (hF : ref06_Right a0 = some r) : Abs.Fn globs_Tryd Tryd.prog 30 [.agg (eGExpr a0)] [.p (.bool r)] := by
  unfold ref06_Right at hF
  refine fn_of_body (n := 10) Tryd.func30 rfl rfl rfl ?_
  intro w O
  refine aw_seq ?_
  refine aw_region ?_
  refine rgp (op_box 0 rfl rfl rfl rfl rfl rfl) ?_
  refine ras ?_
  refine reg_nil ?_
  refine post_imp (s' := ⟨10, [(1, some (.lp 0 0))], [(0, some (.box 31 (bxv (eGExpr a0))))], 1, [], [], 0, []⟩) (imps [0] ⟨by kernel_rfl, trivial⟩ ⟨by kernel_rfl, trivial⟩) ?_
  refine post_next ?_
  refine aw_seq ?_
  refine aw_region ?_
  refine rgp (op_load_lp_agg (ps := eGExpr a0) rfl rfl rfl rfl rfl rfl Tryd_agg_31 rfl rfl) ?_
  obtain ⟨y1, h2, hF⟩ := bind_some hF
  refine rgp (op_call 1 rfl (caps := []) (args := [.agg (eGExpr a0)]) (rs := [.p (.bool y1)]) rfl rfl rfl Tryd_cal_55 (ref06_form_ok h2) rfl rfl rfl) ?_
  refine rmv ?_
  rcases ite_some hF with ⟨hb3, hF⟩ | ⟨hb3, hF⟩
  · refine rgn hb3 (op_load_lp_agg (ps := eGExpr a0) rfl rfl rfl rfl rfl rfl Tryd_agg_31 rfl rfl) ?_
    obtain ⟨y4, h5, hF⟩ := bind_some hF
    refine rgn hb3 (op_call 1 rfl (caps := []) (args := [.agg (eGExpr a0)]) (rs := [.p (.int .i64 y4)]) rfl rfl rfl Tryd_cal_56 (ref06_Deep_ok h5) rfl rfl rfl) ?_
    refine rgn hb3 (op_int (k := .i64) (m := y4) (n := 20) rfl rfl rfl rfl rfl rfl) ?_
    refine rpt hb3 ?_
    refine ras ?_
    refine reg_nil ?_
    refine post_imp (s' := ⟨10, [(2, some (.pv (.bool (decide (y4 ≤ 20)))))], [], 0, [], [], 0, []⟩) (imps [] ⟨by kernel_rfl, trivial⟩ trivial) ?_
    refine post_next ?_
    refine aw_ret ?_
    obtain rfl := Option.some.inj hF
    exact prt
  iterate 3 (refine rgo_f hb3 ?_)
  refine rpf hb3 ?_
  refine ras ?_
  refine reg_nil ?_
  refine post_imp (s' := ⟨10, [(2, some (.pv (.bool false)))], [], 0, [], [], 0, []⟩) (imps [] ⟨by kernel_rfl, trivial⟩ trivial) ?_
  refine post_next ?_
  refine aw_ret ?_
  obtain rfl := Option.some.inj hF
  exact prt
theorem ref39_bad_ok  {r : GGot_ref39} (hF : ref39_bad = some r) : Abs.Fn globs_Tryd Tryd.prog 31 [] [.p (.agg (eGGot_ref39 r))] := by
  unfold ref39_bad at hF
  refine fn_of_body (n := 2) Tryd.func31 rfl rfl rfl ?_
  intro w O
  refine aw_seq ?_
  refine aw_region ?_
  refine rgp (op_alloc 0 rfl (ps := (eGGot_ref39 zGGot_ref39)) rfl Tryd_zer_39 (by exact ⟨rfl, rfl, trivial, rfl, trivial⟩) rfl rfl) ?_
  refine reg_nil ?_
  refine post_imp (s' := ⟨2, [(0, some (.lp 0 0))], [(0, some (.box 39 (bxv (eGGot_ref39 zGGot_ref39))))], 1, [], [], 0, []⟩) (imps [0] ⟨by kernel_rfl, trivial⟩ ⟨by kernel_rfl, trivial⟩) ?_
  refine post_next ?_
  refine aw_seq ?_
  refine aw_region ?_
  refine rgp (op_build (zs := (eGGot_ref39 zGGot_ref39)) (r := eGGot_ref39 ({ fV := zGVal, fLeft := [], fEnd := 10 } : GGot_ref39)) rfl Tryd_zer_39 (by exact ⟨rfl, rfl, trivial, rfl, trivial⟩) Tryd_plc_39 rfl rfl rfl rfl) ?_
  refine rgp (op_store_lp (n := 4) rfl rfl rfl rfl rfl (or_agg Tryd_agg_39) (by rw [Tryd_non_39]; rfl) rfl rfl rfl) ?_
  refine reg_nil ?_
  refine post_imp (s' := ⟨2, [(0, some (.lp 0 0))], [(0, some (.box 39 (bxv (eGGot_ref39 ({ fV := zGVal, fLeft := [], fEnd := 10 } : GGot_ref39)))))], 1, [], [], 0, []⟩) (imps [0] ⟨by kernel_rfl, trivial⟩ ⟨by kernel_rfl, trivial⟩) ?_
  refine post_next ?_
  refine aw_ret ?_
  obtain rfl := Option.some.inj hF
  exact post_ret rfl rfl (.cons _ _ _ _ _ (.agg _ _ _ _ _ 4 _ _ rfl rfl Tryd_agg_39 rfl rfl rfl) (.p _) .nil) (.inl rfl)
theorem ref13_Find_ok {a0 : List GClass} {a1 : List UInt8} {r : Int} (hF : ref13_Find a0 a1 = some r) : Abs.Fn globs_Tryd Tryd.prog 115 [.vs 7 (List.map eGClass a0), .str a1] [.p (.int .i64 r)] := by
  unfold ref13_Find at hF
  refine fn_of_body (n := 20) Tryd.func115 rfl rfl rfl ?_
  intro w O
  refine aw_seq ?_
  refine aw_region ?_
  refine ras ?_
  refine reg_nil ?_
  refine post_imp (s' := ⟨20, [(0, some (.pv (.vs 7 (List.map eGClass a0)))), (1, some (.pv (.str a1)))], [], 0, [], [], 0, []⟩) (imps [] ⟨by kernel_rfl, by kernel_rfl, trivial⟩ trivial) ?_
  refine post_next ?_
  iterate 2 (refine aw_seq ?_)
  refine aw_region ?_
  refine ras ?_
  refine reg_nil ?_
  refine post_imp (s' := ⟨20, [(0, some (.pv (.vs 7 (List.map eGClass a0)))), (1, some (.pv (.str a1))), (5, some (.pv (.int .i64 0)))], [], 0, [], [], 0, []⟩) (imps [] ⟨by kernel_rfl, by kernel_rfl, by kernel_rfl, trivial⟩ trivial) ?_
  refine post_next ?_
  obtain ⟨lr22, hF, hK23⟩ := bind_some hF
  refine aw_for ((((a0.length : Int) : Int) - (0)).toNat + 1) (fun s1 => ∃ q, lr22 = .next q ∧ s1 = ⟨20, [], [], 0, [], [], 0, []⟩) ?_ ?_
  · refine rnd_loop (α := Int) (fun q => ⟨20, [(0, some (.pv (.vs 7 (List.map eGClass a0)))), (1, some (.pv (.str a1))), (5, some (.pv (.int .i64 q)))], [], 0, [], [], 0, []⟩) (fun k q => ref13_Find_L1 a0 a1 k q = some lr22) 0 (imps [] ⟨by kernel_rfl, by kernel_rfl, by kernel_rfl, trivial⟩ trivial) hF (fun q h => by cases h) ?_
    clear hF
    rintro k x7 hF ih
    refine rnd_succ ?_
    iterate 2 (refine aw_seq ?_)
    refine aw_region ?_
    iterate 2 (refine rmv ?_)
    refine rgp (op_len_vs (n := a0.length) rfl rfl (List.length_map ..) Tryd_slc_22 rfl rfl) ?_
    refine rgp (op_int (k := .i64) (m := x7) (n := (a0.length : Int)) rfl rfl rfl rfl rfl rfl) ?_
    refine reg_nil ?_
    refine post_imp (s' := ⟨20, [(0, some (.pv (.vs 7 (List.map eGClass a0)))), (1, some (.pv (.str a1))), (5, some (.pv (.int .i64 x7))), (9, some (.pv (.bool (decide (x7 < (a0.length : Int))))))], [], 0, [], [], 0, []⟩) (imps [] ⟨by kernel_rfl, by kernel_rfl, by kernel_rfl, by kernel_rfl, trivial⟩ trivial) ?_
    refine post_next ?_
    rcases ite_some hF with ⟨hb15, hF⟩ | ⟨hb15, hF⟩
    · refine aw_cond_t rfl hb15 ?_
      refine aw_skip ?_
      refine post_next ?_
      refine aw_seq ?_
      refine aw_block ?_
      refine aw_seq ?_
      refine aw_region ?_
      iterate 2 (refine rmv ?_)
      obtain ⟨y18, h19, hF⟩ := bind_some hF
      refine rgp (op_index_vs (k := .i64) rfl rfl rfl (idx_map eGClass h19) Tryd_slc_22 rfl rfl) ?_
      refine rgp (op_field_vp rfl rfl Tryd_fld_108_0 rfl rfl) ?_
      refine rgp (op_load_vp (p := .str y18.fName) rfl rfl rfl Tryd_one_9 rfl rfl) ?_
      refine rmv ?_
      refine rgp (op_str rfl rfl rfl rfl rfl rfl) ?_
      refine reg_nil ?_
      refine post_imp (s' := ⟨20, [(0, some (.pv (.vs 7 (List.map eGClass a0)))), (1, some (.pv (.str a1))), (5, some (.pv (.int .i64 x7))), (18, some (.pv (.bool (y18.fName == a1))))], [], 0, [], [], 0, []⟩) (imps [] ⟨by kernel_rfl, by kernel_rfl, by kernel_rfl, by kernel_rfl, trivial⟩ trivial) ?_
      refine post_next ?_
      rcases ite_some hF with ⟨hb20, hF⟩ | ⟨hb20, hF⟩
      · refine aw_cond_t rfl hb20 ?_
        refine aw_seq ?_
        refine aw_region ?_
        refine rmv ?_
        refine ras ?_
        refine reg_nil ?_
        refine post_imp (s' := ⟨20, [(4, some (.pv (.int .i64 x7)))], [], 0, [], [], 0, []⟩) (imps [] ⟨by kernel_rfl, trivial⟩ trivial) ?_
        refine post_next ?_
        refine aw_ret ?_
        refine post_block_ret ?_
        iterate 2 (refine post_then_ret ?_)
        refine post_lp_ret ?_
        obtain rfl := Option.some.inj hF
        have hF := elim_stop hK23
        refine post_then_ret ?_
        obtain rfl := Option.some.inj hF
        exact prt
      refine aw_cond_f rfl hb20 ?_
      refine aw_skip ?_
      refine post_block_normal ?_
      refine post_next ?_
      refine aw_region ?_
      refine rmv ?_
      refine rgp (op_int (k := .i64) (m := x7) (n := 1) rfl rfl rfl rfl rfl rfl) ?_
      refine ras ?_
      refine reg_nil ?_
      refine post_round ?_
      exact rnd_back (ih (w_i64 (x7 + 1)) hF) (imps [] ⟨by kernel_rfl, by kernel_rfl, by kernel_rfl, trivial⟩ trivial)
    refine aw_cond_f rfl hb15 ?_
    refine aw_exit ?_
    iterate 2 (refine post_then_exit ?_)
    obtain rfl := Option.some.inj hF
    exact post_lp_break _ ⟨_, rfl, rfl⟩ (imps [] trivial trivial)
  rintro _ ⟨⟨⟩, rfl, rfl⟩
  have hF := elim_next hK23
  clear hK23
  refine post_next ?_
  refine aw_seq ?_
  refine aw_region ?_
  refine ras ?_
  refine reg_nil ?_
  refine post_imp (s' := ⟨20, [(4, some (.pv (.int .i64 (-1))))], [], 0, [], [], 0, []⟩) (imps [] ⟨by kernel_rfl, trivial⟩ trivial) ?_
  refine post_next ?_
  refine aw_ret ?_
  obtain rfl := Option.some.inj hF
  exact prt
end Go.Proofs.YtnnphkfiookbnaaDoor
