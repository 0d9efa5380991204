/- A part of the proof that the law CalcInput gives true for every input. -/
import Derived.Test.YtnnphkfiookbnaaDoorCalcInputT
import Derived.Test.YtnnphkfiookbnaaDoorCalcInputX
import Derived.Test.YtnnphkfiookbnaaDoorCalcInputI
import Derived.Test.YtnnphkfiookbnaaDoorCalcInputW0
/- Each Go function computes its plain function. -/
namespace Go.Proofs.YtnnphkfiookbnaaDoor
open Go.RowKit Go.Abs
set_option maxRecDepth 100000
set_option maxHeartbeats 4000000
theorem scope_Place_ok {a0 : GMethod} {a1 : List UInt8} {r : Int} (hF : scope_Place a0 a1 = some r) : Abs.Fn globs_Tryd Tryd.prog 125 [.agg (eGMethod a0), .str a1] [.p (.int .i64 r)] := by
  unfold scope_Place at hF
  refine fn_of_body (n := 27) Tryd.func125 rfl rfl rfl ?_
  intro w O
  refine aw_seq ?_
  refine aw_region ?_
  refine rgp (op_box 0 rfl rfl rfl rfl rfl rfl) ?_
  refine rgp (op_box 1 rfl rfl rfl rfl rfl rfl) ?_
  refine ras ?_
  refine reg_nil ?_
  refine post_imp (s' := ⟨27, [(2, some (.lp 0 0)), (3, some (.lp 1 0))], [(0, some (.box 116 (bxv (eGMethod a0)))), (1, some (.box 9 [.pv (.str a1)]))], 2, [], [], 0, []⟩) (imps [0, 1] ⟨by kernel_rfl, by kernel_rfl, trivial⟩ ⟨by kernel_rfl, by kernel_rfl, trivial⟩) ?_
  refine post_next ?_
  refine aw_seq ?_
  refine aw_region ?_
  refine rgp (op_makeFunc rfl rfl rfl rfl) ?_
  refine ras ?_
  refine reg_nil ?_
  refine post_imp (s' := ⟨27, [(2, some (.lp 0 0)), (5, some (.fn 138 [.lp 1 0]))], [(0, some (.box 116 (bxv (eGMethod a0)))), (1, some (.box 9 [.pv (.str a1)]))], 2, [], [], 0, []⟩) (imps [0, 1] ⟨by kernel_rfl, by kernel_rfl, trivial⟩ ⟨by kernel_rfl, by kernel_rfl, trivial⟩) ?_
  refine post_next ?_
  iterate 2 (refine aw_seq ?_)
  refine aw_region ?_
  refine rgp (op_field_lp rfl rfl Tryd_fld_116_3 rfl rfl) ?_
  refine rgp (op_load_lp (v := .pv (.vs 13 (List.map eGVar a0.fParams))) rfl rfl rfl rfl Tryd_one_105 rfl rfl) ?_
  refine rmv ?_
  obtain ⟨y5, h6, hF⟩ := bind_some hF
  refine rgp (op_callB 2 rfl (caps := []) (args := [.vs 13 (List.map eGVar a0.fParams), .fn 138 [.vp (eS a1)]]) [(1, some (.box 9 [.pv (.str a1)]))] rfl rfl rfl (FzH.spec ⟨rfl, trivial⟩) rfl rfl Tryd_cal_139 (slices_IndexFunc_api_Var_ok (q1_f := 138) (q1_c := [.vp (eS a1)]) (q1_b := Tryd_cal_138) (q1_h := fun _ r h => (scope_Place_1_ok h)) h6) rfl rfl rfl) ?_
  refine ras ?_
  refine reg_nil ?_
  refine post_imp (s' := ⟨27, [(2, some (.lp 0 0)), (5, some (.fn 138 [.lp 1 0])), (6, some (.pv (.int .i64 y5)))], [(0, some (.box 116 (bxv (eGMethod a0)))), (1, some (.box 9 [.pv (.str a1)]))], 2, [], [], 0, []⟩) (imps [0, 1] ⟨by kernel_rfl, by kernel_rfl, by kernel_rfl, trivial⟩ ⟨by kernel_rfl, by kernel_rfl, trivial⟩) ?_
  refine post_next ?_
  refine aw_seq ?_
  refine aw_region ?_
  refine rmv ?_
  refine rgp (op_int (k := .i64) (m := y5) (n := 0) rfl rfl rfl rfl rfl rfl) ?_
  refine reg_nil ?_
  refine post_imp (s' := ⟨27, [(2, some (.lp 0 0)), (5, some (.fn 138 [.lp 1 0])), (6, some (.pv (.int .i64 y5))), (14, some (.pv (.bool (decide (y5 ≥ 0)))))], [(0, some (.box 116 (bxv (eGMethod a0)))), (1, some (.box 9 [.pv (.str a1)]))], 2, [], [], 0, []⟩) (imps [0, 1] ⟨by kernel_rfl, by kernel_rfl, by kernel_rfl, by kernel_rfl, trivial⟩ ⟨by kernel_rfl, by kernel_rfl, trivial⟩) ?_
  refine post_next ?_
  rcases ite_some hF with ⟨hb7, hF⟩ | ⟨hb7, hF⟩
  · refine aw_cond_t rfl hb7 ?_
    refine aw_seq ?_
    refine aw_region ?_
    refine rmv ?_
    refine ras ?_
    refine reg_nil ?_
    refine post_imp (s' := ⟨27, [(4, some (.pv (.int .i64 y5)))], [], 0, [], [], 0, []⟩) (imps [] ⟨by kernel_rfl, trivial⟩ trivial) ?_
    refine post_next ?_
    refine aw_ret ?_
    refine post_then_ret ?_
    obtain rfl := Option.some.inj hF
    exact prt
  refine aw_cond_f rfl hb7 ?_
  refine aw_skip ?_
  refine post_next ?_
  refine aw_seq ?_
  refine aw_region ?_
  refine rgp (op_field_lp rfl rfl Tryd_fld_116_4 rfl rfl) ?_
  refine rgp (op_load_lp (v := .pv (.vs 13 (List.map eGVar a0.fLocals))) rfl rfl rfl rfl Tryd_one_105 rfl rfl) ?_
  refine rmv ?_
  obtain ⟨y12, h13, hF⟩ := bind_some hF
  refine rgp (op_callB 2 rfl (caps := []) (args := [.vs 13 (List.map eGVar a0.fLocals), .fn 138 [.vp (eS a1)]]) [(1, some (.box 9 [.pv (.str a1)]))] rfl rfl rfl (FzH.spec ⟨rfl, trivial⟩) rfl rfl Tryd_cal_139 (slices_IndexFunc_api_Var_ok (q1_f := 138) (q1_c := [.vp (eS a1)]) (q1_b := Tryd_cal_138) (q1_h := fun _ r h => (scope_Place_1_ok h)) h13) rfl rfl rfl) ?_
  refine ras ?_
  refine reg_nil ?_
  refine post_imp (s' := ⟨27, [(2, some (.lp 0 0)), (7, some (.pv (.int .i64 y12)))], [(0, some (.box 116 (bxv (eGMethod a0))))], 1, [], [], 0, []⟩) (imps [0] ⟨by kernel_rfl, by kernel_rfl, trivial⟩ ⟨by kernel_rfl, trivial⟩) ?_
  refine post_next ?_
  iterate 2 (refine aw_seq ?_)
  refine aw_region ?_
  refine rmv ?_
  refine rgp (op_int (k := .i64) (m := y12) (n := 0) rfl rfl rfl rfl rfl rfl) ?_
  refine reg_nil ?_
  refine post_imp (s' := ⟨27, [(2, some (.lp 0 0)), (7, some (.pv (.int .i64 y12))), (21, some (.pv (.bool (decide (y12 < 0)))))], [(0, some (.box 116 (bxv (eGMethod a0))))], 1, [], [], 0, []⟩) (imps [0] ⟨by kernel_rfl, by kernel_rfl, by kernel_rfl, trivial⟩ ⟨by kernel_rfl, trivial⟩) ?_
  refine post_next ?_
  rcases ite_some hF with ⟨hb14, hF⟩ | ⟨hb14, hF⟩
  · refine aw_cond_t rfl hb14 ?_
    refine aw_seq ?_
    refine aw_region ?_
    refine ras ?_
    refine reg_nil ?_
    refine post_imp (s' := ⟨27, [(4, some (.pv (.int .i64 (-1))))], [], 0, [], [], 0, []⟩) (imps [] ⟨by kernel_rfl, trivial⟩ trivial) ?_
    refine post_next ?_
    refine aw_ret ?_
    refine post_then_ret ?_
    obtain rfl := Option.some.inj hF
    exact prt
  refine aw_cond_f rfl hb14 ?_
  refine aw_skip ?_
  refine post_next ?_
  refine aw_seq ?_
  refine aw_region ?_
  refine rgp (op_field_lp rfl rfl Tryd_fld_116_3 rfl rfl) ?_
  refine rgp (op_load_lp (v := .pv (.vs 13 (List.map eGVar a0.fParams))) rfl rfl rfl rfl Tryd_one_105 rfl rfl) ?_
  refine rgp (op_len_vs (n := a0.fParams.length) rfl rfl (List.length_map ..) Tryd_slc_105 rfl rfl) ?_
  refine rmv ?_
  refine rgp (op_int (k := .i64) (m := (a0.fParams.length : Int)) (n := y12) rfl rfl rfl rfl rfl rfl) ?_
  refine ras ?_
  refine reg_nil ?_
  refine post_imp (s' := ⟨27, [(4, some (.pv (.int .i64 (w_i64 ((a0.fParams.length : Int) + y12)))))], [], 0, [], [], 0, []⟩) (imps [] ⟨by kernel_rfl, trivial⟩ trivial) ?_
  refine post_next ?_
  refine aw_ret ?_
  obtain rfl := Option.some.inj hF
  exact prt
theorem frame_place_ok {a0 : List GClass} {a1 : GFrame} {a2 : List UInt8} {r : Int} (hF : frame_place a0 a1 a2 = some r) : Abs.Fn globs_Tryd Tryd.prog 93 [.vs 7 (List.map eGClass a0), .agg (eGFrame a1), .str a2] [.p (.int .i64 r)] := by
  unfold frame_place at hF
  refine fn_of_body (n := 30) Tryd.func93 rfl rfl rfl ?_
  intro w O
  refine aw_seq ?_
  refine aw_region ?_
  refine rgp (op_box 0 rfl rfl rfl rfl rfl rfl) ?_
  refine ras ?_
  refine reg_nil ?_
  refine post_imp (s' := ⟨30, [(0, some (.pv (.vs 7 (List.map eGClass a0)))), (2, some (.pv (.str a2))), (4, some (.lp 0 0))], [(0, some (.box 25 (bxv (eGFrame a1))))], 1, [], [], 0, []⟩) (imps [0] ⟨by kernel_rfl, by kernel_rfl, by kernel_rfl, trivial⟩ ⟨by kernel_rfl, trivial⟩) ?_
  refine post_next ?_
  refine aw_seq ?_
  refine aw_region ?_
  refine rmv ?_
  refine rgp (op_load_lp_agg (ps := eGFrame a1) rfl rfl rfl rfl rfl rfl Tryd_agg_25 rfl rfl) ?_
  obtain ⟨y3, h4, hF⟩ := bind_some hF
  refine rgp (op_call 1 rfl (caps := []) (args := [.vs 7 (List.map eGClass a0), .agg (eGFrame a1)]) (rs := [.p (.agg (eGClass y3.1)), .p (.agg (eGMethod y3.2.1)), .p (.bool y3.2.2)]) rfl rfl rfl Tryd_cal_92 (frame_Method_ok h4) rfl rfl rfl) ?_
  refine rmv ?_
  iterate 3 (refine rgp (op_extract rfl rfl rfl rfl rfl) ?_)
  refine rgp (op_alloc 1 rfl (ps := (eGClass zGClass)) rfl Tryd_zer_108 (by exact ⟨rfl, trivial, rfl, trivial, trivial, trivial, rfl, trivial⟩) rfl rfl) ?_
  refine rgp (op_alloc 2 rfl (ps := (eGMethod zGMethod)) rfl Tryd_zer_116 (by exact ⟨rfl, rfl, rfl, rfl, rfl, rfl, rfl, rfl, rfl, rfl, rfl, rfl, rfl, trivial, trivial, trivial, rfl, trivial⟩) rfl rfl) ?_
  refine rgp (op_store_lp (n := 7) rfl rfl rfl rfl rfl (or_agg Tryd_agg_108) (by rw [Tryd_non_108]; rfl) rfl rfl rfl) ?_
  refine rgp (op_store_lp (n := 17) rfl rfl rfl rfl rfl (or_agg Tryd_agg_116) (by rw [Tryd_non_116]; rfl) rfl rfl rfl) ?_
  refine ras ?_
  refine reg_nil ?_
  refine post_imp (s' := ⟨30, [(2, some (.pv (.str a2))), (4, some (.lp 0 0)), (8, some (.lp 1 0)), (9, some (.pv (.bool y3.2.2)))], [(0, some (.box 25 (bxv (eGFrame a1)))), (1, some (.box 116 (bxv (eGMethod y3.2.1))))], 2, [], [], 0, []⟩) (imps [0, 2] ⟨by kernel_rfl, by kernel_rfl, by kernel_rfl, by kernel_rfl, trivial⟩ ⟨by kernel_rfl, by kernel_rfl, trivial⟩) ?_
  refine post_next ?_
  iterate 2 (refine aw_seq ?_)
  refine aw_region ?_
  refine rgp (op_load_lp_agg (ps := eGMethod y3.2.1) rfl rfl rfl rfl rfl rfl Tryd_agg_116 rfl rfl) ?_
  refine rmv ?_
  obtain ⟨y7, h8, hF⟩ := bind_some hF
  refine rgp (op_call 2 rfl (caps := []) (args := [.agg (eGMethod y3.2.1), .str a2]) (rs := [.p (.int .i64 y7)]) rfl rfl rfl Tryd_cal_125 (scope_Place_ok h8) rfl rfl rfl) ?_
  refine ras ?_
  refine reg_nil ?_
  refine post_imp (s' := ⟨30, [(4, some (.lp 0 0)), (9, some (.pv (.bool y3.2.2))), (10, some (.pv (.int .i64 y7)))], [(0, some (.box 25 (bxv (eGFrame a1))))], 1, [], [], 0, []⟩) (imps [0] ⟨by kernel_rfl, by kernel_rfl, by kernel_rfl, trivial⟩ ⟨by kernel_rfl, trivial⟩) ?_
  refine post_next ?_
  refine aw_seq ?_
  obtain ⟨x10, hF, hK12⟩ := bind_some hF
  refine aw_cut (fun s1 => s1 = ⟨30, [(10, some (.pv (.int .i64 y7))), (28, some (.pv (.bool x10)))], [], 0, [], [], 0, []⟩) ?_ ?_
  · refine aw_region ?_
    iterate 2 (refine rmv ?_)
    rcases ite_some hF with ⟨hb9, hF⟩ | ⟨hb9, hF⟩
    · refine rgn hb9 (op_move rfl rfl rfl rfl) ?_
      refine rgn hb9 (op_field_lp rfl rfl Tryd_fld_25_3 rfl rfl) ?_
      refine rgn hb9 (op_load_lp (v := .pv (.vs 2 (List.map eGVal a1.fVars))) rfl rfl rfl rfl Tryd_one_23 rfl rfl) ?_
      refine rgn hb9 (op_len_vs (n := a1.fVars.length) rfl rfl (List.length_map ..) Tryd_slc_23 rfl rfl) ?_
      refine rgn hb9 (op_int (k := .i64) (m := y7) (n := (a1.fVars.length : Int)) rfl rfl rfl rfl rfl rfl) ?_
      refine rpt hb9 ?_
      refine reg_nil ?_
      cases hF
      exact post_cut _ rfl (imps [] ⟨by kernel_rfl, by kernel_rfl, trivial⟩ trivial)
    iterate 5 (refine rgo_f hb9 ?_)
    refine rpf hb9 ?_
    refine reg_nil ?_
    cases hF
    exact post_cut _ rfl (imps [] ⟨by kernel_rfl, by kernel_rfl, trivial⟩ trivial)
  rintro _ rfl
  have hF := hK12
  clear hK12
  refine post_next ?_
  rcases ite_some hF with ⟨hb13, hF⟩ | ⟨hb13, hF⟩
  · refine aw_cond_t rfl hb13 ?_
    refine aw_seq ?_
    refine aw_region ?_
    refine rmv ?_
    refine ras ?_
    refine reg_nil ?_
    refine post_imp (s' := ⟨30, [(6, some (.pv (.int .i64 y7)))], [], 0, [], [], 0, []⟩) (imps [] ⟨by kernel_rfl, trivial⟩ trivial) ?_
    refine post_next ?_
    refine aw_ret ?_
    refine post_then_ret ?_
    obtain rfl := Option.some.inj hF
    exact prt
  refine aw_cond_f rfl hb13 ?_
  refine aw_skip ?_
  refine post_next ?_
  refine aw_seq ?_
  refine aw_region ?_
  refine ras ?_
  refine reg_nil ?_
  refine post_imp (s' := ⟨30, [(6, some (.pv (.int .i64 (-1))))], [], 0, [], [], 0, []⟩) (imps [] ⟨by kernel_rfl, trivial⟩ trivial) ?_
  refine post_next ?_
  refine aw_ret ?_
  obtain rfl := Option.some.inj hF
  exact prt
theorem frame_Get_ok {a0 : List GClass} {a1 : GFrame} {a2 : List UInt8} {r : GVal × Bool} (hF : frame_Get a0 a1 a2 = some r) : Abs.Fn globs_Tryd Tryd.prog 62 [.vs 7 (List.map eGClass a0), .agg (eGFrame a1), .str a2] [.p (.agg (eGVal r.1)), .p (.bool r.2)] := by
  unfold frame_Get at hF
  refine fn_of_body (n := 37) Tryd.func62 rfl rfl rfl ?_
  intro w O
  refine aw_seq ?_
  refine aw_region ?_
  refine rgp (op_box 0 rfl rfl rfl rfl rfl rfl) ?_
  refine rgp (op_alloc 1 rfl (ps := (eGVal zGVal)) rfl Tryd_zer_35 (by exact ⟨rfl, rfl, trivial⟩) rfl rfl) ?_
  refine ras ?_
  refine reg_nil ?_
  refine post_imp (s' := ⟨37, [(0, some (.pv (.vs 7 (List.map eGClass a0)))), (2, some (.pv (.str a2))), (4, some (.lp 0 0)), (6, some (.lp 1 0))], [(0, some (.box 25 (bxv (eGFrame a1)))), (1, some (.box 35 (bxv (eGVal zGVal))))], 2, [], [], 0, []⟩) (imps [0, 1] ⟨by kernel_rfl, by kernel_rfl, by kernel_rfl, by kernel_rfl, trivial⟩ ⟨by kernel_rfl, by kernel_rfl, trivial⟩) ?_
  refine post_next ?_
  refine aw_seq ?_
  refine aw_join hF (fun q => ⟨37, [(0, some (.pv (.vs 7 (List.map eGClass a0)))), (2, some (.pv (.str a2))), (4, some (.lp 0 0)), (6, some (.lp 1 0))], [(0, some (.box 25 (bxv (eGFrame a1)))), (1, some (.box 35 (bxv (eGVal zGVal))))], 2, [], [], 0, []⟩) ?_ ?_
  · refine aw_seq ?_
    refine aw_region ?_
    refine rmv ?_
    refine rgp (op_str rfl rfl rfl rfl rfl rfl) ?_
    refine reg_nil ?_
    refine post_imp (s' := ⟨37, [(0, some (.pv (.vs 7 (List.map eGClass a0)))), (2, some (.pv (.str a2))), (4, some (.lp 0 0)), (6, some (.lp 1 0)), (13, some (.pv (.bool (a2 == [116, 104, 105, 115]))))], [(0, some (.box 25 (bxv (eGFrame a1)))), (1, some (.box 35 (bxv (eGVal zGVal))))], 2, [], [], 0, []⟩) (imps [0, 1] ⟨by kernel_rfl, by kernel_rfl, by kernel_rfl, by kernel_rfl, by kernel_rfl, trivial⟩ ⟨by kernel_rfl, by kernel_rfl, trivial⟩) ?_
    refine post_next ?_
    rcases go_ite hF with ⟨hb1, hF⟩ | ⟨hb1, hF⟩
    · refine aw_cond_t rfl hb1 ?_
      refine aw_seq ?_
      refine aw_region ?_
      refine rmv ?_
      refine rgp (op_load_lp_agg (ps := eGFrame a1) rfl rfl rfl rfl rfl rfl Tryd_agg_25 rfl rfl) ?_
      obtain ⟨y4, h5, hF⟩ := go_bind hF
      refine rgp (op_call 2 rfl (caps := []) (args := [.vs 7 (List.map eGClass a0), .agg (eGFrame a1)]) (rs := [.p (.agg (eGClass y4.1)), .p (.agg (eGMethod y4.2.1)), .p (.bool y4.2.2)]) rfl rfl rfl Tryd_cal_92 (frame_Method_ok h5) rfl rfl rfl) ?_
      refine rmv ?_
      iterate 3 (refine rgp (op_extract rfl rfl rfl rfl rfl) ?_)
      refine rgp (op_alloc 2 rfl (ps := (eGClass zGClass)) rfl Tryd_zer_108 (by exact ⟨rfl, trivial, rfl, trivial, trivial, trivial, rfl, trivial⟩) rfl rfl) ?_
      refine rgp (op_alloc 3 rfl (ps := (eGMethod zGMethod)) rfl Tryd_zer_116 (by exact ⟨rfl, rfl, rfl, rfl, rfl, rfl, rfl, rfl, rfl, rfl, rfl, rfl, rfl, trivial, trivial, trivial, rfl, trivial⟩) rfl rfl) ?_
      refine rgp (op_store_lp (n := 7) rfl rfl rfl rfl rfl (or_agg Tryd_agg_108) (by rw [Tryd_non_108]; rfl) rfl rfl rfl) ?_
      refine rgp (op_store_lp (n := 17) rfl rfl rfl rfl rfl (or_agg Tryd_agg_116) (by rw [Tryd_non_116]; rfl) rfl rfl rfl) ?_
      refine ras ?_
      refine reg_nil ?_
      refine post_imp (s' := ⟨37, [(0, some (.pv (.vs 7 (List.map eGClass a0)))), (2, some (.pv (.str a2))), (4, some (.lp 0 0)), (6, some (.lp 1 0)), (10, some (.pv (.bool y4.2.2)))], [(0, some (.box 25 (bxv (eGFrame a1)))), (1, some (.box 35 (bxv (eGVal zGVal))))], 2, [], [], 0, []⟩) (imps [0, 1] ⟨by kernel_rfl, by kernel_rfl, by kernel_rfl, by kernel_rfl, by kernel_rfl, trivial⟩ ⟨by kernel_rfl, by kernel_rfl, trivial⟩) ?_
      refine post_next ?_
      refine aw_seq ?_
      refine aw_region ?_
      refine rmv ?_
      refine reg_nil ?_
      refine post_imp (s' := ⟨37, [(0, some (.pv (.vs 7 (List.map eGClass a0)))), (2, some (.pv (.str a2))), (4, some (.lp 0 0)), (6, some (.lp 1 0)), (21, some (.pv (.bool y4.2.2)))], [(0, some (.box 25 (bxv (eGFrame a1)))), (1, some (.box 35 (bxv (eGVal zGVal))))], 2, [], [], 0, []⟩) (imps [0, 1] ⟨by kernel_rfl, by kernel_rfl, by kernel_rfl, by kernel_rfl, by kernel_rfl, trivial⟩ ⟨by kernel_rfl, by kernel_rfl, trivial⟩) ?_
      refine post_next ?_
      rcases go_ite hF with ⟨hb6, hF⟩ | ⟨hb6, hF⟩
      · refine aw_cond_t rfl hb6 ?_
        refine aw_seq ?_
        refine aw_region ?_
        refine rgp (op_field_lp rfl rfl Tryd_fld_25_0 rfl rfl) ?_
        refine rgp (op_load_lp (v := .pv (.int .i64 a1.fThis)) rfl rfl rfl rfl Tryd_one_3 rfl rfl) ?_
        refine rgp (op_build (zs := (eGVal zGVal)) (r := eGVal ({ fRef := true, fN := a1.fThis } : GVal)) rfl Tryd_zer_35 (by exact ⟨rfl, rfl, trivial⟩) Tryd_plc_35 rfl rfl rfl rfl) ?_
        refine rgp (op_store_lp (n := 2) rfl rfl rfl rfl rfl (or_agg Tryd_agg_35) (by rw [Tryd_non_35]; rfl) rfl rfl rfl) ?_
        refine ras ?_
        refine reg_nil ?_
        refine post_imp (s' := ⟨37, [(6, some (.lp 0 0)), (7, some (.pv (.bool true)))], [(0, some (.box 35 (bxv (eGVal ({ fRef := true, fN := a1.fThis } : GVal)))))], 1, [], [], 0, []⟩) (imps [1] ⟨by kernel_rfl, by kernel_rfl, trivial⟩ ⟨by kernel_rfl, trivial⟩) ?_
        refine post_next ?_
        refine aw_ret ?_
        refine post_cut_ret ?_
        replace hF := go_stop hF
        refine post_then_ret ?_
        obtain rfl := Option.some.inj hF
        exact post_ret rfl rfl (.cons _ _ _ _ _ (.agg _ _ _ _ _ 2 _ _ rfl rfl Tryd_agg_35 rfl rfl rfl) (.p _) (.cons _ _ _ _ _ (.tmp _ _ rfl) (.p _) .nil)) (.inl rfl)
      refine aw_cond_f rfl hb6 ?_
      refine aw_skip ?_
      exact post_cut _ ⟨(), rfl, hF⟩ (imps [0, 1] ⟨by kernel_rfl, by kernel_rfl, by kernel_rfl, by kernel_rfl, trivial⟩ ⟨by kernel_rfl, by kernel_rfl, trivial⟩)
    refine aw_cond_f rfl hb1 ?_
    refine aw_skip ?_
    exact post_cut _ ⟨(), rfl, hF⟩ (imps [0, 1] ⟨by kernel_rfl, by kernel_rfl, by kernel_rfl, by kernel_rfl, trivial⟩ ⟨by kernel_rfl, by kernel_rfl, trivial⟩)
  rintro ⟨⟩ hF
  refine post_next ?_
  refine aw_seq ?_
  refine aw_region ?_
  refine rmv ?_
  refine rgp (op_load_lp_agg (ps := eGFrame a1) rfl rfl rfl rfl rfl rfl Tryd_agg_25 rfl rfl) ?_
  refine rmv ?_
  obtain ⟨y9, h10, hF⟩ := bind_some hF
  refine rgp (op_call 2 rfl (caps := []) (args := [.vs 7 (List.map eGClass a0), .agg (eGFrame a1), .str a2]) (rs := [.p (.int .i64 y9)]) rfl rfl rfl Tryd_cal_93 (frame_place_ok h10) rfl rfl rfl) ?_
  refine ras ?_
  refine reg_nil ?_
  refine post_imp (s' := ⟨37, [(4, some (.lp 0 0)), (6, some (.lp 1 0)), (11, some (.pv (.int .i64 y9)))], [(0, some (.box 25 (bxv (eGFrame a1)))), (1, some (.box 35 (bxv (eGVal zGVal))))], 2, [], [], 0, []⟩) (imps [0, 1] ⟨by kernel_rfl, by kernel_rfl, by kernel_rfl, trivial⟩ ⟨by kernel_rfl, by kernel_rfl, trivial⟩) ?_
  refine post_next ?_
  iterate 2 (refine aw_seq ?_)
  refine aw_region ?_
  refine rmv ?_
  refine rgp (op_int (k := .i64) (m := y9) (n := 0) rfl rfl rfl rfl rfl rfl) ?_
  refine reg_nil ?_
  refine post_imp (s' := ⟨37, [(4, some (.lp 0 0)), (6, some (.lp 1 0)), (11, some (.pv (.int .i64 y9))), (30, some (.pv (.bool (decide (y9 < 0)))))], [(0, some (.box 25 (bxv (eGFrame a1)))), (1, some (.box 35 (bxv (eGVal zGVal))))], 2, [], [], 0, []⟩) (imps [0, 1] ⟨by kernel_rfl, by kernel_rfl, by kernel_rfl, by kernel_rfl, trivial⟩ ⟨by kernel_rfl, by kernel_rfl, trivial⟩) ?_
  refine post_next ?_
  rcases ite_some hF with ⟨hb11, hF⟩ | ⟨hb11, hF⟩
  · refine aw_cond_t rfl hb11 ?_
    refine aw_seq ?_
    refine aw_region ?_
    refine rgp (op_build (zs := (eGVal zGVal)) (r := eGVal ({ fRef := false, fN := 0 } : GVal)) rfl Tryd_zer_35 (by exact ⟨rfl, rfl, trivial⟩) Tryd_plc_35 rfl rfl rfl rfl) ?_
    refine rgp (op_store_lp (n := 2) rfl rfl rfl rfl rfl (or_agg Tryd_agg_35) (by rw [Tryd_non_35]; rfl) rfl rfl rfl) ?_
    refine ras ?_
    refine reg_nil ?_
    refine post_imp (s' := ⟨37, [(6, some (.lp 0 0)), (7, some (.pv (.bool false)))], [(0, some (.box 35 (bxv (eGVal ({ fRef := false, fN := 0 } : GVal)))))], 1, [], [], 0, []⟩) (imps [1] ⟨by kernel_rfl, by kernel_rfl, trivial⟩ ⟨by kernel_rfl, trivial⟩) ?_
    refine post_next ?_
    refine aw_ret ?_
    refine post_then_ret ?_
    obtain rfl := Option.some.inj hF
    exact post_ret rfl rfl (.cons _ _ _ _ _ (.agg _ _ _ _ _ 2 _ _ rfl rfl Tryd_agg_35 rfl rfl rfl) (.p _) (.cons _ _ _ _ _ (.tmp _ _ rfl) (.p _) .nil)) (.inl rfl)
  refine aw_cond_f rfl hb11 ?_
  refine aw_skip ?_
  refine post_next ?_
  refine aw_seq ?_
  refine aw_region ?_
  refine rgp (op_field_lp rfl rfl Tryd_fld_25_3 rfl rfl) ?_
  refine rgp (op_load_lp (v := .pv (.vs 2 (List.map eGVal a1.fVars))) rfl rfl rfl rfl Tryd_one_23 rfl rfl) ?_
  refine rmv ?_
  obtain ⟨y12, h13, hF⟩ := bind_some hF
  refine rgp (op_index_vs (k := .i64) rfl rfl rfl (idx_map eGVal h13) Tryd_slc_23 rfl rfl) ?_
  refine rgp (op_load_vp_agg (ps := eGVal y12) rfl rfl rfl rfl Tryd_agg_35 rfl rfl) ?_
  refine rgp (op_store_lp (n := 2) rfl rfl rfl rfl rfl (or_agg Tryd_agg_35) (by rw [Tryd_non_35]; rfl) rfl rfl rfl) ?_
  refine ras ?_
  refine reg_nil ?_
  refine post_imp (s' := ⟨37, [(6, some (.lp 0 0)), (7, some (.pv (.bool true)))], [(0, some (.box 35 (bxv (eGVal y12))))], 1, [], [], 0, []⟩) (imps [1] ⟨by kernel_rfl, by kernel_rfl, trivial⟩ ⟨by kernel_rfl, trivial⟩) ?_
  refine post_next ?_
  refine aw_ret ?_
  obtain rfl := Option.some.inj hF
  exact post_ret rfl rfl (.cons _ _ _ _ _ (.agg _ _ _ _ _ 2 _ _ rfl rfl Tryd_agg_35 rfl rfl rfl) (.p _) (.cons _ _ _ _ _ (.tmp _ _ rfl) (.p _) .nil)) (.inl rfl)
theorem __calc_counter__fail_w_ok {b0 : Gcounter_calc} {r : GVal × Gcounter_calc} (hF : __calc_counter__fail_w b0 = some r) : Abs.FnW globs_Tryd Tryd.prog 63 [.lp 0 0] [(0, some (.box 72 (bxv (eGcounter_calc b0))))] 1 [(0, 0)] [.pv (.agg (eGVal r.1))] [(0, some (.box 72 (bxv (eGcounter_calc r.2)))), (1, some (.box 35 (bxv (eGVal r.1))))] 2 := by
  unfold __calc_counter__fail_w at hF
  refine fnW_of_body (n := 7) (m := 1) [0] Tryd.func63 rfl rfl rfl ?_
  intro c w O θ hcx
  refine aw_seq ?_
  refine aw_region ?_
  refine rgp (op_alloc 1 rfl (ps := (eGVal zGVal)) rfl Tryd_zer_35 (by exact ⟨rfl, rfl, trivial⟩) rfl rfl) ?_
  refine reg_nil ?_
  refine post_imp (s' := ⟨7, [(0, some (.lp 0 0)), (2, some (.lp 1 0))], [(0, some (.box 72 (bxv (eGcounter_calc b0)))), (1, some (.box 35 (bxv (eGVal zGVal))))], 2, [], [], 0, [0]⟩) (imps [0, 1] ⟨by kernel_rfl, by kernel_rfl, trivial⟩ ⟨by kernel_rfl, by kernel_rfl, trivial⟩) ?_
  refine post_next ?_
  refine aw_seq ?_
  refine aw_region ?_
  refine rmv ?_
  refine rgp (op_nilCheck rfl rfl rfl rfl rfl) ?_
  refine rgp (op_field_lp rfl rfl Tryd_fld_72_3 rfl rfl) ?_
  refine rgp (op_store_lp (n := 1) rfl rfl rfl rfl rfl (or_one Tryd_one_4) (by rw [Tryd_one_4]; rfl) rfl rfl rfl) ?_
  refine reg_nil ?_
  refine post_imp (s' := ⟨7, [(0, some (.lp 0 0)), (2, some (.lp 1 0))], [(0, some (.box 72 (bxv (eGcounter_calc ({ b0 with fbad := true } : Gcounter_calc))))), (1, some (.box 35 (bxv (eGVal zGVal))))], 2, [], [], 0, [0]⟩) (imps [0, 1] ⟨by kernel_rfl, by kernel_rfl, trivial⟩ ⟨by kernel_rfl, by kernel_rfl, trivial⟩) ?_
  refine post_next ?_
  refine aw_seq ?_
  refine aw_region ?_
  refine rgp (op_build (zs := (eGVal zGVal)) (r := eGVal ({ fRef := false, fN := 0 } : GVal)) rfl Tryd_zer_35 (by exact ⟨rfl, rfl, trivial⟩) Tryd_plc_35 rfl rfl rfl rfl) ?_
  refine rgp (op_store_lp (n := 2) rfl rfl rfl rfl rfl (or_agg Tryd_agg_35) (by rw [Tryd_non_35]; rfl) rfl rfl rfl) ?_
  refine reg_nil ?_
  refine post_imp (s' := ⟨7, [(0, some (.lp 0 0)), (2, some (.lp 1 0))], [(0, some (.box 72 (bxv (eGcounter_calc ({ b0 with fbad := true } : Gcounter_calc))))), (1, some (.box 35 (bxv (eGVal ({ fRef := false, fN := 0 } : GVal)))))], 2, [], [], 0, [0]⟩) (imps [0, 1] ⟨by kernel_rfl, by kernel_rfl, trivial⟩ ⟨by kernel_rfl, by kernel_rfl, trivial⟩) ?_
  refine post_next ?_
  refine aw_ret ?_
  refine post_imp (s' := ⟨7, [(0, some (.lp 0 0)), (2, some (.lp 1 0))], [(0, some (.box 72 (bxv (eGcounter_calc ({ b0 with fbad := true } : Gcounter_calc))))), (1, some (.box 35 (bxv (eGVal ({ fRef := false, fN := 0 } : GVal)))))], 2, [], [], 0, [0]⟩) (imps [0, 1] ⟨by kernel_rfl, by kernel_rfl, trivial⟩ ⟨by kernel_rfl, by kernel_rfl, trivial⟩) ?_
  obtain rfl := Option.some.inj hF
  exact post_retW hcx rfl (.cons _ _ _ _ (.agg _ _ _ _ _ 2 _ _ rfl rfl Tryd_agg_35 rfl rfl rfl) .nil) rfl (.inl rfl)
theorem __calc_counter__take_w_ok {b0 : Gcounter_calc} {r : Int × Gcounter_calc} (hF : __calc_counter__take_w b0 = some r) : Abs.FnW globs_Tryd Tryd.prog 64 [.lp 0 0] [(0, some (.box 72 (bxv (eGcounter_calc b0))))] 1 [(0, 0)] [.pv (.int .i64 r.1)] [(0, some (.box 72 (bxv (eGcounter_calc r.2))))] 1 := by
  unfold __calc_counter__take_w at hF
  refine fnW_of_body (n := 25) (m := 1) [0] Tryd.func64 rfl rfl rfl ?_
  intro c w O θ hcx
  refine aw_seq ?_
  refine aw_region ?_
  refine ras ?_
  refine reg_nil ?_
  refine post_imp (s' := ⟨25, [(0, some (.lp 0 0))], [(0, some (.box 72 (bxv (eGcounter_calc b0))))], 1, [], [], 0, [0]⟩) (imps [0] ⟨by kernel_rfl, trivial⟩ ⟨by kernel_rfl, trivial⟩) ?_
  refine post_next ?_
  iterate 2 (refine aw_seq ?_)
  refine aw_region ?_
  refine rmv ?_
  refine rgp (op_nilCheck rfl rfl rfl rfl rfl) ?_
  refine rgp (op_field_lp rfl rfl Tryd_fld_72_2 rfl rfl) ?_
  refine rgp (op_load_lp (v := .pv (.vs 1 (List.map eI b0.fin))) rfl rfl rfl rfl Tryd_one_26 rfl rfl) ?_
  refine rgp (op_len_vs (n := b0.fin.length) rfl rfl (List.length_map ..) Tryd_slc_26 rfl rfl) ?_
  refine rgp (op_int (k := .i64) (m := (b0.fin.length : Int)) (n := 0) rfl rfl rfl rfl rfl rfl) ?_
  refine reg_nil ?_
  refine post_imp (s' := ⟨25, [(0, some (.lp 0 0)), (9, some (.pv (.bool ((b0.fin.length : Int) == 0))))], [(0, some (.box 72 (bxv (eGcounter_calc b0))))], 1, [], [], 0, [0]⟩) (imps [0] ⟨by kernel_rfl, by kernel_rfl, trivial⟩ ⟨by kernel_rfl, trivial⟩) ?_
  refine post_next ?_
  rcases ite_some hF with ⟨hb1, hF⟩ | ⟨hb1, hF⟩
  · refine aw_cond_t rfl hb1 ?_
    refine aw_seq ?_
    refine aw_region ?_
    refine ras ?_
    refine reg_nil ?_
    refine post_imp (s' := ⟨25, [(0, some (.lp 0 0)), (2, some (.pv (.int .i64 0)))], [(0, some (.box 72 (bxv (eGcounter_calc b0))))], 1, [], [], 0, [0]⟩) (imps [0] ⟨by kernel_rfl, by kernel_rfl, trivial⟩ ⟨by kernel_rfl, trivial⟩) ?_
    refine post_next ?_
    refine aw_ret ?_
    refine post_then_ret ?_
    refine post_imp (s' := ⟨25, [(0, some (.lp 0 0)), (2, some (.pv (.int .i64 0)))], [(0, some (.box 72 (bxv (eGcounter_calc b0))))], 1, [], [], 0, [0]⟩) (imps [0] ⟨by kernel_rfl, by kernel_rfl, trivial⟩ ⟨by kernel_rfl, trivial⟩) ?_
    obtain rfl := Option.some.inj hF
    exact post_retW hcx rfl (.cons _ _ _ _ (.tmp _ _ rfl) .nil) rfl (.inl rfl)
  refine aw_cond_f rfl hb1 ?_
  refine aw_skip ?_
  refine post_next ?_
  refine aw_seq ?_
  refine aw_region ?_
  refine rmv ?_
  refine rgp (op_nilCheck rfl rfl rfl rfl rfl) ?_
  refine rgp (op_field_lp rfl rfl Tryd_fld_72_2 rfl rfl) ?_
  refine rgp (op_load_lp (v := .pv (.vs 1 (List.map eI b0.fin))) rfl rfl rfl rfl Tryd_one_26 rfl rfl) ?_
  obtain ⟨y4, h5, hF⟩ := bind_some hF
  refine rgp (op_index_vs (k := .i64) rfl rfl rfl (idx_map eI h5) Tryd_slc_26 rfl rfl) ?_
  refine rgp (op_load_vp (p := .int .i64 y4) rfl rfl rfl Tryd_one_3 rfl rfl) ?_
  refine ras ?_
  refine reg_nil ?_
  refine post_imp (s' := ⟨25, [(0, some (.lp 0 0)), (3, some (.pv (.int .i64 y4)))], [(0, some (.box 72 (bxv (eGcounter_calc b0))))], 1, [], [], 0, [0]⟩) (imps [0] ⟨by kernel_rfl, by kernel_rfl, trivial⟩ ⟨by kernel_rfl, trivial⟩) ?_
  refine post_next ?_
  refine aw_seq ?_
  refine aw_region ?_
  iterate 2 (refine rmv ?_)
  refine rgp (op_nilCheck rfl rfl rfl rfl rfl) ?_
  refine rgp (op_field_lp rfl rfl Tryd_fld_72_2 rfl rfl) ?_
  refine rgp (op_load_lp (v := .pv (.vs 1 (List.map eI b0.fin))) rfl rfl rfl rfl Tryd_one_26 rfl rfl) ?_
  obtain ⟨y6, h7, hF⟩ := bind_some hF
  refine rgp (op_slice_vs (nl := (some 1)) (nh := none) (nm := none) rfl rfl rfl rfl rfl (.inl rfl) Tryd_slc_26 (cut_map (nl := (some 1)) (nh := none) eI h7) rfl rfl) ?_
  refine rgp (op_nilCheck rfl rfl rfl rfl rfl) ?_
  refine rgp (op_field_lp rfl rfl Tryd_fld_72_2 rfl rfl) ?_
  refine rgp (op_store_lp (n := 1) rfl rfl rfl rfl rfl (or_one Tryd_one_26) (by rw [Tryd_one_26]; rfl) rfl rfl rfl) ?_
  refine reg_nil ?_
  refine post_imp (s' := ⟨25, [(0, some (.lp 0 0)), (3, some (.pv (.int .i64 y4)))], [(0, some (.box 72 (bxv (eGcounter_calc ({ b0 with fin := y6 } : Gcounter_calc)))))], 1, [], [], 0, [0]⟩) (imps [0] ⟨by kernel_rfl, by kernel_rfl, trivial⟩ ⟨by kernel_rfl, trivial⟩) ?_
  refine post_next ?_
  refine aw_seq ?_
  refine aw_region ?_
  refine rmv ?_
  refine ras ?_
  refine reg_nil ?_
  refine post_imp (s' := ⟨25, [(0, some (.lp 0 0)), (2, some (.pv (.int .i64 y4)))], [(0, some (.box 72 (bxv (eGcounter_calc ({ b0 with fin := y6 } : Gcounter_calc)))))], 1, [], [], 0, [0]⟩) (imps [0] ⟨by kernel_rfl, by kernel_rfl, trivial⟩ ⟨by kernel_rfl, trivial⟩) ?_
  refine post_next ?_
  refine aw_ret ?_
  refine post_imp (s' := ⟨25, [(0, some (.lp 0 0)), (2, some (.pv (.int .i64 y4)))], [(0, some (.box 72 (bxv (eGcounter_calc ({ b0 with fin := y6 } : Gcounter_calc)))))], 1, [], [], 0, [0]⟩) (imps [0] ⟨by kernel_rfl, by kernel_rfl, trivial⟩ ⟨by kernel_rfl, trivial⟩) ?_
  obtain rfl := Option.some.inj hF
  exact post_retW hcx rfl (.cons _ _ _ _ (.tmp _ _ rfl) .nil) rfl (.inl rfl)
theorem calc_sign_ok {a0 : Int} {r : Clo0} (hF : calc_sign a0 = some r) : Abs.Fn globs_Tryd Tryd.prog 65 [.int .i64 a0] [.p (.fn r.f r.c)] := by
  unfold calc_sign at hF
  refine fn_of_body (n := 17) Tryd.func65 rfl rfl rfl ?_
  intro w O
  refine aw_seq ?_
  refine aw_region ?_
  refine ras ?_
  refine reg_nil ?_
  refine post_imp (s' := ⟨17, [(0, some (.pv (.int .i64 a0)))], [], 0, [], [], 0, []⟩) (imps [] ⟨by kernel_rfl, trivial⟩ trivial) ?_
  refine post_next ?_
  iterate 2 (refine aw_seq ?_)
  refine aw_region ?_
  refine rmv ?_
  refine reg_nil ?_
  refine post_imp (s' := ⟨17, [(3, some (.pv (.int .i64 a0)))], [], 0, [], [], 0, []⟩) (imps [] ⟨by kernel_rfl, trivial⟩ trivial) ?_
  refine post_next ?_
  refine aw_block ?_
  refine aw_seq ?_
  refine aw_region ?_
  refine rgp (op_int (k := .i64) (m := a0) (n := 6) rfl rfl rfl rfl rfl rfl) ?_
  refine ras ?_
  refine reg_nil ?_
  refine post_imp (s' := ⟨17, [(3, some (.pv (.int .i64 a0))), (4, some (.pv (.bool (a0 == 6))))], [], 0, [], [], 0, []⟩) (imps [] ⟨by kernel_rfl, by kernel_rfl, trivial⟩ trivial) ?_
  refine post_next ?_
  rcases ite_some hF with ⟨hb1, hF⟩ | ⟨hb1, hF⟩
  · refine aw_cond_t rfl hb1 ?_
    refine aw_seq ?_
    refine aw_region ?_
    refine ras ?_
    refine reg_nil ?_
    refine post_imp (s' := ⟨17, [(2, some (.pv (.fn 94 [])))], [], 0, [], [], 0, []⟩) (imps [] ⟨by kernel_rfl, trivial⟩ trivial) ?_
    refine post_next ?_
    refine aw_ret ?_
    refine post_block_ret ?_
    refine post_then_ret ?_
    obtain rfl := Option.some.inj hF
    exact prt
  refine aw_cond_f rfl hb1 ?_
  refine aw_seq ?_
  refine aw_region ?_
  refine rgp (op_int (k := .i64) (m := a0) (n := 7) rfl rfl rfl rfl rfl rfl) ?_
  refine ras ?_
  refine reg_nil ?_
  refine post_imp (s' := ⟨17, [(3, some (.pv (.int .i64 a0))), (6, some (.pv (.bool (a0 == 7))))], [], 0, [], [], 0, []⟩) (imps [] ⟨by kernel_rfl, by kernel_rfl, trivial⟩ trivial) ?_
  refine post_next ?_
  rcases ite_some hF with ⟨hb2, hF⟩ | ⟨hb2, hF⟩
  · refine aw_cond_t rfl hb2 ?_
    refine aw_seq ?_
    refine aw_region ?_
    refine ras ?_
    refine reg_nil ?_
    refine post_imp (s' := ⟨17, [(2, some (.pv (.fn 95 [])))], [], 0, [], [], 0, []⟩) (imps [] ⟨by kernel_rfl, trivial⟩ trivial) ?_
    refine post_next ?_
    refine aw_ret ?_
    refine post_block_ret ?_
    refine post_then_ret ?_
    obtain rfl := Option.some.inj hF
    exact prt
  refine aw_cond_f rfl hb2 ?_
  refine aw_seq ?_
  refine aw_region ?_
  refine rgp (op_int (k := .i64) (m := a0) (n := 8) rfl rfl rfl rfl rfl rfl) ?_
  refine ras ?_
  refine reg_nil ?_
  refine post_imp (s' := ⟨17, [(3, some (.pv (.int .i64 a0))), (8, some (.pv (.bool (a0 == 8))))], [], 0, [], [], 0, []⟩) (imps [] ⟨by kernel_rfl, by kernel_rfl, trivial⟩ trivial) ?_
  refine post_next ?_
  rcases ite_some hF with ⟨hb3, hF⟩ | ⟨hb3, hF⟩
  · refine aw_cond_t rfl hb3 ?_
    refine aw_seq ?_
    refine aw_region ?_
    refine ras ?_
    refine reg_nil ?_
    refine post_imp (s' := ⟨17, [(2, some (.pv (.fn 96 [])))], [], 0, [], [], 0, []⟩) (imps [] ⟨by kernel_rfl, trivial⟩ trivial) ?_
    refine post_next ?_
    refine aw_ret ?_
    refine post_block_ret ?_
    refine post_then_ret ?_
    obtain rfl := Option.some.inj hF
    exact prt
  refine aw_cond_f rfl hb3 ?_
  refine aw_seq ?_
  refine aw_region ?_
  refine rgp (op_int (k := .i64) (m := a0) (n := 9) rfl rfl rfl rfl rfl rfl) ?_
  refine ras ?_
  refine reg_nil ?_
  refine post_imp (s' := ⟨17, [(3, some (.pv (.int .i64 a0))), (10, some (.pv (.bool (a0 == 9))))], [], 0, [], [], 0, []⟩) (imps [] ⟨by kernel_rfl, by kernel_rfl, trivial⟩ trivial) ?_
  refine post_next ?_
  rcases ite_some hF with ⟨hb4, hF⟩ | ⟨hb4, hF⟩
  · refine aw_cond_t rfl hb4 ?_
    refine aw_seq ?_
    refine aw_region ?_
    refine ras ?_
    refine reg_nil ?_
    refine post_imp (s' := ⟨17, [(2, some (.pv (.fn 97 [])))], [], 0, [], [], 0, []⟩) (imps [] ⟨by kernel_rfl, trivial⟩ trivial) ?_
    refine post_next ?_
    refine aw_ret ?_
    refine post_block_ret ?_
    refine post_then_ret ?_
    obtain rfl := Option.some.inj hF
    exact prt
  refine aw_cond_f rfl hb4 ?_
  refine aw_seq ?_
  obtain ⟨x6, hF, hK8⟩ := bind_some hF
  refine aw_cut (fun s1 => s1 = ⟨17, [(3, some (.pv (.int .i64 a0))), (12, some (.pv (.bool x6)))], [], 0, [], [], 0, []⟩) ?_ ?_
  · refine aw_seq ?_
    refine aw_region ?_
    refine rgp (op_int (k := .i64) (m := a0) (n := 10) rfl rfl rfl rfl rfl rfl) ?_
    refine ras ?_
    refine reg_nil ?_
    refine post_imp (s' := ⟨17, [(3, some (.pv (.int .i64 a0))), (12, some (.pv (.bool (a0 == 10))))], [], 0, [], [], 0, []⟩) (imps [] ⟨by kernel_rfl, by kernel_rfl, trivial⟩ trivial) ?_
    refine post_next ?_
    rcases ite_some hF with ⟨hb5, hF⟩ | ⟨hb5, hF⟩
    · refine aw_cond_t rfl hb5 ?_
      refine aw_skip ?_
      cases hF
      exact post_cut _ rfl (imps [] ⟨by kernel_rfl, by kernel_rfl, trivial⟩ trivial)
    refine aw_cond_f rfl hb5 ?_
    refine aw_region ?_
    refine rgp (op_int (k := .i64) (m := a0) (n := 14) rfl rfl rfl rfl rfl rfl) ?_
    refine ras ?_
    refine reg_nil ?_
    cases hF
    exact post_cut _ rfl (imps [] ⟨by kernel_rfl, by kernel_rfl, trivial⟩ trivial)
  rintro _ rfl
  have hF := hK8
  clear hK8
  refine post_next ?_
  rcases ite_some hF with ⟨hb9, hF⟩ | ⟨hb9, hF⟩
  · refine aw_cond_t rfl hb9 ?_
    refine aw_seq ?_
    refine aw_region ?_
    refine ras ?_
    refine reg_nil ?_
    refine post_imp (s' := ⟨17, [(2, some (.pv (.fn 99 [])))], [], 0, [], [], 0, []⟩) (imps [] ⟨by kernel_rfl, trivial⟩ trivial) ?_
    refine post_next ?_
    refine aw_ret ?_
    refine post_block_ret ?_
    refine post_then_ret ?_
    obtain rfl := Option.some.inj hF
    exact prt
  refine aw_cond_f rfl hb9 ?_
  refine aw_seq ?_
  refine aw_region ?_
  refine rgp (op_int (k := .i64) (m := a0) (n := 11) rfl rfl rfl rfl rfl rfl) ?_
  refine ras ?_
  refine reg_nil ?_
  refine post_imp (s' := ⟨17, [(15, some (.pv (.bool (a0 == 11))))], [], 0, [], [], 0, []⟩) (imps [] ⟨by kernel_rfl, trivial⟩ trivial) ?_
  refine post_next ?_
  rcases ite_some hF with ⟨hb10, hF⟩ | ⟨hb10, hF⟩
  · refine aw_cond_t rfl hb10 ?_
    refine aw_seq ?_
    refine aw_region ?_
    refine ras ?_
    refine reg_nil ?_
    refine post_imp (s' := ⟨17, [(2, some (.pv (.fn 100 [])))], [], 0, [], [], 0, []⟩) (imps [] ⟨by kernel_rfl, trivial⟩ trivial) ?_
    refine post_next ?_
    refine aw_ret ?_
    refine post_block_ret ?_
    refine post_then_ret ?_
    obtain rfl := Option.some.inj hF
    exact prt
  refine aw_cond_f rfl hb10 ?_
  refine aw_skip ?_
  refine post_block_normal ?_
  refine post_next ?_
  refine aw_seq ?_
  refine aw_region ?_
  refine ras ?_
  refine reg_nil ?_
  refine post_imp (s' := ⟨17, [(2, some (.pv (.fn 101 [])))], [], 0, [], [], 0, []⟩) (imps [] ⟨by kernel_rfl, trivial⟩ trivial) ?_
  refine post_next ?_
  refine aw_ret ?_
  obtain rfl := Option.some.inj hF
  exact prt
theorem __calc_counter__of_w_ring : ∀ (n : Nat) (a1 : GExpr) (b0 : Gcounter_calc) (r : GVal × Gcounter_calc), __calc_counter__of_w n a1 b0 = some r → Abs.FnW globs_Tryd Tryd.prog 34 [.lp 0 0, .pv (.agg (eGExpr a1))] [(0, some (.box 72 (bxv (eGcounter_calc b0))))] 1 [(0, 0)] [.pv (.agg (eGVal r.1))] [(0, some (.box 72 (bxv (eGcounter_calc r.2)))), (1, some (.box 35 (bxv (eGVal r.1))))] 2 := by
  intro n
  induction n with
  | zero => exact fun _ _ _ h => by simp [__calc_counter__of_w] at h
  | succ n ih =>
    have __calc_counter__of_w_ih := ih
    clear ih
    intro a1 b0 r hF
    unfold __calc_counter__of_w at hF
    revert hF __calc_counter__of_w_ih
    generalize __calc_counter__of_w n = __calc_counter__of_w_rec
    intro __calc_counter__of_w_ih hF
    refine fnW_of_body (n := 106) (m := 1) [0] Tryd.func34 rfl rfl rfl ?_
    intro c w O θ hcx
    refine aw_seq ?_
    refine aw_region ?_
    refine rgp (op_box 1 rfl rfl rfl rfl rfl rfl) ?_
    refine rgp (op_alloc 2 rfl (ps := (eGVal zGVal)) rfl Tryd_zer_35 (by exact ⟨rfl, rfl, trivial⟩) rfl rfl) ?_
    refine reg_nil ?_
    refine post_imp (s' := ⟨106, [(0, some (.lp 0 0)), (3, some (.lp 1 0)), (4, some (.lp 2 0))], [(0, some (.box 72 (bxv (eGcounter_calc b0)))), (1, some (.box 31 (bxv (eGExpr a1)))), (2, some (.box 35 (bxv (eGVal zGVal))))], 3, [], [], 0, [0]⟩) (imps [0, 1, 2] ⟨by kernel_rfl, by kernel_rfl, by kernel_rfl, trivial⟩ ⟨by kernel_rfl, by kernel_rfl, by kernel_rfl, trivial⟩) ?_
    refine post_next ?_
    iterate 2 (refine aw_seq ?_)
    refine aw_region ?_
    refine rgp (op_field_lp rfl rfl Tryd_fld_31_0 rfl rfl) ?_
    refine rgp (op_load_lp (v := .pv (.int .i64 a1.fKind)) rfl rfl rfl rfl Tryd_one_3 rfl rfl) ?_
    refine reg_nil ?_
    refine post_imp (s' := ⟨106, [(0, some (.lp 0 0)), (3, some (.lp 1 0)), (4, some (.lp 2 0)), (13, some (.pv (.int .i64 a1.fKind)))], [(0, some (.box 72 (bxv (eGcounter_calc b0)))), (1, some (.box 31 (bxv (eGExpr a1)))), (2, some (.box 35 (bxv (eGVal zGVal))))], 3, [], [], 0, [0]⟩) (imps [0, 1, 2] ⟨by kernel_rfl, by kernel_rfl, by kernel_rfl, by kernel_rfl, trivial⟩ ⟨by kernel_rfl, by kernel_rfl, by kernel_rfl, trivial⟩) ?_
    refine post_next ?_
    refine aw_block ?_
    refine aw_seq ?_
    refine aw_region ?_
    refine rgp (op_int (k := .i64) (m := a1.fKind) (n := 1) rfl rfl rfl rfl rfl rfl) ?_
    refine ras ?_
    refine reg_nil ?_
    refine post_imp (s' := ⟨106, [(0, some (.lp 0 0)), (3, some (.lp 1 0)), (4, some (.lp 2 0)), (13, some (.pv (.int .i64 a1.fKind))), (14, some (.pv (.bool (a1.fKind == 1))))], [(0, some (.box 72 (bxv (eGcounter_calc b0)))), (1, some (.box 31 (bxv (eGExpr a1)))), (2, some (.box 35 (bxv (eGVal zGVal))))], 3, [], [], 0, [0]⟩) (imps [0, 1, 2] ⟨by kernel_rfl, by kernel_rfl, by kernel_rfl, by kernel_rfl, by kernel_rfl, trivial⟩ ⟨by kernel_rfl, by kernel_rfl, by kernel_rfl, trivial⟩) ?_
    refine post_next ?_
    rcases ite_some hF with ⟨hb1, hF⟩ | ⟨hb1, hF⟩
    · refine aw_cond_t rfl hb1 ?_
      refine aw_seq ?_
      refine aw_region ?_
      refine rgp (op_field_lp rfl rfl Tryd_fld_31_1 rfl rfl) ?_
      refine rgp (op_load_lp (v := .pv (.int .i64 a1.fNum)) rfl rfl rfl rfl Tryd_one_3 rfl rfl) ?_
      refine rgp (op_build (zs := (eGVal zGVal)) (r := eGVal ({ fRef := false, fN := a1.fNum } : GVal)) rfl Tryd_zer_35 (by exact ⟨rfl, rfl, trivial⟩) Tryd_plc_35 rfl rfl rfl rfl) ?_
      refine rgp (op_store_lp (n := 2) rfl rfl rfl rfl rfl (or_agg Tryd_agg_35) (by rw [Tryd_non_35]; rfl) rfl rfl rfl) ?_
      refine reg_nil ?_
      refine post_imp (s' := ⟨106, [(0, some (.lp 0 0)), (4, some (.lp 1 0))], [(0, some (.box 72 (bxv (eGcounter_calc b0)))), (1, some (.box 35 (bxv (eGVal ({ fRef := false, fN := a1.fNum } : GVal)))))], 2, [], [], 0, [0]⟩) (imps [0, 2] ⟨by kernel_rfl, by kernel_rfl, trivial⟩ ⟨by kernel_rfl, by kernel_rfl, trivial⟩) ?_
      refine post_next ?_
      refine aw_ret ?_
      refine post_block_ret ?_
      refine post_then_ret ?_
      refine post_imp (s' := ⟨106, [(0, some (.lp 0 0)), (4, some (.lp 1 0))], [(0, some (.box 72 (bxv (eGcounter_calc b0)))), (1, some (.box 35 (bxv (eGVal ({ fRef := false, fN := a1.fNum } : GVal)))))], 2, [], [], 0, [0]⟩) (imps [0, 1] ⟨by kernel_rfl, by kernel_rfl, trivial⟩ ⟨by kernel_rfl, by kernel_rfl, trivial⟩) ?_
      obtain rfl := Option.some.inj hF
      exact post_retW hcx rfl (.cons _ _ _ _ (.agg _ _ _ _ _ 2 _ _ rfl rfl Tryd_agg_35 rfl rfl rfl) .nil) rfl (.inl rfl)
    refine aw_cond_f rfl hb1 ?_
    refine aw_seq ?_
    refine aw_region ?_
    refine rgp (op_int (k := .i64) (m := a1.fKind) (n := 2) rfl rfl rfl rfl rfl rfl) ?_
    refine ras ?_
    refine reg_nil ?_
    refine post_imp (s' := ⟨106, [(0, some (.lp 0 0)), (3, some (.lp 1 0)), (4, some (.lp 2 0)), (13, some (.pv (.int .i64 a1.fKind))), (19, some (.pv (.bool (a1.fKind == 2))))], [(0, some (.box 72 (bxv (eGcounter_calc b0)))), (1, some (.box 31 (bxv (eGExpr a1)))), (2, some (.box 35 (bxv (eGVal zGVal))))], 3, [], [], 0, [0]⟩) (imps [0, 1, 2] ⟨by kernel_rfl, by kernel_rfl, by kernel_rfl, by kernel_rfl, by kernel_rfl, trivial⟩ ⟨by kernel_rfl, by kernel_rfl, by kernel_rfl, trivial⟩) ?_
    refine post_next ?_
    rcases ite_some hF with ⟨hb2, hF⟩ | ⟨hb2, hF⟩
    · refine aw_cond_t rfl hb2 ?_
      refine aw_seq ?_
      refine aw_imp (imp_names 1) ?_
      refine dr_start ⟨_, _, _⟩ rfl ?_
      refine drm ?_
      refine dr_cons { need := [(22, .lp 0 0)], dst := some 23, val := some (.lp 0 0) } (fun m h => step_on (guard_no rfl) (op_nilCheck rfl h.1.1 rfl rfl rfl) rfl) ⟨⟨rfl, trivial⟩, trivial, trivial⟩ ?_
      refine dr_cons { need := [(23, .lp 0 0)], dst := some 24, val := some (.lp 0 0) } (fun m h => step_on (guard_no rfl) (op_field_lp rfl h.1.1 Tryd_fld_72_0 rfl rfl) rfl) ⟨⟨rfl, trivial⟩, trivial, trivial⟩ ?_
      refine dr_cons { need := [(24, .lp 0 0)], hneed := [(0, .box 72 (bxv (eGcounter_calc b0)))], dst := some 25, val := some (.pv (.vs 7 (List.map eGClass b0.fp))) } (fun m h => step_on (guard_no rfl) (op_load_lp (v := .pv (.vs 7 (List.map eGClass b0.fp))) rfl h.1.1 h.2.1.1 rfl Tryd_one_22 rfl rfl) rfl) ⟨⟨rfl, trivial⟩, ⟨rfl, trivial⟩, trivial⟩ ?_
      refine drm ?_
      refine dr_cons { need := [(26, .lp 0 0)], dst := some 27, val := some (.lp 0 0) } (fun m h => step_on (guard_no rfl) (op_nilCheck rfl h.1.1 rfl rfl rfl) rfl) ⟨⟨rfl, trivial⟩, trivial, trivial⟩ ?_
      refine dr_cons { need := [(27, .lp 0 0)], dst := some 28, val := some (.lp 0 1) } (fun m h => step_on (guard_no rfl) (op_field_lp rfl h.1.1 Tryd_fld_72_1 rfl rfl) rfl) ⟨⟨rfl, trivial⟩, trivial, trivial⟩ ?_
      refine dr_cons { need := [(28, .lp 0 1)], hneed := [(0, .box 72 (bxv (eGcounter_calc b0)))], dst := some 29, val := some (.pv (.agg (eGFrame b0.ff))) } (fun m h => step_on (guard_no rfl) (op_load_lp_agg (ps := eGFrame b0.ff) rfl h.1.1 h.2.1.1 rfl rfl rfl Tryd_agg_25 rfl rfl) rfl) ⟨⟨rfl, trivial⟩, ⟨rfl, trivial⟩, trivial⟩ ?_
      refine dr_cons { need := [(3, .lp 1 0)], dst := some 30, val := some (.lp 1 2) } (fun m h => step_on (guard_no rfl) (op_field_lp rfl h.1.1 Tryd_fld_31_2 rfl rfl) rfl) ⟨⟨rfl, trivial⟩, trivial, trivial⟩ ?_
      refine dr_cons { need := [(30, .lp 1 2)], hneed := [(1, .box 31 (bxv (eGExpr a1)))], dst := some 31, val := some (.pv (.str a1.fName)) } (fun m h => step_on (guard_no rfl) (op_load_lp (v := .pv (.str a1.fName)) rfl h.1.1 h.2.1.1 rfl Tryd_one_9 rfl rfl) rfl) ⟨⟨rfl, trivial⟩, ⟨rfl, trivial⟩, trivial⟩ ?_
      obtain ⟨y5, h6, hF⟩ := bind_some hF
      refine dr_cons { need := [(31, .pv (.str a1.fName)), (29, .pv (.agg (eGFrame b0.ff))), (25, .pv (.vs 7 (List.map eGClass b0.fp)))], dst := some 32, val := some (.tup [.pv (.agg (eGVal y5.1)), .pv (.bool y5.2)]) } (fun m h => step_on (guard_no rfl) (op_call 4 rfl (caps := []) (args := [.vs 7 (List.map eGClass b0.fp), .agg (eGFrame b0.ff), .str a1.fName]) (rs := [.p (.agg (eGVal y5.1)), .p (.bool y5.2)]) rfl rfl (evl_cons h.1.2.2.1 (evl_cons h.1.2.1 (evl_cons h.1.1 evl_nil))) Tryd_cal_62 (frame_Get_ok h6) rfl rfl rfl) rfl) ⟨⟨rfl, rfl, rfl, trivial⟩, trivial, trivial⟩ ?_
      refine drm ?_
      refine dr_cons { need := [(21, .tup [.pv (.agg (eGVal y5.1)), .pv (.bool y5.2)])], dst := some 33, val := some (.pv (.agg (eGVal y5.1))) } (fun m h => step_on (guard_no rfl) (op_extract rfl h.1.1 rfl rfl rfl) rfl) ⟨⟨rfl, trivial⟩, trivial, trivial⟩ ?_
      refine dr_cons { need := [(21, .tup [.pv (.agg (eGVal y5.1)), .pv (.bool y5.2)])], dst := some 34, val := some (.pv (.bool y5.2)) } (fun m h => step_on (guard_no rfl) (op_extract rfl h.1.1 rfl rfl rfl) rfl) ⟨⟨rfl, trivial⟩, trivial, trivial⟩ ?_
      refine dr_cons { names := [3], dst := some 5, val := some (.lp 3 0), upd := [(3, some (.box 35 (bxv (eGVal zGVal))))] } (fun m h => step_on (guard_no rfl) (op_alloc 3 (fresh_free h.2.2.1) (ps := (eGVal zGVal)) rfl Tryd_zer_35 (by exact ⟨rfl, rfl, trivial⟩) rfl rfl) rfl) ⟨trivial, trivial, ⟨rfl, trivial⟩⟩ ?_
      refine dr_cons { need := [(5, .lp 3 0), (33, .pv (.agg (eGVal y5.1)))], hneed := [(3, .box 35 (bxv (eGVal zGVal)))], upd := [(3, some (.box 35 (bxv (eGVal y5.1))))] } (fun m h => step_on (guard_no rfl) (op_store_lp (n := 2) rfl h.1.1 h.1.2.1 rfl h.2.1.1 (or_agg Tryd_agg_35) (by rw [Tryd_non_35]; rfl) rfl rfl rfl) rfl) ⟨⟨rfl, rfl, trivial⟩, ⟨rfl, trivial⟩, trivial⟩ ?_
      refine dr_cons { need := [(34, .pv (.bool y5.2))], dst := some 6, val := some (.pv (.bool y5.2)) } (fun m h => step_on (guard_no rfl) (op_assign rfl h.1.1 rfl rfl) rfl) ⟨⟨rfl, trivial⟩, trivial, trivial⟩ ?_
      refine dr_nil Tryd_mixed rfl (by kernel_rfl) ?_
      refine post_imp (s' := ⟨106, [(0, some (.lp 0 0)), (4, some (.lp 1 0)), (5, some (.lp 2 0)), (6, some (.pv (.bool y5.2)))], [(0, some (.box 72 (bxv (eGcounter_calc b0)))), (1, some (.box 35 (bxv (eGVal zGVal)))), (2, some (.box 35 (bxv (eGVal y5.1))))], 3, [], [], 0, [0]⟩) (imps [0, 2, 3] ⟨by kernel_rfl, by kernel_rfl, by kernel_rfl, by kernel_rfl, trivial⟩ ⟨by kernel_rfl, by kernel_rfl, by kernel_rfl, trivial⟩) ?_
      refine post_next ?_
      iterate 2 (refine aw_seq ?_)
      refine aw_region ?_
      refine rmv ?_
      refine rgp (op_not rfl rfl rfl rfl) ?_
      refine reg_nil ?_
      refine post_imp (s' := ⟨106, [(0, some (.lp 0 0)), (4, some (.lp 1 0)), (5, some (.lp 2 0)), (36, some (.pv (.bool (!y5.2))))], [(0, some (.box 72 (bxv (eGcounter_calc b0)))), (1, some (.box 35 (bxv (eGVal zGVal)))), (2, some (.box 35 (bxv (eGVal y5.1))))], 3, [], [], 0, [0]⟩) (imps [0, 1, 2] ⟨by kernel_rfl, by kernel_rfl, by kernel_rfl, by kernel_rfl, trivial⟩ ⟨by kernel_rfl, by kernel_rfl, by kernel_rfl, trivial⟩) ?_
      refine post_next ?_
      rcases ite_some hF with ⟨hb7, hF⟩ | ⟨hb7, hF⟩
      · refine aw_cond_t rfl hb7 ?_
        refine aw_seq ?_
        refine aw_region ?_
        refine rmv ?_
        obtain ⟨y8, h9, hF⟩ := bind_some hF
        refine rgp (op_callW (args := [.lp 0 0]) [0] [0, 3] [] 4 rfl rfl rfl rfl rfl Tryd_cal_63 (__calc_counter__fail_w_ok h9) rfl (by decide) ⟨rfl, trivial⟩ rfl (by decide) ⟨.inl rfl, .inr rfl, trivial⟩ (by kernel_rfl) (by kernel_rfl) rfl rfl rfl rfl) ?_
        refine rgp (op_store_lp (n := 2) rfl rfl rfl rfl rfl (or_agg Tryd_agg_35) (by rw [Tryd_non_35]; rfl) rfl rfl rfl) ?_
        refine reg_nil ?_
        refine post_imp (s' := ⟨106, [(0, some (.lp 0 0)), (4, some (.lp 1 0))], [(0, some (.box 72 (bxv (eGcounter_calc y8.2)))), (1, some (.box 35 (bxv (eGVal y8.1))))], 2, [], [], 0, [0]⟩) (imps [0, 1] ⟨by kernel_rfl, by kernel_rfl, trivial⟩ ⟨by kernel_rfl, by kernel_rfl, trivial⟩) ?_
        refine post_next ?_
        refine aw_ret ?_
        refine post_then_ret ?_
        refine post_block_ret ?_
        refine post_then_ret ?_
        refine post_imp (s' := ⟨106, [(0, some (.lp 0 0)), (4, some (.lp 1 0))], [(0, some (.box 72 (bxv (eGcounter_calc y8.2)))), (1, some (.box 35 (bxv (eGVal y8.1))))], 2, [], [], 0, [0]⟩) (imps [0, 1] ⟨by kernel_rfl, by kernel_rfl, trivial⟩ ⟨by kernel_rfl, by kernel_rfl, trivial⟩) ?_
        obtain rfl := Option.some.inj hF
        exact post_retW hcx rfl (.cons _ _ _ _ (.agg _ _ _ _ _ 2 _ _ rfl rfl Tryd_agg_35 rfl rfl rfl) .nil) rfl (.inl rfl)
      refine aw_cond_f rfl hb7 ?_
      refine aw_skip ?_
      refine post_next ?_
      refine aw_seq ?_
      refine aw_region ?_
      refine rgp (op_load_lp_agg (ps := eGVal y5.1) rfl rfl rfl rfl rfl rfl Tryd_agg_35 rfl rfl) ?_
      refine rgp (op_store_lp (n := 2) rfl rfl rfl rfl rfl (or_agg Tryd_agg_35) (by rw [Tryd_non_35]; rfl) rfl rfl rfl) ?_
      refine reg_nil ?_
      refine post_imp (s' := ⟨106, [(0, some (.lp 0 0)), (4, some (.lp 1 0))], [(0, some (.box 72 (bxv (eGcounter_calc b0)))), (1, some (.box 35 (bxv (eGVal y5.1))))], 2, [], [], 0, [0]⟩) (imps [0, 1] ⟨by kernel_rfl, by kernel_rfl, trivial⟩ ⟨by kernel_rfl, by kernel_rfl, trivial⟩) ?_
      refine post_next ?_
      refine aw_ret ?_
      refine post_block_ret ?_
      refine post_then_ret ?_
      refine post_imp (s' := ⟨106, [(0, some (.lp 0 0)), (4, some (.lp 1 0))], [(0, some (.box 72 (bxv (eGcounter_calc b0)))), (1, some (.box 35 (bxv (eGVal y5.1))))], 2, [], [], 0, [0]⟩) (imps [0, 1] ⟨by kernel_rfl, by kernel_rfl, trivial⟩ ⟨by kernel_rfl, by kernel_rfl, trivial⟩) ?_
      obtain rfl := Option.some.inj hF
      exact post_retW hcx rfl (.cons _ _ _ _ (.agg _ _ _ _ _ 2 _ _ rfl rfl Tryd_agg_35 rfl rfl rfl) .nil) rfl (.inl rfl)
    refine aw_cond_f rfl hb2 ?_
    refine aw_seq ?_
    refine aw_region ?_
    refine rgp (op_int (k := .i64) (m := a1.fKind) (n := 3) rfl rfl rfl rfl rfl rfl) ?_
    refine ras ?_
    refine reg_nil ?_
    refine post_imp (s' := ⟨106, [(0, some (.lp 0 0)), (3, some (.lp 1 0)), (4, some (.lp 2 0)), (13, some (.pv (.int .i64 a1.fKind))), (40, some (.pv (.bool (a1.fKind == 3))))], [(0, some (.box 72 (bxv (eGcounter_calc b0)))), (1, some (.box 31 (bxv (eGExpr a1)))), (2, some (.box 35 (bxv (eGVal zGVal))))], 3, [], [], 0, [0]⟩) (imps [0, 1, 2] ⟨by kernel_rfl, by kernel_rfl, by kernel_rfl, by kernel_rfl, by kernel_rfl, trivial⟩ ⟨by kernel_rfl, by kernel_rfl, by kernel_rfl, trivial⟩) ?_
    refine post_next ?_
    rcases ite_some hF with ⟨hb10, hF⟩ | ⟨hb10, hF⟩
    · refine aw_cond_t rfl hb10 ?_
      refine aw_seq ?_
      refine aw_region ?_
      refine rmv ?_
      refine rgp (op_nilCheck rfl rfl rfl rfl rfl) ?_
      refine rgp (op_field_lp rfl rfl Tryd_fld_72_1 rfl rfl) ?_
      refine rgp (op_field_lp rfl rfl Tryd_fld_25_0 rfl rfl) ?_
      refine rgp (op_load_lp (v := .pv (.int .i64 b0.ff.fThis)) rfl rfl rfl rfl Tryd_one_3 rfl rfl) ?_
      refine rgp (op_build (zs := (eGVal zGVal)) (r := eGVal ({ fRef := true, fN := b0.ff.fThis } : GVal)) rfl Tryd_zer_35 (by exact ⟨rfl, rfl, trivial⟩) Tryd_plc_35 rfl rfl rfl rfl) ?_
      refine rgp (op_store_lp (n := 2) rfl rfl rfl rfl rfl (or_agg Tryd_agg_35) (by rw [Tryd_non_35]; rfl) rfl rfl rfl) ?_
      refine reg_nil ?_
      refine post_imp (s' := ⟨106, [(0, some (.lp 0 0)), (4, some (.lp 1 0))], [(0, some (.box 72 (bxv (eGcounter_calc b0)))), (1, some (.box 35 (bxv (eGVal ({ fRef := true, fN := b0.ff.fThis } : GVal)))))], 2, [], [], 0, [0]⟩) (imps [0, 2] ⟨by kernel_rfl, by kernel_rfl, trivial⟩ ⟨by kernel_rfl, by kernel_rfl, trivial⟩) ?_
      refine post_next ?_
      refine aw_ret ?_
      refine post_block_ret ?_
      refine post_then_ret ?_
      refine post_imp (s' := ⟨106, [(0, some (.lp 0 0)), (4, some (.lp 1 0))], [(0, some (.box 72 (bxv (eGcounter_calc b0)))), (1, some (.box 35 (bxv (eGVal ({ fRef := true, fN := b0.ff.fThis } : GVal)))))], 2, [], [], 0, [0]⟩) (imps [0, 1] ⟨by kernel_rfl, by kernel_rfl, trivial⟩ ⟨by kernel_rfl, by kernel_rfl, trivial⟩) ?_
      obtain rfl := Option.some.inj hF
      exact post_retW hcx rfl (.cons _ _ _ _ (.agg _ _ _ _ _ 2 _ _ rfl rfl Tryd_agg_35 rfl rfl rfl) .nil) rfl (.inl rfl)
    refine aw_cond_f rfl hb10 ?_
    refine aw_seq ?_
    refine aw_region ?_
    refine rgp (op_int (k := .i64) (m := a1.fKind) (n := 4) rfl rfl rfl rfl rfl rfl) ?_
    refine ras ?_
    refine reg_nil ?_
    refine post_imp (s' := ⟨106, [(0, some (.lp 0 0)), (3, some (.lp 1 0)), (4, some (.lp 2 0)), (13, some (.pv (.int .i64 a1.fKind))), (48, some (.pv (.bool (a1.fKind == 4))))], [(0, some (.box 72 (bxv (eGcounter_calc b0)))), (1, some (.box 31 (bxv (eGExpr a1)))), (2, some (.box 35 (bxv (eGVal zGVal))))], 3, [], [], 0, [0]⟩) (imps [0, 1, 2] ⟨by kernel_rfl, by kernel_rfl, by kernel_rfl, by kernel_rfl, by kernel_rfl, trivial⟩ ⟨by kernel_rfl, by kernel_rfl, by kernel_rfl, trivial⟩) ?_
    refine post_next ?_
    rcases ite_some hF with ⟨hb11, hF⟩ | ⟨hb11, hF⟩
    · refine aw_cond_t rfl hb11 ?_
      refine aw_seq ?_
      refine aw_region ?_
      refine rgp (op_build (zs := (eGVal zGVal)) (r := eGVal ({ fRef := true, fN := 0 } : GVal)) rfl Tryd_zer_35 (by exact ⟨rfl, rfl, trivial⟩) Tryd_plc_35 rfl rfl rfl rfl) ?_
      refine rgp (op_store_lp (n := 2) rfl rfl rfl rfl rfl (or_agg Tryd_agg_35) (by rw [Tryd_non_35]; rfl) rfl rfl rfl) ?_
      refine reg_nil ?_
      refine post_imp (s' := ⟨106, [(0, some (.lp 0 0)), (4, some (.lp 1 0))], [(0, some (.box 72 (bxv (eGcounter_calc b0)))), (1, some (.box 35 (bxv (eGVal ({ fRef := true, fN := 0 } : GVal)))))], 2, [], [], 0, [0]⟩) (imps [0, 2] ⟨by kernel_rfl, by kernel_rfl, trivial⟩ ⟨by kernel_rfl, by kernel_rfl, trivial⟩) ?_
      refine post_next ?_
      refine aw_ret ?_
      refine post_block_ret ?_
      refine post_then_ret ?_
      refine post_imp (s' := ⟨106, [(0, some (.lp 0 0)), (4, some (.lp 1 0))], [(0, some (.box 72 (bxv (eGcounter_calc b0)))), (1, some (.box 35 (bxv (eGVal ({ fRef := true, fN := 0 } : GVal)))))], 2, [], [], 0, [0]⟩) (imps [0, 1] ⟨by kernel_rfl, by kernel_rfl, trivial⟩ ⟨by kernel_rfl, by kernel_rfl, trivial⟩) ?_
      obtain rfl := Option.some.inj hF
      exact post_retW hcx rfl (.cons _ _ _ _ (.agg _ _ _ _ _ 2 _ _ rfl rfl Tryd_agg_35 rfl rfl rfl) .nil) rfl (.inl rfl)
    refine aw_cond_f rfl hb11 ?_
    refine aw_seq ?_
    refine aw_region ?_
    refine rgp (op_int (k := .i64) (m := a1.fKind) (n := 5) rfl rfl rfl rfl rfl rfl) ?_
    refine ras ?_
    refine reg_nil ?_
    refine post_imp (s' := ⟨106, [(0, some (.lp 0 0)), (3, some (.lp 1 0)), (4, some (.lp 2 0)), (51, some (.pv (.bool (a1.fKind == 5))))], [(0, some (.box 72 (bxv (eGcounter_calc b0)))), (1, some (.box 31 (bxv (eGExpr a1)))), (2, some (.box 35 (bxv (eGVal zGVal))))], 3, [], [], 0, [0]⟩) (imps [0, 1, 2] ⟨by kernel_rfl, by kernel_rfl, by kernel_rfl, by kernel_rfl, trivial⟩ ⟨by kernel_rfl, by kernel_rfl, by kernel_rfl, trivial⟩) ?_
    refine post_next ?_
    rcases ite_some hF with ⟨hb12, hF⟩ | ⟨hb12, hF⟩
    · refine aw_cond_t rfl hb12 ?_
      refine aw_seq ?_
      refine aw_region ?_
      refine rmv ?_
      obtain ⟨y13, h14, hF⟩ := bind_some hF
      refine rgp (op_callW (args := [.lp 0 0]) [0] [0] [] 3 rfl rfl rfl rfl rfl Tryd_cal_64 (__calc_counter__take_w_ok h14) rfl (by decide) ⟨rfl, trivial⟩ rfl (by decide) ⟨.inl rfl, trivial⟩ (by kernel_rfl) (by kernel_rfl) rfl rfl rfl rfl) ?_
      refine rgp (op_build (zs := (eGVal zGVal)) (r := eGVal ({ fRef := false, fN := y13.1 } : GVal)) rfl Tryd_zer_35 (by exact ⟨rfl, rfl, trivial⟩) Tryd_plc_35 rfl rfl rfl rfl) ?_
      refine rgp (op_store_lp (n := 2) rfl rfl rfl rfl rfl (or_agg Tryd_agg_35) (by rw [Tryd_non_35]; rfl) rfl rfl rfl) ?_
      refine reg_nil ?_
      refine post_imp (s' := ⟨106, [(0, some (.lp 0 0)), (4, some (.lp 1 0))], [(0, some (.box 72 (bxv (eGcounter_calc y13.2)))), (1, some (.box 35 (bxv (eGVal ({ fRef := false, fN := y13.1 } : GVal)))))], 2, [], [], 0, [0]⟩) (imps [0, 2] ⟨by kernel_rfl, by kernel_rfl, trivial⟩ ⟨by kernel_rfl, by kernel_rfl, trivial⟩) ?_
      refine post_next ?_
      refine aw_ret ?_
      refine post_block_ret ?_
      refine post_then_ret ?_
      refine post_imp (s' := ⟨106, [(0, some (.lp 0 0)), (4, some (.lp 1 0))], [(0, some (.box 72 (bxv (eGcounter_calc y13.2)))), (1, some (.box 35 (bxv (eGVal ({ fRef := false, fN := y13.1 } : GVal)))))], 2, [], [], 0, [0]⟩) (imps [0, 1] ⟨by kernel_rfl, by kernel_rfl, trivial⟩ ⟨by kernel_rfl, by kernel_rfl, trivial⟩) ?_
      obtain rfl := Option.some.inj hF
      exact post_retW hcx rfl (.cons _ _ _ _ (.agg _ _ _ _ _ 2 _ _ rfl rfl Tryd_agg_35 rfl rfl rfl) .nil) rfl (.inl rfl)
    refine aw_cond_f rfl hb12 ?_
    refine aw_skip ?_
    refine post_block_normal ?_
    refine post_next ?_
    refine aw_seq ?_
    obtain ⟨x16, hF, hK18⟩ := bind_some hF
    refine aw_cut (fun s1 => s1 = ⟨106, [(0, some (.lp 0 0)), (3, some (.lp 1 0)), (4, some (.lp 2 0)), (7, some (.pv (.bool x16)))], [(0, some (.box 72 (bxv (eGcounter_calc b0)))), (1, some (.box 31 (bxv (eGExpr a1)))), (2, some (.box 35 (bxv (eGVal zGVal))))], 3, [], [], 0, [0]⟩) ?_ ?_
    · refine aw_region ?_
      refine rgp (op_field_lp rfl rfl Tryd_fld_31_0 rfl rfl) ?_
      refine rgp (op_load_lp (v := .pv (.int .i64 a1.fKind)) rfl rfl rfl rfl Tryd_one_3 rfl rfl) ?_
      refine rgp (op_int (k := .i64) (m := a1.fKind) (n := 13) rfl rfl rfl rfl rfl rfl) ?_
      refine rmv ?_
      rcases ite_some hF with ⟨hb15, hF⟩ | ⟨hb15, hF⟩
      · refine rgo_t hb15 ?_
        iterate 2 (refine rgo_t hb15 ?_)
        refine rpt hb15 ?_
        refine ras ?_
        refine reg_nil ?_
        cases hF
        exact post_cut _ rfl (imps [0, 1, 2] ⟨by kernel_rfl, by kernel_rfl, by kernel_rfl, by kernel_rfl, trivial⟩ ⟨by kernel_rfl, by kernel_rfl, by kernel_rfl, trivial⟩)
      refine rgn hb15 (op_field_lp rfl rfl Tryd_fld_31_0 rfl rfl) ?_
      refine rgn hb15 (op_load_lp (v := .pv (.int .i64 a1.fKind)) rfl rfl rfl rfl Tryd_one_3 rfl rfl) ?_
      refine rgn hb15 (op_int (k := .i64) (m := a1.fKind) (n := 14) rfl rfl rfl rfl rfl rfl) ?_
      refine rpf hb15 ?_
      refine ras ?_
      refine reg_nil ?_
      cases hF
      exact post_cut _ rfl (imps [0, 1, 2] ⟨by kernel_rfl, by kernel_rfl, by kernel_rfl, by kernel_rfl, trivial⟩ ⟨by kernel_rfl, by kernel_rfl, by kernel_rfl, trivial⟩)
    rintro _ rfl
    have hF := hK18
    clear hK18
    refine post_next ?_
    refine aw_seq ?_
    refine aw_region ?_
    refine ras ?_
    refine reg_imp (imp_nil_own 8 3 1 3 rfl rfl) ?_
    refine reg_nil ?_
    refine post_imp (s' := ⟨106, [(0, some (.lp 0 0)), (3, some (.lp 1 0)), (4, some (.lp 2 0)), (7, some (.pv (.bool x16))), (8, some (.ls 3))], [(0, some (.box 72 (bxv (eGcounter_calc b0)))), (1, some (.box 31 (bxv (eGExpr a1)))), (2, some (.box 35 (bxv (eGVal zGVal)))), (3, some (.row 3 1 (List.map eI [])))], 4, [], [], 0, [0]⟩) (imps [0, 1, 2, 3] ⟨by kernel_rfl, by kernel_rfl, by kernel_rfl, by kernel_rfl, by kernel_rfl, trivial⟩ ⟨by kernel_rfl, by kernel_rfl, by kernel_rfl, by kernel_rfl, trivial⟩) ?_
    refine post_next ?_
    iterate 2 (refine aw_seq ?_)
    refine aw_region ?_
    refine rgp (op_field_lp rfl rfl Tryd_fld_31_3 rfl rfl) ?_
    refine rgp (op_load_lp (v := .pv (.vs 4 (eLGExpr a1.fKids))) rfl rfl rfl rfl Tryd_one_29 rfl rfl) ?_
    refine rgp (op_len_vs (n := a1.fKids.length) rfl rfl (lenR eLGExpr_map) Tryd_slc_29 rfl rfl) ?_
    refine rmv ?_
    refine reg_nil ?_
    refine post_imp (s' := ⟨106, [(0, some (.lp 0 0)), (3, some (.lp 1 0)), (4, some (.lp 2 0)), (7, some (.pv (.bool x16))), (8, some (.ls 3)), (65, some (.pv (.vs 4 (eLGExpr a1.fKids)))), (66, some (.pv (.int .i64 (a1.fKids.length : Int)))), (67, some (.pv (.int .i64 0)))], [(0, some (.box 72 (bxv (eGcounter_calc b0)))), (1, some (.box 31 (bxv (eGExpr a1)))), (2, some (.box 35 (bxv (eGVal zGVal)))), (3, some (.row 3 1 (List.map eI [])))], 4, [], [], 0, [0]⟩) (imps [0, 1, 2, 3] ⟨by kernel_rfl, by kernel_rfl, by kernel_rfl, by kernel_rfl, by kernel_rfl, by kernel_rfl, by kernel_rfl, by kernel_rfl, trivial⟩ ⟨by kernel_rfl, by kernel_rfl, by kernel_rfl, by kernel_rfl, trivial⟩) ?_
    refine post_next ?_
    obtain ⟨lr90, hF, hK91⟩ := bind_some hF
    refine aw_for ((((a1.fKids.length : Int) : Int) - (0)).toNat + 1) (fun s1 => ∃ q, lr90 = .next q ∧ s1 = ⟨106, [(0, some (.lp 0 0)), (3, some (.lp 1 0)), (4, some (.lp 2 0)), (8, some (.ls 3))], [(0, some (.box 72 (bxv (eGcounter_calc q.1)))), (1, some (.box 31 (bxv (eGExpr a1)))), (2, some (.box 35 (bxv (eGVal zGVal)))), (3, some (.row 3 1 (List.map eI q.2)))], 4, [], [], 0, [0]⟩) ?_ ?_
    · refine rnd_loop (α := Gcounter_calc × (List Int) × Int) (fun q => ⟨106, [(0, some (.lp 0 0)), (3, some (.lp 1 0)), (4, some (.lp 2 0)), (7, some (.pv (.bool x16))), (8, some (.ls 3)), (65, some (.pv (.vs 4 (eLGExpr a1.fKids)))), (66, some (.pv (.int .i64 (a1.fKids.length : Int)))), (67, some (.pv (.int .i64 q.2.2)))], [(0, some (.box 72 (bxv (eGcounter_calc q.1)))), (1, some (.box 31 (bxv (eGExpr a1)))), (2, some (.box 35 (bxv (eGVal zGVal)))), (3, some (.row 3 1 (List.map eI q.2.1)))], 4, [], [], 0, [0]⟩) (fun k q => __calc_counter__of_w_L1 a1 x16 __calc_counter__of_w_rec k q.1 q.2.1 q.2.2 = some lr90) (b0, [], 0) (imps [0, 1, 2, 3] ⟨by kernel_rfl, by kernel_rfl, by kernel_rfl, by kernel_rfl, by kernel_rfl, by kernel_rfl, by kernel_rfl, by kernel_rfl, trivial⟩ ⟨by kernel_rfl, by kernel_rfl, by kernel_rfl, by kernel_rfl, trivial⟩) hF (fun q h => by cases h) ?_
      clear hF
      rintro k ⟨x39, x40, x41⟩ hF ih
      refine rnd_succ ?_
      refine aw_seq ?_
      refine aw_region ?_
      refine rgp (op_int (k := .i64) (m := x41) (n := (a1.fKids.length : Int)) rfl rfl rfl rfl rfl rfl) ?_
      refine reg_nil ?_
      refine post_imp (s' := ⟨106, [(0, some (.lp 0 0)), (3, some (.lp 1 0)), (4, some (.lp 2 0)), (7, some (.pv (.bool x16))), (8, some (.ls 3)), (65, some (.pv (.vs 4 (eLGExpr a1.fKids)))), (66, some (.pv (.int .i64 (a1.fKids.length : Int)))), (67, some (.pv (.int .i64 x41))), (68, some (.pv (.bool (decide (x41 < (a1.fKids.length : Int))))))], [(0, some (.box 72 (bxv (eGcounter_calc x39)))), (1, some (.box 31 (bxv (eGExpr a1)))), (2, some (.box 35 (bxv (eGVal zGVal)))), (3, some (.row 3 1 (List.map eI x40)))], 4, [], [], 0, [0]⟩) (imps [0, 1, 2, 3] ⟨by kernel_rfl, by kernel_rfl, by kernel_rfl, by kernel_rfl, by kernel_rfl, by kernel_rfl, by kernel_rfl, by kernel_rfl, by kernel_rfl, trivial⟩ ⟨by kernel_rfl, by kernel_rfl, by kernel_rfl, by kernel_rfl, trivial⟩) ?_
      refine post_next ?_
      refine aw_seq ?_
      rcases ite_some hF with ⟨hb65, hF⟩ | ⟨hb65, hF⟩
      · refine aw_cond_t rfl hb65 ?_
        refine aw_skip ?_
        refine post_next ?_
        refine aw_seq ?_
        refine aw_block ?_
        refine aw_seq ?_
        refine aw_region ?_
        obtain ⟨y68, h69, hF⟩ := bind_some hF
        refine rgp (op_index_vs (k := .i64) rfl rfl rfl (idxR eLGExpr_map h69) Tryd_slc_29 rfl rfl) ?_
        refine rgp (op_load_vp_agg (ps := eGExpr y68) rfl rfl rfl rfl Tryd_agg_31 rfl rfl) ?_
        refine rgp (op_alloc 4 rfl (ps := (eGExpr zGExpr)) rfl Tryd_zer_31 (by exact ⟨rfl, rfl, rfl, trivial, trivial⟩) rfl rfl) ?_
        refine rgp (op_store_lp (n := 4) rfl rfl rfl rfl rfl (or_agg Tryd_agg_31) (by rw [Tryd_non_31]; rfl) rfl rfl rfl) ?_
        refine reg_nil ?_
        refine post_imp (s' := ⟨106, [(0, some (.lp 0 0)), (3, some (.lp 1 0)), (4, some (.lp 2 0)), (7, some (.pv (.bool x16))), (8, some (.ls 3)), (10, some (.lp 4 0)), (65, some (.pv (.vs 4 (eLGExpr a1.fKids)))), (66, some (.pv (.int .i64 (a1.fKids.length : Int)))), (67, some (.pv (.int .i64 x41)))], [(0, some (.box 72 (bxv (eGcounter_calc x39)))), (1, some (.box 31 (bxv (eGExpr a1)))), (2, some (.box 35 (bxv (eGVal zGVal)))), (3, some (.row 3 1 (List.map eI x40))), (4, some (.box 31 (bxv (eGExpr y68))))], 5, [], [], 0, [0]⟩) (imps [0, 1, 2, 3, 4] ⟨by kernel_rfl, by kernel_rfl, by kernel_rfl, by kernel_rfl, by kernel_rfl, by kernel_rfl, by kernel_rfl, by kernel_rfl, by kernel_rfl, trivial⟩ ⟨by kernel_rfl, by kernel_rfl, by kernel_rfl, by kernel_rfl, by kernel_rfl, trivial⟩) ?_
        refine post_next ?_
        refine aw_seq ?_
        refine aw_region ?_
        refine rmv ?_
        refine rgp (op_load_lp_agg (ps := eGExpr y68) rfl rfl rfl rfl rfl rfl Tryd_agg_31 rfl rfl) ?_
        obtain ⟨y72, h73, hF⟩ := bind_some hF
        refine rgp (op_callW (args := [.lp 0 0, .pv (.agg (eGExpr y68))]) [0] [0, 5] [] 6 rfl rfl rfl rfl rfl Tryd_cal_34 (__calc_counter__of_w_ih _ _ _ h73) rfl (by decide) ⟨rfl, trivial⟩ rfl (by decide) ⟨.inl rfl, .inr rfl, trivial⟩ (by kernel_rfl) (by kernel_rfl) rfl rfl rfl rfl) ?_
        refine rgp (op_alloc 6 rfl (ps := (eGVal zGVal)) rfl Tryd_zer_35 (by exact ⟨rfl, rfl, trivial⟩) rfl rfl) ?_
        refine rgp (op_store_lp (n := 2) rfl rfl rfl rfl rfl (or_agg Tryd_agg_35) (by rw [Tryd_non_35]; rfl) rfl rfl rfl) ?_
        refine reg_nil ?_
        refine post_imp (s' := ⟨106, [(0, some (.lp 0 0)), (3, some (.lp 1 0)), (4, some (.lp 2 0)), (7, some (.pv (.bool x16))), (8, some (.ls 3)), (11, some (.lp 4 0)), (65, some (.pv (.vs 4 (eLGExpr a1.fKids)))), (66, some (.pv (.int .i64 (a1.fKids.length : Int)))), (67, some (.pv (.int .i64 x41)))], [(0, some (.box 72 (bxv (eGcounter_calc y72.2)))), (1, some (.box 31 (bxv (eGExpr a1)))), (2, some (.box 35 (bxv (eGVal zGVal)))), (3, some (.row 3 1 (List.map eI x40))), (4, some (.box 35 (bxv (eGVal y72.1))))], 5, [], [], 0, [0]⟩) (imps [0, 1, 2, 3, 6] ⟨by kernel_rfl, by kernel_rfl, by kernel_rfl, by kernel_rfl, by kernel_rfl, by kernel_rfl, by kernel_rfl, by kernel_rfl, by kernel_rfl, trivial⟩ ⟨by kernel_rfl, by kernel_rfl, by kernel_rfl, by kernel_rfl, by kernel_rfl, trivial⟩) ?_
        refine post_next ?_
        iterate 2 (refine aw_seq ?_)
        obtain ⟨x75, hF, hK77⟩ := bind_some hF
        refine aw_cut (fun s1 => s1 = ⟨106, [(0, some (.lp 0 0)), (3, some (.lp 1 0)), (4, some (.lp 2 0)), (7, some (.pv (.bool x16))), (8, some (.ls 3)), (11, some (.lp 4 0)), (65, some (.pv (.vs 4 (eLGExpr a1.fKids)))), (66, some (.pv (.int .i64 (a1.fKids.length : Int)))), (67, some (.pv (.int .i64 x41))), (83, some (.pv (.bool x75)))], [(0, some (.box 72 (bxv (eGcounter_calc y72.2)))), (1, some (.box 31 (bxv (eGExpr a1)))), (2, some (.box 35 (bxv (eGVal zGVal)))), (3, some (.row 3 1 (List.map eI x40))), (4, some (.box 35 (bxv (eGVal y72.1))))], 5, [], [], 0, [0]⟩) ?_ ?_
        · refine aw_region ?_
          refine rmv ?_
          refine rgp (op_nilCheck rfl rfl rfl rfl rfl) ?_
          refine rgp (op_field_lp rfl rfl Tryd_fld_72_3 rfl rfl) ?_
          refine rgp (op_load_lp (v := .pv (.bool y72.2.fbad)) rfl rfl rfl rfl Tryd_one_4 rfl rfl) ?_
          refine rmv ?_
          rcases ite_some hF with ⟨hb74, hF⟩ | ⟨hb74, hF⟩
          · refine rgo_t hb74 ?_
            iterate 3 (refine rgo_t hb74 ?_)
            refine rpt hb74 ?_
            refine reg_nil ?_
            cases hF
            exact post_cut _ rfl (imps [0, 1, 2, 3, 4] ⟨by kernel_rfl, by kernel_rfl, by kernel_rfl, by kernel_rfl, by kernel_rfl, by kernel_rfl, by kernel_rfl, by kernel_rfl, by kernel_rfl, by kernel_rfl, trivial⟩ ⟨by kernel_rfl, by kernel_rfl, by kernel_rfl, by kernel_rfl, by kernel_rfl, trivial⟩)
          refine rgn hb74 (op_field_lp rfl rfl Tryd_fld_35_0 rfl rfl) ?_
          refine rgn hb74 (op_load_lp (v := .pv (.bool y72.1.fRef)) rfl rfl rfl rfl Tryd_one_4 rfl rfl) ?_
          refine rgn hb74 (op_move rfl rfl rfl rfl) ?_
          refine rgn hb74 (op_eqBool_neq rfl rfl rfl Tryd_und_4 rfl rfl) ?_
          refine rpf hb74 ?_
          refine reg_nil ?_
          cases hF
          exact post_cut _ rfl (imps [0, 1, 2, 3, 4] ⟨by kernel_rfl, by kernel_rfl, by kernel_rfl, by kernel_rfl, by kernel_rfl, by kernel_rfl, by kernel_rfl, by kernel_rfl, by kernel_rfl, by kernel_rfl, trivial⟩ ⟨by kernel_rfl, by kernel_rfl, by kernel_rfl, by kernel_rfl, by kernel_rfl, trivial⟩)
        rintro _ rfl
        have hF := hK77
        clear hK77
        refine post_next ?_
        rcases ite_some hF with ⟨hb78, hF⟩ | ⟨hb78, hF⟩
        · refine aw_cond_t rfl hb78 ?_
          refine aw_seq ?_
          refine aw_region ?_
          refine rmv ?_
          obtain ⟨y79, h80, hF⟩ := bind_some hF
          refine rgp (op_callW (args := [.lp 0 0]) [0] [0, 5] [] 6 rfl rfl rfl rfl rfl Tryd_cal_63 (__calc_counter__fail_w_ok h80) rfl (by decide) ⟨rfl, trivial⟩ rfl (by decide) ⟨.inl rfl, .inr rfl, trivial⟩ (by kernel_rfl) (by kernel_rfl) rfl rfl rfl rfl) ?_
          refine rgp (op_store_lp (n := 2) rfl rfl rfl rfl rfl (or_agg Tryd_agg_35) (by rw [Tryd_non_35]; rfl) rfl rfl rfl) ?_
          refine reg_nil ?_
          refine post_imp (s' := ⟨106, [(0, some (.lp 0 0)), (4, some (.lp 1 0))], [(0, some (.box 72 (bxv (eGcounter_calc y79.2)))), (1, some (.box 35 (bxv (eGVal y79.1))))], 2, [], [], 0, [0]⟩) (imps [0, 2] ⟨by kernel_rfl, by kernel_rfl, trivial⟩ ⟨by kernel_rfl, by kernel_rfl, trivial⟩) ?_
          refine post_next ?_
          refine aw_ret ?_
          refine post_then_ret ?_
          refine post_block_ret ?_
          iterate 2 (refine post_then_ret ?_)
          refine post_lp_ret ?_
          obtain rfl := Option.some.inj hF
          have hF := elim_stop hK91
          refine post_then_ret ?_
          refine post_imp (s' := ⟨106, [(0, some (.lp 0 0)), (4, some (.lp 1 0))], [(0, some (.box 72 (bxv (eGcounter_calc y79.2)))), (1, some (.box 35 (bxv (eGVal y79.1))))], 2, [], [], 0, [0]⟩) (imps [0, 1] ⟨by kernel_rfl, by kernel_rfl, trivial⟩ ⟨by kernel_rfl, by kernel_rfl, trivial⟩) ?_
          obtain rfl := Option.some.inj hF
          exact post_retW hcx rfl (.cons _ _ _ _ (.agg _ _ _ _ _ 2 _ _ rfl rfl Tryd_agg_35 rfl rfl rfl) .nil) rfl (.inl rfl)
        refine aw_cond_f rfl hb78 ?_
        refine aw_skip ?_
        refine post_next ?_
        refine aw_region ?_
        refine rmv ?_
        refine rgp (op_field_lp rfl rfl Tryd_fld_35_1 rfl rfl) ?_
        refine rgp (op_load_lp (v := .pv (.int .i64 y72.1.fN)) rfl rfl rfl rfl Tryd_one_3 rfl rfl) ?_
        refine rgp (op_lit (rows := List.map eI ([y72.1.fN] : List Int)) (zs := [.int .i64 0]) rfl rfl Tryd_slc_26 Tryd_zer_3 (by exact ⟨rfl, trivial⟩) rfl rfl rfl rfl rfl rfl rfl rfl) ?_
        obtain ⟨u83, h84, hF⟩ := bind_some hF
        refine rgp (op_append 5 rfl rfl rfl rfl rfl Tryd_slc_26 Tryd_elm_3 Tryd_zer_3 rfl rfl rfl (room_map (f := eI) (g := eI) h84) (List.map_append (f := eI) (l₁ := x40) (l₂ := [y72.1.fN])).symm rfl rfl) ?_
        refine ras ?_
        refine reg_nil ?_
        refine post_imp (s' := ⟨106, [(0, some (.lp 0 0)), (3, some (.lp 1 0)), (4, some (.lp 2 0)), (7, some (.pv (.bool x16))), (8, some (.ls 3)), (65, some (.pv (.vs 4 (eLGExpr a1.fKids)))), (66, some (.pv (.int .i64 (a1.fKids.length : Int)))), (67, some (.pv (.int .i64 x41)))], [(0, some (.box 72 (bxv (eGcounter_calc y72.2)))), (1, some (.box 31 (bxv (eGExpr a1)))), (2, some (.box 35 (bxv (eGVal zGVal)))), (3, some (.row 3 1 (List.map eI (x40 ++ [y72.1.fN]))))], 4, [], [], 0, [0]⟩) (imps [0, 1, 2, 5] ⟨by kernel_rfl, by kernel_rfl, by kernel_rfl, by kernel_rfl, by kernel_rfl, by kernel_rfl, by kernel_rfl, by kernel_rfl, trivial⟩ ⟨by kernel_rfl, by kernel_rfl, by kernel_rfl, by kernel_rfl, trivial⟩) ?_
        refine post_block_normal ?_
        refine post_next ?_
        refine aw_region ?_
        refine rgp (op_int (k := .i64) (m := x41) (n := 1) rfl rfl rfl rfl rfl rfl) ?_
        refine rmv ?_
        refine reg_nil ?_
        refine post_round ?_
        exact rnd_back (ih (y72.2, (x40 ++ [y72.1.fN]), w_i64 (x41 + 1)) hF) (imps [0, 1, 2, 3] ⟨by kernel_rfl, by kernel_rfl, by kernel_rfl, by kernel_rfl, by kernel_rfl, by kernel_rfl, by kernel_rfl, by kernel_rfl, trivial⟩ ⟨by kernel_rfl, by kernel_rfl, by kernel_rfl, by kernel_rfl, trivial⟩)
      refine aw_cond_f rfl hb65 ?_
      refine aw_exit ?_
      iterate 2 (refine post_then_exit ?_)
      obtain rfl := Option.some.inj hF
      exact post_lp_break _ ⟨_, rfl, rfl⟩ (imps [0, 1, 2, 3] ⟨by kernel_rfl, by kernel_rfl, by kernel_rfl, by kernel_rfl, trivial⟩ ⟨by kernel_rfl, by kernel_rfl, by kernel_rfl, by kernel_rfl, trivial⟩)
    rintro _ ⟨⟨x88, x89⟩, rfl, rfl⟩
    have hF := elim_next hK91
    clear hK91
    refine post_next ?_
    refine aw_seq ?_
    refine dr_start ⟨_, _, _⟩ rfl ?_
    refine dr_cons { need := [(3, .lp 1 0)], dst := some 92, val := some (.lp 1 0) } (fun m h => step_on (guard_no rfl) (op_field_lp rfl h.1.1 Tryd_fld_31_0 rfl rfl) rfl) ⟨⟨rfl, trivial⟩, trivial, trivial⟩ ?_
    refine dr_cons { need := [(92, .lp 1 0)], hneed := [(1, .box 31 (bxv (eGExpr a1)))], dst := some 93, val := some (.pv (.int .i64 a1.fKind)) } (fun m h => step_on (guard_no rfl) (op_load_lp (v := .pv (.int .i64 a1.fKind)) rfl h.1.1 h.2.1.1 rfl Tryd_one_3 rfl rfl) rfl) ⟨⟨rfl, trivial⟩, ⟨rfl, trivial⟩, trivial⟩ ?_
    obtain ⟨y92, h93, hF⟩ := bind_some hF
    refine dr_cons { need := [(93, .pv (.int .i64 a1.fKind))], dst := some 94, val := some (.pv (.fn y92.f y92.c)) } (fun m h => step_on (guard_no rfl) (op_call 4 rfl (caps := []) (args := [.int .i64 a1.fKind]) (rs := [.p (.fn y92.f y92.c)]) rfl rfl (evl_cons h.1.1 evl_nil) Tryd_cal_65 (calc_sign_ok h93) rfl rfl rfl) rfl) ⟨⟨rfl, trivial⟩, trivial, trivial⟩ ?_
    refine drm ?_
    obtain ⟨y94, h95, hF⟩ := bind_some hF
    refine dr_cons { need := [(95, .ls 3)], hneed := [(3, .row 3 1 (List.map eI x89))], dst := some 96, val := some (.le 3 1 (0 : Int).toNat 0) } (fun m h => step_on (guard_no rfl) (op_index_ls (k := .i64) rfl h.1.1 rfl h.2.1.1 (idx_map eI h95) Tryd_slc_26 rfl rfl) rfl) ⟨⟨rfl, trivial⟩, ⟨rfl, trivial⟩, trivial⟩ ?_
    refine dr_cons { need := [(96, .le 3 1 (0 : Int).toNat 0)], hneed := [(3, .row 3 1 (List.map eI x89))], dst := some 97, val := some (.pv (.int .i64 y94)) } (fun m h => step_on (guard_no rfl) (op_load_le (p := .int .i64 y94) rfl h.1.1 h.2.1.1 (map_get eI h95) rfl Tryd_one_3 rfl rfl) rfl) ⟨⟨rfl, trivial⟩, ⟨rfl, trivial⟩, trivial⟩ ?_
    iterate 2 (refine drm ?_)
    refine dr_cons { need := [(99, .ls 3)], hneed := [(3, .row 3 1 (List.map eI x89))], dst := some 100, val := some (.pv (.int .i64 (x89.length : Int))) } (fun m h => step_on (guard_no rfl) (op_len_ls (n := x89.length) rfl h.1.1 h.2.1.1 (List.length_map ..) Tryd_slc_26 rfl rfl) rfl) ⟨⟨rfl, trivial⟩, ⟨rfl, trivial⟩, trivial⟩ ?_
    refine dr_cons { need := [(100, .pv (.int .i64 (x89.length : Int)))], dst := some 101, val := some (.pv (.int .i64 (w_i64 ((x89.length : Int) - 1)))) } (fun m h => step_on (guard_no rfl) (op_int (k := .i64) (m := (x89.length : Int)) (n := 1) rfl h.1.1 rfl rfl rfl rfl) rfl) ⟨⟨rfl, trivial⟩, trivial, trivial⟩ ?_
    obtain ⟨y96, h97, hF⟩ := bind_some hF
    refine dr_cons { need := [(98, .ls 3), (101, .pv (.int .i64 (w_i64 ((x89.length : Int) - 1))))], hneed := [(3, .row 3 1 (List.map eI x89))], dst := some 102, val := some (.le 3 1 (w_i64 ((x89.length : Int) - 1) : Int).toNat 0) } (fun m h => step_on (guard_no rfl) (op_index_ls (k := .i64) rfl h.1.1 h.1.2.1 h.2.1.1 (idx_map eI h97) Tryd_slc_26 rfl rfl) rfl) ⟨⟨rfl, rfl, trivial⟩, ⟨rfl, trivial⟩, trivial⟩ ?_
    refine dr_cons { need := [(102, .le 3 1 (w_i64 ((x89.length : Int) - 1) : Int).toNat 0)], hneed := [(3, .row 3 1 (List.map eI x89))], dst := some 103, val := some (.pv (.int .i64 y96)) } (fun m h => step_on (guard_no rfl) (op_load_le (p := .int .i64 y96) rfl h.1.1 h.2.1.1 (map_get eI h97) rfl Tryd_one_3 rfl rfl) rfl) ⟨⟨rfl, trivial⟩, ⟨rfl, trivial⟩, trivial⟩ ?_
    obtain ⟨y98, h99, hF⟩ := bind_some hF
    refine dr_cons { need := [(94, .pv (.fn y92.f y92.c)), (103, .pv (.int .i64 y96)), (97, .pv (.int .i64 y94))], dst := some 104, val := some (.pv (.int .i64 y98)) } (fun m h => step_on (guard_no rfl) (op_call 4 rfl (caps := y92.c) (args := [.int .i64 y94, .int .i64 y96]) (rs := [.p (.int .i64 y98)]) rfl h.1.1 (evl_cons h.1.2.2.1 (evl_cons h.1.2.1 evl_nil)) y92.b (y92.h (y94, y96) _ h99) rfl rfl rfl) rfl) ⟨⟨rfl, rfl, rfl, trivial⟩, trivial, trivial⟩ ?_
    refine dr_cons { need := [(104, .pv (.int .i64 y98))], dst := some 105, val := some (.pv (.agg (eGVal ({ fRef := false, fN := y98 } : GVal)))) } (fun m h => step_on (guard_no rfl) (op_build (zs := (eGVal zGVal)) (r := eGVal ({ fRef := false, fN := y98 } : GVal)) rfl Tryd_zer_35 (by exact ⟨rfl, rfl, trivial⟩) Tryd_plc_35 (evs_cons h.1.1 evs_nil) rfl rfl rfl) rfl) ⟨⟨rfl, trivial⟩, trivial, trivial⟩ ?_
    refine dr_cons { need := [(4, .lp 2 0), (105, .pv (.agg (eGVal ({ fRef := false, fN := y98 } : GVal))))], hneed := [(2, .box 35 (bxv (eGVal zGVal)))], upd := [(2, some (.box 35 (bxv (eGVal ({ fRef := false, fN := y98 } : GVal)))))] } (fun m h => step_on (guard_no rfl) (op_store_lp (n := 2) rfl h.1.1 h.1.2.1 rfl h.2.1.1 (or_agg Tryd_agg_35) (by rw [Tryd_non_35]; rfl) rfl rfl rfl) rfl) ⟨⟨rfl, rfl, trivial⟩, ⟨rfl, trivial⟩, trivial⟩ ?_
    refine dr_nil Tryd_mixed rfl (by kernel_rfl) ?_
    refine post_imp (s' := ⟨106, [(0, some (.lp 0 0)), (4, some (.lp 1 0))], [(0, some (.box 72 (bxv (eGcounter_calc x88)))), (1, some (.box 35 (bxv (eGVal ({ fRef := false, fN := y98 } : GVal)))))], 2, [], [], 0, [0]⟩) (imps [0, 2] ⟨by kernel_rfl, by kernel_rfl, trivial⟩ ⟨by kernel_rfl, by kernel_rfl, trivial⟩) ?_
    refine post_next ?_
    refine aw_ret ?_
    refine post_imp (s' := ⟨106, [(0, some (.lp 0 0)), (4, some (.lp 1 0))], [(0, some (.box 72 (bxv (eGcounter_calc x88)))), (1, some (.box 35 (bxv (eGVal ({ fRef := false, fN := y98 } : GVal)))))], 2, [], [], 0, [0]⟩) (imps [0, 1] ⟨by kernel_rfl, by kernel_rfl, trivial⟩ ⟨by kernel_rfl, by kernel_rfl, trivial⟩) ?_
    obtain rfl := Option.some.inj hF
    exact post_retW hcx rfl (.cons _ _ _ _ (.agg _ _ _ _ _ 2 _ _ rfl rfl Tryd_agg_35 rfl rfl rfl) .nil) rfl (.inl rfl)
theorem __calc_counter__of_w_ok {n : Nat} {a1 : GExpr} {b0 : Gcounter_calc} {r : GVal × Gcounter_calc} (hF : __calc_counter__of_w n a1 b0 = some r) : Abs.FnW globs_Tryd Tryd.prog 34 [.lp 0 0, .pv (.agg (eGExpr a1))] [(0, some (.box 72 (bxv (eGcounter_calc b0))))] 1 [(0, 0)] [.pv (.agg (eGVal r.1))] [(0, some (.box 72 (bxv (eGcounter_calc r.2)))), (1, some (.box 35 (bxv (eGVal r.1))))] 2 := __calc_counter__of_w_ring n a1 b0 r hF
theorem slices_Clone_int_ok {a0 : List Int} {r : List Int} (hF : slices_Clone_int a0 = some r) : Abs.Fn globs_Tryd Tryd.prog 35 [.vs 1 (List.map eI a0)] [.own 3 1 (List.map eI r)] := by
  unfold slices_Clone_int at hF
  obtain ⟨u, h, hF⟩ := bind_some hF
  obtain rfl := Option.some.inj hF
  refine fn_of_body (n := 8) Tryd.func35 rfl rfl rfl ?_
  intro w O
  refine aw_seq ?_
  refine aw_region ?_
  refine reg_cons (guard_no rfl) (op_assign rfl rfl rfl rfl) ?_
  refine reg_nil ?_
  refine post_next ?_
  iterate 2 (refine aw_seq ?_)
  refine aw_region ?_
  refine reg_cons (guard_no rfl) (op_move rfl rfl rfl rfl) ?_
  refine op_eqNil rfl rfl rfl Tryd_slc_26 (guard_no rfl) rfl rfl ?_ ?_
  · intro hn
    refine reg_nil ?_
    refine post_next ?_
    refine aw_cond_t rfl rfl ?_
    refine aw_seq ?_
    refine aw_region ?_
    refine reg_cons (guard_no rfl) (op_assign rfl rfl rfl rfl) ?_
    refine reg_nil ?_
    refine post_next ?_
    refine aw_ret ?_
    refine post_then_ret ?_
    refine post_imp (imp_nil_own 2 3 1 0 rfl rfl) ?_
    rw [hn]
    exact post_ret rfl rfl (.cons _ _ _ _ _ (.tmp _ _ rfl) (.own _ _ _ _ rfl nolent3) .nil) (.inl rfl)
  · refine reg_nil ?_
    refine post_next ?_
    refine aw_cond_f rfl rfl ?_
    refine aw_skip ?_
    refine post_next ?_
    refine aw_seq ?_
    refine aw_region ?_
    refine reg_cons (guard_no rfl) (op_litOwn 0 rfl (rows := List.map eI ([] : List Int)) (zs := [.int .i64 0]) rfl rfl Tryd_slc_26 Tryd_zer_3 (by exact ⟨rfl, trivial⟩) rfl rfl rfl rfl rfl rfl rfl rfl) ?_
    refine reg_cons (guard_no rfl) (op_move rfl rfl rfl rfl) ?_
    refine reg_cons (guard_no rfl) (op_append 1 rfl rfl rfl rfl rfl Tryd_slc_26 Tryd_elm_3 Tryd_zer_3 rfl rfl rfl (room_map (f := eI) (g := eI) h) (List.map_append (f := eI) (l₁ := []) (l₂ := a0)).symm rfl rfl) ?_
    refine reg_cons (guard_no rfl) (op_assign rfl rfl rfl rfl) ?_
    refine reg_nil ?_
    refine post_next ?_
    refine aw_ret ?_
    exact post_ret rfl rfl (.cons _ _ _ _ _ (.tmp _ _ rfl) (.own _ _ _ _ rfl nolent3) .nil) (.inl rfl)
theorem calc_All_ok {a0 : List GClass} {a1 : GFrame} {a2 : List Int} {a3 : List GExpr} {r : (List GVal) × (List Int) × Int} (hF : calc_All a0 a1 a2 a3 = some r) : Abs.Fn globs_Tryd Tryd.prog 14 [.vs 7 (List.map eGClass a0), .agg (eGFrame a1), .vs 1 (List.map eI a2), .vs 4 (eLGExpr a3)] [.own 35 2 (List.map eGVal r.1), .p (.vs 1 (List.map eI r.2.1)), .p (.int .i64 r.2.2)] := by
  unfold calc_All at hF
  refine fn_of_body (n := 46) Tryd.func14 rfl rfl rfl ?_
  intro w O
  refine aw_seq ?_
  refine aw_region ?_
  refine rgp (op_box 0 rfl rfl rfl rfl rfl rfl) ?_
  iterate 3 (refine ras ?_)
  refine reg_nil ?_
  refine post_imp (s' := ⟨46, [(0, some (.pv (.vs 7 (List.map eGClass a0)))), (2, some (.pv (.vs 1 (List.map eI a2)))), (3, some (.pv (.vs 4 (eLGExpr a3)))), (5, some (.lp 0 0))], [(0, some (.box 25 (bxv (eGFrame a1))))], 1, [], [], 0, []⟩) (imps [0] ⟨by kernel_rfl, by kernel_rfl, by kernel_rfl, by kernel_rfl, trivial⟩ ⟨by kernel_rfl, trivial⟩) ?_
  refine post_next ?_
  refine aw_seq ?_
  refine aw_region ?_
  refine rmv ?_
  refine rgp (op_load_lp_agg (ps := eGFrame a1) rfl rfl rfl rfl rfl rfl Tryd_agg_25 rfl rfl) ?_
  refine rmv ?_
  refine rgp (op_build (zs := (eGcounter_calc zGcounter_calc)) (r := eGcounter_calc ({ fp := a0, ff := a1, fin := a2, fbad := false } : Gcounter_calc)) rfl Tryd_zer_72 (by exact ⟨trivial, rfl, rfl, rfl, trivial, rfl, rfl, trivial, rfl, trivial⟩) Tryd_plc_72 rfl rfl rfl rfl) ?_
  refine rgp (op_box 1 rfl rfl rfl rfl rfl rfl) ?_
  refine ras ?_
  refine reg_nil ?_
  refine post_imp (s' := ⟨46, [(3, some (.pv (.vs 4 (eLGExpr a3)))), (11, some (.lp 0 0))], [(0, some (.box 72 (bxv (eGcounter_calc ({ fp := a0, ff := a1, fin := a2, fbad := false } : Gcounter_calc)))))], 1, [], [], 0, []⟩) (imps [1] ⟨by kernel_rfl, by kernel_rfl, trivial⟩ ⟨by kernel_rfl, trivial⟩) ?_
  refine post_next ?_
  refine aw_seq ?_
  refine aw_region ?_
  refine ras ?_
  refine reg_imp (imp_nil_own 12 35 2 1 rfl rfl) ?_
  refine reg_nil ?_
  refine post_imp (s' := ⟨46, [(3, some (.pv (.vs 4 (eLGExpr a3)))), (11, some (.lp 0 0)), (12, some (.ls 1))], [(0, some (.box 72 (bxv (eGcounter_calc ({ fp := a0, ff := a1, fin := a2, fbad := false } : Gcounter_calc))))), (1, some (.row 35 2 (List.map eGVal [])))], 2, [], [], 0, []⟩) (imps [0, 1] ⟨by kernel_rfl, by kernel_rfl, by kernel_rfl, trivial⟩ ⟨by kernel_rfl, by kernel_rfl, trivial⟩) ?_
  refine post_next ?_
  iterate 2 (refine aw_seq ?_)
  refine aw_region ?_
  refine rmv ?_
  refine rgp (op_len_vs (n := a3.length) rfl rfl (lenR eLGExpr_map) Tryd_slc_29 rfl rfl) ?_
  refine rmv ?_
  refine reg_nil ?_
  refine post_imp (s' := ⟨46, [(11, some (.lp 0 0)), (12, some (.ls 1)), (20, some (.pv (.vs 4 (eLGExpr a3)))), (21, some (.pv (.int .i64 (a3.length : Int)))), (22, some (.pv (.int .i64 0)))], [(0, some (.box 72 (bxv (eGcounter_calc ({ fp := a0, ff := a1, fin := a2, fbad := false } : Gcounter_calc))))), (1, some (.row 35 2 (List.map eGVal [])))], 2, [], [], 0, []⟩) (imps [0, 1] ⟨by kernel_rfl, by kernel_rfl, by kernel_rfl, by kernel_rfl, by kernel_rfl, trivial⟩ ⟨by kernel_rfl, by kernel_rfl, trivial⟩) ?_
  refine post_next ?_
  obtain ⟨lr69, hF, hK70⟩ := bind_some hF
  refine aw_for ((((a3.length : Int) : Int) - (0)).toNat + 1) (fun s1 => ∃ q, lr69 = .next q ∧ s1 = ⟨46, [(11, some (.lp 0 0)), (12, some (.ls 1))], [(0, some (.box 72 (bxv (eGcounter_calc q.1)))), (1, some (.row 35 2 (List.map eGVal q.2)))], 2, [], [], 0, []⟩) ?_ ?_
  · refine rnd_loop (α := Gcounter_calc × (List GVal) × Int) (fun q => ⟨46, [(11, some (.lp 0 0)), (12, some (.ls 1)), (20, some (.pv (.vs 4 (eLGExpr a3)))), (21, some (.pv (.int .i64 (a3.length : Int)))), (22, some (.pv (.int .i64 q.2.2)))], [(0, some (.box 72 (bxv (eGcounter_calc q.1)))), (1, some (.row 35 2 (List.map eGVal q.2.1)))], 2, [], [], 0, []⟩) (fun k q => calc_All_L1 a3 k q.1 q.2.1 q.2.2 = some lr69) (({ fp := a0, ff := a1, fin := a2, fbad := false } : Gcounter_calc), [], 0) (imps [0, 1] ⟨by kernel_rfl, by kernel_rfl, by kernel_rfl, by kernel_rfl, by kernel_rfl, trivial⟩ ⟨by kernel_rfl, by kernel_rfl, trivial⟩) hF (fun q h => by cases h) ?_
    clear hF
    rintro k ⟨x20, x21, x22⟩ hF ih
    refine rnd_succ ?_
    refine aw_seq ?_
    refine aw_region ?_
    refine rgp (op_int (k := .i64) (m := x22) (n := (a3.length : Int)) rfl rfl rfl rfl rfl rfl) ?_
    refine reg_nil ?_
    refine post_imp (s' := ⟨46, [(11, some (.lp 0 0)), (12, some (.ls 1)), (20, some (.pv (.vs 4 (eLGExpr a3)))), (21, some (.pv (.int .i64 (a3.length : Int)))), (22, some (.pv (.int .i64 x22))), (23, some (.pv (.bool (decide (x22 < (a3.length : Int))))))], [(0, some (.box 72 (bxv (eGcounter_calc x20)))), (1, some (.row 35 2 (List.map eGVal x21)))], 2, [], [], 0, []⟩) (imps [0, 1] ⟨by kernel_rfl, by kernel_rfl, by kernel_rfl, by kernel_rfl, by kernel_rfl, by kernel_rfl, trivial⟩ ⟨by kernel_rfl, by kernel_rfl, trivial⟩) ?_
    refine post_next ?_
    refine aw_seq ?_
    rcases ite_some hF with ⟨hb45, hF⟩ | ⟨hb45, hF⟩
    · refine aw_cond_t rfl hb45 ?_
      refine aw_skip ?_
      refine post_next ?_
      refine aw_seq ?_
      refine aw_block ?_
      refine aw_seq ?_
      refine aw_region ?_
      obtain ⟨y48, h49, hF⟩ := bind_some hF
      refine rgp (op_index_vs (k := .i64) rfl rfl rfl (idxR eLGExpr_map h49) Tryd_slc_29 rfl rfl) ?_
      refine rgp (op_load_vp_agg (ps := eGExpr y48) rfl rfl rfl rfl Tryd_agg_31 rfl rfl) ?_
      refine rgp (op_alloc 2 rfl (ps := (eGExpr zGExpr)) rfl Tryd_zer_31 (by exact ⟨rfl, rfl, rfl, trivial, trivial⟩) rfl rfl) ?_
      refine rgp (op_store_lp (n := 4) rfl rfl rfl rfl rfl (or_agg Tryd_agg_31) (by rw [Tryd_non_31]; rfl) rfl rfl rfl) ?_
      refine reg_nil ?_
      refine post_imp (s' := ⟨46, [(11, some (.lp 0 0)), (12, some (.ls 1)), (14, some (.lp 2 0)), (20, some (.pv (.vs 4 (eLGExpr a3)))), (21, some (.pv (.int .i64 (a3.length : Int)))), (22, some (.pv (.int .i64 x22)))], [(0, some (.box 72 (bxv (eGcounter_calc x20)))), (1, some (.row 35 2 (List.map eGVal x21))), (2, some (.box 31 (bxv (eGExpr y48))))], 3, [], [], 0, []⟩) (imps [0, 1, 2] ⟨by kernel_rfl, by kernel_rfl, by kernel_rfl, by kernel_rfl, by kernel_rfl, by kernel_rfl, trivial⟩ ⟨by kernel_rfl, by kernel_rfl, by kernel_rfl, trivial⟩) ?_
      refine post_next ?_
      iterate 2 (refine aw_seq ?_)
      refine aw_region ?_
      refine rgp (op_load_lp_agg (ps := eGExpr y48) rfl rfl rfl rfl rfl rfl Tryd_agg_31 rfl rfl) ?_
      obtain ⟨y52, h53, hF⟩ := bind_some hF
      refine rgp (op_call 3 rfl (caps := []) (args := [.agg (eGExpr y48)]) (rs := [.p (.bool y52)]) rfl rfl rfl Tryd_cal_33 (expr_Right_ok h53) rfl rfl rfl) ?_
      refine rgp (op_not rfl rfl rfl rfl) ?_
      refine reg_nil ?_
      refine post_imp (s' := ⟨46, [(11, some (.lp 0 0)), (12, some (.ls 1)), (14, some (.lp 2 0)), (20, some (.pv (.vs 4 (eLGExpr a3)))), (21, some (.pv (.int .i64 (a3.length : Int)))), (22, some (.pv (.int .i64 x22))), (28, some (.pv (.bool (!y52))))], [(0, some (.box 72 (bxv (eGcounter_calc x20)))), (1, some (.row 35 2 (List.map eGVal x21))), (2, some (.box 31 (bxv (eGExpr y48))))], 3, [], [], 0, []⟩) (imps [0, 1, 2] ⟨by kernel_rfl, by kernel_rfl, by kernel_rfl, by kernel_rfl, by kernel_rfl, by kernel_rfl, by kernel_rfl, trivial⟩ ⟨by kernel_rfl, by kernel_rfl, by kernel_rfl, trivial⟩) ?_
      refine post_next ?_
      rcases ite_some hF with ⟨hb54, hF⟩ | ⟨hb54, hF⟩
      · refine aw_cond_t rfl hb54 ?_
        refine aw_seq ?_
        refine aw_region ?_
        iterate 3 (refine ras ?_)
        refine reg_nil ?_
        refine post_imp (s' := ⟨46, [(8, some (.pv .nils)), (9, some (.pv .nils)), (10, some (.pv (.int .i64 10)))], [], 0, [], [], 0, []⟩) (imps [] ⟨by kernel_rfl, by kernel_rfl, by kernel_rfl, trivial⟩ trivial) ?_
        refine post_next ?_
        refine aw_ret ?_
        refine post_then_ret ?_
        refine post_block_ret ?_
        iterate 2 (refine post_then_ret ?_)
        refine post_lp_ret ?_
        obtain rfl := Option.some.inj hF
        have hF := elim_stop hK70
        refine post_then_ret ?_
        refine post_imp (imp_nil_own 8 35 2 0 rfl rfl) ?_
        refine post_imp (imp_nil_vs 9 1 rfl) ?_
        obtain rfl := Option.some.inj hF
        exact post_ret rfl rfl (.cons _ _ _ _ _ (.tmp _ _ rfl) (.own _ _ _ _ rfl nolent3) (.cons _ _ _ _ _ (.tmp _ _ rfl) (.p _) (.cons _ _ _ _ _ (.tmp _ _ rfl) (.p _) .nil))) (.inl rfl)
      refine aw_cond_f rfl hb54 ?_
      refine aw_skip ?_
      refine post_next ?_
      refine aw_seq ?_
      refine aw_region ?_
      iterate 2 (refine rmv ?_)
      refine rgp (op_load_lp_agg (ps := eGExpr y48) rfl rfl rfl rfl rfl rfl Tryd_agg_31 rfl rfl) ?_
      obtain ⟨y59, h60, hF⟩ := bind_some hF
      refine rgp (op_callW (args := [.lp 0 0, .pv (.agg (eGExpr y48))]) [0] [0, 3] [] 4 rfl rfl rfl rfl rfl Tryd_cal_34 (__calc_counter__of_w_ok h60) rfl (by decide) ⟨rfl, trivial⟩ rfl (by decide) ⟨.inl rfl, .inr rfl, trivial⟩ (by kernel_rfl) (by kernel_rfl) rfl rfl rfl rfl) ?_
      refine rgp (op_lit (rows := List.map eGVal ([y59.1] : List GVal)) (zs := (eGVal zGVal)) rfl rfl Tryd_slc_23 Tryd_zer_35 (by exact ⟨rfl, rfl, trivial⟩) rfl rfl rfl rfl rfl rfl rfl rfl) ?_
      obtain ⟨u61, h62, hF⟩ := bind_some hF
      refine rgp (op_append 4 rfl rfl rfl rfl rfl Tryd_slc_23 Tryd_elm_35 Tryd_zer_35 rfl rfl rfl (room_map (f := eGVal) (g := eGVal) h62) (List.map_append (f := eGVal) (l₁ := x21) (l₂ := [y59.1])).symm rfl rfl) ?_
      refine ras ?_
      refine reg_nil ?_
      refine post_imp (s' := ⟨46, [(11, some (.lp 0 0)), (12, some (.ls 1)), (20, some (.pv (.vs 4 (eLGExpr a3)))), (21, some (.pv (.int .i64 (a3.length : Int)))), (22, some (.pv (.int .i64 x22)))], [(0, some (.box 72 (bxv (eGcounter_calc y59.2)))), (1, some (.row 35 2 (List.map eGVal (x21 ++ [y59.1]))))], 2, [], [], 0, []⟩) (imps [0, 4] ⟨by kernel_rfl, by kernel_rfl, by kernel_rfl, by kernel_rfl, by kernel_rfl, trivial⟩ ⟨by kernel_rfl, by kernel_rfl, trivial⟩) ?_
      refine post_next ?_
      refine aw_seq ?_
      refine aw_region ?_
      refine rmv ?_
      refine rgp (op_nilCheck rfl rfl rfl rfl rfl) ?_
      refine rgp (op_field_lp rfl rfl Tryd_fld_72_3 rfl rfl) ?_
      refine rgp (op_load_lp (v := .pv (.bool y59.2.fbad)) rfl rfl rfl rfl Tryd_one_4 rfl rfl) ?_
      refine reg_nil ?_
      refine post_imp (s' := ⟨46, [(11, some (.lp 0 0)), (12, some (.ls 1)), (20, some (.pv (.vs 4 (eLGExpr a3)))), (21, some (.pv (.int .i64 (a3.length : Int)))), (22, some (.pv (.int .i64 x22))), (38, some (.pv (.bool y59.2.fbad)))], [(0, some (.box 72 (bxv (eGcounter_calc y59.2)))), (1, some (.row 35 2 (List.map eGVal (x21 ++ [y59.1]))))], 2, [], [], 0, []⟩) (imps [0, 1] ⟨by kernel_rfl, by kernel_rfl, by kernel_rfl, by kernel_rfl, by kernel_rfl, by kernel_rfl, trivial⟩ ⟨by kernel_rfl, by kernel_rfl, trivial⟩) ?_
      refine post_next ?_
      rcases ite_some hF with ⟨hb63, hF⟩ | ⟨hb63, hF⟩
      · refine aw_cond_t rfl hb63 ?_
        refine aw_seq ?_
        refine aw_region ?_
        iterate 3 (refine ras ?_)
        refine reg_nil ?_
        refine post_imp (s' := ⟨46, [(8, some (.pv .nils)), (9, some (.pv .nils)), (10, some (.pv (.int .i64 10)))], [], 0, [], [], 0, []⟩) (imps [] ⟨by kernel_rfl, by kernel_rfl, by kernel_rfl, trivial⟩ trivial) ?_
        refine post_next ?_
        refine aw_ret ?_
        refine post_block_ret ?_
        iterate 2 (refine post_then_ret ?_)
        refine post_lp_ret ?_
        obtain rfl := Option.some.inj hF
        have hF := elim_stop hK70
        refine post_then_ret ?_
        refine post_imp (imp_nil_own 8 35 2 0 rfl rfl) ?_
        refine post_imp (imp_nil_vs 9 1 rfl) ?_
        obtain rfl := Option.some.inj hF
        exact post_ret rfl rfl (.cons _ _ _ _ _ (.tmp _ _ rfl) (.own _ _ _ _ rfl nolent3) (.cons _ _ _ _ _ (.tmp _ _ rfl) (.p _) (.cons _ _ _ _ _ (.tmp _ _ rfl) (.p _) .nil))) (.inl rfl)
      refine aw_cond_f rfl hb63 ?_
      refine aw_skip ?_
      refine post_block_normal ?_
      refine post_next ?_
      refine aw_region ?_
      refine rgp (op_int (k := .i64) (m := x22) (n := 1) rfl rfl rfl rfl rfl rfl) ?_
      refine rmv ?_
      refine reg_nil ?_
      refine post_round ?_
      exact rnd_back (ih (y59.2, (x21 ++ [y59.1]), w_i64 (x22 + 1)) hF) (imps [0, 1] ⟨by kernel_rfl, by kernel_rfl, by kernel_rfl, by kernel_rfl, by kernel_rfl, trivial⟩ ⟨by kernel_rfl, by kernel_rfl, trivial⟩)
    refine aw_cond_f rfl hb45 ?_
    refine aw_exit ?_
    iterate 2 (refine post_then_exit ?_)
    obtain rfl := Option.some.inj hF
    exact post_lp_break _ ⟨_, rfl, rfl⟩ (imps [0, 1] ⟨by kernel_rfl, by kernel_rfl, trivial⟩ ⟨by kernel_rfl, by kernel_rfl, trivial⟩)
  rintro _ ⟨⟨x67, x68⟩, rfl, rfl⟩
  have hF := elim_next hK70
  clear hK70
  refine post_next ?_
  refine aw_seq ?_
  refine aw_region ?_
  iterate 2 (refine rmv ?_)
  refine rgp (op_nilCheck rfl rfl rfl rfl rfl) ?_
  refine rgp (op_field_lp rfl rfl Tryd_fld_72_2 rfl rfl) ?_
  refine rgp (op_load_lp (v := .pv (.vs 1 (List.map eI x67.fin))) rfl rfl rfl rfl Tryd_one_26 rfl rfl) ?_
  obtain ⟨y71, h72, hF⟩ := bind_some hF
  refine rgp (op_call 2 rfl (caps := []) (args := [.vs 1 (List.map eI x67.fin)]) (rs := [.p (.vs 1 (List.map eI y71))]) rfl rfl rfl Tryd_cal_35 (Fn.frozen (slices_Clone_int_ok h72)) rfl rfl rfl) ?_
  iterate 3 (refine ras ?_)
  refine reg_nil ?_
  refine post_imp (s' := ⟨46, [(8, some (.ls 0)), (9, some (.pv (.vs 1 (List.map eI y71)))), (10, some (.pv (.int .i64 0)))], [(0, some (.row 35 2 (List.map eGVal x68)))], 1, [], [], 0, []⟩) (imps [1] ⟨by kernel_rfl, by kernel_rfl, by kernel_rfl, trivial⟩ ⟨by kernel_rfl, trivial⟩) ?_
  refine post_next ?_
  refine aw_ret ?_
  obtain rfl := Option.some.inj hF
  exact post_ret rfl rfl (.cons _ _ _ _ _ (.tmp _ _ rfl) (.own _ _ _ _ rfl nolent3) (.cons _ _ _ _ _ (.tmp _ _ rfl) (.p _) (.cons _ _ _ _ _ (.tmp _ _ rfl) (.p _) .nil))) (.inl rfl)
theorem calc_Of_ok {a0 : List GClass} {a1 : GFrame} {a2 : List Int} {a3 : GExpr} {r : GVal × (List Int) × Int} (hF : calc_Of a0 a1 a2 a3 = some r) : Abs.Fn globs_Tryd Tryd.prog 11 [.vs 7 (List.map eGClass a0), .agg (eGFrame a1), .vs 1 (List.map eI a2), .agg (eGExpr a3)] [.p (.agg (eGVal r.1)), .p (.vs 1 (List.map eI r.2.1)), .p (.int .i64 r.2.2)] := by
  unfold calc_Of at hF
  refine fn_of_body (n := 33) Tryd.func11 rfl rfl rfl ?_
  intro w O
  refine aw_seq ?_
  refine aw_region ?_
  refine rgp (op_box 0 rfl rfl rfl rfl rfl rfl) ?_
  refine rgp (op_box 1 rfl rfl rfl rfl rfl rfl) ?_
  refine rgp (op_alloc 2 rfl (ps := (eGVal zGVal)) rfl Tryd_zer_35 (by exact ⟨rfl, rfl, trivial⟩) rfl rfl) ?_
  iterate 2 (refine ras ?_)
  refine reg_nil ?_
  refine post_imp (s' := ⟨33, [(0, some (.pv (.vs 7 (List.map eGClass a0)))), (2, some (.pv (.vs 1 (List.map eI a2)))), (5, some (.lp 0 0)), (7, some (.lp 1 0)), (8, some (.lp 2 0))], [(0, some (.box 25 (bxv (eGFrame a1)))), (1, some (.box 31 (bxv (eGExpr a3)))), (2, some (.box 35 (bxv (eGVal zGVal))))], 3, [], [], 0, []⟩) (imps [0, 1, 2] ⟨by kernel_rfl, by kernel_rfl, by kernel_rfl, by kernel_rfl, by kernel_rfl, trivial⟩ ⟨by kernel_rfl, by kernel_rfl, by kernel_rfl, trivial⟩) ?_
  refine post_next ?_
  refine aw_seq ?_
  refine aw_region ?_
  refine rmv ?_
  refine rgp (op_load_lp_agg (ps := eGFrame a1) rfl rfl rfl rfl rfl rfl Tryd_agg_25 rfl rfl) ?_
  refine rmv ?_
  refine rgp (op_load_lp_agg (ps := eGExpr a3) rfl rfl rfl rfl rfl rfl Tryd_agg_31 rfl rfl) ?_
  refine rgp (op_litR (rows := List.map eGExpr ([a3] : List GExpr)) (rows' := eLGExpr ([a3] : List GExpr)) (zs := (eGExpr zGExpr)) rfl rfl Tryd_slc_29 Tryd_zer_31 (by exact ⟨rfl, rfl, rfl, trivial, trivial⟩) rfl rfl rfl rfl rfl rfl (eLGExpr_map _) rfl rfl) ?_
  obtain ⟨y3, h4, hF⟩ := bind_some hF
  refine rgp (op_call 3 rfl (caps := []) (args := [.vs 7 (List.map eGClass a0), .agg (eGFrame a1), .vs 1 (List.map eI a2), .vs 4 (eLGExpr [a3])]) (rs := [.p (.vs 2 (List.map eGVal y3.1)), .p (.vs 1 (List.map eI y3.2.1)), .p (.int .i64 y3.2.2)]) rfl rfl rfl Tryd_cal_14 (Fn.frozen (calc_All_ok h4)) rfl rfl rfl) ?_
  refine rmv ?_
  iterate 3 (refine rgp (op_extract rfl rfl rfl rfl rfl) ?_)
  iterate 3 (refine ras ?_)
  refine reg_nil ?_
  refine post_imp (s' := ⟨33, [(8, some (.lp 0 0)), (11, some (.pv (.vs 2 (List.map eGVal y3.1)))), (12, some (.pv (.vs 1 (List.map eI y3.2.1)))), (13, some (.pv (.int .i64 y3.2.2)))], [(0, some (.box 35 (bxv (eGVal zGVal))))], 1, [], [], 0, []⟩) (imps [2] ⟨by kernel_rfl, by kernel_rfl, by kernel_rfl, by kernel_rfl, trivial⟩ ⟨by kernel_rfl, trivial⟩) ?_
  refine post_next ?_
  iterate 2 (refine aw_seq ?_)
  refine aw_region ?_
  refine rmv ?_
  refine rgp (op_int (k := .i64) (m := y3.2.2) (n := 0) rfl rfl rfl rfl rfl rfl) ?_
  refine reg_nil ?_
  refine post_imp (s' := ⟨33, [(8, some (.lp 0 0)), (11, some (.pv (.vs 2 (List.map eGVal y3.1)))), (12, some (.pv (.vs 1 (List.map eI y3.2.1)))), (13, some (.pv (.int .i64 y3.2.2))), (25, some (.pv (.bool (y3.2.2 != 0))))], [(0, some (.box 35 (bxv (eGVal zGVal))))], 1, [], [], 0, []⟩) (imps [0] ⟨by kernel_rfl, by kernel_rfl, by kernel_rfl, by kernel_rfl, by kernel_rfl, trivial⟩ ⟨by kernel_rfl, trivial⟩) ?_
  refine post_next ?_
  rcases ite_some hF with ⟨hb5, hF⟩ | ⟨hb5, hF⟩
  · refine aw_cond_t rfl hb5 ?_
    refine aw_seq ?_
    refine aw_region ?_
    refine rgp (op_build (zs := (eGVal zGVal)) (r := eGVal ({ fRef := false, fN := 0 } : GVal)) rfl Tryd_zer_35 (by exact ⟨rfl, rfl, trivial⟩) Tryd_plc_35 rfl rfl rfl rfl) ?_
    refine rmv ?_
    refine rgp (op_store_lp (n := 2) rfl rfl rfl rfl rfl (or_agg Tryd_agg_35) (by rw [Tryd_non_35]; rfl) rfl rfl rfl) ?_
    iterate 2 (refine ras ?_)
    refine reg_nil ?_
    refine post_imp (s' := ⟨33, [(8, some (.lp 0 0)), (9, some (.pv .nils)), (10, some (.pv (.int .i64 y3.2.2)))], [(0, some (.box 35 (bxv (eGVal ({ fRef := false, fN := 0 } : GVal)))))], 1, [], [], 0, []⟩) (imps [0] ⟨by kernel_rfl, by kernel_rfl, by kernel_rfl, trivial⟩ ⟨by kernel_rfl, trivial⟩) ?_
    refine post_next ?_
    refine aw_ret ?_
    refine post_then_ret ?_
    refine post_imp (imp_nil_vs 9 1 rfl) ?_
    obtain rfl := Option.some.inj hF
    exact post_ret rfl rfl (.cons _ _ _ _ _ (.agg _ _ _ _ _ 2 _ _ rfl rfl Tryd_agg_35 rfl rfl rfl) (.p _) (.cons _ _ _ _ _ (.tmp _ _ rfl) (.p _) (.cons _ _ _ _ _ (.tmp _ _ rfl) (.p _) .nil))) (.inl rfl)
  refine aw_cond_f rfl hb5 ?_
  refine aw_skip ?_
  refine post_next ?_
  refine aw_seq ?_
  refine aw_region ?_
  refine rmv ?_
  obtain ⟨y6, h7, hF⟩ := bind_some hF
  refine rgp (op_index_vs (k := .i64) rfl rfl rfl (idx_map eGVal h7) Tryd_slc_23 rfl rfl) ?_
  refine rgp (op_load_vp_agg (ps := eGVal y6) rfl rfl rfl rfl Tryd_agg_35 rfl rfl) ?_
  iterate 2 (refine rmv ?_)
  refine rgp (op_store_lp (n := 2) rfl rfl rfl rfl rfl (or_agg Tryd_agg_35) (by rw [Tryd_non_35]; rfl) rfl rfl rfl) ?_
  iterate 2 (refine ras ?_)
  refine reg_nil ?_
  refine post_imp (s' := ⟨33, [(8, some (.lp 0 0)), (9, some (.pv (.vs 1 (List.map eI y3.2.1)))), (10, some (.pv (.int .i64 y3.2.2)))], [(0, some (.box 35 (bxv (eGVal y6))))], 1, [], [], 0, []⟩) (imps [0] ⟨by kernel_rfl, by kernel_rfl, by kernel_rfl, trivial⟩ ⟨by kernel_rfl, trivial⟩) ?_
  refine post_next ?_
  refine aw_ret ?_
  obtain rfl := Option.some.inj hF
  exact post_ret rfl rfl (.cons _ _ _ _ _ (.agg _ _ _ _ _ 2 _ _ rfl rfl Tryd_agg_35 rfl rfl rfl) (.p _) (.cons _ _ _ _ _ (.tmp _ _ rfl) (.p _) (.cons _ _ _ _ _ (.tmp _ _ rfl) (.p _) .nil))) (.inl rfl)
theorem law39_awake_ok  {r : Bool} (hF : law39_awake = some r) : Abs.Fn globs_Tryd Tryd.prog 10 [] [.p (.bool r)] := by
  unfold law39_awake at hF
  refine fn_of_body (n := 38) Tryd.func10 rfl rfl rfl ?_
  intro w O
  refine aw_seq ?_
  refine aw_region ?_
  refine ras ?_
  refine reg_nil ?_
  refine post_imp (s' := ⟨38, [], [], 0, [], [], 0, []⟩) (imps [] trivial trivial) ?_
  refine post_next ?_
  refine aw_seq ?_
  refine aw_region ?_
  refine rgp (op_build (zs := (eGExpr zGExpr)) (r := eGExpr ({ fKind := 5, fNum := 0, fName := [], fKids := [] } : GExpr)) rfl Tryd_zer_31 (by exact ⟨rfl, rfl, rfl, trivial, trivial⟩) Tryd_plc_31 rfl rfl rfl rfl) ?_
  refine rgp (op_alloc 0 rfl (ps := (eGExpr zGExpr)) rfl Tryd_zer_31 (by exact ⟨rfl, rfl, rfl, trivial, trivial⟩) rfl rfl) ?_
  refine rgp (op_store_lp (n := 4) rfl rfl rfl rfl rfl (or_agg Tryd_agg_31) (by rw [Tryd_non_31]; rfl) rfl rfl rfl) ?_
  refine reg_nil ?_
  refine post_imp (s' := ⟨38, [(1, some (.lp 0 0))], [(0, some (.box 31 (bxv (eGExpr ({ fKind := 5, fNum := 0, fName := [], fKids := [] } : GExpr)))))], 1, [], [], 0, []⟩) (imps [0] ⟨by kernel_rfl, trivial⟩ ⟨by kernel_rfl, trivial⟩) ?_
  refine post_next ?_
  refine aw_seq ?_
  refine aw_region ?_
  refine rgp (op_build (zs := (eGFrame zGFrame)) (r := eGFrame ({ fThis := 0, fClass := [], fMethod := [], fVars := [], fPC := 0, fInto := 0 } : GFrame)) rfl Tryd_zer_25 (by exact ⟨rfl, rfl, rfl, trivial, rfl, rfl, trivial⟩) Tryd_plc_25 rfl rfl rfl rfl) ?_
  refine rgp (op_lit (rows := List.map eI ([3, 4, 5] : List Int)) (zs := [.int .i64 0]) rfl rfl Tryd_slc_26 Tryd_zer_3 (by exact ⟨rfl, trivial⟩) rfl rfl rfl rfl rfl rfl rfl rfl) ?_
  refine rgp (op_load_lp_agg (ps := eGExpr ({ fKind := 5, fNum := 0, fName := [], fKids := [] } : GExpr)) rfl rfl rfl rfl rfl rfl Tryd_agg_31 rfl rfl) ?_
  refine rgp (op_build (zs := (eGExpr zGExpr)) (r := eGExpr ({ fKind := 1, fNum := 2, fName := [], fKids := [] } : GExpr)) rfl Tryd_zer_31 (by exact ⟨rfl, rfl, rfl, trivial, trivial⟩) Tryd_plc_31 rfl rfl rfl rfl) ?_
  refine rgp (op_litR (rows := List.map eGExpr ([({ fKind := 5, fNum := 0, fName := [], fKids := [] } : GExpr), ({ fKind := 1, fNum := 2, fName := [], fKids := [] } : GExpr)] : List GExpr)) (rows' := eLGExpr ([({ fKind := 5, fNum := 0, fName := [], fKids := [] } : GExpr), ({ fKind := 1, fNum := 2, fName := [], fKids := [] } : GExpr)] : List GExpr)) (zs := (eGExpr zGExpr)) rfl rfl Tryd_slc_29 Tryd_zer_31 (by exact ⟨rfl, rfl, rfl, trivial, trivial⟩) rfl rfl rfl rfl rfl rfl (eLGExpr_map _) rfl rfl) ?_
  refine rgp (op_build (zs := (eGExpr zGExpr)) (r := eGExpr ({ fKind := 8, fNum := 0, fName := [], fKids := [({ fKind := 5, fNum := 0, fName := [], fKids := [] } : GExpr), ({ fKind := 1, fNum := 2, fName := [], fKids := [] } : GExpr)] } : GExpr)) rfl Tryd_zer_31 (by exact ⟨rfl, rfl, rfl, trivial, trivial⟩) Tryd_plc_31 rfl rfl rfl rfl) ?_
  refine rgp (op_load_lp_agg (ps := eGExpr ({ fKind := 5, fNum := 0, fName := [], fKids := [] } : GExpr)) rfl rfl rfl rfl rfl rfl Tryd_agg_31 rfl rfl) ?_
  refine rgp (op_litR (rows := List.map eGExpr ([({ fKind := 8, fNum := 0, fName := [], fKids := [({ fKind := 5, fNum := 0, fName := [], fKids := [] } : GExpr), ({ fKind := 1, fNum := 2, fName := [], fKids := [] } : GExpr)] } : GExpr), ({ fKind := 5, fNum := 0, fName := [], fKids := [] } : GExpr)] : List GExpr)) (rows' := eLGExpr ([({ fKind := 8, fNum := 0, fName := [], fKids := [({ fKind := 5, fNum := 0, fName := [], fKids := [] } : GExpr), ({ fKind := 1, fNum := 2, fName := [], fKids := [] } : GExpr)] } : GExpr), ({ fKind := 5, fNum := 0, fName := [], fKids := [] } : GExpr)] : List GExpr)) (zs := (eGExpr zGExpr)) rfl rfl Tryd_slc_29 Tryd_zer_31 (by exact ⟨rfl, rfl, rfl, trivial, trivial⟩) rfl rfl rfl rfl rfl rfl (eLGExpr_map _) rfl rfl) ?_
  refine rgp (op_build (zs := (eGExpr zGExpr)) (r := eGExpr ({ fKind := 6, fNum := 0, fName := [], fKids := [({ fKind := 8, fNum := 0, fName := [], fKids := [({ fKind := 5, fNum := 0, fName := [], fKids := [] } : GExpr), ({ fKind := 1, fNum := 2, fName := [], fKids := [] } : GExpr)] } : GExpr), ({ fKind := 5, fNum := 0, fName := [], fKids := [] } : GExpr)] } : GExpr)) rfl Tryd_zer_31 (by exact ⟨rfl, rfl, rfl, trivial, trivial⟩) Tryd_plc_31 rfl rfl rfl rfl) ?_
  obtain ⟨y3, h4, hF⟩ := bind_some hF
  refine rgp (op_call 1 rfl (caps := []) (args := [.nils, .agg (eGFrame ({ fThis := 0, fClass := [], fMethod := [], fVars := [], fPC := 0, fInto := 0 } : GFrame)), .vs 1 (List.map eI [3, 4, 5]), .agg (eGExpr ({ fKind := 6, fNum := 0, fName := [], fKids := [({ fKind := 8, fNum := 0, fName := [], fKids := [({ fKind := 5, fNum := 0, fName := [], fKids := [] } : GExpr), ({ fKind := 1, fNum := 2, fName := [], fKids := [] } : GExpr)] } : GExpr), ({ fKind := 5, fNum := 0, fName := [], fKids := [] } : GExpr)] } : GExpr))]) (rs := [.p (.agg (eGVal y3.1)), .p (.vs 1 (List.map eI y3.2.1)), .p (.int .i64 y3.2.2)]) rfl rfl rfl Tryd_cal_11 (Fn.nils 0 7 rfl (calc_Of_ok h4)) rfl rfl rfl) ?_
  refine rmv ?_
  iterate 3 (refine rgp (op_extract rfl rfl rfl rfl rfl) ?_)
  refine rgp (op_alloc 1 rfl (ps := (eGVal zGVal)) rfl Tryd_zer_35 (by exact ⟨rfl, rfl, trivial⟩) rfl rfl) ?_
  refine rgp (op_store_lp (n := 2) rfl rfl rfl rfl rfl (or_agg Tryd_agg_35) (by rw [Tryd_non_35]; rfl) rfl rfl rfl) ?_
  iterate 2 (refine ras ?_)
  refine reg_nil ?_
  refine post_imp (s' := ⟨38, [(2, some (.lp 0 0)), (3, some (.pv (.vs 1 (List.map eI y3.2.1)))), (4, some (.pv (.int .i64 y3.2.2)))], [(0, some (.box 35 (bxv (eGVal y3.1))))], 1, [], [], 0, []⟩) (imps [1] ⟨by kernel_rfl, by kernel_rfl, by kernel_rfl, trivial⟩ ⟨by kernel_rfl, trivial⟩) ?_
  refine post_next ?_
  refine aw_seq ?_
  refine aw_region ?_
  refine rgp (op_load_lp_agg (ps := eGVal y3.1) rfl rfl rfl rfl rfl rfl Tryd_agg_35 rfl rfl) ?_
  refine rgp (op_build (zs := (eGVal zGVal)) (r := eGVal ({ fRef := false, fN := 10 } : GVal)) rfl Tryd_zer_35 (by exact ⟨rfl, rfl, trivial⟩) Tryd_plc_35 rfl rfl rfl rfl) ?_
  refine rgp (op_eqAgg_eql (r := bGVal y3.1 ({ fRef := false, fN := 10 } : GVal)) rfl rfl rfl Tryd_eqt_35 rfl rfl rfl rfl rfl) ?_
  refine rmv ?_
  rcases ite_some hF with ⟨hb5, hF⟩ | ⟨hb5, hF⟩
  · refine rgn hb5 (op_move rfl rfl rfl rfl) ?_
    refine rgn hb5 (op_len_vs (n := y3.2.1.length) rfl rfl (List.length_map ..) Tryd_slc_26 rfl rfl) ?_
    refine rgn hb5 (op_int (k := .i64) (m := (y3.2.1.length : Int)) (n := 1) rfl rfl rfl rfl rfl rfl) ?_
    refine rpt hb5 ?_
    refine rmv ?_
    rcases ite_some hF with ⟨hb6, hF⟩ | ⟨hb6, hF⟩
    · refine rgn hb6 (op_move rfl rfl rfl rfl) ?_
      obtain ⟨y7, h8, hF⟩ := bind_some hF
      refine rgn hb6 (op_index_vs (k := .i64) rfl rfl rfl (idx_map eI h8) Tryd_slc_26 rfl rfl) ?_
      refine rgn hb6 (op_load_vp (p := .int .i64 y7) rfl rfl rfl Tryd_one_3 rfl rfl) ?_
      refine rgn hb6 (op_int (k := .i64) (m := y7) (n := 5) rfl rfl rfl rfl rfl rfl) ?_
      refine rpt hb6 ?_
      refine rmv ?_
      rcases ite_some hF with ⟨hb9, hF⟩ | ⟨hb9, hF⟩
      · refine rgn hb9 (op_move rfl rfl rfl rfl) ?_
        refine rgn hb9 (op_int (k := .i64) (m := y3.2.2) (n := 0) rfl rfl rfl rfl rfl rfl) ?_
        refine rpt hb9 ?_
        refine ras ?_
        refine reg_nil ?_
        refine post_imp (s' := ⟨38, [(0, some (.pv (.bool (y3.2.2 == 0))))], [], 0, [], [], 0, []⟩) (imps [] ⟨by kernel_rfl, trivial⟩ trivial) ?_
        refine post_next ?_
        refine aw_ret ?_
        obtain rfl := Option.some.inj hF
        exact prt
      iterate 2 (refine rgo_f hb9 ?_)
      refine rpf hb9 ?_
      refine ras ?_
      refine reg_nil ?_
      refine post_imp (s' := ⟨38, [(0, some (.pv (.bool false)))], [], 0, [], [], 0, []⟩) (imps [] ⟨by kernel_rfl, trivial⟩ trivial) ?_
      refine post_next ?_
      refine aw_ret ?_
      obtain rfl := Option.some.inj hF
      exact prt
    iterate 4 (refine rgo_f hb6 ?_)
    refine rpf hb6 ?_
    refine rmv ?_
    iterate 2 (refine rgo_f rfl ?_)
    refine rpf rfl ?_
    refine ras ?_
    refine reg_nil ?_
    refine post_imp (s' := ⟨38, [(0, some (.pv (.bool false)))], [], 0, [], [], 0, []⟩) (imps [] ⟨by kernel_rfl, trivial⟩ trivial) ?_
    refine post_next ?_
    refine aw_ret ?_
    obtain rfl := Option.some.inj hF
    exact prt
  iterate 3 (refine rgo_f hb5 ?_)
  refine rpf hb5 ?_
  refine rmv ?_
  iterate 4 (refine rgo_f rfl ?_)
  refine rpf rfl ?_
  refine rmv ?_
  iterate 2 (refine rgo_f rfl ?_)
  refine rpf rfl ?_
  refine ras ?_
  refine reg_nil ?_
  refine post_imp (s' := ⟨38, [(0, some (.pv (.bool false)))], [], 0, [], [], 0, []⟩) (imps [] ⟨by kernel_rfl, trivial⟩ trivial) ?_
  refine post_next ?_
  refine aw_ret ?_
  obtain rfl := Option.some.inj hF
  exact prt
theorem law39_count_ring : ∀ n : Nat, (∀ (a0 : GExpr) (r : Int), law39_count n a0 = some r → Abs.Fn globs_Tryd Tryd.prog 16 [.agg (eGExpr a0)] [.p (.int .i64 r)]) := by
  intro n
  induction n with
  | zero => exact (fun _ _ h => by simp [law39_count] at h)
  | succ n ih =>
    have law39_count_ih := ih
    clear ih
    intro a0 r hF
    unfold law39_count at hF
    revert hF law39_count_ih
    generalize law39_count n = law39_count_rec
    intro law39_count_ih hF
    refine fn_of_body (n := 24) Tryd.func16 rfl rfl rfl ?_
    intro w O
    refine aw_seq ?_
    refine aw_region ?_
    refine rgp (op_box 0 rfl rfl rfl rfl rfl rfl) ?_
    refine ras ?_
    refine reg_nil ?_
    refine post_imp (s' := ⟨24, [(1, some (.lp 0 0))], [(0, some (.box 31 (bxv (eGExpr a0))))], 1, [], [], 0, []⟩) (imps [0] ⟨by kernel_rfl, trivial⟩ ⟨by kernel_rfl, trivial⟩) ?_
    refine post_next ?_
    refine aw_seq ?_
    refine aw_region ?_
    refine ras ?_
    refine reg_nil ?_
    refine post_imp (s' := ⟨24, [(1, some (.lp 0 0)), (3, some (.pv (.int .i64 0)))], [(0, some (.box 31 (bxv (eGExpr a0))))], 1, [], [], 0, []⟩) (imps [0] ⟨by kernel_rfl, by kernel_rfl, trivial⟩ ⟨by kernel_rfl, trivial⟩) ?_
    refine post_next ?_
    refine aw_seq ?_
    obtain ⟨x2, hF, hK4⟩ := bind_some hF
    refine aw_cut (fun s1 => s1 = ⟨24, [(1, some (.lp 0 0)), (3, some (.pv (.int .i64 x2)))], [(0, some (.box 31 (bxv (eGExpr a0))))], 1, [], [], 0, []⟩) ?_ ?_
    · refine aw_seq ?_
      refine aw_region ?_
      refine rgp (op_field_lp rfl rfl Tryd_fld_31_0 rfl rfl) ?_
      refine rgp (op_load_lp (v := .pv (.int .i64 a0.fKind)) rfl rfl rfl rfl Tryd_one_3 rfl rfl) ?_
      refine rgp (op_int (k := .i64) (m := a0.fKind) (n := 5) rfl rfl rfl rfl rfl rfl) ?_
      refine reg_nil ?_
      refine post_imp (s' := ⟨24, [(1, some (.lp 0 0)), (3, some (.pv (.int .i64 0))), (7, some (.pv (.bool (a0.fKind == 5))))], [(0, some (.box 31 (bxv (eGExpr a0))))], 1, [], [], 0, []⟩) (imps [0] ⟨by kernel_rfl, by kernel_rfl, by kernel_rfl, trivial⟩ ⟨by kernel_rfl, trivial⟩) ?_
      refine post_next ?_
      rcases ite_some hF with ⟨hb1, hF⟩ | ⟨hb1, hF⟩
      · refine aw_cond_t rfl hb1 ?_
        refine aw_region ?_
        refine ras ?_
        refine reg_nil ?_
        cases hF
        exact post_cut _ rfl (imps [0] ⟨by kernel_rfl, by kernel_rfl, trivial⟩ ⟨by kernel_rfl, trivial⟩)
      refine aw_cond_f rfl hb1 ?_
      refine aw_skip ?_
      cases hF
      exact post_cut _ rfl (imps [0] ⟨by kernel_rfl, by kernel_rfl, trivial⟩ ⟨by kernel_rfl, trivial⟩)
    rintro _ rfl
    have hF := hK4
    clear hK4
    refine post_next ?_
    iterate 2 (refine aw_seq ?_)
    refine aw_region ?_
    refine ras ?_
    refine reg_nil ?_
    refine post_imp (s' := ⟨24, [(1, some (.lp 0 0)), (3, some (.pv (.int .i64 x2))), (4, some (.pv (.int .i64 0)))], [(0, some (.box 31 (bxv (eGExpr a0))))], 1, [], [], 0, []⟩) (imps [0] ⟨by kernel_rfl, by kernel_rfl, by kernel_rfl, trivial⟩ ⟨by kernel_rfl, trivial⟩) ?_
    refine post_next ?_
    obtain ⟨x38, hF, hK39⟩ := bind_some hF
    refine aw_for ((((a0.fKids.length : Int) : Int) - (0)).toNat + 1) (fun s1 => s1 = ⟨24, [(3, some (.pv (.int .i64 x38)))], [], 0, [], [], 0, []⟩) ?_ ?_
    · refine rnd_loop (α := Int × Int) (fun q => ⟨24, [(1, some (.lp 0 0)), (3, some (.pv (.int .i64 q.1))), (4, some (.pv (.int .i64 q.2)))], [(0, some (.box 31 (bxv (eGExpr a0))))], 1, [], [], 0, []⟩) (fun k q => law39_count_L1 a0 law39_count_rec k q.1 q.2 = some x38) (x2, 0) (imps [0] ⟨by kernel_rfl, by kernel_rfl, by kernel_rfl, trivial⟩ ⟨by kernel_rfl, trivial⟩) hF (fun q h => by cases h) ?_
      clear hF
      rintro k ⟨x14, x15⟩ hF ih
      refine rnd_succ ?_
      iterate 2 (refine aw_seq ?_)
      refine aw_region ?_
      refine rmv ?_
      refine rgp (op_field_lp rfl rfl Tryd_fld_31_3 rfl rfl) ?_
      refine rgp (op_load_lp (v := .pv (.vs 4 (eLGExpr a0.fKids))) rfl rfl rfl rfl Tryd_one_29 rfl rfl) ?_
      refine rgp (op_len_vs (n := a0.fKids.length) rfl rfl (lenR eLGExpr_map) Tryd_slc_29 rfl rfl) ?_
      refine rgp (op_int (k := .i64) (m := x15) (n := (a0.fKids.length : Int)) rfl rfl rfl rfl rfl rfl) ?_
      refine reg_nil ?_
      refine post_imp (s' := ⟨24, [(1, some (.lp 0 0)), (3, some (.pv (.int .i64 x14))), (4, some (.pv (.int .i64 x15))), (12, some (.pv (.bool (decide (x15 < (a0.fKids.length : Int))))))], [(0, some (.box 31 (bxv (eGExpr a0))))], 1, [], [], 0, []⟩) (imps [0] ⟨by kernel_rfl, by kernel_rfl, by kernel_rfl, by kernel_rfl, trivial⟩ ⟨by kernel_rfl, trivial⟩) ?_
      refine post_next ?_
      rcases ite_some hF with ⟨hb27, hF⟩ | ⟨hb27, hF⟩
      · refine aw_cond_t rfl hb27 ?_
        refine aw_skip ?_
        refine post_next ?_
        refine aw_seq ?_
        refine aw_block ?_
        refine aw_region ?_
        refine rmv ?_
        refine rgp (op_field_lp rfl rfl Tryd_fld_31_3 rfl rfl) ?_
        refine rgp (op_load_lp (v := .pv (.vs 4 (eLGExpr a0.fKids))) rfl rfl rfl rfl Tryd_one_29 rfl rfl) ?_
        refine rmv ?_
        obtain ⟨y32, h33, hF⟩ := bind_some hF
        refine rgp (op_index_vs (k := .i64) rfl rfl rfl (idxR eLGExpr_map h33) Tryd_slc_29 rfl rfl) ?_
        refine rgp (op_load_vp_agg (ps := eGExpr y32) rfl rfl rfl rfl Tryd_agg_31 rfl rfl) ?_
        obtain ⟨y34, h35, hF⟩ := bind_some hF
        refine rgp (op_call 1 rfl (caps := []) (args := [.agg (eGExpr y32)]) (rs := [.p (.int .i64 y34)]) rfl rfl rfl Tryd_cal_16 (law39_count_ih _ _ h35) rfl rfl rfl) ?_
        refine rgp (op_int (k := .i64) (m := x14) (n := y34) rfl rfl rfl rfl rfl rfl) ?_
        refine ras ?_
        refine reg_nil ?_
        refine post_imp (s' := ⟨24, [(1, some (.lp 0 0)), (3, some (.pv (.int .i64 (w_i64 (x14 + y34))))), (4, some (.pv (.int .i64 x15)))], [(0, some (.box 31 (bxv (eGExpr a0))))], 1, [], [], 0, []⟩) (imps [0] ⟨by kernel_rfl, by kernel_rfl, by kernel_rfl, trivial⟩ ⟨by kernel_rfl, trivial⟩) ?_
        refine post_block_normal ?_
        refine post_next ?_
        refine aw_region ?_
        refine rmv ?_
        refine rgp (op_int (k := .i64) (m := x15) (n := 1) rfl rfl rfl rfl rfl rfl) ?_
        refine ras ?_
        refine reg_nil ?_
        refine post_round ?_
        exact rnd_back (ih (w_i64 (x14 + y34), w_i64 (x15 + 1)) hF) (imps [0] ⟨by kernel_rfl, by kernel_rfl, by kernel_rfl, trivial⟩ ⟨by kernel_rfl, trivial⟩)
      refine aw_cond_f rfl hb27 ?_
      refine aw_exit ?_
      iterate 2 (refine post_then_exit ?_)
      obtain rfl := Option.some.inj hF
      exact post_lp_break _ rfl (imps [] ⟨by kernel_rfl, trivial⟩ trivial)
    rintro _ rfl
    have hF := hK39
    clear hK39
    refine post_next ?_
    refine aw_seq ?_
    refine aw_region ?_
    refine rmv ?_
    refine ras ?_
    refine reg_nil ?_
    refine post_imp (s' := ⟨24, [(2, some (.pv (.int .i64 x38)))], [], 0, [], [], 0, []⟩) (imps [] ⟨by kernel_rfl, trivial⟩ trivial) ?_
    refine post_next ?_
    refine aw_ret ?_
    obtain rfl := Option.some.inj hF
    exact prt
theorem law39_count_ok {n : Nat} {a0 : GExpr} {r : Int} (hF : law39_count n a0 = some r) : Abs.Fn globs_Tryd Tryd.prog 16 [.agg (eGExpr a0)] [.p (.int .i64 r)] := (law39_count_ring n) _ _ hF

theorem law39_ints_ok {a0 : List Int} {a1 : List Int} {r : Bool} (hF : law39_ints a0 a1 = some r) : Abs.Fn globs_Tryd Tryd.prog 13 [.vs 1 (List.map eI a0), .vs 1 (List.map eI a1)] [.p (.bool r)] := by
  unfold law39_ints at hF
  refine fn_of_body (n := 26) Tryd.func13 rfl rfl rfl ?_
  intro w O
  refine aw_seq ?_
  refine aw_region ?_
  refine ras ?_
  refine reg_nil ?_
  refine post_imp (s' := ⟨26, [(0, some (.pv (.vs 1 (List.map eI a0)))), (1, some (.pv (.vs 1 (List.map eI a1))))], [], 0, [], [], 0, []⟩) (imps [] ⟨by kernel_rfl, by kernel_rfl, trivial⟩ trivial) ?_
  refine post_next ?_
  iterate 2 (refine aw_seq ?_)
  refine aw_region ?_
  refine rmv ?_
  refine rgp (op_len_vs (n := a0.length) rfl rfl (List.length_map ..) Tryd_slc_26 rfl rfl) ?_
  refine rmv ?_
  refine rgp (op_len_vs (n := a1.length) rfl rfl (List.length_map ..) Tryd_slc_26 rfl rfl) ?_
  refine rgp (op_int (k := .i64) (m := (a0.length : Int)) (n := (a1.length : Int)) rfl rfl rfl rfl rfl rfl) ?_
  refine reg_nil ?_
  refine post_imp (s' := ⟨26, [(0, some (.pv (.vs 1 (List.map eI a0)))), (1, some (.pv (.vs 1 (List.map eI a1)))), (10, some (.pv (.bool ((a0.length : Int) != (a1.length : Int)))))], [], 0, [], [], 0, []⟩) (imps [] ⟨by kernel_rfl, by kernel_rfl, by kernel_rfl, trivial⟩ trivial) ?_
  refine post_next ?_
  rcases ite_some hF with ⟨hb1, hF⟩ | ⟨hb1, hF⟩
  · refine aw_cond_t rfl hb1 ?_
    refine aw_seq ?_
    refine aw_region ?_
    refine ras ?_
    refine reg_nil ?_
    refine post_imp (s' := ⟨26, [(4, some (.pv (.bool false)))], [], 0, [], [], 0, []⟩) (imps [] ⟨by kernel_rfl, trivial⟩ trivial) ?_
    refine post_next ?_
    refine aw_ret ?_
    refine post_then_ret ?_
    obtain rfl := Option.some.inj hF
    exact prt
  refine aw_cond_f rfl hb1 ?_
  refine aw_skip ?_
  refine post_next ?_
  iterate 2 (refine aw_seq ?_)
  refine aw_region ?_
  refine ras ?_
  refine reg_nil ?_
  refine post_imp (s' := ⟨26, [(0, some (.pv (.vs 1 (List.map eI a0)))), (1, some (.pv (.vs 1 (List.map eI a1)))), (5, some (.pv (.int .i64 0)))], [], 0, [], [], 0, []⟩) (imps [] ⟨by kernel_rfl, by kernel_rfl, by kernel_rfl, trivial⟩ trivial) ?_
  refine post_next ?_
  obtain ⟨lr35, hF, hK36⟩ := bind_some hF
  refine aw_for ((((a0.length : Int) : Int) - (0)).toNat + 1) (fun s1 => ∃ q, lr35 = .next q ∧ s1 = ⟨26, [], [], 0, [], [], 0, []⟩) ?_ ?_
  · refine rnd_loop (α := Int) (fun q => ⟨26, [(0, some (.pv (.vs 1 (List.map eI a0)))), (1, some (.pv (.vs 1 (List.map eI a1)))), (5, some (.pv (.int .i64 q)))], [], 0, [], [], 0, []⟩) (fun k q => law39_ints_L1 a0 a1 k q = some lr35) 0 (imps [] ⟨by kernel_rfl, by kernel_rfl, by kernel_rfl, trivial⟩ trivial) hF (fun q h => by cases h) ?_
    clear hF
    rintro k x12 hF ih
    refine rnd_succ ?_
    iterate 2 (refine aw_seq ?_)
    refine aw_region ?_
    iterate 2 (refine rmv ?_)
    refine rgp (op_len_vs (n := a0.length) rfl rfl (List.length_map ..) Tryd_slc_26 rfl rfl) ?_
    refine rgp (op_int (k := .i64) (m := x12) (n := (a0.length : Int)) rfl rfl rfl rfl rfl rfl) ?_
    refine reg_nil ?_
    refine post_imp (s' := ⟨26, [(0, some (.pv (.vs 1 (List.map eI a0)))), (1, some (.pv (.vs 1 (List.map eI a1)))), (5, some (.pv (.int .i64 x12))), (14, some (.pv (.bool (decide (x12 < (a0.length : Int))))))], [], 0, [], [], 0, []⟩) (imps [] ⟨by kernel_rfl, by kernel_rfl, by kernel_rfl, by kernel_rfl, trivial⟩ trivial) ?_
    refine post_next ?_
    rcases ite_some hF with ⟨hb24, hF⟩ | ⟨hb24, hF⟩
    · refine aw_cond_t rfl hb24 ?_
      refine aw_skip ?_
      refine post_next ?_
      refine aw_seq ?_
      refine aw_block ?_
      refine aw_seq ?_
      refine dr_start ⟨_, _, _⟩ rfl ?_
      iterate 2 (refine drm ?_)
      obtain ⟨y29, h30, hF⟩ := bind_some hF
      refine dr_cons { need := [(17, .pv (.vs 1 (List.map eI a0))), (18, .pv (.int .i64 x12))], dst := some 19, val := some (.pv (.vp (eI y29))) } (fun m h => step_on (guard_no rfl) (op_index_vs (k := .i64) rfl h.1.1 h.1.2.1 (idx_map eI h30) Tryd_slc_26 rfl rfl) rfl) ⟨⟨rfl, rfl, trivial⟩, trivial, trivial⟩ ?_
      refine dr_cons { need := [(19, .pv (.vp (eI y29)))], dst := some 20, val := some (.pv (.int .i64 y29)) } (fun m h => step_on (guard_no rfl) (op_load_vp (p := .int .i64 y29) rfl h.1.1 rfl Tryd_one_3 rfl rfl) rfl) ⟨⟨rfl, trivial⟩, trivial, trivial⟩ ?_
      iterate 2 (refine drm ?_)
      obtain ⟨y31, h32, hF⟩ := bind_some hF
      refine dr_cons { need := [(21, .pv (.vs 1 (List.map eI a1))), (22, .pv (.int .i64 x12))], dst := some 23, val := some (.pv (.vp (eI y31))) } (fun m h => step_on (guard_no rfl) (op_index_vs (k := .i64) rfl h.1.1 h.1.2.1 (idx_map eI h32) Tryd_slc_26 rfl rfl) rfl) ⟨⟨rfl, rfl, trivial⟩, trivial, trivial⟩ ?_
      refine dr_cons { need := [(23, .pv (.vp (eI y31)))], dst := some 24, val := some (.pv (.int .i64 y31)) } (fun m h => step_on (guard_no rfl) (op_load_vp (p := .int .i64 y31) rfl h.1.1 rfl Tryd_one_3 rfl rfl) rfl) ⟨⟨rfl, trivial⟩, trivial, trivial⟩ ?_
      refine dr_cons { need := [(20, .pv (.int .i64 y29)), (24, .pv (.int .i64 y31))], dst := some 25, val := some (.pv (.bool (y29 != y31))) } (fun m h => step_on (guard_no rfl) (op_int (k := .i64) (m := y29) (n := y31) rfl h.1.1 h.1.2.1 rfl rfl rfl) rfl) ⟨⟨rfl, rfl, trivial⟩, trivial, trivial⟩ ?_
      refine dr_nil Tryd_mixed rfl (by kernel_rfl) ?_
      refine post_imp (s' := ⟨26, [(0, some (.pv (.vs 1 (List.map eI a0)))), (1, some (.pv (.vs 1 (List.map eI a1)))), (5, some (.pv (.int .i64 x12))), (25, some (.pv (.bool (y29 != y31))))], [], 0, [], [], 0, []⟩) (imps [] ⟨by kernel_rfl, by kernel_rfl, by kernel_rfl, by kernel_rfl, trivial⟩ trivial) ?_
      refine post_next ?_
      rcases ite_some hF with ⟨hb33, hF⟩ | ⟨hb33, hF⟩
      · refine aw_cond_t rfl hb33 ?_
        refine aw_seq ?_
        refine aw_region ?_
        refine ras ?_
        refine reg_nil ?_
        refine post_imp (s' := ⟨26, [(4, some (.pv (.bool false)))], [], 0, [], [], 0, []⟩) (imps [] ⟨by kernel_rfl, trivial⟩ trivial) ?_
        refine post_next ?_
        refine aw_ret ?_
        refine post_block_ret ?_
        iterate 2 (refine post_then_ret ?_)
        refine post_lp_ret ?_
        obtain rfl := Option.some.inj hF
        have hF := elim_stop hK36
        refine post_then_ret ?_
        obtain rfl := Option.some.inj hF
        exact prt
      refine aw_cond_f rfl hb33 ?_
      refine aw_skip ?_
      refine post_block_normal ?_
      refine post_next ?_
      refine aw_region ?_
      refine rmv ?_
      refine rgp (op_int (k := .i64) (m := x12) (n := 1) rfl rfl rfl rfl rfl rfl) ?_
      refine ras ?_
      refine reg_nil ?_
      refine post_round ?_
      exact rnd_back (ih (w_i64 (x12 + 1)) hF) (imps [] ⟨by kernel_rfl, by kernel_rfl, by kernel_rfl, trivial⟩ trivial)
    refine aw_cond_f rfl hb24 ?_
    refine aw_exit ?_
    iterate 2 (refine post_then_exit ?_)
    obtain rfl := Option.some.inj hF
    exact post_lp_break _ ⟨_, rfl, rfl⟩ (imps [] trivial trivial)
  rintro _ ⟨⟨⟩, rfl, rfl⟩
  have hF := elim_next hK36
  clear hK36
  refine post_next ?_
  refine aw_seq ?_
  refine aw_region ?_
  refine ras ?_
  refine reg_nil ?_
  refine post_imp (s' := ⟨26, [(4, some (.pv (.bool true)))], [], 0, [], [], 0, []⟩) (imps [] ⟨by kernel_rfl, trivial⟩ trivial) ?_
  refine post_next ?_
  refine aw_ret ?_
  obtain rfl := Option.some.inj hF
  exact prt
theorem law39_CalcInput_ok {a0 : List GClass} {a1 : GHere_law39} {a2 : A2 GExpr} {r : Bool} (hF : law39_CalcInput a0 a1 a2 = some r) : Abs.Fn globs_Tryd Tryd.prog 5 [.vs 7 (List.map eGClass a0), .agg (eGHere_law39 a1), .agg ((eA2 eGExpr) a2)] [.p (.bool r)] := by
  unfold law39_CalcInput at hF
  refine fn_of_body (n := 161) Tryd.func5 rfl rfl rfl ?_
  intro w O
  refine aw_seq ?_
  refine aw_region ?_
  refine rgp (op_box 0 rfl rfl rfl rfl rfl rfl) ?_
  refine rgp (op_box 1 rfl rfl rfl rfl rfl rfl) ?_
  refine ras ?_
  refine reg_nil ?_
  refine post_imp (s' := ⟨161, [(0, some (.pv (.vs 7 (List.map eGClass a0)))), (4, some (.lp 0 0)), (5, some (.lp 1 0))], [(0, some (.box 28 (bxv (eGHere_law39 a1)))), (1, some (.box 45 (bxv ((eA2 eGExpr) a2))))], 2, [], [], 0, []⟩) (imps [0, 1] ⟨by kernel_rfl, by kernel_rfl, by kernel_rfl, trivial⟩ ⟨by kernel_rfl, by kernel_rfl, trivial⟩) ?_
  refine post_next ?_
  iterate 2 (refine aw_seq ?_)
  obtain ⟨x8, hF, hK10⟩ := bind_some hF
  refine aw_cut (fun s1 => s1 = ⟨161, [(0, some (.pv (.vs 7 (List.map eGClass a0)))), (4, some (.lp 0 0)), (5, some (.lp 1 0)), (31, some (.pv (.bool x8)))], [(0, some (.box 28 (bxv (eGHere_law39 a1)))), (1, some (.box 45 (bxv ((eA2 eGExpr) a2))))], 2, [], [], 0, []⟩) ?_ ?_
  · refine aw_region ?_
    refine rmv ?_
    refine rgp (op_load_lp_agg (ps := eGHere_law39 a1) rfl rfl rfl rfl rfl rfl Tryd_agg_28 rfl rfl) ?_
    refine rgp (op_arr_lp (k := .i64) (m := 0) (n := 2) rfl rfl rfl Tryd_arr_45 rfl rfl rfl rfl) ?_
    refine rgp (op_load_lp_agg (ps := eGExpr a2.a0) rfl rfl rfl rfl rfl rfl Tryd_agg_31 rfl rfl) ?_
    obtain ⟨y3, h4, hF⟩ := bind_some hF
    refine rgp (op_call 2 rfl (caps := []) (args := [.vs 7 (List.map eGClass a0), .agg (eGHere_law39 a1), .agg (eGExpr a2.a0)]) (rs := [.p (.bool y3)]) rfl rfl rfl Tryd_cal_9 (law39_great_ok h4) rfl rfl rfl) ?_
    refine rmv ?_
    rcases ite_some hF with ⟨hb5, hF⟩ | ⟨hb5, hF⟩
    · refine rgo_t hb5 ?_
      iterate 4 (refine rgo_t hb5 ?_)
      refine rpt hb5 ?_
      refine reg_nil ?_
      cases hF
      exact post_cut _ rfl (imps [0, 1] ⟨by kernel_rfl, by kernel_rfl, by kernel_rfl, by kernel_rfl, trivial⟩ ⟨by kernel_rfl, by kernel_rfl, trivial⟩)
    refine rgn hb5 (op_move rfl rfl rfl rfl) ?_
    refine rgn hb5 (op_load_lp_agg (ps := eGHere_law39 a1) rfl rfl rfl rfl rfl rfl Tryd_agg_28 rfl rfl) ?_
    refine rgn hb5 (op_arr_lp (k := .i64) (m := 1) (n := 2) rfl rfl rfl Tryd_arr_45 rfl rfl rfl rfl) ?_
    refine rgn hb5 (op_load_lp_agg (ps := eGExpr a2.a1) rfl rfl rfl rfl rfl rfl Tryd_agg_31 rfl rfl) ?_
    obtain ⟨y6, h7, hF⟩ := bind_some hF
    refine rgn hb5 (op_call 2 rfl (caps := []) (args := [.vs 7 (List.map eGClass a0), .agg (eGHere_law39 a1), .agg (eGExpr a2.a1)]) (rs := [.p (.bool y6)]) rfl rfl rfl Tryd_cal_9 (law39_great_ok h7) rfl rfl rfl) ?_
    refine rpf hb5 ?_
    refine reg_nil ?_
    cases hF
    exact post_cut _ rfl (imps [0, 1] ⟨by kernel_rfl, by kernel_rfl, by kernel_rfl, by kernel_rfl, trivial⟩ ⟨by kernel_rfl, by kernel_rfl, trivial⟩)
  rintro _ rfl
  have hF := hK10
  clear hK10
  refine post_next ?_
  rcases ite_some hF with ⟨hb11, hF⟩ | ⟨hb11, hF⟩
  · refine aw_cond_t rfl hb11 ?_
    refine aw_seq ?_
    refine aw_region ?_
    obtain ⟨y12, h13, hF⟩ := bind_some hF
    refine rgp (op_call 2 rfl (caps := []) (args := []) (rs := [.p (.bool y12)]) rfl rfl rfl Tryd_cal_10 (law39_awake_ok h13) rfl rfl rfl) ?_
    refine ras ?_
    refine reg_nil ?_
    refine post_imp (s' := ⟨161, [(6, some (.pv (.bool y12)))], [], 0, [], [], 0, []⟩) (imps [] ⟨by kernel_rfl, trivial⟩ trivial) ?_
    refine post_next ?_
    refine aw_ret ?_
    refine post_then_ret ?_
    obtain rfl := Option.some.inj hF
    exact prt
  refine aw_cond_f rfl hb11 ?_
  refine aw_skip ?_
  refine post_next ?_
  refine aw_seq ?_
  refine aw_region ?_
  refine rmv ?_
  refine rgp (op_field_lp rfl rfl Tryd_fld_28_0 rfl rfl) ?_
  refine rgp (op_load_lp_agg (ps := eGFrame a1.fF) rfl rfl rfl rfl rfl rfl Tryd_agg_25 rfl rfl) ?_
  refine rgp (op_field_lp rfl rfl Tryd_fld_28_1 rfl rfl) ?_
  refine rgp (op_load_lp (v := .pv (.vs 1 (List.map eI a1.fIn))) rfl rfl rfl rfl Tryd_one_26 rfl rfl) ?_
  refine rgp (op_arr_lp (k := .i64) (m := 0) (n := 2) rfl rfl rfl Tryd_arr_45 rfl rfl rfl rfl) ?_
  refine rgp (op_load_lp_agg (ps := eGExpr a2.a0) rfl rfl rfl rfl rfl rfl Tryd_agg_31 rfl rfl) ?_
  obtain ⟨y16, h17, hF⟩ := bind_some hF
  refine rgp (op_call 2 rfl (caps := []) (args := [.vs 7 (List.map eGClass a0), .agg (eGFrame a1.fF), .vs 1 (List.map eI a1.fIn), .agg (eGExpr a2.a0)]) (rs := [.p (.agg (eGVal y16.1)), .p (.vs 1 (List.map eI y16.2.1)), .p (.int .i64 y16.2.2)]) rfl rfl rfl Tryd_cal_11 (calc_Of_ok h17) rfl rfl rfl) ?_
  refine rmv ?_
  iterate 3 (refine rgp (op_extract rfl rfl rfl rfl rfl) ?_)
  refine rgp (op_alloc 2 rfl (ps := (eGVal zGVal)) rfl Tryd_zer_35 (by exact ⟨rfl, rfl, trivial⟩) rfl rfl) ?_
  refine rgp (op_store_lp (n := 2) rfl rfl rfl rfl rfl (or_agg Tryd_agg_35) (by rw [Tryd_non_35]; rfl) rfl rfl rfl) ?_
  iterate 2 (refine ras ?_)
  refine reg_nil ?_
  refine post_imp (s' := ⟨161, [(0, some (.pv (.vs 7 (List.map eGClass a0)))), (4, some (.lp 0 0)), (5, some (.lp 1 0)), (7, some (.lp 2 0)), (8, some (.pv (.vs 1 (List.map eI y16.2.1)))), (9, some (.pv (.int .i64 y16.2.2)))], [(0, some (.box 28 (bxv (eGHere_law39 a1)))), (1, some (.box 45 (bxv ((eA2 eGExpr) a2)))), (2, some (.box 35 (bxv (eGVal y16.1))))], 3, [], [], 0, []⟩) (imps [0, 1, 2] ⟨by kernel_rfl, by kernel_rfl, by kernel_rfl, by kernel_rfl, by kernel_rfl, by kernel_rfl, trivial⟩ ⟨by kernel_rfl, by kernel_rfl, by kernel_rfl, trivial⟩) ?_
  refine post_next ?_
  iterate 2 (refine aw_seq ?_)
  refine aw_region ?_
  refine rmv ?_
  refine rgp (op_int (k := .i64) (m := y16.2.2) (n := 0) rfl rfl rfl rfl rfl rfl) ?_
  refine reg_nil ?_
  refine post_imp (s' := ⟨161, [(0, some (.pv (.vs 7 (List.map eGClass a0)))), (4, some (.lp 0 0)), (5, some (.lp 1 0)), (7, some (.lp 2 0)), (8, some (.pv (.vs 1 (List.map eI y16.2.1)))), (9, some (.pv (.int .i64 y16.2.2))), (46, some (.pv (.bool (y16.2.2 != 0))))], [(0, some (.box 28 (bxv (eGHere_law39 a1)))), (1, some (.box 45 (bxv ((eA2 eGExpr) a2)))), (2, some (.box 35 (bxv (eGVal y16.1))))], 3, [], [], 0, []⟩) (imps [0, 1, 2] ⟨by kernel_rfl, by kernel_rfl, by kernel_rfl, by kernel_rfl, by kernel_rfl, by kernel_rfl, by kernel_rfl, trivial⟩ ⟨by kernel_rfl, by kernel_rfl, by kernel_rfl, trivial⟩) ?_
  refine post_next ?_
  rcases ite_some hF with ⟨hb18, hF⟩ | ⟨hb18, hF⟩
  · refine aw_cond_t rfl hb18 ?_
    refine aw_seq ?_
    refine aw_region ?_
    refine rgp (op_load_lp_agg (ps := eGVal y16.1) rfl rfl rfl rfl rfl rfl Tryd_agg_35 rfl rfl) ?_
    refine rgp (op_build (zs := (eGVal zGVal)) (r := eGVal ({ fRef := false, fN := 0 } : GVal)) rfl Tryd_zer_35 (by exact ⟨rfl, rfl, trivial⟩) Tryd_plc_35 rfl rfl rfl rfl) ?_
    refine rgp (op_eqAgg_eql (r := bGVal y16.1 ({ fRef := false, fN := 0 } : GVal)) rfl rfl rfl Tryd_eqt_35 rfl rfl rfl rfl rfl) ?_
    refine rmv ?_
    rcases ite_some hF with ⟨hb19, hF⟩ | ⟨hb19, hF⟩
    · refine rgn hb19 (op_move rfl rfl rfl rfl) ?_
      refine rgn hb19 (op_len_vs (n := y16.2.1.length) rfl rfl (List.length_map ..) Tryd_slc_26 rfl rfl) ?_
      refine rgn hb19 (op_int (k := .i64) (m := (y16.2.1.length : Int)) (n := 0) rfl rfl rfl rfl rfl rfl) ?_
      refine rpt hb19 ?_
      refine rmv ?_
      rcases ite_some hF with ⟨hb20, hF⟩ | ⟨hb20, hF⟩
      · refine rgn hb20 (op_move rfl rfl rfl rfl) ?_
        refine rgn hb20 (op_int (k := .i64) (m := y16.2.2) (n := 10) rfl rfl rfl rfl rfl rfl) ?_
        refine rpt hb20 ?_
        refine rmv ?_
        rcases ite_some hF with ⟨hb21, hF⟩ | ⟨hb21, hF⟩
        · obtain ⟨y22, h23, hF⟩ := bind_some hF
          refine rgn hb21 (op_call 3 rfl (caps := []) (args := []) (rs := [.p (.bool y22)]) rfl rfl rfl Tryd_cal_10 (law39_awake_ok h23) rfl rfl rfl) ?_
          refine rpt hb21 ?_
          refine ras ?_
          refine reg_nil ?_
          refine post_imp (s' := ⟨161, [(6, some (.pv (.bool y22)))], [], 0, [], [], 0, []⟩) (imps [] ⟨by kernel_rfl, trivial⟩ trivial) ?_
          refine post_next ?_
          refine aw_ret ?_
          refine post_then_ret ?_
          obtain rfl := Option.some.inj hF
          exact prt
        refine rgo_f hb21 ?_
        refine rpf hb21 ?_
        refine ras ?_
        refine reg_nil ?_
        refine post_imp (s' := ⟨161, [(6, some (.pv (.bool false)))], [], 0, [], [], 0, []⟩) (imps [] ⟨by kernel_rfl, trivial⟩ trivial) ?_
        refine post_next ?_
        refine aw_ret ?_
        refine post_then_ret ?_
        obtain rfl := Option.some.inj hF
        exact prt
      iterate 2 (refine rgo_f hb20 ?_)
      refine rpf hb20 ?_
      refine rmv ?_
      refine rgo_f rfl ?_
      refine rpf rfl ?_
      refine ras ?_
      refine reg_nil ?_
      refine post_imp (s' := ⟨161, [(6, some (.pv (.bool false)))], [], 0, [], [], 0, []⟩) (imps [] ⟨by kernel_rfl, trivial⟩ trivial) ?_
      refine post_next ?_
      refine aw_ret ?_
      refine post_then_ret ?_
      obtain rfl := Option.some.inj hF
      exact prt
    iterate 3 (refine rgo_f hb19 ?_)
    refine rpf hb19 ?_
    refine rmv ?_
    iterate 2 (refine rgo_f rfl ?_)
    refine rpf rfl ?_
    refine rmv ?_
    refine rgo_f rfl ?_
    refine rpf rfl ?_
    refine ras ?_
    refine reg_nil ?_
    refine post_imp (s' := ⟨161, [(6, some (.pv (.bool false)))], [], 0, [], [], 0, []⟩) (imps [] ⟨by kernel_rfl, trivial⟩ trivial) ?_
    refine post_next ?_
    refine aw_ret ?_
    refine post_then_ret ?_
    obtain rfl := Option.some.inj hF
    exact prt
  refine aw_cond_f rfl hb18 ?_
  refine aw_skip ?_
  refine post_next ?_
  refine aw_seq ?_
  refine dr_start ⟨_, _, _⟩ rfl ?_
  refine dr_cons { need := [(5, .lp 1 0)], dst := some 62, val := some (.lp 1 0) } (fun m h => step_on (guard_no rfl) (op_arr_lp (k := .i64) (m := 0) (n := 2) rfl h.1.1 rfl Tryd_arr_45 rfl rfl rfl rfl) rfl) ⟨⟨rfl, trivial⟩, trivial, trivial⟩ ?_
  refine dr_cons { need := [(62, .lp 1 0)], hneed := [(1, .box 45 (bxv ((eA2 eGExpr) a2)))], dst := some 63, val := some (.pv (.agg (eGExpr a2.a0))) } (fun m h => step_on (guard_no rfl) (op_load_lp_agg (ps := eGExpr a2.a0) rfl h.1.1 h.2.1.1 rfl rfl rfl Tryd_agg_31 rfl rfl) rfl) ⟨⟨rfl, trivial⟩, ⟨rfl, trivial⟩, trivial⟩ ?_
  obtain ⟨y26, h27, hF⟩ := bind_some hF
  refine dr_cons { need := [(63, .pv (.agg (eGExpr a2.a0)))], dst := some 64, val := some (.pv (.int .i64 y26)) } (fun m h => step_on (guard_no rfl) (op_call 3 rfl (caps := []) (args := [.agg (eGExpr a2.a0)]) (rs := [.p (.int .i64 y26)]) rfl rfl (evl_cons h.1.1 evl_nil) Tryd_cal_16 (law39_count_ok h27) rfl rfl rfl) rfl) ⟨⟨rfl, trivial⟩, trivial, trivial⟩ ?_
  refine dr_cons { need := [(4, .lp 0 0)], dst := some 65, val := some (.lp 0 6) } (fun m h => step_on (guard_no rfl) (op_field_lp rfl h.1.1 Tryd_fld_28_1 rfl rfl) rfl) ⟨⟨rfl, trivial⟩, trivial, trivial⟩ ?_
  refine dr_cons { need := [(65, .lp 0 6)], hneed := [(0, .box 28 (bxv (eGHere_law39 a1)))], dst := some 66, val := some (.pv (.vs 1 (List.map eI a1.fIn))) } (fun m h => step_on (guard_no rfl) (op_load_lp (v := .pv (.vs 1 (List.map eI a1.fIn))) rfl h.1.1 h.2.1.1 rfl Tryd_one_26 rfl rfl) rfl) ⟨⟨rfl, trivial⟩, ⟨rfl, trivial⟩, trivial⟩ ?_
  refine dr_cons { need := [(66, .pv (.vs 1 (List.map eI a1.fIn)))], dst := some 67, val := some (.pv (.int .i64 (a1.fIn.length : Int))) } (fun m h => step_on (guard_no rfl) (op_len_vs (n := a1.fIn.length) rfl h.1.1 (List.length_map ..) Tryd_slc_26 rfl rfl) rfl) ⟨⟨rfl, trivial⟩, trivial, trivial⟩ ?_
  refine dr_cons { need := [(64, .pv (.int .i64 y26)), (67, .pv (.int .i64 (a1.fIn.length : Int)))], dst := some 68, val := some (.pv (.int .i64 (if (a1.fIn.length : Int) < y26 then (a1.fIn.length : Int) else y26))) } (fun m h => step_on (guard_no rfl) (op_min2 rfl h.1.1 h.1.2.1 rfl rfl) rfl) ⟨⟨rfl, rfl, trivial⟩, trivial, trivial⟩ ?_
  refine dr_cons { need := [(68, .pv (.int .i64 (if (a1.fIn.length : Int) < y26 then (a1.fIn.length : Int) else y26)))], dst := some 10, val := some (.pv (.int .i64 (if (a1.fIn.length : Int) < y26 then (a1.fIn.length : Int) else y26))) } (fun m h => step_on (guard_no rfl) (op_assign rfl h.1.1 rfl rfl) rfl) ⟨⟨rfl, trivial⟩, trivial, trivial⟩ ?_
  refine dr_nil Tryd_mixed rfl (by kernel_rfl) ?_
  refine post_imp (s' := ⟨161, [(0, some (.pv (.vs 7 (List.map eGClass a0)))), (4, some (.lp 0 0)), (5, some (.lp 1 0)), (7, some (.lp 2 0)), (8, some (.pv (.vs 1 (List.map eI y16.2.1)))), (10, some (.pv (.int .i64 (if (a1.fIn.length : Int) < y26 then (a1.fIn.length : Int) else y26))))], [(0, some (.box 28 (bxv (eGHere_law39 a1)))), (1, some (.box 45 (bxv ((eA2 eGExpr) a2)))), (2, some (.box 35 (bxv (eGVal y16.1))))], 3, [], [], 0, []⟩) (imps [0, 1, 2] ⟨by kernel_rfl, by kernel_rfl, by kernel_rfl, by kernel_rfl, by kernel_rfl, by kernel_rfl, trivial⟩ ⟨by kernel_rfl, by kernel_rfl, by kernel_rfl, trivial⟩) ?_
  refine post_next ?_
  iterate 2 (refine aw_seq ?_)
  refine aw_region ?_
  refine rmv ?_
  refine rgp (op_field_lp rfl rfl Tryd_fld_28_1 rfl rfl) ?_
  refine rgp (op_load_lp (v := .pv (.vs 1 (List.map eI a1.fIn))) rfl rfl rfl rfl Tryd_one_26 rfl rfl) ?_
  refine rmv ?_
  obtain ⟨y32, h33, hF⟩ := bind_some hF
  refine rgp (op_slice_vs (nl := (some (if (a1.fIn.length : Int) < y26 then (a1.fIn.length : Int) else y26))) (nh := none) (nm := none) rfl rfl rfl rfl rfl (.inl rfl) Tryd_slc_26 (cut_map (nl := (some (if (a1.fIn.length : Int) < y26 then (a1.fIn.length : Int) else y26))) (nh := none) eI h33) rfl rfl) ?_
  obtain ⟨y34, h35, hF⟩ := bind_some hF
  refine rgp (op_call 3 rfl (caps := []) (args := [.vs 1 (List.map eI y16.2.1), .vs 1 (List.map eI y32)]) (rs := [.p (.bool y34)]) rfl rfl rfl Tryd_cal_13 (law39_ints_ok h35) rfl rfl rfl) ?_
  refine rgp (op_not rfl rfl rfl rfl) ?_
  refine reg_nil ?_
  refine post_imp (s' := ⟨161, [(0, some (.pv (.vs 7 (List.map eGClass a0)))), (4, some (.lp 0 0)), (5, some (.lp 1 0)), (7, some (.lp 2 0)), (75, some (.pv (.bool (!y34))))], [(0, some (.box 28 (bxv (eGHere_law39 a1)))), (1, some (.box 45 (bxv ((eA2 eGExpr) a2)))), (2, some (.box 35 (bxv (eGVal y16.1))))], 3, [], [], 0, []⟩) (imps [0, 1, 2] ⟨by kernel_rfl, by kernel_rfl, by kernel_rfl, by kernel_rfl, by kernel_rfl, trivial⟩ ⟨by kernel_rfl, by kernel_rfl, by kernel_rfl, trivial⟩) ?_
  refine post_next ?_
  rcases ite_some hF with ⟨hb36, hF⟩ | ⟨hb36, hF⟩
  · refine aw_cond_t rfl hb36 ?_
    refine aw_seq ?_
    refine aw_region ?_
    refine ras ?_
    refine reg_nil ?_
    refine post_imp (s' := ⟨161, [(6, some (.pv (.bool false)))], [], 0, [], [], 0, []⟩) (imps [] ⟨by kernel_rfl, trivial⟩ trivial) ?_
    refine post_next ?_
    refine aw_ret ?_
    refine post_then_ret ?_
    obtain rfl := Option.some.inj hF
    exact prt
  refine aw_cond_f rfl hb36 ?_
  refine aw_skip ?_
  refine post_next ?_
  iterate 2 (refine aw_seq ?_)
  refine dr_start ⟨_, _, _⟩ rfl ?_
  refine dr_cons { need := [(5, .lp 1 0)], dst := some 76, val := some (.lp 1 0) } (fun m h => step_on (guard_no rfl) (op_arr_lp (k := .i64) (m := 0) (n := 2) rfl h.1.1 rfl Tryd_arr_45 rfl rfl rfl rfl) rfl) ⟨⟨rfl, trivial⟩, trivial, trivial⟩ ?_
  refine dr_cons { need := [(76, .lp 1 0)], hneed := [(1, .box 45 (bxv ((eA2 eGExpr) a2)))], dst := some 77, val := some (.pv (.agg (eGExpr a2.a0))) } (fun m h => step_on (guard_no rfl) (op_load_lp_agg (ps := eGExpr a2.a0) rfl h.1.1 h.2.1.1 rfl rfl rfl Tryd_agg_31 rfl rfl) rfl) ⟨⟨rfl, trivial⟩, ⟨rfl, trivial⟩, trivial⟩ ?_
  obtain ⟨y41, h42, hF⟩ := bind_some hF
  refine dr_cons { need := [(77, .pv (.agg (eGExpr a2.a0)))], dst := some 78, val := some (.pv (.int .i64 y41)) } (fun m h => step_on (guard_no rfl) (op_call 3 rfl (caps := []) (args := [.agg (eGExpr a2.a0)]) (rs := [.p (.int .i64 y41)]) rfl rfl (evl_cons h.1.1 evl_nil) Tryd_cal_16 (law39_count_ok h42) rfl rfl rfl) rfl) ⟨⟨rfl, trivial⟩, trivial, trivial⟩ ?_
  refine dr_cons { need := [(5, .lp 1 0)], dst := some 79, val := some (.lp 1 4) } (fun m h => step_on (guard_no rfl) (op_arr_lp (k := .i64) (m := 1) (n := 2) rfl h.1.1 rfl Tryd_arr_45 rfl rfl rfl rfl) rfl) ⟨⟨rfl, trivial⟩, trivial, trivial⟩ ?_
  refine dr_cons { need := [(79, .lp 1 4)], hneed := [(1, .box 45 (bxv ((eA2 eGExpr) a2)))], dst := some 80, val := some (.pv (.agg (eGExpr a2.a1))) } (fun m h => step_on (guard_no rfl) (op_load_lp_agg (ps := eGExpr a2.a1) rfl h.1.1 h.2.1.1 rfl rfl rfl Tryd_agg_31 rfl rfl) rfl) ⟨⟨rfl, trivial⟩, ⟨rfl, trivial⟩, trivial⟩ ?_
  obtain ⟨y43, h44, hF⟩ := bind_some hF
  refine dr_cons { need := [(80, .pv (.agg (eGExpr a2.a1)))], dst := some 81, val := some (.pv (.int .i64 y43)) } (fun m h => step_on (guard_no rfl) (op_call 3 rfl (caps := []) (args := [.agg (eGExpr a2.a1)]) (rs := [.p (.int .i64 y43)]) rfl rfl (evl_cons h.1.1 evl_nil) Tryd_cal_16 (law39_count_ok h44) rfl rfl rfl) rfl) ⟨⟨rfl, trivial⟩, trivial, trivial⟩ ?_
  refine dr_cons { need := [(78, .pv (.int .i64 y41)), (81, .pv (.int .i64 y43))], dst := some 82, val := some (.pv (.int .i64 (w_i64 (y41 + y43)))) } (fun m h => step_on (guard_no rfl) (op_int (k := .i64) (m := y41) (n := y43) rfl h.1.1 h.1.2.1 rfl rfl rfl) rfl) ⟨⟨rfl, rfl, trivial⟩, trivial, trivial⟩ ?_
  refine dr_cons { need := [(82, .pv (.int .i64 (w_i64 (y41 + y43))))], dst := some 83, val := some (.pv (.bool (decide ((w_i64 (y41 + y43)) > 0)))) } (fun m h => step_on (guard_no rfl) (op_int (k := .i64) (m := w_i64 (y41 + y43)) (n := 0) rfl h.1.1 rfl rfl rfl rfl) rfl) ⟨⟨rfl, trivial⟩, trivial, trivial⟩ ?_
  refine dr_nil Tryd_mixed rfl (by kernel_rfl) ?_
  refine post_imp (s' := ⟨161, [(0, some (.pv (.vs 7 (List.map eGClass a0)))), (4, some (.lp 0 0)), (5, some (.lp 1 0)), (7, some (.lp 2 0)), (83, some (.pv (.bool (decide ((w_i64 (y41 + y43)) > 0)))))], [(0, some (.box 28 (bxv (eGHere_law39 a1)))), (1, some (.box 45 (bxv ((eA2 eGExpr) a2)))), (2, some (.box 35 (bxv (eGVal y16.1))))], 3, [], [], 0, []⟩) (imps [0, 1, 2] ⟨by kernel_rfl, by kernel_rfl, by kernel_rfl, by kernel_rfl, by kernel_rfl, trivial⟩ ⟨by kernel_rfl, by kernel_rfl, by kernel_rfl, trivial⟩) ?_
  refine post_next ?_
  rcases ite_some hF with ⟨hb45, hF⟩ | ⟨hb45, hF⟩
  · refine aw_cond_t rfl hb45 ?_
    refine aw_seq ?_
    refine aw_region ?_
    obtain ⟨y46, h47, hF⟩ := bind_some hF
    refine rgp (op_call 3 rfl (caps := []) (args := []) (rs := [.p (.bool y46)]) rfl rfl rfl Tryd_cal_10 (law39_awake_ok h47) rfl rfl rfl) ?_
    refine ras ?_
    refine reg_nil ?_
    refine post_imp (s' := ⟨161, [(6, some (.pv (.bool y46)))], [], 0, [], [], 0, []⟩) (imps [] ⟨by kernel_rfl, trivial⟩ trivial) ?_
    refine post_next ?_
    refine aw_ret ?_
    refine post_then_ret ?_
    obtain rfl := Option.some.inj hF
    exact prt
  refine aw_cond_f rfl hb45 ?_
  refine aw_skip ?_
  refine post_next ?_
  refine aw_seq ?_
  refine aw_region ?_
  refine rmv ?_
  refine rgp (op_field_lp rfl rfl Tryd_fld_28_0 rfl rfl) ?_
  refine rgp (op_load_lp_agg (ps := eGFrame a1.fF) rfl rfl rfl rfl rfl rfl Tryd_agg_25 rfl rfl) ?_
  refine rgp (op_field_lp rfl rfl Tryd_fld_28_1 rfl rfl) ?_
  refine rgp (op_load_lp (v := .pv (.vs 1 (List.map eI a1.fIn))) rfl rfl rfl rfl Tryd_one_26 rfl rfl) ?_
  refine rgp (op_arr_lp (k := .i64) (m := 0) (n := 2) rfl rfl rfl Tryd_arr_45 rfl rfl rfl rfl) ?_
  refine rgp (op_load_lp_agg (ps := eGExpr a2.a0) rfl rfl rfl rfl rfl rfl Tryd_agg_31 rfl rfl) ?_
  refine rgp (op_arr_lp (k := .i64) (m := 1) (n := 2) rfl rfl rfl Tryd_arr_45 rfl rfl rfl rfl) ?_
  refine rgp (op_load_lp_agg (ps := eGExpr a2.a1) rfl rfl rfl rfl rfl rfl Tryd_agg_31 rfl rfl) ?_
  refine rgp (op_litR (rows := List.map eGExpr ([a2.a0, a2.a1] : List GExpr)) (rows' := eLGExpr ([a2.a0, a2.a1] : List GExpr)) (zs := (eGExpr zGExpr)) rfl rfl Tryd_slc_29 Tryd_zer_31 (by exact ⟨rfl, rfl, rfl, trivial, trivial⟩) rfl rfl rfl rfl rfl rfl (eLGExpr_map _) rfl rfl) ?_
  refine rgp (op_build (zs := (eGExpr zGExpr)) (r := eGExpr ({ fKind := 6, fNum := 0, fName := [], fKids := [a2.a0, a2.a1] } : GExpr)) rfl Tryd_zer_31 (by exact ⟨rfl, rfl, rfl, trivial, trivial⟩) Tryd_plc_31 rfl rfl rfl rfl) ?_
  obtain ⟨y50, h51, hF⟩ := bind_some hF
  refine rgp (op_call 3 rfl (caps := []) (args := [.vs 7 (List.map eGClass a0), .agg (eGFrame a1.fF), .vs 1 (List.map eI a1.fIn), .agg (eGExpr ({ fKind := 6, fNum := 0, fName := [], fKids := [a2.a0, a2.a1] } : GExpr))]) (rs := [.p (.agg (eGVal y50.1)), .p (.vs 1 (List.map eI y50.2.1)), .p (.int .i64 y50.2.2)]) rfl rfl rfl Tryd_cal_11 (calc_Of_ok h51) rfl rfl rfl) ?_
  refine rmv ?_
  iterate 3 (refine rgp (op_extract rfl rfl rfl rfl rfl) ?_)
  refine rgp (op_alloc 3 rfl (ps := (eGVal zGVal)) rfl Tryd_zer_35 (by exact ⟨rfl, rfl, trivial⟩) rfl rfl) ?_
  refine rgp (op_store_lp (n := 2) rfl rfl rfl rfl rfl (or_agg Tryd_agg_35) (by rw [Tryd_non_35]; rfl) rfl rfl rfl) ?_
  iterate 2 (refine ras ?_)
  refine reg_nil ?_
  refine post_imp (s' := ⟨161, [(0, some (.pv (.vs 7 (List.map eGClass a0)))), (4, some (.lp 0 0)), (5, some (.lp 1 0)), (7, some (.lp 2 0)), (11, some (.lp 3 0)), (13, some (.pv (.int .i64 y50.2.2)))], [(0, some (.box 28 (bxv (eGHere_law39 a1)))), (1, some (.box 45 (bxv ((eA2 eGExpr) a2)))), (2, some (.box 35 (bxv (eGVal y16.1)))), (3, some (.box 35 (bxv (eGVal y50.1))))], 4, [], [], 0, []⟩) (imps [0, 1, 2, 3] ⟨by kernel_rfl, by kernel_rfl, by kernel_rfl, by kernel_rfl, by kernel_rfl, by kernel_rfl, trivial⟩ ⟨by kernel_rfl, by kernel_rfl, by kernel_rfl, by kernel_rfl, trivial⟩) ?_
  refine post_next ?_
  refine aw_seq ?_
  refine aw_region ?_
  refine rmv ?_
  refine rgp (op_field_lp rfl rfl Tryd_fld_28_0 rfl rfl) ?_
  refine rgp (op_load_lp_agg (ps := eGFrame a1.fF) rfl rfl rfl rfl rfl rfl Tryd_agg_25 rfl rfl) ?_
  refine rgp (op_field_lp rfl rfl Tryd_fld_28_1 rfl rfl) ?_
  refine rgp (op_load_lp (v := .pv (.vs 1 (List.map eI a1.fIn))) rfl rfl rfl rfl Tryd_one_26 rfl rfl) ?_
  refine rgp (op_arr_lp (k := .i64) (m := 1) (n := 2) rfl rfl rfl Tryd_arr_45 rfl rfl rfl rfl) ?_
  refine rgp (op_load_lp_agg (ps := eGExpr a2.a1) rfl rfl rfl rfl rfl rfl Tryd_agg_31 rfl rfl) ?_
  refine rgp (op_arr_lp (k := .i64) (m := 0) (n := 2) rfl rfl rfl Tryd_arr_45 rfl rfl rfl rfl) ?_
  refine rgp (op_load_lp_agg (ps := eGExpr a2.a0) rfl rfl rfl rfl rfl rfl Tryd_agg_31 rfl rfl) ?_
  refine rgp (op_litR (rows := List.map eGExpr ([a2.a1, a2.a0] : List GExpr)) (rows' := eLGExpr ([a2.a1, a2.a0] : List GExpr)) (zs := (eGExpr zGExpr)) rfl rfl Tryd_slc_29 Tryd_zer_31 (by exact ⟨rfl, rfl, rfl, trivial, trivial⟩) rfl rfl rfl rfl rfl rfl (eLGExpr_map _) rfl rfl) ?_
  refine rgp (op_build (zs := (eGExpr zGExpr)) (r := eGExpr ({ fKind := 6, fNum := 0, fName := [], fKids := [a2.a1, a2.a0] } : GExpr)) rfl Tryd_zer_31 (by exact ⟨rfl, rfl, rfl, trivial, trivial⟩) Tryd_plc_31 rfl rfl rfl rfl) ?_
  obtain ⟨y54, h55, hF⟩ := bind_some hF
  refine rgp (op_call 4 rfl (caps := []) (args := [.vs 7 (List.map eGClass a0), .agg (eGFrame a1.fF), .vs 1 (List.map eI a1.fIn), .agg (eGExpr ({ fKind := 6, fNum := 0, fName := [], fKids := [a2.a1, a2.a0] } : GExpr))]) (rs := [.p (.agg (eGVal y54.1)), .p (.vs 1 (List.map eI y54.2.1)), .p (.int .i64 y54.2.2)]) rfl rfl rfl Tryd_cal_11 (calc_Of_ok h55) rfl rfl rfl) ?_
  refine rmv ?_
  iterate 3 (refine rgp (op_extract rfl rfl rfl rfl rfl) ?_)
  refine rgp (op_alloc 4 rfl (ps := (eGVal zGVal)) rfl Tryd_zer_35 (by exact ⟨rfl, rfl, trivial⟩) rfl rfl) ?_
  refine rgp (op_store_lp (n := 2) rfl rfl rfl rfl rfl (or_agg Tryd_agg_35) (by rw [Tryd_non_35]; rfl) rfl rfl rfl) ?_
  iterate 2 (refine ras ?_)
  refine reg_nil ?_
  refine post_imp (s' := ⟨161, [(0, some (.pv (.vs 7 (List.map eGClass a0)))), (4, some (.lp 0 0)), (5, some (.lp 1 0)), (7, some (.lp 2 0)), (11, some (.lp 3 0)), (13, some (.pv (.int .i64 y50.2.2))), (14, some (.lp 4 0)), (16, some (.pv (.int .i64 y54.2.2)))], [(0, some (.box 28 (bxv (eGHere_law39 a1)))), (1, some (.box 45 (bxv ((eA2 eGExpr) a2)))), (2, some (.box 35 (bxv (eGVal y16.1)))), (3, some (.box 35 (bxv (eGVal y50.1)))), (4, some (.box 35 (bxv (eGVal y54.1))))], 5, [], [], 0, []⟩) (imps [0, 1, 2, 3, 4] ⟨by kernel_rfl, by kernel_rfl, by kernel_rfl, by kernel_rfl, by kernel_rfl, by kernel_rfl, by kernel_rfl, by kernel_rfl, trivial⟩ ⟨by kernel_rfl, by kernel_rfl, by kernel_rfl, by kernel_rfl, by kernel_rfl, trivial⟩) ?_
  refine post_next ?_
  refine aw_seq ?_
  refine aw_region ?_
  refine rmv ?_
  refine rgp (op_field_lp rfl rfl Tryd_fld_28_0 rfl rfl) ?_
  refine rgp (op_load_lp_agg (ps := eGFrame a1.fF) rfl rfl rfl rfl rfl rfl Tryd_agg_25 rfl rfl) ?_
  refine rgp (op_field_lp rfl rfl Tryd_fld_28_1 rfl rfl) ?_
  refine rgp (op_load_lp (v := .pv (.vs 1 (List.map eI a1.fIn))) rfl rfl rfl rfl Tryd_one_26 rfl rfl) ?_
  refine rgp (op_arr_lp (k := .i64) (m := 0) (n := 2) rfl rfl rfl Tryd_arr_45 rfl rfl rfl rfl) ?_
  refine rgp (op_load_lp_agg (ps := eGExpr a2.a0) rfl rfl rfl rfl rfl rfl Tryd_agg_31 rfl rfl) ?_
  refine rgp (op_arr_lp (k := .i64) (m := 1) (n := 2) rfl rfl rfl Tryd_arr_45 rfl rfl rfl rfl) ?_
  refine rgp (op_load_lp_agg (ps := eGExpr a2.a1) rfl rfl rfl rfl rfl rfl Tryd_agg_31 rfl rfl) ?_
  refine rgp (op_litR (rows := List.map eGExpr ([a2.a0, a2.a1] : List GExpr)) (rows' := eLGExpr ([a2.a0, a2.a1] : List GExpr)) (zs := (eGExpr zGExpr)) rfl rfl Tryd_slc_29 Tryd_zer_31 (by exact ⟨rfl, rfl, rfl, trivial, trivial⟩) rfl rfl rfl rfl rfl rfl (eLGExpr_map _) rfl rfl) ?_
  refine rgp (op_build (zs := (eGExpr zGExpr)) (r := eGExpr ({ fKind := 6, fNum := 0, fName := [], fKids := [a2.a0, a2.a1] } : GExpr)) rfl Tryd_zer_31 (by exact ⟨rfl, rfl, rfl, trivial, trivial⟩) Tryd_plc_31 rfl rfl rfl rfl) ?_
  refine rgp (op_arr_lp (k := .i64) (m := 1) (n := 2) rfl rfl rfl Tryd_arr_45 rfl rfl rfl rfl) ?_
  refine rgp (op_load_lp_agg (ps := eGExpr a2.a1) rfl rfl rfl rfl rfl rfl Tryd_agg_31 rfl rfl) ?_
  refine rgp (op_litR (rows := List.map eGExpr ([({ fKind := 6, fNum := 0, fName := [], fKids := [a2.a0, a2.a1] } : GExpr), a2.a1] : List GExpr)) (rows' := eLGExpr ([({ fKind := 6, fNum := 0, fName := [], fKids := [a2.a0, a2.a1] } : GExpr), a2.a1] : List GExpr)) (zs := (eGExpr zGExpr)) rfl rfl Tryd_slc_29 Tryd_zer_31 (by exact ⟨rfl, rfl, rfl, trivial, trivial⟩) rfl rfl rfl rfl rfl rfl (eLGExpr_map _) rfl rfl) ?_
  refine rgp (op_build (zs := (eGExpr zGExpr)) (r := eGExpr ({ fKind := 7, fNum := 0, fName := [], fKids := [({ fKind := 6, fNum := 0, fName := [], fKids := [a2.a0, a2.a1] } : GExpr), a2.a1] } : GExpr)) rfl Tryd_zer_31 (by exact ⟨rfl, rfl, rfl, trivial, trivial⟩) Tryd_plc_31 rfl rfl rfl rfl) ?_
  obtain ⟨y58, h59, hF⟩ := bind_some hF
  refine rgp (op_call 5 rfl (caps := []) (args := [.vs 7 (List.map eGClass a0), .agg (eGFrame a1.fF), .vs 1 (List.map eI a1.fIn), .agg (eGExpr ({ fKind := 7, fNum := 0, fName := [], fKids := [({ fKind := 6, fNum := 0, fName := [], fKids := [a2.a0, a2.a1] } : GExpr), a2.a1] } : GExpr))]) (rs := [.p (.agg (eGVal y58.1)), .p (.vs 1 (List.map eI y58.2.1)), .p (.int .i64 y58.2.2)]) rfl rfl rfl Tryd_cal_11 (calc_Of_ok h59) rfl rfl rfl) ?_
  refine rmv ?_
  iterate 3 (refine rgp (op_extract rfl rfl rfl rfl rfl) ?_)
  refine rgp (op_alloc 5 rfl (ps := (eGVal zGVal)) rfl Tryd_zer_35 (by exact ⟨rfl, rfl, trivial⟩) rfl rfl) ?_
  refine rgp (op_store_lp (n := 2) rfl rfl rfl rfl rfl (or_agg Tryd_agg_35) (by rw [Tryd_non_35]; rfl) rfl rfl rfl) ?_
  iterate 2 (refine ras ?_)
  refine reg_nil ?_
  refine post_imp (s' := ⟨161, [(7, some (.lp 0 0)), (11, some (.lp 1 0)), (13, some (.pv (.int .i64 y50.2.2))), (14, some (.lp 2 0)), (16, some (.pv (.int .i64 y54.2.2))), (17, some (.lp 3 0)), (19, some (.pv (.int .i64 y58.2.2)))], [(0, some (.box 35 (bxv (eGVal y16.1)))), (1, some (.box 35 (bxv (eGVal y50.1)))), (2, some (.box 35 (bxv (eGVal y54.1)))), (3, some (.box 35 (bxv (eGVal y58.1))))], 4, [], [], 0, []⟩) (imps [2, 3, 4, 5] ⟨by kernel_rfl, by kernel_rfl, by kernel_rfl, by kernel_rfl, by kernel_rfl, by kernel_rfl, by kernel_rfl, trivial⟩ ⟨by kernel_rfl, by kernel_rfl, by kernel_rfl, by kernel_rfl, trivial⟩) ?_
  refine post_next ?_
  refine aw_seq ?_
  refine aw_region ?_
  refine rgp (op_load_lp_agg (ps := eGVal y50.1) rfl rfl rfl rfl rfl rfl Tryd_agg_35 rfl rfl) ?_
  refine rgp (op_load_lp_agg (ps := eGVal y54.1) rfl rfl rfl rfl rfl rfl Tryd_agg_35 rfl rfl) ?_
  refine rgp (op_eqAgg_eql (r := bGVal y50.1 y54.1) rfl rfl rfl Tryd_eqt_35 rfl rfl rfl rfl rfl) ?_
  refine rmv ?_
  rcases ite_some hF with ⟨hb60, hF⟩ | ⟨hb60, hF⟩
  · refine rgn hb60 (op_move rfl rfl rfl rfl) ?_
    refine rgn hb60 (op_move rfl rfl rfl rfl) ?_
    refine rgn hb60 (op_int (k := .i64) (m := y50.2.2) (n := y54.2.2) rfl rfl rfl rfl rfl rfl) ?_
    refine rpt hb60 ?_
    refine rmv ?_
    rcases ite_some hF with ⟨hb61, hF⟩ | ⟨hb61, hF⟩
    · refine rgn hb61 (op_move rfl rfl rfl rfl) ?_
      refine rgn hb61 (op_int (k := .i64) (m := y50.2.2) (n := 0) rfl rfl rfl rfl rfl rfl) ?_
      refine rgn hb61 (op_move rfl rfl rfl rfl) ?_
      rcases ite_some hF with ⟨hb62, hF⟩ | ⟨hb62, hF⟩
      · refine rgo_t hb62 ?_
        refine rgo_t hb62 ?_
        refine rgn hb61 (op_pick_t rfl rfl hb62 rfl rfl rfl) ?_
        refine rgn hb61 (op_move rfl rfl rfl rfl) ?_
        iterate 3 (refine rgo_t rfl ?_)
        refine rgn hb61 (op_pick_t rfl rfl rfl rfl rfl rfl) ?_
        refine rpt hb61 ?_
        refine rmv ?_
        obtain ⟨y63, h64, hF⟩ := bind_some hF
        refine rgn rfl (op_call 4 rfl (caps := []) (args := []) (rs := [.p (.bool y63)]) rfl rfl rfl Tryd_cal_10 (law39_awake_ok h64) rfl rfl rfl) ?_
        refine rpt rfl ?_
        refine ras ?_
        refine reg_nil ?_
        refine post_imp (s' := ⟨161, [(6, some (.pv (.bool y63)))], [], 0, [], [], 0, []⟩) (imps [] ⟨by kernel_rfl, trivial⟩ trivial) ?_
        refine post_next ?_
        refine aw_ret ?_
        obtain rfl := Option.some.inj hF
        exact prt
      refine rgn hb62 (op_move rfl rfl rfl rfl) ?_
      refine rgn hb62 (op_int (k := .i64) (m := y58.2.2) (n := 0) rfl rfl rfl rfl rfl rfl) ?_
      refine rgn hb61 (op_pick_f rfl rfl hb62 rfl rfl rfl) ?_
      refine rgn hb61 (op_move rfl rfl rfl rfl) ?_
      rcases ite_some hF with ⟨hb65, hF⟩ | ⟨hb65, hF⟩
      · refine rgo_t hb65 ?_
        iterate 2 (refine rgo_t hb65 ?_)
        refine rgn hb61 (op_pick_t rfl rfl hb65 rfl rfl rfl) ?_
        refine rpt hb61 ?_
        refine rmv ?_
        obtain ⟨y66, h67, hF⟩ := bind_some hF
        refine rgn rfl (op_call 4 rfl (caps := []) (args := []) (rs := [.p (.bool y66)]) rfl rfl rfl Tryd_cal_10 (law39_awake_ok h67) rfl rfl rfl) ?_
        refine rpt rfl ?_
        refine ras ?_
        refine reg_nil ?_
        refine post_imp (s' := ⟨161, [(6, some (.pv (.bool y66)))], [], 0, [], [], 0, []⟩) (imps [] ⟨by kernel_rfl, trivial⟩ trivial) ?_
        refine post_next ?_
        refine aw_ret ?_
        obtain rfl := Option.some.inj hF
        exact prt
      refine rgn hb65 (op_load_lp_agg (ps := eGVal y58.1) rfl rfl rfl rfl rfl rfl Tryd_agg_35 rfl rfl) ?_
      refine rgn hb65 (op_load_lp_agg (ps := eGVal y16.1) rfl rfl rfl rfl rfl rfl Tryd_agg_35 rfl rfl) ?_
      refine rgn hb65 (op_eqAgg_eql (r := bGVal y58.1 y16.1) rfl rfl rfl Tryd_eqt_35 rfl rfl rfl rfl rfl) ?_
      refine rgn hb61 (op_pick_f rfl rfl hb65 rfl rfl rfl) ?_
      refine rpt hb61 ?_
      refine rmv ?_
      rcases ite_some hF with ⟨hb68, hF⟩ | ⟨hb68, hF⟩
      · obtain ⟨y69, h70, hF⟩ := bind_some hF
        refine rgn hb68 (op_call 4 rfl (caps := []) (args := []) (rs := [.p (.bool y69)]) rfl rfl rfl Tryd_cal_10 (law39_awake_ok h70) rfl rfl rfl) ?_
        refine rpt hb68 ?_
        refine ras ?_
        refine reg_nil ?_
        refine post_imp (s' := ⟨161, [(6, some (.pv (.bool y69)))], [], 0, [], [], 0, []⟩) (imps [] ⟨by kernel_rfl, trivial⟩ trivial) ?_
        refine post_next ?_
        refine aw_ret ?_
        obtain rfl := Option.some.inj hF
        exact prt
      refine rgo_f hb68 ?_
      refine rpf hb68 ?_
      refine ras ?_
      refine reg_nil ?_
      refine post_imp (s' := ⟨161, [(6, some (.pv (.bool false)))], [], 0, [], [], 0, []⟩) (imps [] ⟨by kernel_rfl, trivial⟩ trivial) ?_
      refine post_next ?_
      refine aw_ret ?_
      obtain rfl := Option.some.inj hF
      exact prt
    iterate 3 (refine rgo_f hb61 ?_)
    iterate 2 (refine rgu ?_)
    iterate 2 (refine rgo_f hb61 ?_)
    iterate 3 (refine rgu ?_)
    refine rgo_f hb61 ?_
    refine rpf hb61 ?_
    refine rmv ?_
    refine rgo_f rfl ?_
    refine rpf rfl ?_
    refine ras ?_
    refine reg_nil ?_
    refine post_imp (s' := ⟨161, [(6, some (.pv (.bool false)))], [], 0, [], [], 0, []⟩) (imps [] ⟨by kernel_rfl, trivial⟩ trivial) ?_
    refine post_next ?_
    refine aw_ret ?_
    obtain rfl := Option.some.inj hF
    exact prt
  iterate 3 (refine rgo_f hb60 ?_)
  refine rpf hb60 ?_
  refine rmv ?_
  iterate 3 (refine rgo_f rfl ?_)
  iterate 2 (refine rgu ?_)
  iterate 2 (refine rgo_f rfl ?_)
  iterate 3 (refine rgu ?_)
  refine rgo_f rfl ?_
  refine rpf rfl ?_
  refine rmv ?_
  refine rgo_f rfl ?_
  refine rpf rfl ?_
  refine ras ?_
  refine reg_nil ?_
  refine post_imp (s' := ⟨161, [(6, some (.pv (.bool false)))], [], 0, [], [], 0, []⟩) (imps [] ⟨by kernel_rfl, trivial⟩ trivial) ?_
  refine post_next ?_
  refine aw_ret ?_
  obtain rfl := Option.some.inj hF
  exact prt
theorem ref06_kids_ok {a0 : Int} {r : Int} (hF : ref06_kids a0 = some r) : Abs.Fn globs_Tryd Tryd.prog 80 [.int .i64 a0] [.p (.int .i64 r)] := by
  unfold ref06_kids at hF
  refine fn_of_body (n := 19) Tryd.func80 rfl rfl rfl ?_
  intro w O
  refine aw_seq ?_
  refine aw_region ?_
  refine ras ?_
  refine reg_nil ?_
  refine post_imp (s' := ⟨19, [(0, some (.pv (.int .i64 a0)))], [], 0, [], [], 0, []⟩) (imps [] ⟨by kernel_rfl, trivial⟩ trivial) ?_
  refine post_next ?_
  iterate 2 (refine aw_seq ?_)
  obtain ⟨x3, hF, hK5⟩ := bind_some hF
  refine aw_cut (fun s1 => s1 = ⟨19, [(0, some (.pv (.int .i64 a0))), (12, some (.pv (.bool x3)))], [], 0, [], [], 0, []⟩) ?_ ?_
  · refine aw_region ?_
    refine rmv ?_
    refine rgp (op_int (k := .i64) (m := a0) (n := 6) rfl rfl rfl rfl rfl rfl) ?_
    refine rmv ?_
    rcases ite_some hF with ⟨hb1, hF⟩ | ⟨hb1, hF⟩
    · refine rgn hb1 (op_move rfl rfl rfl rfl) ?_
      refine rgn hb1 (op_int (k := .i64) (m := a0) (n := 11) rfl rfl rfl rfl rfl rfl) ?_
      refine rpt hb1 ?_
      refine rmv ?_
      rcases ite_some hF with ⟨hb2, hF⟩ | ⟨hb2, hF⟩
      · refine rgo_t hb2 ?_
        refine rgo_t hb2 ?_
        refine rpt hb2 ?_
        refine reg_nil ?_
        cases hF
        exact post_cut _ rfl (imps [] ⟨by kernel_rfl, by kernel_rfl, trivial⟩ trivial)
      refine rgn hb2 (op_move rfl rfl rfl rfl) ?_
      refine rgn hb2 (op_int (k := .i64) (m := a0) (n := 14) rfl rfl rfl rfl rfl rfl) ?_
      refine rpf hb2 ?_
      refine reg_nil ?_
      cases hF
      exact post_cut _ rfl (imps [] ⟨by kernel_rfl, by kernel_rfl, trivial⟩ trivial)
    iterate 2 (refine rgo_f hb1 ?_)
    refine rpf hb1 ?_
    refine rmv ?_
    refine rgn rfl (op_move rfl rfl rfl rfl) ?_
    refine rgn rfl (op_int (k := .i64) (m := a0) (n := 14) rfl rfl rfl rfl rfl rfl) ?_
    refine rpf rfl ?_
    refine reg_nil ?_
    cases hF
    exact post_cut _ rfl (imps [] ⟨by kernel_rfl, by kernel_rfl, trivial⟩ trivial)
  rintro _ rfl
  have hF := hK5
  clear hK5
  refine post_next ?_
  rcases ite_some hF with ⟨hb6, hF⟩ | ⟨hb6, hF⟩
  · refine aw_cond_t rfl hb6 ?_
    refine aw_seq ?_
    refine aw_region ?_
    refine ras ?_
    refine reg_nil ?_
    refine post_imp (s' := ⟨19, [(2, some (.pv (.int .i64 2)))], [], 0, [], [], 0, []⟩) (imps [] ⟨by kernel_rfl, trivial⟩ trivial) ?_
    refine post_next ?_
    refine aw_ret ?_
    refine post_then_ret ?_
    obtain rfl := Option.some.inj hF
    exact prt
  refine aw_cond_f rfl hb6 ?_
  refine aw_skip ?_
  refine post_next ?_
  iterate 2 (refine aw_seq ?_)
  obtain ⟨x8, hF, hK10⟩ := bind_some hF
  refine aw_cut (fun s1 => s1 = ⟨19, [(18, some (.pv (.bool x8)))], [], 0, [], [], 0, []⟩) ?_ ?_
  · refine aw_region ?_
    refine rmv ?_
    refine rgp (op_int (k := .i64) (m := a0) (n := 12) rfl rfl rfl rfl rfl rfl) ?_
    refine rmv ?_
    rcases ite_some hF with ⟨hb7, hF⟩ | ⟨hb7, hF⟩
    · refine rgo_t hb7 ?_
      refine rgo_t hb7 ?_
      refine rpt hb7 ?_
      refine reg_nil ?_
      cases hF
      exact post_cut _ rfl (imps [] ⟨by kernel_rfl, trivial⟩ trivial)
    refine rgn hb7 (op_move rfl rfl rfl rfl) ?_
    refine rgn hb7 (op_int (k := .i64) (m := a0) (n := 13) rfl rfl rfl rfl rfl rfl) ?_
    refine rpf hb7 ?_
    refine reg_nil ?_
    cases hF
    exact post_cut _ rfl (imps [] ⟨by kernel_rfl, trivial⟩ trivial)
  rintro _ rfl
  have hF := hK10
  clear hK10
  refine post_next ?_
  rcases ite_some hF with ⟨hb11, hF⟩ | ⟨hb11, hF⟩
  · refine aw_cond_t rfl hb11 ?_
    refine aw_seq ?_
    refine aw_region ?_
    refine ras ?_
    refine reg_nil ?_
    refine post_imp (s' := ⟨19, [(2, some (.pv (.int .i64 1)))], [], 0, [], [], 0, []⟩) (imps [] ⟨by kernel_rfl, trivial⟩ trivial) ?_
    refine post_next ?_
    refine aw_ret ?_
    refine post_then_ret ?_
    obtain rfl := Option.some.inj hF
    exact prt
  refine aw_cond_f rfl hb11 ?_
  refine aw_skip ?_
  refine post_next ?_
  refine aw_seq ?_
  refine aw_region ?_
  refine ras ?_
  refine reg_nil ?_
  refine post_imp (s' := ⟨19, [(2, some (.pv (.int .i64 0)))], [], 0, [], [], 0, []⟩) (imps [] ⟨by kernel_rfl, trivial⟩ trivial) ?_
  refine post_next ?_
  refine aw_ret ?_
  obtain rfl := Option.some.inj hF
  exact prt
theorem ref02_Letter_ok {a0 : Int} {r : Bool} (hF : ref02_Letter a0 = some r) : Abs.Fn globs_Tryd Tryd.prog 112 [.int .u8 a0] [.p (.bool r)] := by
  unfold ref02_Letter at hF
  refine fn_of_body (n := 17) Tryd.func112 rfl rfl rfl ?_
  intro w O
  refine aw_seq ?_
  refine aw_region ?_
  refine ras ?_
  refine reg_nil ?_
  refine post_imp (s' := ⟨17, [(0, some (.pv (.int .u8 a0)))], [], 0, [], [], 0, []⟩) (imps [] ⟨by kernel_rfl, trivial⟩ trivial) ?_
  refine post_next ?_
  refine aw_seq ?_
  refine aw_region ?_
  refine rmv ?_
  refine rgp (op_int (k := .u8) (m := a0) (n := 97) rfl rfl rfl rfl rfl rfl) ?_
  refine rmv ?_
  rcases ite_some hF with ⟨hb1, hF⟩ | ⟨hb1, hF⟩
  · refine rgn hb1 (op_move rfl rfl rfl rfl) ?_
    refine rgn hb1 (op_int (k := .u8) (m := a0) (n := 122) rfl rfl rfl rfl rfl rfl) ?_
    refine rpt hb1 ?_
    refine rmv ?_
    rcases ite_some hF with ⟨hb2, hF⟩ | ⟨hb2, hF⟩
    · refine rgo_t hb2 ?_
      iterate 2 (refine rgo_t hb2 ?_)
      iterate 2 (refine rgu ?_)
      refine rgo_t hb2 ?_
      refine rpt hb2 ?_
      refine ras ?_
      refine reg_nil ?_
      refine post_imp (s' := ⟨17, [(2, some (.pv (.bool true)))], [], 0, [], [], 0, []⟩) (imps [] ⟨by kernel_rfl, trivial⟩ trivial) ?_
      refine post_next ?_
      refine aw_ret ?_
      obtain rfl := Option.some.inj hF
      exact prt
    refine rgn hb2 (op_move rfl rfl rfl rfl) ?_
    refine rgn hb2 (op_int (k := .u8) (m := a0) (n := 65) rfl rfl rfl rfl rfl rfl) ?_
    refine rgn hb2 (op_move rfl rfl rfl rfl) ?_
    rcases ite_some hF with ⟨hb3, hF⟩ | ⟨hb3, hF⟩
    · refine rgn hb3 (op_move rfl rfl rfl rfl) ?_
      refine rgn hb3 (op_int (k := .u8) (m := a0) (n := 90) rfl rfl rfl rfl rfl rfl) ?_
      refine rgn hb2 (op_pick_t rfl rfl hb3 rfl rfl rfl) ?_
      refine rpf hb2 ?_
      refine ras ?_
      refine reg_nil ?_
      refine post_imp (s' := ⟨17, [(2, some (.pv (.bool (decide (a0 ≤ 90)))))], [], 0, [], [], 0, []⟩) (imps [] ⟨by kernel_rfl, trivial⟩ trivial) ?_
      refine post_next ?_
      refine aw_ret ?_
      obtain rfl := Option.some.inj hF
      exact prt
    iterate 2 (refine rgo_f hb3 ?_)
    refine rgn hb2 (op_pick_f rfl rfl hb3 rfl rfl rfl) ?_
    refine rpf hb2 ?_
    refine ras ?_
    refine reg_nil ?_
    refine post_imp (s' := ⟨17, [(2, some (.pv (.bool false)))], [], 0, [], [], 0, []⟩) (imps [] ⟨by kernel_rfl, trivial⟩ trivial) ?_
    refine post_next ?_
    refine aw_ret ?_
    obtain rfl := Option.some.inj hF
    exact prt
  iterate 2 (refine rgo_f hb1 ?_)
  refine rpf hb1 ?_
  refine rmv ?_
  refine rgn rfl (op_move rfl rfl rfl rfl) ?_
  refine rgn rfl (op_int (k := .u8) (m := a0) (n := 65) rfl rfl rfl rfl rfl rfl) ?_
  refine rgn rfl (op_move rfl rfl rfl rfl) ?_
  rcases ite_some hF with ⟨hb4, hF⟩ | ⟨hb4, hF⟩
  · refine rgn hb4 (op_move rfl rfl rfl rfl) ?_
    refine rgn hb4 (op_int (k := .u8) (m := a0) (n := 90) rfl rfl rfl rfl rfl rfl) ?_
    refine rgn rfl (op_pick_t rfl rfl hb4 rfl rfl rfl) ?_
    refine rpf rfl ?_
    refine ras ?_
    refine reg_nil ?_
    refine post_imp (s' := ⟨17, [(2, some (.pv (.bool (decide (a0 ≤ 90)))))], [], 0, [], [], 0, []⟩) (imps [] ⟨by kernel_rfl, trivial⟩ trivial) ?_
    refine post_next ?_
    refine aw_ret ?_
    obtain rfl := Option.some.inj hF
    exact prt
  iterate 2 (refine rgo_f hb4 ?_)
  refine rgn rfl (op_pick_f rfl rfl hb4 rfl rfl rfl) ?_
  refine rpf rfl ?_
  refine ras ?_
  refine reg_nil ?_
  refine post_imp (s' := ⟨17, [(2, some (.pv (.bool false)))], [], 0, [], [], 0, []⟩) (imps [] ⟨by kernel_rfl, trivial⟩ trivial) ?_
  refine post_next ?_
  refine aw_ret ?_
  obtain rfl := Option.some.inj hF
  exact prt
theorem ref02_Words_ok  {r : (List (List UInt8))} (hF : ref02_Words = some r) : Abs.Fn globs_Tryd Tryd.prog 132 [] [.p (.vs 1 (List.map eS r))] := by
  unfold ref02_Words at hF
  refine fn_of_body (n := 2) Tryd.func132 rfl rfl rfl ?_
  intro w O
  refine aw_seq ?_
  refine aw_region ?_
  refine ras ?_
  refine reg_nil ?_
  refine post_imp (s' := ⟨2, [], [], 0, [], [], 0, []⟩) (imps [] trivial trivial) ?_
  refine post_next ?_
  refine aw_seq ?_
  refine aw_region ?_
  refine rgp (op_lit (rows := List.map eS ([[99, 108, 97, 115, 115], [101, 120, 116, 101, 110, 100, 115], [114, 101, 112], [112, 101, 101, 114], [119, 111, 114, 108, 100], [97, 110, 121], [117, 110, 105, 113, 117, 101], [112, 117, 114, 101], [118, 111, 105, 100], [105, 110, 116], [105, 102], [101, 108, 115, 101], [119, 104, 105, 108, 101], [114, 101, 116, 117, 114, 110], [110, 101, 119], [109, 111, 118, 101], [100, 101, 108, 101, 116, 101], [116, 104, 105, 115], [110, 117, 108, 108], [105, 110, 112, 117, 116], [110, 105, 108], [115, 97, 109, 101], [99, 97, 115, 116]] : List (List UInt8))) (zs := [.str []]) rfl rfl Tryd_slc_77 Tryd_zer_9 (by exact ⟨rfl, trivial⟩) rfl rfl rfl rfl rfl rfl rfl rfl) ?_
  refine ras ?_
  refine reg_nil ?_
  refine post_imp (s' := ⟨2, [(0, some (.pv (.vs 1 (List.map eS [[99, 108, 97, 115, 115], [101, 120, 116, 101, 110, 100, 115], [114, 101, 112], [112, 101, 101, 114], [119, 111, 114, 108, 100], [97, 110, 121], [117, 110, 105, 113, 117, 101], [112, 117, 114, 101], [118, 111, 105, 100], [105, 110, 116], [105, 102], [101, 108, 115, 101], [119, 104, 105, 108, 101], [114, 101, 116, 117, 114, 110], [110, 101, 119], [109, 111, 118, 101], [100, 101, 108, 101, 116, 101], [116, 104, 105, 115], [110, 117, 108, 108], [105, 110, 112, 117, 116], [110, 105, 108], [115, 97, 109, 101], [99, 97, 115, 116]]))))], [], 0, [], [], 0, []⟩) (imps [] ⟨by kernel_rfl, trivial⟩ trivial) ?_
  refine post_next ?_
  refine aw_ret ?_
  obtain rfl := Option.some.inj hF
  exact prt
theorem ref02_Find_ok {a0 : List UInt8} {r : Int} (hF : ref02_Find a0 = some r) : Abs.Fn globs_Tryd Tryd.prog 113 [.str a0] [.p (.int .i64 r)] := by
  unfold ref02_Find at hF
  refine fn_of_body (n := 20) Tryd.func113 rfl rfl rfl ?_
  intro w O
  refine aw_seq ?_
  refine aw_region ?_
  refine ras ?_
  refine reg_nil ?_
  refine post_imp (s' := ⟨20, [(0, some (.pv (.str a0)))], [], 0, [], [], 0, []⟩) (imps [] ⟨by kernel_rfl, trivial⟩ trivial) ?_
  refine post_next ?_
  refine aw_seq ?_
  refine aw_region ?_
  obtain ⟨y3, h4, hF⟩ := bind_some hF
  refine rgp (op_call 0 rfl (caps := []) (args := []) (rs := [.p (.vs 1 (List.map eS y3))]) rfl rfl rfl Tryd_cal_132 (ref02_Words_ok h4) rfl rfl rfl) ?_
  refine ras ?_
  refine reg_nil ?_
  refine post_imp (s' := ⟨20, [(0, some (.pv (.str a0))), (3, some (.pv (.vs 1 (List.map eS y3))))], [], 0, [], [], 0, []⟩) (imps [] ⟨by kernel_rfl, by kernel_rfl, trivial⟩ trivial) ?_
  refine post_next ?_
  iterate 2 (refine aw_seq ?_)
  refine aw_region ?_
  refine ras ?_
  refine reg_nil ?_
  refine post_imp (s' := ⟨20, [(0, some (.pv (.str a0))), (3, some (.pv (.vs 1 (List.map eS y3)))), (4, some (.pv (.int .i64 0)))], [], 0, [], [], 0, []⟩) (imps [] ⟨by kernel_rfl, by kernel_rfl, by kernel_rfl, trivial⟩ trivial) ?_
  refine post_next ?_
  obtain ⟨lr26, hF, hK27⟩ := bind_some hF
  refine aw_for ((((y3.length : Int) : Int) - (0)).toNat + 1) (fun s1 => ∃ q, lr26 = .next q ∧ s1 = ⟨20, [], [], 0, [], [], 0, []⟩) ?_ ?_
  · refine rnd_loop (α := Int) (fun q => ⟨20, [(0, some (.pv (.str a0))), (3, some (.pv (.vs 1 (List.map eS y3)))), (4, some (.pv (.int .i64 q)))], [], 0, [], [], 0, []⟩) (fun k q => ref02_Find_L1 a0 y3 k q = some lr26) 0 (imps [] ⟨by kernel_rfl, by kernel_rfl, by kernel_rfl, trivial⟩ trivial) hF (fun q h => by cases h) ?_
    clear hF
    rintro k x11 hF ih
    refine rnd_succ ?_
    iterate 2 (refine aw_seq ?_)
    refine aw_region ?_
    iterate 2 (refine rmv ?_)
    refine rgp (op_len_vs (n := y3.length) rfl rfl (List.length_map ..) Tryd_slc_77 rfl rfl) ?_
    refine rgp (op_int (k := .i64) (m := x11) (n := (y3.length : Int)) rfl rfl rfl rfl rfl rfl) ?_
    refine reg_nil ?_
    refine post_imp (s' := ⟨20, [(0, some (.pv (.str a0))), (3, some (.pv (.vs 1 (List.map eS y3)))), (4, some (.pv (.int .i64 x11))), (9, some (.pv (.bool (decide (x11 < (y3.length : Int))))))], [], 0, [], [], 0, []⟩) (imps [] ⟨by kernel_rfl, by kernel_rfl, by kernel_rfl, by kernel_rfl, trivial⟩ trivial) ?_
    refine post_next ?_
    rcases ite_some hF with ⟨hb19, hF⟩ | ⟨hb19, hF⟩
    · refine aw_cond_t rfl hb19 ?_
      refine aw_skip ?_
      refine post_next ?_
      refine aw_seq ?_
      refine aw_block ?_
      refine aw_seq ?_
      refine aw_region ?_
      iterate 2 (refine rmv ?_)
      obtain ⟨y22, h23, hF⟩ := bind_some hF
      refine rgp (op_index_vs (k := .i64) rfl rfl rfl (idx_map eS h23) Tryd_slc_77 rfl rfl) ?_
      refine rgp (op_load_vp (p := .str y22) rfl rfl rfl Tryd_one_9 rfl rfl) ?_
      refine rmv ?_
      refine rgp (op_str rfl rfl rfl rfl rfl rfl) ?_
      refine reg_nil ?_
      refine post_imp (s' := ⟨20, [(0, some (.pv (.str a0))), (3, some (.pv (.vs 1 (List.map eS y3)))), (4, some (.pv (.int .i64 x11))), (17, some (.pv (.bool (y22 == a0))))], [], 0, [], [], 0, []⟩) (imps [] ⟨by kernel_rfl, by kernel_rfl, by kernel_rfl, by kernel_rfl, trivial⟩ trivial) ?_
      refine post_next ?_
      rcases ite_some hF with ⟨hb24, hF⟩ | ⟨hb24, hF⟩
      · refine aw_cond_t rfl hb24 ?_
        refine aw_seq ?_
        refine aw_region ?_
        refine rmv ?_
        refine rgp (op_int (k := .i64) (m := x11) (n := 1) rfl rfl rfl rfl rfl rfl) ?_
        refine ras ?_
        refine reg_nil ?_
        refine post_imp (s' := ⟨20, [(2, some (.pv (.int .i64 (w_i64 (x11 + 1)))))], [], 0, [], [], 0, []⟩) (imps [] ⟨by kernel_rfl, trivial⟩ trivial) ?_
        refine post_next ?_
        refine aw_ret ?_
        refine post_block_ret ?_
        iterate 2 (refine post_then_ret ?_)
        refine post_lp_ret ?_
        obtain rfl := Option.some.inj hF
        have hF := elim_stop hK27
        refine post_then_ret ?_
        obtain rfl := Option.some.inj hF
        exact prt
      refine aw_cond_f rfl hb24 ?_
      refine aw_skip ?_
      refine post_block_normal ?_
      refine post_next ?_
      refine aw_region ?_
      refine rmv ?_
      refine rgp (op_int (k := .i64) (m := x11) (n := 1) rfl rfl rfl rfl rfl rfl) ?_
      refine ras ?_
      refine reg_nil ?_
      refine post_round ?_
      exact rnd_back (ih (w_i64 (x11 + 1)) hF) (imps [] ⟨by kernel_rfl, by kernel_rfl, by kernel_rfl, trivial⟩ trivial)
    refine aw_cond_f rfl hb19 ?_
    refine aw_exit ?_
    iterate 2 (refine post_then_exit ?_)
    obtain rfl := Option.some.inj hF
    exact post_lp_break _ ⟨_, rfl, rfl⟩ (imps [] trivial trivial)
  rintro _ ⟨⟨⟩, rfl, rfl⟩
  have hF := elim_next hK27
  clear hK27
  refine post_next ?_
  refine aw_seq ?_
  refine aw_region ?_
  refine ras ?_
  refine reg_nil ?_
  refine post_imp (s' := ⟨20, [(2, some (.pv (.int .i64 0)))], [], 0, [], [], 0, []⟩) (imps [] ⟨by kernel_rfl, trivial⟩ trivial) ?_
  refine post_next ?_
  refine aw_ret ?_
  obtain rfl := Option.some.inj hF
  exact prt
theorem ref02_Digit_ok {a0 : Int} {r : Bool} (hF : ref02_Digit a0 = some r) : Abs.Fn globs_Tryd Tryd.prog 114 [.int .u8 a0] [.p (.bool r)] := by
  unfold ref02_Digit at hF
  refine fn_of_body (n := 9) Tryd.func114 rfl rfl rfl ?_
  intro w O
  refine aw_seq ?_
  refine aw_region ?_
  refine ras ?_
  refine reg_nil ?_
  refine post_imp (s' := ⟨9, [(0, some (.pv (.int .u8 a0)))], [], 0, [], [], 0, []⟩) (imps [] ⟨by kernel_rfl, trivial⟩ trivial) ?_
  refine post_next ?_
  refine aw_seq ?_
  refine aw_region ?_
  refine rmv ?_
  refine rgp (op_int (k := .u8) (m := a0) (n := 48) rfl rfl rfl rfl rfl rfl) ?_
  refine rmv ?_
  rcases ite_some hF with ⟨hb1, hF⟩ | ⟨hb1, hF⟩
  · refine rgn hb1 (op_move rfl rfl rfl rfl) ?_
    refine rgn hb1 (op_int (k := .u8) (m := a0) (n := 57) rfl rfl rfl rfl rfl rfl) ?_
    refine rpt hb1 ?_
    refine ras ?_
    refine reg_nil ?_
    refine post_imp (s' := ⟨9, [(2, some (.pv (.bool (decide (a0 ≤ 57)))))], [], 0, [], [], 0, []⟩) (imps [] ⟨by kernel_rfl, trivial⟩ trivial) ?_
    refine post_next ?_
    refine aw_ret ?_
    obtain rfl := Option.some.inj hF
    exact prt
  iterate 2 (refine rgo_f hb1 ?_)
  refine rpf hb1 ?_
  refine ras ?_
  refine reg_nil ?_
  refine post_imp (s' := ⟨9, [(2, some (.pv (.bool false)))], [], 0, [], [], 0, []⟩) (imps [] ⟨by kernel_rfl, trivial⟩ trivial) ?_
  refine post_next ?_
  refine aw_ret ?_
  obtain rfl := Option.some.inj hF
  exact prt
theorem ref02_Name_ok {a0 : List UInt8} {r : Bool} (hF : ref02_Name a0 = some r) : Abs.Fn globs_Tryd Tryd.prog 81 [.str a0] [.p (.bool r)] := by
  unfold ref02_Name at hF
  refine fn_of_body (n := 41) Tryd.func81 rfl rfl rfl ?_
  intro w O
  refine aw_seq ?_
  refine aw_region ?_
  refine ras ?_
  refine reg_nil ?_
  refine post_imp (s' := ⟨41, [(0, some (.pv (.str a0)))], [], 0, [], [], 0, []⟩) (imps [] ⟨by kernel_rfl, trivial⟩ trivial) ?_
  refine post_next ?_
  iterate 2 (refine aw_seq ?_)
  obtain ⟨x10, hF, hK12⟩ := bind_some hF
  refine aw_cut (fun s1 => s1 = ⟨41, [(0, some (.pv (.str a0))), (22, some (.pv (.bool x10)))], [], 0, [], [], 0, []⟩) ?_ ?_
  · refine aw_region ?_
    refine rmv ?_
    refine rgp (op_len_str rfl rfl Tryd_und_9 rfl rfl) ?_
    refine rgp (op_int (k := .i64) (m := (a0.length : Int)) (n := 1) rfl rfl rfl rfl rfl rfl) ?_
    refine rmv ?_
    rcases ite_some hF with ⟨hb1, hF⟩ | ⟨hb1, hF⟩
    · refine rgo_t hb1 ?_
      iterate 2 (refine rgo_t hb1 ?_)
      refine rpt hb1 ?_
      refine rmv ?_
      iterate 4 (refine rgo_t rfl ?_)
      refine rpt rfl ?_
      refine rmv ?_
      iterate 3 (refine rgo_t rfl ?_)
      refine rpt rfl ?_
      refine reg_nil ?_
      cases hF
      exact post_cut _ rfl (imps [] ⟨by kernel_rfl, by kernel_rfl, trivial⟩ trivial)
    refine rgn hb1 (op_move rfl rfl rfl rfl) ?_
    refine rgn hb1 (op_len_str rfl rfl Tryd_und_9 rfl rfl) ?_
    refine rgn hb1 (op_int (k := .i64) (m := (a0.length : Int)) (n := 20) rfl rfl rfl rfl rfl rfl) ?_
    refine rpf hb1 ?_
    refine rmv ?_
    rcases ite_some hF with ⟨hb2, hF⟩ | ⟨hb2, hF⟩
    · refine rgo_t hb2 ?_
      iterate 3 (refine rgo_t hb2 ?_)
      refine rpt hb2 ?_
      refine rmv ?_
      iterate 3 (refine rgo_t rfl ?_)
      refine rpt rfl ?_
      refine reg_nil ?_
      cases hF
      exact post_cut _ rfl (imps [] ⟨by kernel_rfl, by kernel_rfl, trivial⟩ trivial)
    refine rgn hb2 (op_move rfl rfl rfl rfl) ?_
    obtain ⟨y3, h4, hF⟩ := bind_some hF
    refine rgn hb2 (op_index_str (k := .i64) rfl rfl rfl h4 Tryd_und_9 rfl rfl) ?_
    obtain ⟨y5, h6, hF⟩ := bind_some hF
    refine rgn hb2 (op_call 0 rfl (caps := []) (args := [.int .u8 (y3.toNat : Int)]) (rs := [.p (.bool y5)]) rfl rfl rfl Tryd_cal_112 (ref02_Letter_ok h6) rfl rfl rfl) ?_
    refine rgn hb2 (op_not rfl rfl rfl rfl) ?_
    refine rpf hb2 ?_
    refine rmv ?_
    rcases ite_some hF with ⟨hb7, hF⟩ | ⟨hb7, hF⟩
    · refine rgo_t hb7 ?_
      iterate 2 (refine rgo_t hb7 ?_)
      refine rpt hb7 ?_
      refine reg_nil ?_
      cases hF
      exact post_cut _ rfl (imps [] ⟨by kernel_rfl, by kernel_rfl, trivial⟩ trivial)
    refine rgn hb7 (op_move rfl rfl rfl rfl) ?_
    obtain ⟨y8, h9, hF⟩ := bind_some hF
    refine rgn hb7 (op_call 0 rfl (caps := []) (args := [.str a0]) (rs := [.p (.int .i64 y8)]) rfl rfl rfl Tryd_cal_113 (ref02_Find_ok h9) rfl rfl rfl) ?_
    refine rgn hb7 (op_int (k := .i64) (m := y8) (n := 0) rfl rfl rfl rfl rfl rfl) ?_
    refine rpf hb7 ?_
    refine reg_nil ?_
    cases hF
    exact post_cut _ rfl (imps [] ⟨by kernel_rfl, by kernel_rfl, trivial⟩ trivial)
  rintro _ rfl
  have hF := hK12
  clear hK12
  refine post_next ?_
  rcases ite_some hF with ⟨hb13, hF⟩ | ⟨hb13, hF⟩
  · refine aw_cond_t rfl hb13 ?_
    refine aw_seq ?_
    refine aw_region ?_
    refine ras ?_
    refine reg_nil ?_
    refine post_imp (s' := ⟨41, [(2, some (.pv (.bool false)))], [], 0, [], [], 0, []⟩) (imps [] ⟨by kernel_rfl, trivial⟩ trivial) ?_
    refine post_next ?_
    refine aw_ret ?_
    refine post_then_ret ?_
    obtain rfl := Option.some.inj hF
    exact prt
  refine aw_cond_f rfl hb13 ?_
  refine aw_skip ?_
  refine post_next ?_
  iterate 2 (refine aw_seq ?_)
  refine aw_region ?_
  refine ras ?_
  refine reg_nil ?_
  refine post_imp (s' := ⟨41, [(0, some (.pv (.str a0))), (3, some (.pv (.int .i64 0)))], [], 0, [], [], 0, []⟩) (imps [] ⟨by kernel_rfl, by kernel_rfl, trivial⟩ trivial) ?_
  refine post_next ?_
  obtain ⟨lr71, hF, hK72⟩ := bind_some hF
  refine aw_for ((((a0.length : Int) : Int) - (0)).toNat + 1) (fun s1 => ∃ q, lr71 = .next q ∧ s1 = ⟨41, [], [], 0, [], [], 0, []⟩) ?_ ?_
  · refine rnd_loop (α := Int) (fun q => ⟨41, [(0, some (.pv (.str a0))), (3, some (.pv (.int .i64 q)))], [], 0, [], [], 0, []⟩) (fun k q => ref02_Name_L1 a0 k q = some lr71) 0 (imps [] ⟨by kernel_rfl, by kernel_rfl, trivial⟩ trivial) hF (fun q h => by cases h) ?_
    clear hF
    rintro k x32 hF ih
    refine rnd_succ ?_
    iterate 2 (refine aw_seq ?_)
    refine aw_region ?_
    iterate 2 (refine rmv ?_)
    refine rgp (op_len_str rfl rfl Tryd_und_9 rfl rfl) ?_
    refine rgp (op_int (k := .i64) (m := x32) (n := (a0.length : Int)) rfl rfl rfl rfl rfl rfl) ?_
    refine reg_nil ?_
    refine post_imp (s' := ⟨41, [(0, some (.pv (.str a0))), (3, some (.pv (.int .i64 x32))), (26, some (.pv (.bool (decide (x32 < (a0.length : Int))))))], [], 0, [], [], 0, []⟩) (imps [] ⟨by kernel_rfl, by kernel_rfl, by kernel_rfl, trivial⟩ trivial) ?_
    refine post_next ?_
    rcases ite_some hF with ⟨hb52, hF⟩ | ⟨hb52, hF⟩
    · refine aw_cond_t rfl hb52 ?_
      refine aw_skip ?_
      refine post_next ?_
      refine aw_seq ?_
      refine aw_block ?_
      refine aw_seq ?_
      obtain ⟨x66, hF, hK68⟩ := bind_some hF
      refine aw_cut (fun s1 => s1 = ⟨41, [(0, some (.pv (.str a0))), (3, some (.pv (.int .i64 x32))), (40, some (.pv (.bool x66)))], [], 0, [], [], 0, []⟩) ?_ ?_
      · refine aw_region ?_
        iterate 2 (refine rmv ?_)
        obtain ⟨y57, h58, hF⟩ := bind_some hF
        refine rgp (op_index_str (k := .i64) rfl rfl rfl h58 Tryd_und_9 rfl rfl) ?_
        obtain ⟨y59, h60, hF⟩ := bind_some hF
        refine rgp (op_call 0 rfl (caps := []) (args := [.int .u8 (y57.toNat : Int)]) (rs := [.p (.bool y59)]) rfl rfl rfl Tryd_cal_112 (ref02_Letter_ok h60) rfl rfl rfl) ?_
        refine rgp (op_not rfl rfl rfl rfl) ?_
        refine rmv ?_
        rcases ite_some hF with ⟨hb61, hF⟩ | ⟨hb61, hF⟩
        · refine rgn hb61 (op_move rfl rfl rfl rfl) ?_
          refine rgn hb61 (op_move rfl rfl rfl rfl) ?_
          obtain ⟨y62, h63, hF⟩ := bind_some hF
          refine rgn hb61 (op_index_str (k := .i64) rfl rfl rfl h63 Tryd_und_9 rfl rfl) ?_
          obtain ⟨y64, h65, hF⟩ := bind_some hF
          refine rgn hb61 (op_call 0 rfl (caps := []) (args := [.int .u8 (y62.toNat : Int)]) (rs := [.p (.bool y64)]) rfl rfl rfl Tryd_cal_114 (ref02_Digit_ok h65) rfl rfl rfl) ?_
          refine rgn hb61 (op_not rfl rfl rfl rfl) ?_
          refine rpt hb61 ?_
          refine reg_nil ?_
          cases hF
          exact post_cut _ rfl (imps [] ⟨by kernel_rfl, by kernel_rfl, by kernel_rfl, trivial⟩ trivial)
        iterate 5 (refine rgo_f hb61 ?_)
        refine rpf hb61 ?_
        refine reg_nil ?_
        cases hF
        exact post_cut _ rfl (imps [] ⟨by kernel_rfl, by kernel_rfl, by kernel_rfl, trivial⟩ trivial)
      rintro _ rfl
      have hF := hK68
      clear hK68
      refine post_next ?_
      rcases ite_some hF with ⟨hb69, hF⟩ | ⟨hb69, hF⟩
      · refine aw_cond_t rfl hb69 ?_
        refine aw_seq ?_
        refine aw_region ?_
        refine ras ?_
        refine reg_nil ?_
        refine post_imp (s' := ⟨41, [(2, some (.pv (.bool false)))], [], 0, [], [], 0, []⟩) (imps [] ⟨by kernel_rfl, trivial⟩ trivial) ?_
        refine post_next ?_
        refine aw_ret ?_
        refine post_block_ret ?_
        iterate 2 (refine post_then_ret ?_)
        refine post_lp_ret ?_
        obtain rfl := Option.some.inj hF
        have hF := elim_stop hK72
        refine post_then_ret ?_
        obtain rfl := Option.some.inj hF
        exact prt
      refine aw_cond_f rfl hb69 ?_
      refine aw_skip ?_
      refine post_block_normal ?_
      refine post_next ?_
      refine aw_region ?_
      refine rmv ?_
      refine rgp (op_int (k := .i64) (m := x32) (n := 1) rfl rfl rfl rfl rfl rfl) ?_
      refine ras ?_
      refine reg_nil ?_
      refine post_round ?_
      exact rnd_back (ih (w_i64 (x32 + 1)) hF) (imps [] ⟨by kernel_rfl, by kernel_rfl, trivial⟩ trivial)
    refine aw_cond_f rfl hb52 ?_
    refine aw_exit ?_
    iterate 2 (refine post_then_exit ?_)
    obtain rfl := Option.some.inj hF
    exact post_lp_break _ ⟨_, rfl, rfl⟩ (imps [] trivial trivial)
  rintro _ ⟨⟨⟩, rfl, rfl⟩
  have hF := elim_next hK72
  clear hK72
  refine post_next ?_
  refine aw_seq ?_
  refine aw_region ?_
  refine ras ?_
  refine reg_nil ?_
  refine post_imp (s' := ⟨41, [(2, some (.pv (.bool true)))], [], 0, [], [], 0, []⟩) (imps [] ⟨by kernel_rfl, trivial⟩ trivial) ?_
  refine post_next ?_
  refine aw_ret ?_
  obtain rfl := Option.some.inj hF
  exact prt
end Go.Proofs.YtnnphkfiookbnaaDoor
