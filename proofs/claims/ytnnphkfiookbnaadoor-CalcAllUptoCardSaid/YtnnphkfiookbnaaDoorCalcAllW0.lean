/- A part of the proof that the law CalcAll gives true for every input. -/
import Derived.Test.YtnnphkfiookbnaaDoorCalcAllT
import Derived.Test.YtnnphkfiookbnaaDoorCalcAllX
import Derived.Test.YtnnphkfiookbnaaDoorCalcAllI
/- Each Go function computes its plain function. -/
namespace Go.Proofs.YtnnphkfiookbnaaDoor
open Go.RowKit Go.Abs
set_option maxRecDepth 100000
set_option maxHeartbeats 4000000
theorem ref10_uniques_ok {a0 : GMethod} {r : Int} (hF : ref10_uniques a0 = some r) : Abs.Fn globs_Tryd Tryd.prog 52 [.agg (eGMethod a0)] [.p (.int .i64 r)] := by
  unfold ref10_uniques at hF
  refine fn_of_body (n := 45) Tryd.func52 rfl rfl rfl ?_
  intro w O
  refine aw_seq ?_
  refine aw_region ?_
  refine rgp (op_box 0 rfl rfl rfl rfl rfl rfl) ?_
  refine ras ?_
  refine reg_nil ?_
  refine post_imp (s' := ⟨45, [(1, some (.lp 0 0))], [(0, some (.box 116 (bxv (eGMethod a0))))], 1, [], [], 0, []⟩) (imps [0] ⟨by kernel_rfl, trivial⟩ ⟨by kernel_rfl, trivial⟩) ?_
  refine post_next ?_
  refine aw_seq ?_
  refine aw_region ?_
  refine ras ?_
  refine reg_nil ?_
  refine post_imp (s' := ⟨45, [(1, some (.lp 0 0)), (3, some (.pv (.int .i64 0)))], [(0, some (.box 116 (bxv (eGMethod a0))))], 1, [], [], 0, []⟩) (imps [0] ⟨by kernel_rfl, by kernel_rfl, trivial⟩ ⟨by kernel_rfl, trivial⟩) ?_
  refine post_next ?_
  iterate 2 (refine aw_seq ?_)
  refine aw_region ?_
  refine ras ?_
  refine reg_nil ?_
  refine post_imp (s' := ⟨45, [(1, some (.lp 0 0)), (3, some (.pv (.int .i64 0))), (4, some (.pv (.int .i64 0)))], [(0, some (.box 116 (bxv (eGMethod a0))))], 1, [], [], 0, []⟩) (imps [0] ⟨by kernel_rfl, by kernel_rfl, by kernel_rfl, trivial⟩ ⟨by kernel_rfl, trivial⟩) ?_
  refine post_next ?_
  obtain ⟨x34, hF, hK35⟩ := bind_some hF
  refine aw_for ((((a0.fParams.length : Int) : Int) - (0)).toNat + 1) (fun s1 => s1 = ⟨45, [(1, some (.lp 0 0)), (3, some (.pv (.int .i64 x34)))], [(0, some (.box 116 (bxv (eGMethod a0))))], 1, [], [], 0, []⟩) ?_ ?_
  · refine rnd_loop (α := Int × Int) (fun q => ⟨45, [(1, some (.lp 0 0)), (3, some (.pv (.int .i64 q.1))), (4, some (.pv (.int .i64 q.2)))], [(0, some (.box 116 (bxv (eGMethod a0))))], 1, [], [], 0, []⟩) (fun k q => ref10_uniques_L1 a0 k q.1 q.2 = some x34) (0, 0) (imps [0] ⟨by kernel_rfl, by kernel_rfl, by kernel_rfl, trivial⟩ ⟨by kernel_rfl, trivial⟩) hF (fun q h => by cases h) ?_
    clear hF
    rintro k ⟨x10, x11⟩ hF ih
    refine rnd_succ ?_
    iterate 2 (refine aw_seq ?_)
    refine aw_region ?_
    refine rmv ?_
    refine rgp (op_field_lp rfl rfl Tryd_fld_116_3 rfl rfl) ?_
    refine rgp (op_load_lp (v := .pv (.vs 13 (List.map eGVar a0.fParams))) rfl rfl rfl rfl Tryd_one_105 rfl rfl) ?_
    refine rgp (op_len_vs (n := a0.fParams.length) rfl rfl (List.length_map ..) Tryd_slc_105 rfl rfl) ?_
    refine rgp (op_int (k := .i64) (m := x11) (n := (a0.fParams.length : Int)) rfl rfl rfl rfl rfl rfl) ?_
    refine reg_nil ?_
    refine post_imp (s' := ⟨45, [(1, some (.lp 0 0)), (3, some (.pv (.int .i64 x10))), (4, some (.pv (.int .i64 x11))), (10, some (.pv (.bool (decide (x11 < (a0.fParams.length : Int))))))], [(0, some (.box 116 (bxv (eGMethod a0))))], 1, [], [], 0, []⟩) (imps [0] ⟨by kernel_rfl, by kernel_rfl, by kernel_rfl, by kernel_rfl, trivial⟩ ⟨by kernel_rfl, trivial⟩) ?_
    refine post_next ?_
    rcases ite_some hF with ⟨hb23, hF⟩ | ⟨hb23, hF⟩
    · refine aw_cond_t rfl hb23 ?_
      refine aw_skip ?_
      refine post_next ?_
      refine aw_seq ?_
      obtain ⟨x29, hF, hK31⟩ := bind_some hF
      refine aw_cut (fun s1 => s1 = ⟨45, [(1, some (.lp 0 0)), (3, some (.pv (.int .i64 x29))), (4, some (.pv (.int .i64 x11)))], [(0, some (.box 116 (bxv (eGMethod a0))))], 1, [], [], 0, []⟩) ?_ ?_
      · refine aw_block ?_
        refine aw_seq ?_
        refine aw_region ?_
        refine rgp (op_field_lp rfl rfl Tryd_fld_116_3 rfl rfl) ?_
        refine rgp (op_load_lp (v := .pv (.vs 13 (List.map eGVar a0.fParams))) rfl rfl rfl rfl Tryd_one_105 rfl rfl) ?_
        refine rmv ?_
        obtain ⟨y26, h27, hF⟩ := bind_some hF
        refine rgp (op_index_vs (k := .i64) rfl rfl rfl (idx_map eGVar h27) Tryd_slc_105 rfl rfl) ?_
        refine rgp (op_field_vp rfl rfl Tryd_fld_143_1 rfl rfl) ?_
        refine rgp (op_field_vp rfl rfl Tryd_fld_113_3 rfl rfl) ?_
        refine rgp (op_arr_vp (k := .i64) (m := 0) (n := 4) rfl rfl rfl Tryd_arr_111 rfl rfl rfl rfl) ?_
        refine rgp (op_field_vp rfl rfl Tryd_fld_110_0 rfl rfl) ?_
        refine rgp (op_load_vp (p := .int .i64 y26.fType.fOwn.a0.fKind) rfl rfl rfl Tryd_one_3 rfl rfl) ?_
        refine rgp (op_int (k := .i64) (m := y26.fType.fOwn.a0.fKind) (n := 6) rfl rfl rfl rfl rfl rfl) ?_
        refine reg_nil ?_
        refine post_imp (s' := ⟨45, [(1, some (.lp 0 0)), (3, some (.pv (.int .i64 x10))), (4, some (.pv (.int .i64 x11))), (22, some (.pv (.bool (y26.fType.fOwn.a0.fKind == 6))))], [(0, some (.box 116 (bxv (eGMethod a0))))], 1, [], [], 0, []⟩) (imps [0] ⟨by kernel_rfl, by kernel_rfl, by kernel_rfl, by kernel_rfl, trivial⟩ ⟨by kernel_rfl, trivial⟩) ?_
        refine post_next ?_
        rcases ite_some hF with ⟨hb28, hF⟩ | ⟨hb28, hF⟩
        · refine aw_cond_t rfl hb28 ?_
          refine aw_region ?_
          refine rmv ?_
          refine rgp (op_int (k := .i64) (m := x10) (n := 1) rfl rfl rfl rfl rfl rfl) ?_
          refine ras ?_
          refine reg_nil ?_
          refine post_imp (s' := ⟨45, [(1, some (.lp 0 0)), (3, some (.pv (.int .i64 (w_i64 (x10 + 1))))), (4, some (.pv (.int .i64 x11)))], [(0, some (.box 116 (bxv (eGMethod a0))))], 1, [], [], 0, []⟩) (imps [0] ⟨by kernel_rfl, by kernel_rfl, by kernel_rfl, trivial⟩ ⟨by kernel_rfl, trivial⟩) ?_
          refine post_block_normal ?_
          cases hF
          exact post_cut _ rfl (imps [0] ⟨by kernel_rfl, by kernel_rfl, by kernel_rfl, trivial⟩ ⟨by kernel_rfl, trivial⟩)
        refine aw_cond_f rfl hb28 ?_
        refine aw_skip ?_
        refine post_block_normal ?_
        cases hF
        exact post_cut _ rfl (imps [0] ⟨by kernel_rfl, by kernel_rfl, by kernel_rfl, trivial⟩ ⟨by kernel_rfl, trivial⟩)
      rintro _ rfl
      have hF := hK31
      clear hK31
      refine post_next ?_
      refine aw_region ?_
      refine rmv ?_
      refine rgp (op_int (k := .i64) (m := x11) (n := 1) rfl rfl rfl rfl rfl rfl) ?_
      refine ras ?_
      refine reg_nil ?_
      refine post_round ?_
      exact rnd_back (ih (x29, w_i64 (x11 + 1)) hF) (imps [0] ⟨by kernel_rfl, by kernel_rfl, by kernel_rfl, trivial⟩ ⟨by kernel_rfl, trivial⟩)
    refine aw_cond_f rfl hb23 ?_
    refine aw_exit ?_
    iterate 2 (refine post_then_exit ?_)
    obtain rfl := Option.some.inj hF
    exact post_lp_break _ rfl (imps [0] ⟨by kernel_rfl, by kernel_rfl, trivial⟩ ⟨by kernel_rfl, trivial⟩)
  rintro _ rfl
  have hF := hK35
  clear hK35
  refine post_next ?_
  iterate 2 (refine aw_seq ?_)
  refine aw_region ?_
  refine ras ?_
  refine reg_nil ?_
  refine post_imp (s' := ⟨45, [(1, some (.lp 0 0)), (3, some (.pv (.int .i64 x34))), (5, some (.pv (.int .i64 0)))], [(0, some (.box 116 (bxv (eGMethod a0))))], 1, [], [], 0, []⟩) (imps [0] ⟨by kernel_rfl, by kernel_rfl, by kernel_rfl, trivial⟩ ⟨by kernel_rfl, trivial⟩) ?_
  refine post_next ?_
  obtain ⟨x69, hF, hK70⟩ := bind_some hF
  refine aw_for ((((a0.fLocals.length : Int) : Int) - (0)).toNat + 1) (fun s1 => s1 = ⟨45, [(3, some (.pv (.int .i64 x69)))], [], 0, [], [], 0, []⟩) ?_ ?_
  · refine rnd_loop (α := Int × Int) (fun q => ⟨45, [(1, some (.lp 0 0)), (3, some (.pv (.int .i64 q.1))), (5, some (.pv (.int .i64 q.2)))], [(0, some (.box 116 (bxv (eGMethod a0))))], 1, [], [], 0, []⟩) (fun k q => ref10_uniques_L2 a0 k q.1 q.2 = some x69) (x34, 0) (imps [0] ⟨by kernel_rfl, by kernel_rfl, by kernel_rfl, trivial⟩ ⟨by kernel_rfl, trivial⟩) hF (fun q h => by cases h) ?_
    clear hF
    rintro k ⟨x45, x46⟩ hF ih
    refine rnd_succ ?_
    iterate 2 (refine aw_seq ?_)
    refine aw_region ?_
    refine rmv ?_
    refine rgp (op_field_lp rfl rfl Tryd_fld_116_4 rfl rfl) ?_
    refine rgp (op_load_lp (v := .pv (.vs 13 (List.map eGVar a0.fLocals))) rfl rfl rfl rfl Tryd_one_105 rfl rfl) ?_
    refine rgp (op_len_vs (n := a0.fLocals.length) rfl rfl (List.length_map ..) Tryd_slc_105 rfl rfl) ?_
    refine rgp (op_int (k := .i64) (m := x46) (n := (a0.fLocals.length : Int)) rfl rfl rfl rfl rfl rfl) ?_
    refine reg_nil ?_
    refine post_imp (s' := ⟨45, [(1, some (.lp 0 0)), (3, some (.pv (.int .i64 x45))), (5, some (.pv (.int .i64 x46))), (29, some (.pv (.bool (decide (x46 < (a0.fLocals.length : Int))))))], [(0, some (.box 116 (bxv (eGMethod a0))))], 1, [], [], 0, []⟩) (imps [0] ⟨by kernel_rfl, by kernel_rfl, by kernel_rfl, by kernel_rfl, trivial⟩ ⟨by kernel_rfl, trivial⟩) ?_
    refine post_next ?_
    rcases ite_some hF with ⟨hb58, hF⟩ | ⟨hb58, hF⟩
    · refine aw_cond_t rfl hb58 ?_
      refine aw_skip ?_
      refine post_next ?_
      refine aw_seq ?_
      obtain ⟨x64, hF, hK66⟩ := bind_some hF
      refine aw_cut (fun s1 => s1 = ⟨45, [(1, some (.lp 0 0)), (3, some (.pv (.int .i64 x64))), (5, some (.pv (.int .i64 x46)))], [(0, some (.box 116 (bxv (eGMethod a0))))], 1, [], [], 0, []⟩) ?_ ?_
      · refine aw_block ?_
        refine aw_seq ?_
        refine aw_region ?_
        refine rgp (op_field_lp rfl rfl Tryd_fld_116_4 rfl rfl) ?_
        refine rgp (op_load_lp (v := .pv (.vs 13 (List.map eGVar a0.fLocals))) rfl rfl rfl rfl Tryd_one_105 rfl rfl) ?_
        refine rmv ?_
        obtain ⟨y61, h62, hF⟩ := bind_some hF
        refine rgp (op_index_vs (k := .i64) rfl rfl rfl (idx_map eGVar h62) Tryd_slc_105 rfl rfl) ?_
        refine rgp (op_field_vp rfl rfl Tryd_fld_143_1 rfl rfl) ?_
        refine rgp (op_field_vp rfl rfl Tryd_fld_113_3 rfl rfl) ?_
        refine rgp (op_arr_vp (k := .i64) (m := 0) (n := 4) rfl rfl rfl Tryd_arr_111 rfl rfl rfl rfl) ?_
        refine rgp (op_field_vp rfl rfl Tryd_fld_110_0 rfl rfl) ?_
        refine rgp (op_load_vp (p := .int .i64 y61.fType.fOwn.a0.fKind) rfl rfl rfl Tryd_one_3 rfl rfl) ?_
        refine rgp (op_int (k := .i64) (m := y61.fType.fOwn.a0.fKind) (n := 6) rfl rfl rfl rfl rfl rfl) ?_
        refine reg_nil ?_
        refine post_imp (s' := ⟨45, [(1, some (.lp 0 0)), (3, some (.pv (.int .i64 x45))), (5, some (.pv (.int .i64 x46))), (41, some (.pv (.bool (y61.fType.fOwn.a0.fKind == 6))))], [(0, some (.box 116 (bxv (eGMethod a0))))], 1, [], [], 0, []⟩) (imps [0] ⟨by kernel_rfl, by kernel_rfl, by kernel_rfl, by kernel_rfl, trivial⟩ ⟨by kernel_rfl, trivial⟩) ?_
        refine post_next ?_
        rcases ite_some hF with ⟨hb63, hF⟩ | ⟨hb63, hF⟩
        · refine aw_cond_t rfl hb63 ?_
          refine aw_region ?_
          refine rmv ?_
          refine rgp (op_int (k := .i64) (m := x45) (n := 1) rfl rfl rfl rfl rfl rfl) ?_
          refine ras ?_
          refine reg_nil ?_
          refine post_imp (s' := ⟨45, [(1, some (.lp 0 0)), (3, some (.pv (.int .i64 (w_i64 (x45 + 1))))), (5, some (.pv (.int .i64 x46)))], [(0, some (.box 116 (bxv (eGMethod a0))))], 1, [], [], 0, []⟩) (imps [0] ⟨by kernel_rfl, by kernel_rfl, by kernel_rfl, trivial⟩ ⟨by kernel_rfl, trivial⟩) ?_
          refine post_block_normal ?_
          cases hF
          exact post_cut _ rfl (imps [0] ⟨by kernel_rfl, by kernel_rfl, by kernel_rfl, trivial⟩ ⟨by kernel_rfl, trivial⟩)
        refine aw_cond_f rfl hb63 ?_
        refine aw_skip ?_
        refine post_block_normal ?_
        cases hF
        exact post_cut _ rfl (imps [0] ⟨by kernel_rfl, by kernel_rfl, by kernel_rfl, trivial⟩ ⟨by kernel_rfl, trivial⟩)
      rintro _ rfl
      have hF := hK66
      clear hK66
      refine post_next ?_
      refine aw_region ?_
      refine rmv ?_
      refine rgp (op_int (k := .i64) (m := x46) (n := 1) rfl rfl rfl rfl rfl rfl) ?_
      refine ras ?_
      refine reg_nil ?_
      refine post_round ?_
      exact rnd_back (ih (x64, w_i64 (x46 + 1)) hF) (imps [0] ⟨by kernel_rfl, by kernel_rfl, by kernel_rfl, trivial⟩ ⟨by kernel_rfl, trivial⟩)
    refine aw_cond_f rfl hb58 ?_
    refine aw_exit ?_
    iterate 2 (refine post_then_exit ?_)
    obtain rfl := Option.some.inj hF
    exact post_lp_break _ rfl (imps [] ⟨by kernel_rfl, trivial⟩ trivial)
  rintro _ rfl
  have hF := hK70
  clear hK70
  refine post_next ?_
  refine aw_seq ?_
  refine aw_region ?_
  refine rmv ?_
  refine ras ?_
  refine reg_nil ?_
  refine post_imp (s' := ⟨45, [(2, some (.pv (.int .i64 x69)))], [], 0, [], [], 0, []⟩) (imps [] ⟨by kernel_rfl, trivial⟩ trivial) ?_
  refine post_next ?_
  refine aw_ret ?_
  obtain rfl := Option.some.inj hF
  exact prt
theorem ref10_kids_ring : ∀ n : Nat, (∀ (a0 : GExpr) (a1 : Int) (r : Bool), ref10_kids n a0 a1 = some r → Abs.Fn globs_Tryd Tryd.prog 79 [.agg (eGExpr a0), .int .i64 a1] [.p (.bool r)]) := by
  intro n
  induction n with
  | zero => exact (fun _ _ _ h => by simp [ref10_kids] at h)
  | succ n ih =>
    have ref10_kids_ih := ih
    clear ih
    intro a0 a1 r hF
    unfold ref10_kids at hF
    revert hF ref10_kids_ih
    generalize ref10_kids n = ref10_kids_rec
    intro ref10_kids_ih hF
    refine fn_of_body (n := 29) Tryd.func79 rfl rfl rfl ?_
    intro w O
    refine aw_seq ?_
    refine aw_region ?_
    refine rgp (op_box 0 rfl rfl rfl rfl rfl rfl) ?_
    refine ras ?_
    refine reg_nil ?_
    refine post_imp (s' := ⟨29, [(1, some (.pv (.int .i64 a1))), (2, some (.lp 0 0))], [(0, some (.box 31 (bxv (eGExpr a0))))], 1, [], [], 0, []⟩) (imps [0] ⟨by kernel_rfl, by kernel_rfl, trivial⟩ ⟨by kernel_rfl, trivial⟩) ?_
    refine post_next ?_
    iterate 2 (refine aw_seq ?_)
    obtain ⟨x2, hF, hK4⟩ := bind_some hF
    refine aw_cut (fun s1 => s1 = ⟨29, [(1, some (.pv (.int .i64 a1))), (2, some (.lp 0 0)), (13, some (.pv (.bool x2)))], [(0, some (.box 31 (bxv (eGExpr a0))))], 1, [], [], 0, []⟩) ?_ ?_
    · refine aw_region ?_
      refine rmv ?_
      refine rgp (op_int (k := .i64) (m := a1) (n := 0) rfl rfl rfl rfl rfl rfl) ?_
      refine rmv ?_
      rcases ite_some hF with ⟨hb1, hF⟩ | ⟨hb1, hF⟩
      · refine rgo_t hb1 ?_
        iterate 3 (refine rgo_t hb1 ?_)
        refine rpt hb1 ?_
        refine reg_nil ?_
        cases hF
        exact post_cut _ rfl (imps [0] ⟨by kernel_rfl, by kernel_rfl, by kernel_rfl, trivial⟩ ⟨by kernel_rfl, trivial⟩)
      refine rgn hb1 (op_field_lp rfl rfl Tryd_fld_31_3 rfl rfl) ?_
      refine rgn hb1 (op_load_lp (v := .pv (.vs 4 (eLGExpr a0.fKids))) rfl rfl rfl rfl Tryd_one_29 rfl rfl) ?_
      refine rgn hb1 (op_len_vs (n := a0.fKids.length) rfl rfl (lenR eLGExpr_map) Tryd_slc_29 rfl rfl) ?_
      refine rgn hb1 (op_int (k := .i64) (m := (a0.fKids.length : Int)) (n := 4) rfl rfl rfl rfl rfl rfl) ?_
      refine rpf hb1 ?_
      refine reg_nil ?_
      cases hF
      exact post_cut _ rfl (imps [0] ⟨by kernel_rfl, by kernel_rfl, by kernel_rfl, trivial⟩ ⟨by kernel_rfl, trivial⟩)
    rintro _ rfl
    have hF := hK4
    clear hK4
    refine post_next ?_
    rcases ite_some hF with ⟨hb5, hF⟩ | ⟨hb5, hF⟩
    · refine aw_cond_t rfl hb5 ?_
      refine aw_seq ?_
      refine aw_region ?_
      refine ras ?_
      refine reg_nil ?_
      refine post_imp (s' := ⟨29, [(4, some (.pv (.bool true)))], [], 0, [], [], 0, []⟩) (imps [] ⟨by kernel_rfl, trivial⟩ trivial) ?_
      refine post_next ?_
      refine aw_ret ?_
      refine post_then_ret ?_
      obtain rfl := Option.some.inj hF
      exact prt
    refine aw_cond_f rfl hb5 ?_
    refine aw_skip ?_
    refine post_next ?_
    iterate 2 (refine aw_seq ?_)
    refine aw_region ?_
    refine ras ?_
    refine reg_nil ?_
    refine post_imp (s' := ⟨29, [(1, some (.pv (.int .i64 a1))), (2, some (.lp 0 0)), (5, some (.pv (.int .i64 0)))], [(0, some (.box 31 (bxv (eGExpr a0))))], 1, [], [], 0, []⟩) (imps [0] ⟨by kernel_rfl, by kernel_rfl, by kernel_rfl, trivial⟩ ⟨by kernel_rfl, trivial⟩) ?_
    refine post_next ?_
    obtain ⟨lr39, hF, hK40⟩ := bind_some hF
    refine aw_for ((((a0.fKids.length : Int) : Int) - (0)).toNat + 1) (fun s1 => ∃ q, lr39 = .next q ∧ s1 = ⟨29, [], [], 0, [], [], 0, []⟩) ?_ ?_
    · refine rnd_loop (α := Int) (fun q => ⟨29, [(1, some (.pv (.int .i64 a1))), (2, some (.lp 0 0)), (5, some (.pv (.int .i64 q)))], [(0, some (.box 31 (bxv (eGExpr a0))))], 1, [], [], 0, []⟩) (fun k q => ref10_kids_L1 a0 a1 ref10_kids_rec k q = some lr39) 0 (imps [0] ⟨by kernel_rfl, by kernel_rfl, by kernel_rfl, trivial⟩ ⟨by kernel_rfl, trivial⟩) hF (fun q h => by cases h) ?_
      clear hF
      rintro k x16 hF ih
      refine rnd_succ ?_
      iterate 2 (refine aw_seq ?_)
      refine aw_region ?_
      refine rmv ?_
      refine rgp (op_field_lp rfl rfl Tryd_fld_31_3 rfl rfl) ?_
      refine rgp (op_load_lp (v := .pv (.vs 4 (eLGExpr a0.fKids))) rfl rfl rfl rfl Tryd_one_29 rfl rfl) ?_
      refine rgp (op_len_vs (n := a0.fKids.length) rfl rfl (lenR eLGExpr_map) Tryd_slc_29 rfl rfl) ?_
      refine rgp (op_int (k := .i64) (m := x16) (n := (a0.fKids.length : Int)) rfl rfl rfl rfl rfl rfl) ?_
      refine reg_nil ?_
      refine post_imp (s' := ⟨29, [(1, some (.pv (.int .i64 a1))), (2, some (.lp 0 0)), (5, some (.pv (.int .i64 x16))), (18, some (.pv (.bool (decide (x16 < (a0.fKids.length : Int))))))], [(0, some (.box 31 (bxv (eGExpr a0))))], 1, [], [], 0, []⟩) (imps [0] ⟨by kernel_rfl, by kernel_rfl, by kernel_rfl, by kernel_rfl, trivial⟩ ⟨by kernel_rfl, trivial⟩) ?_
      refine post_next ?_
      rcases ite_some hF with ⟨hb28, hF⟩ | ⟨hb28, hF⟩
      · refine aw_cond_t rfl hb28 ?_
        refine aw_skip ?_
        refine post_next ?_
        refine aw_seq ?_
        refine aw_block ?_
        refine aw_seq ?_
        refine aw_region ?_
        refine rgp (op_field_lp rfl rfl Tryd_fld_31_3 rfl rfl) ?_
        refine rgp (op_load_lp (v := .pv (.vs 4 (eLGExpr a0.fKids))) rfl rfl rfl rfl Tryd_one_29 rfl rfl) ?_
        refine rmv ?_
        obtain ⟨y33, h34, hF⟩ := bind_some hF
        refine rgp (op_index_vs (k := .i64) rfl rfl rfl (idxR eLGExpr_map h34) Tryd_slc_29 rfl rfl) ?_
        refine rgp (op_load_vp_agg (ps := eGExpr y33) rfl rfl rfl rfl Tryd_agg_31 rfl rfl) ?_
        refine rmv ?_
        refine rgp (op_int (k := .i64) (m := a1) (n := 1) rfl rfl rfl rfl rfl rfl) ?_
        obtain ⟨y35, h36, hF⟩ := bind_some hF
        refine rgp (op_call 1 rfl (caps := []) (args := [.agg (eGExpr y33), .int .i64 (w_i64 (a1 - 1))]) (rs := [.p (.bool y35)]) rfl rfl rfl Tryd_cal_79 (ref10_kids_ih _ _ _ h36) rfl rfl rfl) ?_
        refine reg_nil ?_
        refine post_imp (s' := ⟨29, [(1, some (.pv (.int .i64 a1))), (2, some (.lp 0 0)), (5, some (.pv (.int .i64 x16))), (28, some (.pv (.bool y35)))], [(0, some (.box 31 (bxv (eGExpr a0))))], 1, [], [], 0, []⟩) (imps [0] ⟨by kernel_rfl, by kernel_rfl, by kernel_rfl, by kernel_rfl, trivial⟩ ⟨by kernel_rfl, trivial⟩) ?_
        refine post_next ?_
        rcases ite_some hF with ⟨hb37, hF⟩ | ⟨hb37, hF⟩
        · refine aw_cond_t rfl hb37 ?_
          refine aw_seq ?_
          refine aw_region ?_
          refine ras ?_
          refine reg_nil ?_
          refine post_imp (s' := ⟨29, [(4, some (.pv (.bool true)))], [], 0, [], [], 0, []⟩) (imps [] ⟨by kernel_rfl, trivial⟩ trivial) ?_
          refine post_next ?_
          refine aw_ret ?_
          refine post_block_ret ?_
          iterate 2 (refine post_then_ret ?_)
          refine post_lp_ret ?_
          obtain rfl := Option.some.inj hF
          have hF := elim_stop hK40
          refine post_then_ret ?_
          obtain rfl := Option.some.inj hF
          exact prt
        refine aw_cond_f rfl hb37 ?_
        refine aw_skip ?_
        refine post_block_normal ?_
        refine post_next ?_
        refine aw_region ?_
        refine rmv ?_
        refine rgp (op_int (k := .i64) (m := x16) (n := 1) rfl rfl rfl rfl rfl rfl) ?_
        refine ras ?_
        refine reg_nil ?_
        refine post_round ?_
        exact rnd_back (ih (w_i64 (x16 + 1)) hF) (imps [0] ⟨by kernel_rfl, by kernel_rfl, by kernel_rfl, trivial⟩ ⟨by kernel_rfl, trivial⟩)
      refine aw_cond_f rfl hb28 ?_
      refine aw_exit ?_
      iterate 2 (refine post_then_exit ?_)
      obtain rfl := Option.some.inj hF
      exact post_lp_break _ ⟨_, rfl, rfl⟩ (imps [] trivial trivial)
    rintro _ ⟨⟨⟩, rfl, rfl⟩
    have hF := elim_next hK40
    clear hK40
    refine post_next ?_
    refine aw_seq ?_
    refine aw_region ?_
    refine ras ?_
    refine reg_nil ?_
    refine post_imp (s' := ⟨29, [(4, some (.pv (.bool false)))], [], 0, [], [], 0, []⟩) (imps [] ⟨by kernel_rfl, trivial⟩ trivial) ?_
    refine post_next ?_
    refine aw_ret ?_
    obtain rfl := Option.some.inj hF
    exact prt
theorem ref10_kids_ok {n : Nat} {a0 : GExpr} {a1 : Int} {r : Bool} (hF : ref10_kids n a0 a1 = some r) : Abs.Fn globs_Tryd Tryd.prog 79 [.agg (eGExpr a0), .int .i64 a1] [.p (.bool r)] := (ref10_kids_ring n) _ _ _ hF

theorem ref10_much_ring : ∀ n : Nat, (∀ (a0 : GStmt) (a1 : Int) (r : Bool), ref10_much n a0 a1 = some r → Abs.Fn globs_Tryd Tryd.prog 53 [.agg (eGStmt a0), .int .i64 a1] [.p (.bool r)]) := by
  intro n
  induction n with
  | zero => exact (fun _ _ _ h => by simp [ref10_much] at h)
  | succ n ih =>
    have ref10_much_ih := ih
    clear ih
    intro a0 a1 r hF
    unfold ref10_much at hF
    revert hF ref10_much_ih
    generalize ref10_much n = ref10_much_rec
    intro ref10_much_ih hF
    refine fn_of_body (n := 76) Tryd.func53 rfl rfl rfl ?_
    intro w O
    refine aw_seq ?_
    refine aw_region ?_
    refine rgp (op_box 0 rfl rfl rfl rfl rfl rfl) ?_
    refine ras ?_
    refine reg_nil ?_
    refine post_imp (s' := ⟨76, [(1, some (.pv (.int .i64 a1))), (2, some (.lp 0 0))], [(0, some (.box 120 (bxv (eGStmt a0))))], 1, [], [], 0, []⟩) (imps [0] ⟨by kernel_rfl, by kernel_rfl, trivial⟩ ⟨by kernel_rfl, trivial⟩) ?_
    refine post_next ?_
    iterate 2 (refine aw_seq ?_)
    obtain ⟨x7, hF, hK9⟩ := bind_some hF
    refine aw_cut (fun s1 => s1 = ⟨76, [(1, some (.pv (.int .i64 a1))), (2, some (.lp 0 0)), (32, some (.pv (.bool x7)))], [(0, some (.box 120 (bxv (eGStmt a0))))], 1, [], [], 0, []⟩) ?_ ?_
    · refine aw_region ?_
      refine rmv ?_
      refine rgp (op_int (k := .i64) (m := a1) (n := 0) rfl rfl rfl rfl rfl rfl) ?_
      refine rmv ?_
      rcases ite_some hF with ⟨hb1, hF⟩ | ⟨hb1, hF⟩
      · refine rgo_t hb1 ?_
        iterate 3 (refine rgo_t hb1 ?_)
        refine rpt hb1 ?_
        refine rmv ?_
        iterate 4 (refine rgo_t rfl ?_)
        refine rpt rfl ?_
        refine rmv ?_
        iterate 4 (refine rgo_t rfl ?_)
        refine rpt rfl ?_
        refine rmv ?_
        iterate 3 (refine rgo_t rfl ?_)
        refine rpt rfl ?_
        refine reg_nil ?_
        cases hF
        exact post_cut _ rfl (imps [0] ⟨by kernel_rfl, by kernel_rfl, by kernel_rfl, trivial⟩ ⟨by kernel_rfl, trivial⟩)
      refine rgn hb1 (op_field_lp rfl rfl Tryd_fld_120_7 rfl rfl) ?_
      refine rgn hb1 (op_load_lp (v := .pv (.vs 23 (eLGStmt a0.fBody))) rfl rfl rfl rfl Tryd_one_114 rfl rfl) ?_
      refine rgn hb1 (op_len_vs (n := a0.fBody.length) rfl rfl (lenR eLGStmt_map) Tryd_slc_114 rfl rfl) ?_
      refine rgn hb1 (op_int (k := .i64) (m := (a0.fBody.length : Int)) (n := 500) rfl rfl rfl rfl rfl rfl) ?_
      refine rpf hb1 ?_
      refine rmv ?_
      rcases ite_some hF with ⟨hb2, hF⟩ | ⟨hb2, hF⟩
      · refine rgo_t hb2 ?_
        iterate 3 (refine rgo_t hb2 ?_)
        refine rpt hb2 ?_
        refine rmv ?_
        iterate 4 (refine rgo_t rfl ?_)
        refine rpt rfl ?_
        refine rmv ?_
        iterate 3 (refine rgo_t rfl ?_)
        refine rpt rfl ?_
        refine reg_nil ?_
        cases hF
        exact post_cut _ rfl (imps [0] ⟨by kernel_rfl, by kernel_rfl, by kernel_rfl, trivial⟩ ⟨by kernel_rfl, trivial⟩)
      refine rgn hb2 (op_field_lp rfl rfl Tryd_fld_120_8 rfl rfl) ?_
      refine rgn hb2 (op_load_lp (v := .pv (.vs 23 (eLGStmt a0.fElse))) rfl rfl rfl rfl Tryd_one_114 rfl rfl) ?_
      refine rgn hb2 (op_len_vs (n := a0.fElse.length) rfl rfl (lenR eLGStmt_map) Tryd_slc_114 rfl rfl) ?_
      refine rgn hb2 (op_int (k := .i64) (m := (a0.fElse.length : Int)) (n := 500) rfl rfl rfl rfl rfl rfl) ?_
      refine rpf hb2 ?_
      refine rmv ?_
      rcases ite_some hF with ⟨hb3, hF⟩ | ⟨hb3, hF⟩
      · refine rgo_t hb3 ?_
        iterate 3 (refine rgo_t hb3 ?_)
        refine rpt hb3 ?_
        refine rmv ?_
        iterate 3 (refine rgo_t rfl ?_)
        refine rpt rfl ?_
        refine reg_nil ?_
        cases hF
        exact post_cut _ rfl (imps [0] ⟨by kernel_rfl, by kernel_rfl, by kernel_rfl, trivial⟩ ⟨by kernel_rfl, trivial⟩)
      refine rgn hb3 (op_field_lp rfl rfl Tryd_fld_120_6 rfl rfl) ?_
      refine rgn hb3 (op_load_lp (v := .pv (.vs 4 (eLGExpr a0.fArgs))) rfl rfl rfl rfl Tryd_one_29 rfl rfl) ?_
      refine rgn hb3 (op_len_vs (n := a0.fArgs.length) rfl rfl (lenR eLGExpr_map) Tryd_slc_29 rfl rfl) ?_
      refine rgn hb3 (op_int (k := .i64) (m := (a0.fArgs.length : Int)) (n := 20) rfl rfl rfl rfl rfl rfl) ?_
      refine rpf hb3 ?_
      refine rmv ?_
      rcases ite_some hF with ⟨hb4, hF⟩ | ⟨hb4, hF⟩
      · refine rgo_t hb4 ?_
        iterate 2 (refine rgo_t hb4 ?_)
        refine rpt hb4 ?_
        refine reg_nil ?_
        cases hF
        exact post_cut _ rfl (imps [0] ⟨by kernel_rfl, by kernel_rfl, by kernel_rfl, trivial⟩ ⟨by kernel_rfl, trivial⟩)
      refine rgn hb4 (op_field_lp rfl rfl Tryd_fld_120_5 rfl rfl) ?_
      refine rgn hb4 (op_load_lp_agg (ps := eGExpr a0.fE) rfl rfl rfl rfl rfl rfl Tryd_agg_31 rfl rfl) ?_
      obtain ⟨y5, h6, hF⟩ := bind_some hF
      refine rgn hb4 (op_call 1 rfl (caps := []) (args := [.agg (eGExpr a0.fE), .int .i64 25]) (rs := [.p (.bool y5)]) rfl rfl rfl Tryd_cal_79 (ref10_kids_ok h6) rfl rfl rfl) ?_
      refine rpf hb4 ?_
      refine reg_nil ?_
      cases hF
      exact post_cut _ rfl (imps [0] ⟨by kernel_rfl, by kernel_rfl, by kernel_rfl, trivial⟩ ⟨by kernel_rfl, trivial⟩)
    rintro _ rfl
    have hF := hK9
    clear hK9
    refine post_next ?_
    rcases ite_some hF with ⟨hb10, hF⟩ | ⟨hb10, hF⟩
    · refine aw_cond_t rfl hb10 ?_
      refine aw_seq ?_
      refine aw_region ?_
      refine ras ?_
      refine reg_nil ?_
      refine post_imp (s' := ⟨76, [(4, some (.pv (.bool true)))], [], 0, [], [], 0, []⟩) (imps [] ⟨by kernel_rfl, trivial⟩ trivial) ?_
      refine post_next ?_
      refine aw_ret ?_
      refine post_then_ret ?_
      obtain rfl := Option.some.inj hF
      exact prt
    refine aw_cond_f rfl hb10 ?_
    refine aw_skip ?_
    refine post_next ?_
    iterate 2 (refine aw_seq ?_)
    refine aw_region ?_
    refine ras ?_
    refine reg_nil ?_
    refine post_imp (s' := ⟨76, [(1, some (.pv (.int .i64 a1))), (2, some (.lp 0 0)), (5, some (.pv (.int .i64 0)))], [(0, some (.box 120 (bxv (eGStmt a0))))], 1, [], [], 0, []⟩) (imps [0] ⟨by kernel_rfl, by kernel_rfl, by kernel_rfl, trivial⟩ ⟨by kernel_rfl, trivial⟩) ?_
    refine post_next ?_
    obtain ⟨lr44, hF, hK45⟩ := bind_some hF
    refine aw_for ((((a0.fArgs.length : Int) : Int) - (0)).toNat + 1) (fun s1 => ∃ q, lr44 = .next q ∧ s1 = ⟨76, [(1, some (.pv (.int .i64 a1))), (2, some (.lp 0 0))], [(0, some (.box 120 (bxv (eGStmt a0))))], 1, [], [], 0, []⟩) ?_ ?_
    · refine rnd_loop (α := Int) (fun q => ⟨76, [(1, some (.pv (.int .i64 a1))), (2, some (.lp 0 0)), (5, some (.pv (.int .i64 q)))], [(0, some (.box 120 (bxv (eGStmt a0))))], 1, [], [], 0, []⟩) (fun k q => ref10_much_L1 a0 k q = some lr44) 0 (imps [0] ⟨by kernel_rfl, by kernel_rfl, by kernel_rfl, trivial⟩ ⟨by kernel_rfl, trivial⟩) hF (fun q h => by cases h) ?_
      clear hF
      rintro k x21 hF ih
      refine rnd_succ ?_
      iterate 2 (refine aw_seq ?_)
      refine aw_region ?_
      refine rmv ?_
      refine rgp (op_field_lp rfl rfl Tryd_fld_120_6 rfl rfl) ?_
      refine rgp (op_load_lp (v := .pv (.vs 4 (eLGExpr a0.fArgs))) rfl rfl rfl rfl Tryd_one_29 rfl rfl) ?_
      refine rgp (op_len_vs (n := a0.fArgs.length) rfl rfl (lenR eLGExpr_map) Tryd_slc_29 rfl rfl) ?_
      refine rgp (op_int (k := .i64) (m := x21) (n := (a0.fArgs.length : Int)) rfl rfl rfl rfl rfl rfl) ?_
      refine reg_nil ?_
      refine post_imp (s' := ⟨76, [(1, some (.pv (.int .i64 a1))), (2, some (.lp 0 0)), (5, some (.pv (.int .i64 x21))), (37, some (.pv (.bool (decide (x21 < (a0.fArgs.length : Int))))))], [(0, some (.box 120 (bxv (eGStmt a0))))], 1, [], [], 0, []⟩) (imps [0] ⟨by kernel_rfl, by kernel_rfl, by kernel_rfl, by kernel_rfl, trivial⟩ ⟨by kernel_rfl, trivial⟩) ?_
      refine post_next ?_
      rcases ite_some hF with ⟨hb33, hF⟩ | ⟨hb33, hF⟩
      · refine aw_cond_t rfl hb33 ?_
        refine aw_skip ?_
        refine post_next ?_
        refine aw_seq ?_
        refine aw_block ?_
        refine aw_seq ?_
        refine aw_region ?_
        refine rgp (op_field_lp rfl rfl Tryd_fld_120_6 rfl rfl) ?_
        refine rgp (op_load_lp (v := .pv (.vs 4 (eLGExpr a0.fArgs))) rfl rfl rfl rfl Tryd_one_29 rfl rfl) ?_
        refine rmv ?_
        obtain ⟨y38, h39, hF⟩ := bind_some hF
        refine rgp (op_index_vs (k := .i64) rfl rfl rfl (idxR eLGExpr_map h39) Tryd_slc_29 rfl rfl) ?_
        refine rgp (op_load_vp_agg (ps := eGExpr y38) rfl rfl rfl rfl Tryd_agg_31 rfl rfl) ?_
        obtain ⟨y40, h41, hF⟩ := bind_some hF
        refine rgp (op_call 1 rfl (caps := []) (args := [.agg (eGExpr y38), .int .i64 25]) (rs := [.p (.bool y40)]) rfl rfl rfl Tryd_cal_79 (ref10_kids_ok h41) rfl rfl rfl) ?_
        refine reg_nil ?_
        refine post_imp (s' := ⟨76, [(1, some (.pv (.int .i64 a1))), (2, some (.lp 0 0)), (5, some (.pv (.int .i64 x21))), (45, some (.pv (.bool y40)))], [(0, some (.box 120 (bxv (eGStmt a0))))], 1, [], [], 0, []⟩) (imps [0] ⟨by kernel_rfl, by kernel_rfl, by kernel_rfl, by kernel_rfl, trivial⟩ ⟨by kernel_rfl, trivial⟩) ?_
        refine post_next ?_
        rcases ite_some hF with ⟨hb42, hF⟩ | ⟨hb42, hF⟩
        · refine aw_cond_t rfl hb42 ?_
          refine aw_seq ?_
          refine aw_region ?_
          refine ras ?_
          refine reg_nil ?_
          refine post_imp (s' := ⟨76, [(4, some (.pv (.bool true)))], [], 0, [], [], 0, []⟩) (imps [] ⟨by kernel_rfl, trivial⟩ trivial) ?_
          refine post_next ?_
          refine aw_ret ?_
          refine post_block_ret ?_
          iterate 2 (refine post_then_ret ?_)
          refine post_lp_ret ?_
          obtain rfl := Option.some.inj hF
          have hF := elim_stop hK45
          refine post_then_ret ?_
          obtain rfl := Option.some.inj hF
          exact prt
        refine aw_cond_f rfl hb42 ?_
        refine aw_skip ?_
        refine post_block_normal ?_
        refine post_next ?_
        refine aw_region ?_
        refine rmv ?_
        refine rgp (op_int (k := .i64) (m := x21) (n := 1) rfl rfl rfl rfl rfl rfl) ?_
        refine ras ?_
        refine reg_nil ?_
        refine post_round ?_
        exact rnd_back (ih (w_i64 (x21 + 1)) hF) (imps [0] ⟨by kernel_rfl, by kernel_rfl, by kernel_rfl, trivial⟩ ⟨by kernel_rfl, trivial⟩)
      refine aw_cond_f rfl hb33 ?_
      refine aw_exit ?_
      iterate 2 (refine post_then_exit ?_)
      obtain rfl := Option.some.inj hF
      exact post_lp_break _ ⟨_, rfl, rfl⟩ (imps [0] ⟨by kernel_rfl, by kernel_rfl, trivial⟩ ⟨by kernel_rfl, trivial⟩)
    rintro _ ⟨⟨⟩, rfl, rfl⟩
    have hF := elim_next hK45
    clear hK45
    refine post_next ?_
    iterate 2 (refine aw_seq ?_)
    refine aw_region ?_
    refine ras ?_
    refine reg_nil ?_
    refine post_imp (s' := ⟨76, [(1, some (.pv (.int .i64 a1))), (2, some (.lp 0 0)), (6, some (.pv (.int .i64 0)))], [(0, some (.box 120 (bxv (eGStmt a0))))], 1, [], [], 0, []⟩) (imps [0] ⟨by kernel_rfl, by kernel_rfl, by kernel_rfl, trivial⟩ ⟨by kernel_rfl, trivial⟩) ?_
    refine post_next ?_
    obtain ⟨lr79, hF, hK80⟩ := bind_some hF
    refine aw_for ((((a0.fBody.length : Int) : Int) - (0)).toNat + 1) (fun s1 => ∃ q, lr79 = .next q ∧ s1 = ⟨76, [(1, some (.pv (.int .i64 a1))), (2, some (.lp 0 0))], [(0, some (.box 120 (bxv (eGStmt a0))))], 1, [], [], 0, []⟩) ?_ ?_
    · refine rnd_loop (α := Int) (fun q => ⟨76, [(1, some (.pv (.int .i64 a1))), (2, some (.lp 0 0)), (6, some (.pv (.int .i64 q)))], [(0, some (.box 120 (bxv (eGStmt a0))))], 1, [], [], 0, []⟩) (fun k q => ref10_much_L2 a0 a1 ref10_much_rec k q = some lr79) 0 (imps [0] ⟨by kernel_rfl, by kernel_rfl, by kernel_rfl, trivial⟩ ⟨by kernel_rfl, trivial⟩) hF (fun q h => by cases h) ?_
      clear hF
      rintro k x56 hF ih
      refine rnd_succ ?_
      iterate 2 (refine aw_seq ?_)
      refine aw_region ?_
      refine rmv ?_
      refine rgp (op_field_lp rfl rfl Tryd_fld_120_7 rfl rfl) ?_
      refine rgp (op_load_lp (v := .pv (.vs 23 (eLGStmt a0.fBody))) rfl rfl rfl rfl Tryd_one_114 rfl rfl) ?_
      refine rgp (op_len_vs (n := a0.fBody.length) rfl rfl (lenR eLGStmt_map) Tryd_slc_114 rfl rfl) ?_
      refine rgp (op_int (k := .i64) (m := x56) (n := (a0.fBody.length : Int)) rfl rfl rfl rfl rfl rfl) ?_
      refine reg_nil ?_
      refine post_imp (s' := ⟨76, [(1, some (.pv (.int .i64 a1))), (2, some (.lp 0 0)), (6, some (.pv (.int .i64 x56))), (50, some (.pv (.bool (decide (x56 < (a0.fBody.length : Int))))))], [(0, some (.box 120 (bxv (eGStmt a0))))], 1, [], [], 0, []⟩) (imps [0] ⟨by kernel_rfl, by kernel_rfl, by kernel_rfl, by kernel_rfl, trivial⟩ ⟨by kernel_rfl, trivial⟩) ?_
      refine post_next ?_
      rcases ite_some hF with ⟨hb68, hF⟩ | ⟨hb68, hF⟩
      · refine aw_cond_t rfl hb68 ?_
        refine aw_skip ?_
        refine post_next ?_
        refine aw_seq ?_
        refine aw_block ?_
        refine aw_seq ?_
        refine aw_region ?_
        refine rgp (op_field_lp rfl rfl Tryd_fld_120_7 rfl rfl) ?_
        refine rgp (op_load_lp (v := .pv (.vs 23 (eLGStmt a0.fBody))) rfl rfl rfl rfl Tryd_one_114 rfl rfl) ?_
        refine rmv ?_
        obtain ⟨y73, h74, hF⟩ := bind_some hF
        refine rgp (op_index_vs (k := .i64) rfl rfl rfl (idxR eLGStmt_map h74) Tryd_slc_114 rfl rfl) ?_
        refine rgp (op_load_vp_agg (ps := eGStmt y73) rfl rfl rfl rfl Tryd_agg_120 rfl rfl) ?_
        refine rmv ?_
        refine rgp (op_int (k := .i64) (m := a1) (n := 1) rfl rfl rfl rfl rfl rfl) ?_
        obtain ⟨y75, h76, hF⟩ := bind_some hF
        refine rgp (op_call 1 rfl (caps := []) (args := [.agg (eGStmt y73), .int .i64 (w_i64 (a1 - 1))]) (rs := [.p (.bool y75)]) rfl rfl rfl Tryd_cal_53 (ref10_much_ih _ _ _ h76) rfl rfl rfl) ?_
        refine reg_nil ?_
        refine post_imp (s' := ⟨76, [(1, some (.pv (.int .i64 a1))), (2, some (.lp 0 0)), (6, some (.pv (.int .i64 x56))), (60, some (.pv (.bool y75)))], [(0, some (.box 120 (bxv (eGStmt a0))))], 1, [], [], 0, []⟩) (imps [0] ⟨by kernel_rfl, by kernel_rfl, by kernel_rfl, by kernel_rfl, trivial⟩ ⟨by kernel_rfl, trivial⟩) ?_
        refine post_next ?_
        rcases ite_some hF with ⟨hb77, hF⟩ | ⟨hb77, hF⟩
        · refine aw_cond_t rfl hb77 ?_
          refine aw_seq ?_
          refine aw_region ?_
          refine ras ?_
          refine reg_nil ?_
          refine post_imp (s' := ⟨76, [(4, some (.pv (.bool true)))], [], 0, [], [], 0, []⟩) (imps [] ⟨by kernel_rfl, trivial⟩ trivial) ?_
          refine post_next ?_
          refine aw_ret ?_
          refine post_block_ret ?_
          iterate 2 (refine post_then_ret ?_)
          refine post_lp_ret ?_
          obtain rfl := Option.some.inj hF
          have hF := elim_stop hK80
          refine post_then_ret ?_
          obtain rfl := Option.some.inj hF
          exact prt
        refine aw_cond_f rfl hb77 ?_
        refine aw_skip ?_
        refine post_block_normal ?_
        refine post_next ?_
        refine aw_region ?_
        refine rmv ?_
        refine rgp (op_int (k := .i64) (m := x56) (n := 1) rfl rfl rfl rfl rfl rfl) ?_
        refine ras ?_
        refine reg_nil ?_
        refine post_round ?_
        exact rnd_back (ih (w_i64 (x56 + 1)) hF) (imps [0] ⟨by kernel_rfl, by kernel_rfl, by kernel_rfl, trivial⟩ ⟨by kernel_rfl, trivial⟩)
      refine aw_cond_f rfl hb68 ?_
      refine aw_exit ?_
      iterate 2 (refine post_then_exit ?_)
      obtain rfl := Option.some.inj hF
      exact post_lp_break _ ⟨_, rfl, rfl⟩ (imps [0] ⟨by kernel_rfl, by kernel_rfl, trivial⟩ ⟨by kernel_rfl, trivial⟩)
    rintro _ ⟨⟨⟩, rfl, rfl⟩
    have hF := elim_next hK80
    clear hK80
    refine post_next ?_
    iterate 2 (refine aw_seq ?_)
    refine aw_region ?_
    refine ras ?_
    refine reg_nil ?_
    refine post_imp (s' := ⟨76, [(1, some (.pv (.int .i64 a1))), (2, some (.lp 0 0)), (7, some (.pv (.int .i64 0)))], [(0, some (.box 120 (bxv (eGStmt a0))))], 1, [], [], 0, []⟩) (imps [0] ⟨by kernel_rfl, by kernel_rfl, by kernel_rfl, trivial⟩ ⟨by kernel_rfl, trivial⟩) ?_
    refine post_next ?_
    obtain ⟨lr114, hF, hK115⟩ := bind_some hF
    refine aw_for ((((a0.fElse.length : Int) : Int) - (0)).toNat + 1) (fun s1 => ∃ q, lr114 = .next q ∧ s1 = ⟨76, [], [], 0, [], [], 0, []⟩) ?_ ?_
    · refine rnd_loop (α := Int) (fun q => ⟨76, [(1, some (.pv (.int .i64 a1))), (2, some (.lp 0 0)), (7, some (.pv (.int .i64 q)))], [(0, some (.box 120 (bxv (eGStmt a0))))], 1, [], [], 0, []⟩) (fun k q => ref10_much_L3 a0 a1 ref10_much_rec k q = some lr114) 0 (imps [0] ⟨by kernel_rfl, by kernel_rfl, by kernel_rfl, trivial⟩ ⟨by kernel_rfl, trivial⟩) hF (fun q h => by cases h) ?_
      clear hF
      rintro k x91 hF ih
      refine rnd_succ ?_
      iterate 2 (refine aw_seq ?_)
      refine aw_region ?_
      refine rmv ?_
      refine rgp (op_field_lp rfl rfl Tryd_fld_120_8 rfl rfl) ?_
      refine rgp (op_load_lp (v := .pv (.vs 23 (eLGStmt a0.fElse))) rfl rfl rfl rfl Tryd_one_114 rfl rfl) ?_
      refine rgp (op_len_vs (n := a0.fElse.length) rfl rfl (lenR eLGStmt_map) Tryd_slc_114 rfl rfl) ?_
      refine rgp (op_int (k := .i64) (m := x91) (n := (a0.fElse.length : Int)) rfl rfl rfl rfl rfl rfl) ?_
      refine reg_nil ?_
      refine post_imp (s' := ⟨76, [(1, some (.pv (.int .i64 a1))), (2, some (.lp 0 0)), (7, some (.pv (.int .i64 x91))), (65, some (.pv (.bool (decide (x91 < (a0.fElse.length : Int))))))], [(0, some (.box 120 (bxv (eGStmt a0))))], 1, [], [], 0, []⟩) (imps [0] ⟨by kernel_rfl, by kernel_rfl, by kernel_rfl, by kernel_rfl, trivial⟩ ⟨by kernel_rfl, trivial⟩) ?_
      refine post_next ?_
      rcases ite_some hF with ⟨hb103, hF⟩ | ⟨hb103, hF⟩
      · refine aw_cond_t rfl hb103 ?_
        refine aw_skip ?_
        refine post_next ?_
        refine aw_seq ?_
        refine aw_block ?_
        refine aw_seq ?_
        refine aw_region ?_
        refine rgp (op_field_lp rfl rfl Tryd_fld_120_8 rfl rfl) ?_
        refine rgp (op_load_lp (v := .pv (.vs 23 (eLGStmt a0.fElse))) rfl rfl rfl rfl Tryd_one_114 rfl rfl) ?_
        refine rmv ?_
        obtain ⟨y108, h109, hF⟩ := bind_some hF
        refine rgp (op_index_vs (k := .i64) rfl rfl rfl (idxR eLGStmt_map h109) Tryd_slc_114 rfl rfl) ?_
        refine rgp (op_load_vp_agg (ps := eGStmt y108) rfl rfl rfl rfl Tryd_agg_120 rfl rfl) ?_
        refine rmv ?_
        refine rgp (op_int (k := .i64) (m := a1) (n := 1) rfl rfl rfl rfl rfl rfl) ?_
        obtain ⟨y110, h111, hF⟩ := bind_some hF
        refine rgp (op_call 1 rfl (caps := []) (args := [.agg (eGStmt y108), .int .i64 (w_i64 (a1 - 1))]) (rs := [.p (.bool y110)]) rfl rfl rfl Tryd_cal_53 (ref10_much_ih _ _ _ h111) rfl rfl rfl) ?_
        refine reg_nil ?_
        refine post_imp (s' := ⟨76, [(1, some (.pv (.int .i64 a1))), (2, some (.lp 0 0)), (7, some (.pv (.int .i64 x91))), (75, some (.pv (.bool y110)))], [(0, some (.box 120 (bxv (eGStmt a0))))], 1, [], [], 0, []⟩) (imps [0] ⟨by kernel_rfl, by kernel_rfl, by kernel_rfl, by kernel_rfl, trivial⟩ ⟨by kernel_rfl, trivial⟩) ?_
        refine post_next ?_
        rcases ite_some hF with ⟨hb112, hF⟩ | ⟨hb112, hF⟩
        · refine aw_cond_t rfl hb112 ?_
          refine aw_seq ?_
          refine aw_region ?_
          refine ras ?_
          refine reg_nil ?_
          refine post_imp (s' := ⟨76, [(4, some (.pv (.bool true)))], [], 0, [], [], 0, []⟩) (imps [] ⟨by kernel_rfl, trivial⟩ trivial) ?_
          refine post_next ?_
          refine aw_ret ?_
          refine post_block_ret ?_
          iterate 2 (refine post_then_ret ?_)
          refine post_lp_ret ?_
          obtain rfl := Option.some.inj hF
          have hF := elim_stop hK115
          refine post_then_ret ?_
          obtain rfl := Option.some.inj hF
          exact prt
        refine aw_cond_f rfl hb112 ?_
        refine aw_skip ?_
        refine post_block_normal ?_
        refine post_next ?_
        refine aw_region ?_
        refine rmv ?_
        refine rgp (op_int (k := .i64) (m := x91) (n := 1) rfl rfl rfl rfl rfl rfl) ?_
        refine ras ?_
        refine reg_nil ?_
        refine post_round ?_
        exact rnd_back (ih (w_i64 (x91 + 1)) hF) (imps [0] ⟨by kernel_rfl, by kernel_rfl, by kernel_rfl, trivial⟩ ⟨by kernel_rfl, trivial⟩)
      refine aw_cond_f rfl hb103 ?_
      refine aw_exit ?_
      iterate 2 (refine post_then_exit ?_)
      obtain rfl := Option.some.inj hF
      exact post_lp_break _ ⟨_, rfl, rfl⟩ (imps [] trivial trivial)
    rintro _ ⟨⟨⟩, rfl, rfl⟩
    have hF := elim_next hK115
    clear hK115
    refine post_next ?_
    refine aw_seq ?_
    refine aw_region ?_
    refine ras ?_
    refine reg_nil ?_
    refine post_imp (s' := ⟨76, [(4, some (.pv (.bool false)))], [], 0, [], [], 0, []⟩) (imps [] ⟨by kernel_rfl, trivial⟩ trivial) ?_
    refine post_next ?_
    refine aw_ret ?_
    obtain rfl := Option.some.inj hF
    exact prt
theorem ref10_much_ok {n : Nat} {a0 : GStmt} {a1 : Int} {r : Bool} (hF : ref10_much n a0 a1 = some r) : Abs.Fn globs_Tryd Tryd.prog 53 [.agg (eGStmt a0), .int .i64 a1] [.p (.bool r)] := (ref10_much_ring n) _ _ _ hF

theorem ref08_Size_ring : ∀ n : Nat, (∀ (a0 : GStmt) (r : Int), ref08_Size n a0 = some r → Abs.Fn globs_Tryd Tryd.prog 54 [.agg (eGStmt a0)] [.p (.int .i64 r)]) := by
  intro n
  induction n with
  | zero => exact (fun _ _ h => by simp [ref08_Size] at h)
  | succ n ih =>
    have ref08_Size_ih := ih
    clear ih
    intro a0 r hF
    unfold ref08_Size at hF
    revert hF ref08_Size_ih
    generalize ref08_Size n = ref08_Size_rec
    intro ref08_Size_ih hF
    refine fn_of_body (n := 37) Tryd.func54 rfl rfl rfl ?_
    intro w O
    refine aw_seq ?_
    refine aw_region ?_
    refine rgp (op_box 0 rfl rfl rfl rfl rfl rfl) ?_
    refine ras ?_
    refine reg_nil ?_
    refine post_imp (s' := ⟨37, [(1, some (.lp 0 0))], [(0, some (.box 120 (bxv (eGStmt a0))))], 1, [], [], 0, []⟩) (imps [0] ⟨by kernel_rfl, trivial⟩ ⟨by kernel_rfl, trivial⟩) ?_
    refine post_next ?_
    refine aw_seq ?_
    refine aw_region ?_
    refine ras ?_
    refine reg_nil ?_
    refine post_imp (s' := ⟨37, [(1, some (.lp 0 0)), (3, some (.pv (.int .i64 1)))], [(0, some (.box 120 (bxv (eGStmt a0))))], 1, [], [], 0, []⟩) (imps [0] ⟨by kernel_rfl, by kernel_rfl, trivial⟩ ⟨by kernel_rfl, trivial⟩) ?_
    refine post_next ?_
    iterate 2 (refine aw_seq ?_)
    refine aw_region ?_
    refine ras ?_
    refine reg_nil ?_
    refine post_imp (s' := ⟨37, [(1, some (.lp 0 0)), (3, some (.pv (.int .i64 1))), (4, some (.pv (.int .i64 0)))], [(0, some (.box 120 (bxv (eGStmt a0))))], 1, [], [], 0, []⟩) (imps [0] ⟨by kernel_rfl, by kernel_rfl, by kernel_rfl, trivial⟩ ⟨by kernel_rfl, trivial⟩) ?_
    refine post_next ?_
    obtain ⟨x34, hF, hK35⟩ := bind_some hF
    refine aw_for ((((a0.fBody.length : Int) : Int) - (0)).toNat + 1) (fun s1 => s1 = ⟨37, [(1, some (.lp 0 0)), (3, some (.pv (.int .i64 x34)))], [(0, some (.box 120 (bxv (eGStmt a0))))], 1, [], [], 0, []⟩) ?_ ?_
    · refine rnd_loop (α := Int × Int) (fun q => ⟨37, [(1, some (.lp 0 0)), (3, some (.pv (.int .i64 q.1))), (4, some (.pv (.int .i64 q.2)))], [(0, some (.box 120 (bxv (eGStmt a0))))], 1, [], [], 0, []⟩) (fun k q => ref08_Size_L1 a0 ref08_Size_rec k q.1 q.2 = some x34) (1, 0) (imps [0] ⟨by kernel_rfl, by kernel_rfl, by kernel_rfl, trivial⟩ ⟨by kernel_rfl, trivial⟩) hF (fun q h => by cases h) ?_
      clear hF
      rintro k ⟨x10, x11⟩ hF ih
      refine rnd_succ ?_
      iterate 2 (refine aw_seq ?_)
      refine aw_region ?_
      refine rmv ?_
      refine rgp (op_field_lp rfl rfl Tryd_fld_120_7 rfl rfl) ?_
      refine rgp (op_load_lp (v := .pv (.vs 23 (eLGStmt a0.fBody))) rfl rfl rfl rfl Tryd_one_114 rfl rfl) ?_
      refine rgp (op_len_vs (n := a0.fBody.length) rfl rfl (lenR eLGStmt_map) Tryd_slc_114 rfl rfl) ?_
      refine rgp (op_int (k := .i64) (m := x11) (n := (a0.fBody.length : Int)) rfl rfl rfl rfl rfl rfl) ?_
      refine reg_nil ?_
      refine post_imp (s' := ⟨37, [(1, some (.lp 0 0)), (3, some (.pv (.int .i64 x10))), (4, some (.pv (.int .i64 x11))), (10, some (.pv (.bool (decide (x11 < (a0.fBody.length : Int))))))], [(0, some (.box 120 (bxv (eGStmt a0))))], 1, [], [], 0, []⟩) (imps [0] ⟨by kernel_rfl, by kernel_rfl, by kernel_rfl, by kernel_rfl, trivial⟩ ⟨by kernel_rfl, trivial⟩) ?_
      refine post_next ?_
      rcases ite_some hF with ⟨hb23, hF⟩ | ⟨hb23, hF⟩
      · refine aw_cond_t rfl hb23 ?_
        refine aw_skip ?_
        refine post_next ?_
        refine aw_seq ?_
        refine aw_block ?_
        refine aw_region ?_
        refine rmv ?_
        refine rgp (op_field_lp rfl rfl Tryd_fld_120_7 rfl rfl) ?_
        refine rgp (op_load_lp (v := .pv (.vs 23 (eLGStmt a0.fBody))) rfl rfl rfl rfl Tryd_one_114 rfl rfl) ?_
        refine rmv ?_
        obtain ⟨y28, h29, hF⟩ := bind_some hF
        refine rgp (op_index_vs (k := .i64) rfl rfl rfl (idxR eLGStmt_map h29) Tryd_slc_114 rfl rfl) ?_
        refine rgp (op_load_vp_agg (ps := eGStmt y28) rfl rfl rfl rfl Tryd_agg_120 rfl rfl) ?_
        obtain ⟨y30, h31, hF⟩ := bind_some hF
        refine rgp (op_call 1 rfl (caps := []) (args := [.agg (eGStmt y28)]) (rs := [.p (.int .i64 y30)]) rfl rfl rfl Tryd_cal_54 (ref08_Size_ih _ _ h31) rfl rfl rfl) ?_
        refine rgp (op_int (k := .i64) (m := x10) (n := y30) rfl rfl rfl rfl rfl rfl) ?_
        refine ras ?_
        refine reg_nil ?_
        refine post_imp (s' := ⟨37, [(1, some (.lp 0 0)), (3, some (.pv (.int .i64 (w_i64 (x10 + y30))))), (4, some (.pv (.int .i64 x11)))], [(0, some (.box 120 (bxv (eGStmt a0))))], 1, [], [], 0, []⟩) (imps [0] ⟨by kernel_rfl, by kernel_rfl, by kernel_rfl, trivial⟩ ⟨by kernel_rfl, trivial⟩) ?_
        refine post_block_normal ?_
        refine post_next ?_
        refine aw_region ?_
        refine rmv ?_
        refine rgp (op_int (k := .i64) (m := x11) (n := 1) rfl rfl rfl rfl rfl rfl) ?_
        refine ras ?_
        refine reg_nil ?_
        refine post_round ?_
        exact rnd_back (ih (w_i64 (x10 + y30), w_i64 (x11 + 1)) hF) (imps [0] ⟨by kernel_rfl, by kernel_rfl, by kernel_rfl, trivial⟩ ⟨by kernel_rfl, trivial⟩)
      refine aw_cond_f rfl hb23 ?_
      refine aw_exit ?_
      iterate 2 (refine post_then_exit ?_)
      obtain rfl := Option.some.inj hF
      exact post_lp_break _ rfl (imps [0] ⟨by kernel_rfl, by kernel_rfl, trivial⟩ ⟨by kernel_rfl, trivial⟩)
    rintro _ rfl
    have hF := hK35
    clear hK35
    refine post_next ?_
    iterate 2 (refine aw_seq ?_)
    refine aw_region ?_
    refine ras ?_
    refine reg_nil ?_
    refine post_imp (s' := ⟨37, [(1, some (.lp 0 0)), (3, some (.pv (.int .i64 x34))), (5, some (.pv (.int .i64 0)))], [(0, some (.box 120 (bxv (eGStmt a0))))], 1, [], [], 0, []⟩) (imps [0] ⟨by kernel_rfl, by kernel_rfl, by kernel_rfl, trivial⟩ ⟨by kernel_rfl, trivial⟩) ?_
    refine post_next ?_
    obtain ⟨x69, hF, hK70⟩ := bind_some hF
    refine aw_for ((((a0.fElse.length : Int) : Int) - (0)).toNat + 1) (fun s1 => s1 = ⟨37, [(3, some (.pv (.int .i64 x69)))], [], 0, [], [], 0, []⟩) ?_ ?_
    · refine rnd_loop (α := Int × Int) (fun q => ⟨37, [(1, some (.lp 0 0)), (3, some (.pv (.int .i64 q.1))), (5, some (.pv (.int .i64 q.2)))], [(0, some (.box 120 (bxv (eGStmt a0))))], 1, [], [], 0, []⟩) (fun k q => ref08_Size_L2 a0 ref08_Size_rec k q.1 q.2 = some x69) (x34, 0) (imps [0] ⟨by kernel_rfl, by kernel_rfl, by kernel_rfl, trivial⟩ ⟨by kernel_rfl, trivial⟩) hF (fun q h => by cases h) ?_
      clear hF
      rintro k ⟨x45, x46⟩ hF ih
      refine rnd_succ ?_
      iterate 2 (refine aw_seq ?_)
      refine aw_region ?_
      refine rmv ?_
      refine rgp (op_field_lp rfl rfl Tryd_fld_120_8 rfl rfl) ?_
      refine rgp (op_load_lp (v := .pv (.vs 23 (eLGStmt a0.fElse))) rfl rfl rfl rfl Tryd_one_114 rfl rfl) ?_
      refine rgp (op_len_vs (n := a0.fElse.length) rfl rfl (lenR eLGStmt_map) Tryd_slc_114 rfl rfl) ?_
      refine rgp (op_int (k := .i64) (m := x46) (n := (a0.fElse.length : Int)) rfl rfl rfl rfl rfl rfl) ?_
      refine reg_nil ?_
      refine post_imp (s' := ⟨37, [(1, some (.lp 0 0)), (3, some (.pv (.int .i64 x45))), (5, some (.pv (.int .i64 x46))), (25, some (.pv (.bool (decide (x46 < (a0.fElse.length : Int))))))], [(0, some (.box 120 (bxv (eGStmt a0))))], 1, [], [], 0, []⟩) (imps [0] ⟨by kernel_rfl, by kernel_rfl, by kernel_rfl, by kernel_rfl, trivial⟩ ⟨by kernel_rfl, trivial⟩) ?_
      refine post_next ?_
      rcases ite_some hF with ⟨hb58, hF⟩ | ⟨hb58, hF⟩
      · refine aw_cond_t rfl hb58 ?_
        refine aw_skip ?_
        refine post_next ?_
        refine aw_seq ?_
        refine aw_block ?_
        refine aw_region ?_
        refine rmv ?_
        refine rgp (op_field_lp rfl rfl Tryd_fld_120_8 rfl rfl) ?_
        refine rgp (op_load_lp (v := .pv (.vs 23 (eLGStmt a0.fElse))) rfl rfl rfl rfl Tryd_one_114 rfl rfl) ?_
        refine rmv ?_
        obtain ⟨y63, h64, hF⟩ := bind_some hF
        refine rgp (op_index_vs (k := .i64) rfl rfl rfl (idxR eLGStmt_map h64) Tryd_slc_114 rfl rfl) ?_
        refine rgp (op_load_vp_agg (ps := eGStmt y63) rfl rfl rfl rfl Tryd_agg_120 rfl rfl) ?_
        obtain ⟨y65, h66, hF⟩ := bind_some hF
        refine rgp (op_call 1 rfl (caps := []) (args := [.agg (eGStmt y63)]) (rs := [.p (.int .i64 y65)]) rfl rfl rfl Tryd_cal_54 (ref08_Size_ih _ _ h66) rfl rfl rfl) ?_
        refine rgp (op_int (k := .i64) (m := x45) (n := y65) rfl rfl rfl rfl rfl rfl) ?_
        refine ras ?_
        refine reg_nil ?_
        refine post_imp (s' := ⟨37, [(1, some (.lp 0 0)), (3, some (.pv (.int .i64 (w_i64 (x45 + y65))))), (5, some (.pv (.int .i64 x46)))], [(0, some (.box 120 (bxv (eGStmt a0))))], 1, [], [], 0, []⟩) (imps [0] ⟨by kernel_rfl, by kernel_rfl, by kernel_rfl, trivial⟩ ⟨by kernel_rfl, trivial⟩) ?_
        refine post_block_normal ?_
        refine post_next ?_
        refine aw_region ?_
        refine rmv ?_
        refine rgp (op_int (k := .i64) (m := x46) (n := 1) rfl rfl rfl rfl rfl rfl) ?_
        refine ras ?_
        refine reg_nil ?_
        refine post_round ?_
        exact rnd_back (ih (w_i64 (x45 + y65), w_i64 (x46 + 1)) hF) (imps [0] ⟨by kernel_rfl, by kernel_rfl, by kernel_rfl, trivial⟩ ⟨by kernel_rfl, trivial⟩)
      refine aw_cond_f rfl hb58 ?_
      refine aw_exit ?_
      iterate 2 (refine post_then_exit ?_)
      obtain rfl := Option.some.inj hF
      exact post_lp_break _ rfl (imps [] ⟨by kernel_rfl, trivial⟩ trivial)
    rintro _ rfl
    have hF := hK70
    clear hK70
    refine post_next ?_
    refine aw_seq ?_
    refine aw_region ?_
    refine rmv ?_
    refine ras ?_
    refine reg_nil ?_
    refine post_imp (s' := ⟨37, [(2, some (.pv (.int .i64 x69)))], [], 0, [], [], 0, []⟩) (imps [] ⟨by kernel_rfl, trivial⟩ trivial) ?_
    refine post_next ?_
    refine aw_ret ?_
    obtain rfl := Option.some.inj hF
    exact prt
theorem ref08_Size_ok {n : Nat} {a0 : GStmt} {r : Int} (hF : ref08_Size n a0 = some r) : Abs.Fn globs_Tryd Tryd.prog 54 [.agg (eGStmt a0)] [.p (.int .i64 r)] := (ref08_Size_ring n) _ _ hF

theorem ref10_Heavy_ok {a0 : List GClass} {r : Bool} (hF : ref10_Heavy a0 = some r) : Abs.Fn globs_Tryd Tryd.prog 28 [.vs 7 (List.map eGClass a0)] [.p (.bool r)] := by
  unfold ref10_Heavy at hF
  refine fn_of_body (n := 106) Tryd.func28 rfl rfl rfl ?_
  intro w O
  refine aw_seq ?_
  refine aw_region ?_
  refine ras ?_
  refine reg_nil ?_
  refine post_imp (s' := ⟨106, [(0, some (.pv (.vs 7 (List.map eGClass a0))))], [], 0, [], [], 0, []⟩) (imps [] ⟨by kernel_rfl, trivial⟩ trivial) ?_
  refine post_next ?_
  refine aw_seq ?_
  refine aw_region ?_
  refine ras ?_
  refine reg_nil ?_
  refine post_imp (s' := ⟨106, [(0, some (.pv (.vs 7 (List.map eGClass a0)))), (3, some (.pv (.int .i64 0)))], [], 0, [], [], 0, []⟩) (imps [] ⟨by kernel_rfl, by kernel_rfl, trivial⟩ trivial) ?_
  refine post_next ?_
  iterate 2 (refine aw_seq ?_)
  refine aw_region ?_
  refine ras ?_
  refine reg_nil ?_
  refine post_imp (s' := ⟨106, [(0, some (.pv (.vs 7 (List.map eGClass a0)))), (3, some (.pv (.int .i64 0))), (4, some (.pv (.int .i64 0)))], [], 0, [], [], 0, []⟩) (imps [] ⟨by kernel_rfl, by kernel_rfl, by kernel_rfl, trivial⟩ trivial) ?_
  refine post_next ?_
  obtain ⟨lr767, hF, hK768⟩ := bind_some hF
  refine aw_for ((((a0.length : Int) : Int) - (0)).toNat + 1) (fun s1 => ∃ q, lr767 = .next q ∧ s1 = ⟨106, [(3, some (.pv (.int .i64 q)))], [], 0, [], [], 0, []⟩) ?_ ?_
  · refine rnd_loop (α := Int × Int) (fun q => ⟨106, [(0, some (.pv (.vs 7 (List.map eGClass a0)))), (3, some (.pv (.int .i64 q.1))), (4, some (.pv (.int .i64 q.2)))], [], 0, [], [], 0, []⟩) (fun k q => ref10_Heavy_L1 a0 k q.1 q.2 = some lr767) (0, 0) (imps [] ⟨by kernel_rfl, by kernel_rfl, by kernel_rfl, trivial⟩ trivial) hF (fun q h => by cases h) ?_
    clear hF
    rintro k ⟨x254, x255⟩ hF ih
    refine rnd_succ ?_
    iterate 2 (refine aw_seq ?_)
    refine aw_region ?_
    iterate 2 (refine rmv ?_)
    refine rgp (op_len_vs (n := a0.length) rfl rfl (List.length_map ..) Tryd_slc_22 rfl rfl) ?_
    refine rgp (op_int (k := .i64) (m := x255) (n := (a0.length : Int)) rfl rfl rfl rfl rfl rfl) ?_
    refine reg_nil ?_
    refine post_imp (s' := ⟨106, [(0, some (.pv (.vs 7 (List.map eGClass a0)))), (3, some (.pv (.int .i64 x254))), (4, some (.pv (.int .i64 x255))), (12, some (.pv (.bool (decide (x255 < (a0.length : Int))))))], [], 0, [], [], 0, []⟩) (imps [] ⟨by kernel_rfl, by kernel_rfl, by kernel_rfl, by kernel_rfl, trivial⟩ trivial) ?_
    refine post_next ?_
    rcases ite_some hF with ⟨hb511, hF⟩ | ⟨hb511, hF⟩
    · refine aw_cond_t rfl hb511 ?_
      refine aw_skip ?_
      refine post_next ?_
      refine aw_seq ?_
      refine aw_block ?_
      refine aw_seq ?_
      refine aw_region ?_
      iterate 2 (refine rmv ?_)
      obtain ⟨y514, h515, hF⟩ := bind_some hF
      refine rgp (op_index_vs (k := .i64) rfl rfl rfl (idx_map eGClass h515) Tryd_slc_22 rfl rfl) ?_
      refine rgp (op_load_vp_agg (ps := eGClass y514) rfl rfl rfl rfl Tryd_agg_108 rfl rfl) ?_
      refine rgp (op_alloc 0 rfl (ps := (eGClass zGClass)) rfl Tryd_zer_108 (by exact ⟨rfl, trivial, rfl, trivial, trivial, trivial, rfl, trivial⟩) rfl rfl) ?_
      refine rgp (op_store_lp (n := 7) rfl rfl rfl rfl rfl (or_agg Tryd_agg_108) (by rw [Tryd_non_108]; rfl) rfl rfl rfl) ?_
      refine reg_nil ?_
      refine post_imp (s' := ⟨106, [(0, some (.pv (.vs 7 (List.map eGClass a0)))), (3, some (.pv (.int .i64 x254))), (4, some (.pv (.int .i64 x255))), (5, some (.lp 0 0))], [(0, some (.box 108 (bxv (eGClass y514))))], 1, [], [], 0, []⟩) (imps [0] ⟨by kernel_rfl, by kernel_rfl, by kernel_rfl, by kernel_rfl, trivial⟩ ⟨by kernel_rfl, trivial⟩) ?_
      refine post_next ?_
      iterate 2 (refine aw_seq ?_)
      obtain ⟨x520, hF, hK522⟩ := bind_some hF
      refine aw_cut (fun s1 => s1 = ⟨106, [(0, some (.pv (.vs 7 (List.map eGClass a0)))), (3, some (.pv (.int .i64 x254))), (4, some (.pv (.int .i64 x255))), (5, some (.lp 0 0)), (45, some (.pv (.bool x520)))], [(0, some (.box 108 (bxv (eGClass y514))))], 1, [], [], 0, []⟩) ?_ ?_
      · refine aw_region ?_
        refine rmv ?_
        refine rgp (op_len_vs (n := a0.length) rfl rfl (List.length_map ..) Tryd_slc_22 rfl rfl) ?_
        refine rgp (op_int (k := .i64) (m := (a0.length : Int)) (n := 30) rfl rfl rfl rfl rfl rfl) ?_
        refine rmv ?_
        rcases ite_some hF with ⟨hb516, hF⟩ | ⟨hb516, hF⟩
        · refine rgo_t hb516 ?_
          iterate 3 (refine rgo_t hb516 ?_)
          refine rpt hb516 ?_
          refine rmv ?_
          iterate 4 (refine rgo_t rfl ?_)
          refine rpt rfl ?_
          refine rmv ?_
          iterate 4 (refine rgo_t rfl ?_)
          refine rpt rfl ?_
          refine rmv ?_
          iterate 4 (refine rgo_t rfl ?_)
          refine rpt rfl ?_
          refine reg_nil ?_
          cases hF
          exact post_cut _ rfl (imps [0] ⟨by kernel_rfl, by kernel_rfl, by kernel_rfl, by kernel_rfl, by kernel_rfl, trivial⟩ ⟨by kernel_rfl, trivial⟩)
        refine rgn hb516 (op_field_lp rfl rfl Tryd_fld_108_1 rfl rfl) ?_
        refine rgn hb516 (op_load_lp (v := .pv (.vs 1 (List.map eS y514.fParams))) rfl rfl rfl rfl Tryd_one_77 rfl rfl) ?_
        refine rgn hb516 (op_len_vs (n := y514.fParams.length) rfl rfl (List.length_map ..) Tryd_slc_77 rfl rfl) ?_
        refine rgn hb516 (op_int (k := .i64) (m := (y514.fParams.length : Int)) (n := 20) rfl rfl rfl rfl rfl rfl) ?_
        refine rpf hb516 ?_
        refine rmv ?_
        rcases ite_some hF with ⟨hb517, hF⟩ | ⟨hb517, hF⟩
        · refine rgo_t hb517 ?_
          iterate 3 (refine rgo_t hb517 ?_)
          refine rpt hb517 ?_
          refine rmv ?_
          iterate 4 (refine rgo_t rfl ?_)
          refine rpt rfl ?_
          refine rmv ?_
          iterate 4 (refine rgo_t rfl ?_)
          refine rpt rfl ?_
          refine reg_nil ?_
          cases hF
          exact post_cut _ rfl (imps [0] ⟨by kernel_rfl, by kernel_rfl, by kernel_rfl, by kernel_rfl, by kernel_rfl, trivial⟩ ⟨by kernel_rfl, trivial⟩)
        refine rgn hb517 (op_field_lp rfl rfl Tryd_fld_108_3 rfl rfl) ?_
        refine rgn hb517 (op_load_lp (v := .pv (.vs 2 (List.map eGOwner y514.fAbove))) rfl rfl rfl rfl Tryd_one_104 rfl rfl) ?_
        refine rgn hb517 (op_len_vs (n := y514.fAbove.length) rfl rfl (List.length_map ..) Tryd_slc_104 rfl rfl) ?_
        refine rgn hb517 (op_int (k := .i64) (m := (y514.fAbove.length : Int)) (n := 20) rfl rfl rfl rfl rfl rfl) ?_
        refine rpf hb517 ?_
        refine rmv ?_
        rcases ite_some hF with ⟨hb518, hF⟩ | ⟨hb518, hF⟩
        · refine rgo_t hb518 ?_
          iterate 3 (refine rgo_t hb518 ?_)
          refine rpt hb518 ?_
          refine rmv ?_
          iterate 4 (refine rgo_t rfl ?_)
          refine rpt rfl ?_
          refine reg_nil ?_
          cases hF
          exact post_cut _ rfl (imps [0] ⟨by kernel_rfl, by kernel_rfl, by kernel_rfl, by kernel_rfl, by kernel_rfl, trivial⟩ ⟨by kernel_rfl, trivial⟩)
        refine rgn hb518 (op_field_lp rfl rfl Tryd_fld_108_4 rfl rfl) ?_
        refine rgn hb518 (op_load_lp (v := .pv (.vs 13 (List.map eGVar y514.fFields))) rfl rfl rfl rfl Tryd_one_105 rfl rfl) ?_
        refine rgn hb518 (op_len_vs (n := y514.fFields.length) rfl rfl (List.length_map ..) Tryd_slc_105 rfl rfl) ?_
        refine rgn hb518 (op_int (k := .i64) (m := (y514.fFields.length : Int)) (n := 40) rfl rfl rfl rfl rfl rfl) ?_
        refine rpf hb518 ?_
        refine rmv ?_
        rcases ite_some hF with ⟨hb519, hF⟩ | ⟨hb519, hF⟩
        · refine rgo_t hb519 ?_
          iterate 3 (refine rgo_t hb519 ?_)
          refine rpt hb519 ?_
          refine reg_nil ?_
          cases hF
          exact post_cut _ rfl (imps [0] ⟨by kernel_rfl, by kernel_rfl, by kernel_rfl, by kernel_rfl, by kernel_rfl, trivial⟩ ⟨by kernel_rfl, trivial⟩)
        refine rgn hb519 (op_field_lp rfl rfl Tryd_fld_108_5 rfl rfl) ?_
        refine rgn hb519 (op_load_lp (v := .pv (.vs 17 (List.map eGMethod y514.fMethods))) rfl rfl rfl rfl Tryd_one_106 rfl rfl) ?_
        refine rgn hb519 (op_len_vs (n := y514.fMethods.length) rfl rfl (List.length_map ..) Tryd_slc_106 rfl rfl) ?_
        refine rgn hb519 (op_int (k := .i64) (m := (y514.fMethods.length : Int)) (n := 40) rfl rfl rfl rfl rfl rfl) ?_
        refine rpf hb519 ?_
        refine reg_nil ?_
        cases hF
        exact post_cut _ rfl (imps [0] ⟨by kernel_rfl, by kernel_rfl, by kernel_rfl, by kernel_rfl, by kernel_rfl, trivial⟩ ⟨by kernel_rfl, trivial⟩)
      rintro _ rfl
      have hF := hK522
      clear hK522
      refine post_next ?_
      rcases ite_some hF with ⟨hb523, hF⟩ | ⟨hb523, hF⟩
      · refine aw_cond_t rfl hb523 ?_
        refine aw_seq ?_
        refine aw_region ?_
        refine ras ?_
        refine reg_nil ?_
        refine post_imp (s' := ⟨106, [(2, some (.pv (.bool true)))], [], 0, [], [], 0, []⟩) (imps [] ⟨by kernel_rfl, trivial⟩ trivial) ?_
        refine post_next ?_
        refine aw_ret ?_
        refine post_then_ret ?_
        refine post_block_ret ?_
        iterate 2 (refine post_then_ret ?_)
        refine post_lp_ret ?_
        obtain rfl := Option.some.inj hF
        have hF := elim_stop hK768
        refine post_then_ret ?_
        obtain rfl := Option.some.inj hF
        exact prt
      refine aw_cond_f rfl hb523 ?_
      refine aw_skip ?_
      refine post_next ?_
      refine aw_seq ?_
      refine aw_region ?_
      refine ras ?_
      refine reg_nil ?_
      refine post_imp (s' := ⟨106, [(0, some (.pv (.vs 7 (List.map eGClass a0)))), (3, some (.pv (.int .i64 x254))), (4, some (.pv (.int .i64 x255))), (5, some (.lp 0 0)), (6, some (.pv (.int .i64 0)))], [(0, some (.box 108 (bxv (eGClass y514))))], 1, [], [], 0, []⟩) (imps [0] ⟨by kernel_rfl, by kernel_rfl, by kernel_rfl, by kernel_rfl, by kernel_rfl, trivial⟩ ⟨by kernel_rfl, trivial⟩) ?_
      refine post_next ?_
      obtain ⟨lr762, hF, hK763⟩ := bind_some hF
      refine aw_for ((((y514.fMethods.length : Int) : Int) - (0)).toNat + 1) (fun s1 => ∃ q, lr762 = .next q ∧ s1 = ⟨106, [(0, some (.pv (.vs 7 (List.map eGClass a0)))), (3, some (.pv (.int .i64 q))), (4, some (.pv (.int .i64 x255)))], [], 0, [], [], 0, []⟩) ?_ ?_
      · refine rnd_loop (α := Int × Int) (fun q => ⟨106, [(0, some (.pv (.vs 7 (List.map eGClass a0)))), (3, some (.pv (.int .i64 q.1))), (4, some (.pv (.int .i64 x255))), (5, some (.lp 0 0)), (6, some (.pv (.int .i64 q.2)))], [(0, some (.box 108 (bxv (eGClass y514))))], 1, [], [], 0, []⟩) (fun k q => ref10_Heavy_L2 y514 k q.1 q.2 = some lr762) (x254, 0) (imps [0] ⟨by kernel_rfl, by kernel_rfl, by kernel_rfl, by kernel_rfl, by kernel_rfl, trivial⟩ ⟨by kernel_rfl, trivial⟩) hF (fun q h => by cases h) ?_
        clear hF
        rintro k ⟨x601, x602⟩ hF ih
        refine rnd_succ ?_
        iterate 2 (refine aw_seq ?_)
        refine aw_region ?_
        refine rmv ?_
        refine rgp (op_field_lp rfl rfl Tryd_fld_108_5 rfl rfl) ?_
        refine rgp (op_load_lp (v := .pv (.vs 17 (List.map eGMethod y514.fMethods))) rfl rfl rfl rfl Tryd_one_106 rfl rfl) ?_
        refine rgp (op_len_vs (n := y514.fMethods.length) rfl rfl (List.length_map ..) Tryd_slc_106 rfl rfl) ?_
        refine rgp (op_int (k := .i64) (m := x602) (n := (y514.fMethods.length : Int)) rfl rfl rfl rfl rfl rfl) ?_
        refine reg_nil ?_
        refine post_imp (s' := ⟨106, [(0, some (.pv (.vs 7 (List.map eGClass a0)))), (3, some (.pv (.int .i64 x601))), (4, some (.pv (.int .i64 x255))), (5, some (.lp 0 0)), (6, some (.pv (.int .i64 x602))), (50, some (.pv (.bool (decide (x602 < (y514.fMethods.length : Int))))))], [(0, some (.box 108 (bxv (eGClass y514))))], 1, [], [], 0, []⟩) (imps [0] ⟨by kernel_rfl, by kernel_rfl, by kernel_rfl, by kernel_rfl, by kernel_rfl, by kernel_rfl, trivial⟩ ⟨by kernel_rfl, trivial⟩) ?_
        refine post_next ?_
        rcases ite_some hF with ⟨hb682, hF⟩ | ⟨hb682, hF⟩
        · refine aw_cond_t rfl hb682 ?_
          refine aw_skip ?_
          refine post_next ?_
          refine aw_seq ?_
          refine aw_block ?_
          refine aw_seq ?_
          refine aw_region ?_
          refine rgp (op_field_lp rfl rfl Tryd_fld_108_5 rfl rfl) ?_
          refine rgp (op_load_lp (v := .pv (.vs 17 (List.map eGMethod y514.fMethods))) rfl rfl rfl rfl Tryd_one_106 rfl rfl) ?_
          refine rmv ?_
          obtain ⟨y685, h686, hF⟩ := bind_some hF
          refine rgp (op_index_vs (k := .i64) rfl rfl rfl (idx_map eGMethod h686) Tryd_slc_106 rfl rfl) ?_
          refine rgp (op_load_vp_agg (ps := eGMethod y685) rfl rfl rfl rfl Tryd_agg_116 rfl rfl) ?_
          refine rgp (op_alloc 1 rfl (ps := (eGMethod zGMethod)) rfl Tryd_zer_116 (by exact ⟨rfl, rfl, rfl, rfl, rfl, rfl, rfl, rfl, rfl, rfl, rfl, rfl, rfl, trivial, trivial, trivial, rfl, trivial⟩) rfl rfl) ?_
          refine rgp (op_store_lp (n := 17) rfl rfl rfl rfl rfl (or_agg Tryd_agg_116) (by rw [Tryd_non_116]; rfl) rfl rfl rfl) ?_
          refine reg_nil ?_
          refine post_imp (s' := ⟨106, [(0, some (.pv (.vs 7 (List.map eGClass a0)))), (3, some (.pv (.int .i64 x601))), (4, some (.pv (.int .i64 x255))), (5, some (.lp 0 0)), (6, some (.pv (.int .i64 x602))), (7, some (.lp 1 0))], [(0, some (.box 108 (bxv (eGClass y514)))), (1, some (.box 116 (bxv (eGMethod y685))))], 2, [], [], 0, []⟩) (imps [0, 1] ⟨by kernel_rfl, by kernel_rfl, by kernel_rfl, by kernel_rfl, by kernel_rfl, by kernel_rfl, trivial⟩ ⟨by kernel_rfl, by kernel_rfl, trivial⟩) ?_
          refine post_next ?_
          iterate 2 (refine aw_seq ?_)
          obtain ⟨x692, hF, hK694⟩ := bind_some hF
          refine aw_cut (fun s1 => s1 = ⟨106, [(0, some (.pv (.vs 7 (List.map eGClass a0)))), (3, some (.pv (.int .i64 x601))), (4, some (.pv (.int .i64 x255))), (5, some (.lp 0 0)), (6, some (.pv (.int .i64 x602))), (7, some (.lp 1 0)), (78, some (.pv (.bool x692)))], [(0, some (.box 108 (bxv (eGClass y514)))), (1, some (.box 116 (bxv (eGMethod y685))))], 2, [], [], 0, []⟩) ?_ ?_
          · refine aw_region ?_
            refine rgp (op_field_lp rfl rfl Tryd_fld_116_3 rfl rfl) ?_
            refine rgp (op_load_lp (v := .pv (.vs 13 (List.map eGVar y685.fParams))) rfl rfl rfl rfl Tryd_one_105 rfl rfl) ?_
            refine rgp (op_len_vs (n := y685.fParams.length) rfl rfl (List.length_map ..) Tryd_slc_105 rfl rfl) ?_
            refine rgp (op_int (k := .i64) (m := (y685.fParams.length : Int)) (n := 40) rfl rfl rfl rfl rfl rfl) ?_
            refine rmv ?_
            rcases ite_some hF with ⟨hb687, hF⟩ | ⟨hb687, hF⟩
            · refine rgo_t hb687 ?_
              iterate 3 (refine rgo_t hb687 ?_)
              refine rpt hb687 ?_
              refine rmv ?_
              iterate 4 (refine rgo_t rfl ?_)
              refine rpt rfl ?_
              refine rmv ?_
              iterate 3 (refine rgo_t rfl ?_)
              refine rpt rfl ?_
              refine reg_nil ?_
              cases hF
              exact post_cut _ rfl (imps [0, 1] ⟨by kernel_rfl, by kernel_rfl, by kernel_rfl, by kernel_rfl, by kernel_rfl, by kernel_rfl, by kernel_rfl, trivial⟩ ⟨by kernel_rfl, by kernel_rfl, trivial⟩)
            refine rgn hb687 (op_field_lp rfl rfl Tryd_fld_116_4 rfl rfl) ?_
            refine rgn hb687 (op_load_lp (v := .pv (.vs 13 (List.map eGVar y685.fLocals))) rfl rfl rfl rfl Tryd_one_105 rfl rfl) ?_
            refine rgn hb687 (op_len_vs (n := y685.fLocals.length) rfl rfl (List.length_map ..) Tryd_slc_105 rfl rfl) ?_
            refine rgn hb687 (op_int (k := .i64) (m := (y685.fLocals.length : Int)) (n := 40) rfl rfl rfl rfl rfl rfl) ?_
            refine rpf hb687 ?_
            refine rmv ?_
            rcases ite_some hF with ⟨hb688, hF⟩ | ⟨hb688, hF⟩
            · refine rgo_t hb688 ?_
              iterate 3 (refine rgo_t hb688 ?_)
              refine rpt hb688 ?_
              refine rmv ?_
              iterate 3 (refine rgo_t rfl ?_)
              refine rpt rfl ?_
              refine reg_nil ?_
              cases hF
              exact post_cut _ rfl (imps [0, 1] ⟨by kernel_rfl, by kernel_rfl, by kernel_rfl, by kernel_rfl, by kernel_rfl, by kernel_rfl, by kernel_rfl, trivial⟩ ⟨by kernel_rfl, by kernel_rfl, trivial⟩)
            refine rgn hb688 (op_field_lp rfl rfl Tryd_fld_116_5 rfl rfl) ?_
            refine rgn hb688 (op_load_lp (v := .pv (.vs 23 (eLGStmt y685.fBody))) rfl rfl rfl rfl Tryd_one_114 rfl rfl) ?_
            refine rgn hb688 (op_len_vs (n := y685.fBody.length) rfl rfl (lenR eLGStmt_map) Tryd_slc_114 rfl rfl) ?_
            refine rgn hb688 (op_int (k := .i64) (m := (y685.fBody.length : Int)) (n := 500) rfl rfl rfl rfl rfl rfl) ?_
            refine rpf hb688 ?_
            refine rmv ?_
            rcases ite_some hF with ⟨hb689, hF⟩ | ⟨hb689, hF⟩
            · refine rgo_t hb689 ?_
              iterate 2 (refine rgo_t hb689 ?_)
              refine rpt hb689 ?_
              refine reg_nil ?_
              cases hF
              exact post_cut _ rfl (imps [0, 1] ⟨by kernel_rfl, by kernel_rfl, by kernel_rfl, by kernel_rfl, by kernel_rfl, by kernel_rfl, by kernel_rfl, trivial⟩ ⟨by kernel_rfl, by kernel_rfl, trivial⟩)
            refine rgn hb689 (op_load_lp_agg (ps := eGMethod y685) rfl rfl rfl rfl rfl rfl Tryd_agg_116 rfl rfl) ?_
            obtain ⟨y690, h691, hF⟩ := bind_some hF
            refine rgn hb689 (op_call 2 rfl (caps := []) (args := [.agg (eGMethod y685)]) (rs := [.p (.int .i64 y690)]) rfl rfl rfl Tryd_cal_52 (ref10_uniques_ok h691) rfl rfl rfl) ?_
            refine rgn hb689 (op_int (k := .i64) (m := y690) (n := 8) rfl rfl rfl rfl rfl rfl) ?_
            refine rpf hb689 ?_
            refine reg_nil ?_
            cases hF
            exact post_cut _ rfl (imps [0, 1] ⟨by kernel_rfl, by kernel_rfl, by kernel_rfl, by kernel_rfl, by kernel_rfl, by kernel_rfl, by kernel_rfl, trivial⟩ ⟨by kernel_rfl, by kernel_rfl, trivial⟩)
          rintro _ rfl
          have hF := hK694
          clear hK694
          refine post_next ?_
          rcases ite_some hF with ⟨hb695, hF⟩ | ⟨hb695, hF⟩
          · refine aw_cond_t rfl hb695 ?_
            refine aw_seq ?_
            refine aw_region ?_
            refine ras ?_
            refine reg_nil ?_
            refine post_imp (s' := ⟨106, [(2, some (.pv (.bool true)))], [], 0, [], [], 0, []⟩) (imps [] ⟨by kernel_rfl, trivial⟩ trivial) ?_
            refine post_next ?_
            refine aw_ret ?_
            refine post_then_ret ?_
            refine post_block_ret ?_
            iterate 2 (refine post_then_ret ?_)
            refine post_lp_ret ?_
            obtain rfl := Option.some.inj hF
            have hF := elim_stop hK763
            refine post_block_ret ?_
            iterate 2 (refine post_then_ret ?_)
            refine post_lp_ret ?_
            obtain rfl := Option.some.inj hF
            have hF := elim_stop hK768
            refine post_then_ret ?_
            obtain rfl := Option.some.inj hF
            exact prt
          refine aw_cond_f rfl hb695 ?_
          refine aw_skip ?_
          refine post_next ?_
          refine aw_seq ?_
          refine aw_region ?_
          refine ras ?_
          refine reg_nil ?_
          refine post_imp (s' := ⟨106, [(0, some (.pv (.vs 7 (List.map eGClass a0)))), (3, some (.pv (.int .i64 x601))), (4, some (.pv (.int .i64 x255))), (5, some (.lp 0 0)), (6, some (.pv (.int .i64 x602))), (7, some (.lp 1 0)), (8, some (.pv (.int .i64 0)))], [(0, some (.box 108 (bxv (eGClass y514)))), (1, some (.box 116 (bxv (eGMethod y685))))], 2, [], [], 0, []⟩) (imps [0, 1] ⟨by kernel_rfl, by kernel_rfl, by kernel_rfl, by kernel_rfl, by kernel_rfl, by kernel_rfl, by kernel_rfl, trivial⟩ ⟨by kernel_rfl, by kernel_rfl, trivial⟩) ?_
          refine post_next ?_
          obtain ⟨lr757, hF, hK758⟩ := bind_some hF
          refine aw_for ((((y685.fBody.length : Int) : Int) - (0)).toNat + 1) (fun s1 => ∃ q, lr757 = .next q ∧ s1 = ⟨106, [(0, some (.pv (.vs 7 (List.map eGClass a0)))), (3, some (.pv (.int .i64 q))), (4, some (.pv (.int .i64 x255))), (5, some (.lp 0 0)), (6, some (.pv (.int .i64 x602)))], [(0, some (.box 108 (bxv (eGClass y514))))], 1, [], [], 0, []⟩) ?_ ?_
          · refine rnd_loop (α := Int × Int) (fun q => ⟨106, [(0, some (.pv (.vs 7 (List.map eGClass a0)))), (3, some (.pv (.int .i64 q.1))), (4, some (.pv (.int .i64 x255))), (5, some (.lp 0 0)), (6, some (.pv (.int .i64 x602))), (7, some (.lp 1 0)), (8, some (.pv (.int .i64 q.2)))], [(0, some (.box 108 (bxv (eGClass y514)))), (1, some (.box 116 (bxv (eGMethod y685))))], 2, [], [], 0, []⟩) (fun k q => ref10_Heavy_L3 y685 k q.1 q.2 = some lr757) (x601, 0) (imps [0, 1] ⟨by kernel_rfl, by kernel_rfl, by kernel_rfl, by kernel_rfl, by kernel_rfl, by kernel_rfl, by kernel_rfl, trivial⟩ ⟨by kernel_rfl, by kernel_rfl, trivial⟩) hF (fun q h => by cases h) ?_
            clear hF
            rintro k ⟨x714, x715⟩ hF ih
            refine rnd_succ ?_
            iterate 2 (refine aw_seq ?_)
            refine aw_region ?_
            refine rmv ?_
            refine rgp (op_field_lp rfl rfl Tryd_fld_116_5 rfl rfl) ?_
            refine rgp (op_load_lp (v := .pv (.vs 23 (eLGStmt y685.fBody))) rfl rfl rfl rfl Tryd_one_114 rfl rfl) ?_
            refine rgp (op_len_vs (n := y685.fBody.length) rfl rfl (lenR eLGStmt_map) Tryd_slc_114 rfl rfl) ?_
            refine rgp (op_int (k := .i64) (m := x715) (n := (y685.fBody.length : Int)) rfl rfl rfl rfl rfl rfl) ?_
            refine reg_nil ?_
            refine post_imp (s' := ⟨106, [(0, some (.pv (.vs 7 (List.map eGClass a0)))), (3, some (.pv (.int .i64 x714))), (4, some (.pv (.int .i64 x255))), (5, some (.lp 0 0)), (6, some (.pv (.int .i64 x602))), (7, some (.lp 1 0)), (8, some (.pv (.int .i64 x715))), (83, some (.pv (.bool (decide (x715 < (y685.fBody.length : Int))))))], [(0, some (.box 108 (bxv (eGClass y514)))), (1, some (.box 116 (bxv (eGMethod y685))))], 2, [], [], 0, []⟩) (imps [0, 1] ⟨by kernel_rfl, by kernel_rfl, by kernel_rfl, by kernel_rfl, by kernel_rfl, by kernel_rfl, by kernel_rfl, by kernel_rfl, trivial⟩ ⟨by kernel_rfl, by kernel_rfl, trivial⟩) ?_
            refine post_next ?_
            rcases ite_some hF with ⟨hb736, hF⟩ | ⟨hb736, hF⟩
            · refine aw_cond_t rfl hb736 ?_
              refine aw_skip ?_
              refine post_next ?_
              refine aw_seq ?_
              refine aw_block ?_
              iterate 2 (refine aw_seq ?_)
              obtain ⟨x742, hF, hK744⟩ := bind_some hF
              refine aw_cut (fun s1 => s1 = ⟨106, [(0, some (.pv (.vs 7 (List.map eGClass a0)))), (3, some (.pv (.int .i64 x714))), (4, some (.pv (.int .i64 x255))), (5, some (.lp 0 0)), (6, some (.pv (.int .i64 x602))), (7, some (.lp 1 0)), (8, some (.pv (.int .i64 x715))), (95, some (.pv (.bool x742)))], [(0, some (.box 108 (bxv (eGClass y514)))), (1, some (.box 116 (bxv (eGMethod y685))))], 2, [], [], 0, []⟩) ?_ ?_
              · refine aw_region ?_
                refine rmv ?_
                refine rgp (op_int (k := .i64) (m := x714) (n := 500) rfl rfl rfl rfl rfl rfl) ?_
                refine rmv ?_
                rcases ite_some hF with ⟨hb737, hF⟩ | ⟨hb737, hF⟩
                · refine rgo_t hb737 ?_
                  iterate 5 (refine rgo_t hb737 ?_)
                  refine rpt hb737 ?_
                  refine reg_nil ?_
                  cases hF
                  exact post_cut _ rfl (imps [0, 1] ⟨by kernel_rfl, by kernel_rfl, by kernel_rfl, by kernel_rfl, by kernel_rfl, by kernel_rfl, by kernel_rfl, by kernel_rfl, trivial⟩ ⟨by kernel_rfl, by kernel_rfl, trivial⟩)
                refine rgn hb737 (op_field_lp rfl rfl Tryd_fld_116_5 rfl rfl) ?_
                refine rgn hb737 (op_load_lp (v := .pv (.vs 23 (eLGStmt y685.fBody))) rfl rfl rfl rfl Tryd_one_114 rfl rfl) ?_
                refine rgn hb737 (op_move rfl rfl rfl rfl) ?_
                obtain ⟨y738, h739, hF⟩ := bind_some hF
                refine rgn hb737 (op_index_vs (k := .i64) rfl rfl rfl (idxR eLGStmt_map h739) Tryd_slc_114 rfl rfl) ?_
                refine rgn hb737 (op_load_vp_agg (ps := eGStmt y738) rfl rfl rfl rfl Tryd_agg_120 rfl rfl) ?_
                obtain ⟨y740, h741, hF⟩ := bind_some hF
                refine rgn hb737 (op_call 2 rfl (caps := []) (args := [.agg (eGStmt y738), .int .i64 25]) (rs := [.p (.bool y740)]) rfl rfl rfl Tryd_cal_53 (ref10_much_ok h741) rfl rfl rfl) ?_
                refine rpf hb737 ?_
                refine reg_nil ?_
                cases hF
                exact post_cut _ rfl (imps [0, 1] ⟨by kernel_rfl, by kernel_rfl, by kernel_rfl, by kernel_rfl, by kernel_rfl, by kernel_rfl, by kernel_rfl, by kernel_rfl, trivial⟩ ⟨by kernel_rfl, by kernel_rfl, trivial⟩)
              rintro _ rfl
              have hF := hK744
              clear hK744
              refine post_next ?_
              rcases ite_some hF with ⟨hb745, hF⟩ | ⟨hb745, hF⟩
              · refine aw_cond_t rfl hb745 ?_
                refine aw_seq ?_
                refine aw_region ?_
                refine ras ?_
                refine reg_nil ?_
                refine post_imp (s' := ⟨106, [(2, some (.pv (.bool true)))], [], 0, [], [], 0, []⟩) (imps [] ⟨by kernel_rfl, trivial⟩ trivial) ?_
                refine post_next ?_
                refine aw_ret ?_
                refine post_then_ret ?_
                refine post_block_ret ?_
                iterate 2 (refine post_then_ret ?_)
                refine post_lp_ret ?_
                obtain rfl := Option.some.inj hF
                have hF := elim_stop hK758
                refine post_block_ret ?_
                iterate 2 (refine post_then_ret ?_)
                refine post_lp_ret ?_
                obtain rfl := Option.some.inj hF
                have hF := elim_stop hK763
                refine post_block_ret ?_
                iterate 2 (refine post_then_ret ?_)
                refine post_lp_ret ?_
                obtain rfl := Option.some.inj hF
                have hF := elim_stop hK768
                refine post_then_ret ?_
                obtain rfl := Option.some.inj hF
                exact prt
              refine aw_cond_f rfl hb745 ?_
              refine aw_skip ?_
              refine post_next ?_
              refine aw_region ?_
              refine rmv ?_
              refine rgp (op_field_lp rfl rfl Tryd_fld_116_5 rfl rfl) ?_
              refine rgp (op_load_lp (v := .pv (.vs 23 (eLGStmt y685.fBody))) rfl rfl rfl rfl Tryd_one_114 rfl rfl) ?_
              refine rmv ?_
              obtain ⟨y750, h751, hF⟩ := bind_some hF
              refine rgp (op_index_vs (k := .i64) rfl rfl rfl (idxR eLGStmt_map h751) Tryd_slc_114 rfl rfl) ?_
              refine rgp (op_load_vp_agg (ps := eGStmt y750) rfl rfl rfl rfl Tryd_agg_120 rfl rfl) ?_
              obtain ⟨y752, h753, hF⟩ := bind_some hF
              refine rgp (op_call 2 rfl (caps := []) (args := [.agg (eGStmt y750)]) (rs := [.p (.int .i64 y752)]) rfl rfl rfl Tryd_cal_54 (ref08_Size_ok h753) rfl rfl rfl) ?_
              refine rgp (op_int (k := .i64) (m := x714) (n := y752) rfl rfl rfl rfl rfl rfl) ?_
              refine ras ?_
              refine reg_nil ?_
              refine post_imp (s' := ⟨106, [(0, some (.pv (.vs 7 (List.map eGClass a0)))), (3, some (.pv (.int .i64 (w_i64 (x714 + y752))))), (4, some (.pv (.int .i64 x255))), (5, some (.lp 0 0)), (6, some (.pv (.int .i64 x602))), (7, some (.lp 1 0)), (8, some (.pv (.int .i64 x715)))], [(0, some (.box 108 (bxv (eGClass y514)))), (1, some (.box 116 (bxv (eGMethod y685))))], 2, [], [], 0, []⟩) (imps [0, 1] ⟨by kernel_rfl, by kernel_rfl, by kernel_rfl, by kernel_rfl, by kernel_rfl, by kernel_rfl, by kernel_rfl, trivial⟩ ⟨by kernel_rfl, by kernel_rfl, trivial⟩) ?_
              refine post_block_normal ?_
              refine post_next ?_
              refine aw_region ?_
              refine rmv ?_
              refine rgp (op_int (k := .i64) (m := x715) (n := 1) rfl rfl rfl rfl rfl rfl) ?_
              refine ras ?_
              refine reg_nil ?_
              refine post_round ?_
              exact rnd_back (ih (w_i64 (x714 + y752), w_i64 (x715 + 1)) hF) (imps [0, 1] ⟨by kernel_rfl, by kernel_rfl, by kernel_rfl, by kernel_rfl, by kernel_rfl, by kernel_rfl, by kernel_rfl, trivial⟩ ⟨by kernel_rfl, by kernel_rfl, trivial⟩)
            refine aw_cond_f rfl hb736 ?_
            refine aw_exit ?_
            iterate 2 (refine post_then_exit ?_)
            obtain rfl := Option.some.inj hF
            exact post_lp_break _ ⟨_, rfl, rfl⟩ (imps [0] ⟨by kernel_rfl, by kernel_rfl, by kernel_rfl, by kernel_rfl, by kernel_rfl, trivial⟩ ⟨by kernel_rfl, trivial⟩)
          rintro _ ⟨x756, rfl, rfl⟩
          have hF := elim_next hK758
          clear hK758
          refine post_block_normal ?_
          refine post_next ?_
          refine aw_region ?_
          refine rmv ?_
          refine rgp (op_int (k := .i64) (m := x602) (n := 1) rfl rfl rfl rfl rfl rfl) ?_
          refine ras ?_
          refine reg_nil ?_
          refine post_round ?_
          exact rnd_back (ih (x756, w_i64 (x602 + 1)) hF) (imps [0] ⟨by kernel_rfl, by kernel_rfl, by kernel_rfl, by kernel_rfl, by kernel_rfl, trivial⟩ ⟨by kernel_rfl, trivial⟩)
        refine aw_cond_f rfl hb682 ?_
        refine aw_exit ?_
        iterate 2 (refine post_then_exit ?_)
        obtain rfl := Option.some.inj hF
        exact post_lp_break _ ⟨_, rfl, rfl⟩ (imps [] ⟨by kernel_rfl, by kernel_rfl, by kernel_rfl, trivial⟩ trivial)
      rintro _ ⟨x761, rfl, rfl⟩
      have hF := elim_next hK763
      clear hK763
      refine post_block_normal ?_
      refine post_next ?_
      refine aw_region ?_
      refine rmv ?_
      refine rgp (op_int (k := .i64) (m := x255) (n := 1) rfl rfl rfl rfl rfl rfl) ?_
      refine ras ?_
      refine reg_nil ?_
      refine post_round ?_
      exact rnd_back (ih (x761, w_i64 (x255 + 1)) hF) (imps [] ⟨by kernel_rfl, by kernel_rfl, by kernel_rfl, trivial⟩ trivial)
    refine aw_cond_f rfl hb511 ?_
    refine aw_exit ?_
    iterate 2 (refine post_then_exit ?_)
    obtain rfl := Option.some.inj hF
    exact post_lp_break _ ⟨_, rfl, rfl⟩ (imps [] ⟨by kernel_rfl, trivial⟩ trivial)
  rintro _ ⟨x766, rfl, rfl⟩
  have hF := elim_next hK768
  clear hK768
  refine post_next ?_
  refine aw_seq ?_
  refine aw_region ?_
  refine rmv ?_
  refine rgp (op_int (k := .i64) (m := x766) (n := 500) rfl rfl rfl rfl rfl rfl) ?_
  refine ras ?_
  refine reg_nil ?_
  refine post_imp (s' := ⟨106, [(2, some (.pv (.bool (decide (x766 > 500)))))], [], 0, [], [], 0, []⟩) (imps [] ⟨by kernel_rfl, trivial⟩ trivial) ?_
  refine post_next ?_
  refine aw_ret ?_
  obtain rfl := Option.some.inj hF
  exact prt
theorem ref06_Size_ring : ∀ n : Nat, (∀ (a0 : GExpr) (r : Int), ref06_Size n a0 = some r → Abs.Fn globs_Tryd Tryd.prog 29 [.agg (eGExpr a0)] [.p (.int .i64 r)]) := by
  intro n
  induction n with
  | zero => exact (fun _ _ h => by simp [ref06_Size] at h)
  | succ n ih =>
    have ref06_Size_ih := ih
    clear ih
    intro a0 r hF
    unfold ref06_Size at hF
    revert hF ref06_Size_ih
    generalize ref06_Size n = ref06_Size_rec
    intro ref06_Size_ih hF
    refine fn_of_body (n := 25) Tryd.func29 rfl rfl rfl ?_
    intro w O
    refine aw_seq ?_
    refine aw_region ?_
    refine rgp (op_box 0 rfl rfl rfl rfl rfl rfl) ?_
    refine ras ?_
    refine reg_nil ?_
    refine post_imp (s' := ⟨25, [(1, some (.lp 0 0))], [(0, some (.box 31 (bxv (eGExpr a0))))], 1, [], [], 0, []⟩) (imps [0] ⟨by kernel_rfl, trivial⟩ ⟨by kernel_rfl, trivial⟩) ?_
    refine post_next ?_
    refine aw_seq ?_
    refine aw_region ?_
    refine ras ?_
    refine reg_nil ?_
    refine post_imp (s' := ⟨25, [(1, some (.lp 0 0)), (3, some (.pv (.int .i64 1)))], [(0, some (.box 31 (bxv (eGExpr a0))))], 1, [], [], 0, []⟩) (imps [0] ⟨by kernel_rfl, by kernel_rfl, trivial⟩ ⟨by kernel_rfl, trivial⟩) ?_
    refine post_next ?_
    iterate 2 (refine aw_seq ?_)
    refine aw_region ?_
    refine ras ?_
    refine reg_nil ?_
    refine post_imp (s' := ⟨25, [(1, some (.lp 0 0)), (3, some (.pv (.int .i64 1))), (4, some (.pv (.int .i64 0)))], [(0, some (.box 31 (bxv (eGExpr a0))))], 1, [], [], 0, []⟩) (imps [0] ⟨by kernel_rfl, by kernel_rfl, by kernel_rfl, trivial⟩ ⟨by kernel_rfl, trivial⟩) ?_
    refine post_next ?_
    obtain ⟨x46, hF, hK47⟩ := bind_some hF
    refine aw_for (a0.fKids.length + 1) (fun s1 => s1 = ⟨25, [(3, some (.pv (.int .i64 x46)))], [], 0, [], [], 0, []⟩) ?_ ?_
    · refine rnd_loop (α := Int × Int) (fun q => ⟨25, [(1, some (.lp 0 0)), (3, some (.pv (.int .i64 q.1))), (4, some (.pv (.int .i64 q.2)))], [(0, some (.box 31 (bxv (eGExpr a0))))], 1, [], [], 0, []⟩) (fun k q => ref06_Size_L1 a0 ref06_Size_rec k q.1 q.2 = some x46) (1, 0) (imps [0] ⟨by kernel_rfl, by kernel_rfl, by kernel_rfl, trivial⟩ ⟨by kernel_rfl, trivial⟩) hF (fun q h => by cases h) ?_
      clear hF
      rintro k ⟨x14, x15⟩ hF ih
      refine rnd_succ ?_
      iterate 2 (refine aw_seq ?_)
      obtain ⟨x32, hF, hK34⟩ := bind_some hF
      refine aw_cut (fun s1 => s1 = ⟨25, [(1, some (.lp 0 0)), (3, some (.pv (.int .i64 x14))), (4, some (.pv (.int .i64 x15))), (13, some (.pv (.bool x32)))], [(0, some (.box 31 (bxv (eGExpr a0))))], 1, [], [], 0, []⟩) ?_ ?_
      · refine aw_region ?_
        refine rmv ?_
        refine rgp (op_field_lp rfl rfl Tryd_fld_31_3 rfl rfl) ?_
        refine rgp (op_load_lp (v := .pv (.vs 4 (eLGExpr a0.fKids))) rfl rfl rfl rfl Tryd_one_29 rfl rfl) ?_
        refine rgp (op_len_vs (n := a0.fKids.length) rfl rfl (lenR eLGExpr_map) Tryd_slc_29 rfl rfl) ?_
        refine rgp (op_int (k := .i64) (m := x15) (n := (a0.fKids.length : Int)) rfl rfl rfl rfl rfl rfl) ?_
        refine rmv ?_
        rcases ite_some hF with ⟨hb31, hF⟩ | ⟨hb31, hF⟩
        · refine rgn hb31 (op_move rfl rfl rfl rfl) ?_
          refine rgn hb31 (op_int (k := .i64) (m := x14) (n := 1000) rfl rfl rfl rfl rfl rfl) ?_
          refine rpt hb31 ?_
          refine reg_nil ?_
          cases hF
          exact post_cut _ rfl (imps [0] ⟨by kernel_rfl, by kernel_rfl, by kernel_rfl, by kernel_rfl, trivial⟩ ⟨by kernel_rfl, trivial⟩)
        iterate 2 (refine rgo_f hb31 ?_)
        refine rpf hb31 ?_
        refine reg_nil ?_
        cases hF
        exact post_cut _ rfl (imps [0] ⟨by kernel_rfl, by kernel_rfl, by kernel_rfl, by kernel_rfl, trivial⟩ ⟨by kernel_rfl, trivial⟩)
      rintro _ rfl
      have hF := hK34
      clear hK34
      refine post_next ?_
      rcases ite_some hF with ⟨hb35, hF⟩ | ⟨hb35, hF⟩
      · refine aw_cond_t rfl hb35 ?_
        refine aw_skip ?_
        refine post_next ?_
        refine aw_seq ?_
        refine aw_block ?_
        refine aw_region ?_
        refine rmv ?_
        refine rgp (op_field_lp rfl rfl Tryd_fld_31_3 rfl rfl) ?_
        refine rgp (op_load_lp (v := .pv (.vs 4 (eLGExpr a0.fKids))) rfl rfl rfl rfl Tryd_one_29 rfl rfl) ?_
        refine rmv ?_
        obtain ⟨y40, h41, hF⟩ := bind_some hF
        refine rgp (op_index_vs (k := .i64) rfl rfl rfl (idxR eLGExpr_map h41) Tryd_slc_29 rfl rfl) ?_
        refine rgp (op_load_vp_agg (ps := eGExpr y40) rfl rfl rfl rfl Tryd_agg_31 rfl rfl) ?_
        obtain ⟨y42, h43, hF⟩ := bind_some hF
        refine rgp (op_call 1 rfl (caps := []) (args := [.agg (eGExpr y40)]) (rs := [.p (.int .i64 y42)]) rfl rfl rfl Tryd_cal_29 (ref06_Size_ih _ _ h43) rfl rfl rfl) ?_
        refine rgp (op_int (k := .i64) (m := x14) (n := y42) rfl rfl rfl rfl rfl rfl) ?_
        refine ras ?_
        refine reg_nil ?_
        refine post_imp (s' := ⟨25, [(1, some (.lp 0 0)), (3, some (.pv (.int .i64 (w_i64 (x14 + y42))))), (4, some (.pv (.int .i64 x15)))], [(0, some (.box 31 (bxv (eGExpr a0))))], 1, [], [], 0, []⟩) (imps [0] ⟨by kernel_rfl, by kernel_rfl, by kernel_rfl, trivial⟩ ⟨by kernel_rfl, trivial⟩) ?_
        refine post_block_normal ?_
        refine post_next ?_
        refine aw_region ?_
        refine rmv ?_
        refine rgp (op_int (k := .i64) (m := x15) (n := 1) rfl rfl rfl rfl rfl rfl) ?_
        refine ras ?_
        refine reg_nil ?_
        refine post_round ?_
        exact rnd_back (ih (w_i64 (x14 + y42), w_i64 (x15 + 1)) hF) (imps [0] ⟨by kernel_rfl, by kernel_rfl, by kernel_rfl, trivial⟩ ⟨by kernel_rfl, trivial⟩)
      refine aw_cond_f rfl hb35 ?_
      refine aw_exit ?_
      iterate 2 (refine post_then_exit ?_)
      obtain rfl := Option.some.inj hF
      exact post_lp_break _ rfl (imps [] ⟨by kernel_rfl, trivial⟩ trivial)
    rintro _ rfl
    have hF := hK47
    clear hK47
    refine post_next ?_
    refine aw_seq ?_
    refine aw_region ?_
    refine rmv ?_
    refine ras ?_
    refine reg_nil ?_
    refine post_imp (s' := ⟨25, [(2, some (.pv (.int .i64 x46)))], [], 0, [], [], 0, []⟩) (imps [] ⟨by kernel_rfl, trivial⟩ trivial) ?_
    refine post_next ?_
    refine aw_ret ?_
    obtain rfl := Option.some.inj hF
    exact prt
theorem ref06_Size_ok {n : Nat} {a0 : GExpr} {r : Int} (hF : ref06_Size n a0 = some r) : Abs.Fn globs_Tryd Tryd.prog 29 [.agg (eGExpr a0)] [.p (.int .i64 r)] := (ref06_Size_ring n) _ _ hF

theorem law39_great_ok {a0 : List GClass} {a1 : GHere_law39} {a2 : GExpr} {r : Bool} (hF : law39_great a0 a1 a2 = some r) : Abs.Fn globs_Tryd Tryd.prog 9 [.vs 7 (List.map eGClass a0), .agg (eGHere_law39 a1), .agg (eGExpr a2)] [.p (.bool r)] := by
  unfold law39_great at hF
  refine fn_of_body (n := 27) Tryd.func9 rfl rfl rfl ?_
  intro w O
  refine aw_seq ?_
  refine aw_region ?_
  refine rgp (op_box 0 rfl rfl rfl rfl rfl rfl) ?_
  refine rgp (op_box 1 rfl rfl rfl rfl rfl rfl) ?_
  refine ras ?_
  refine reg_nil ?_
  refine post_imp (s' := ⟨27, [(0, some (.pv (.vs 7 (List.map eGClass a0)))), (4, some (.lp 0 0)), (5, some (.lp 1 0))], [(0, some (.box 28 (bxv (eGHere_law39 a1)))), (1, some (.box 31 (bxv (eGExpr a2))))], 2, [], [], 0, []⟩) (imps [0, 1] ⟨by kernel_rfl, by kernel_rfl, by kernel_rfl, trivial⟩ ⟨by kernel_rfl, by kernel_rfl, trivial⟩) ?_
  refine post_next ?_
  refine aw_seq ?_
  refine aw_region ?_
  refine rmv ?_
  obtain ⟨y1, h2, hF⟩ := bind_some hF
  refine rgp (op_call 2 rfl (caps := []) (args := [.vs 7 (List.map eGClass a0)]) (rs := [.p (.bool y1)]) rfl rfl rfl Tryd_cal_28 (ref10_Heavy_ok h2) rfl rfl rfl) ?_
  refine rmv ?_
  rcases ite_some hF with ⟨hb3, hF⟩ | ⟨hb3, hF⟩
  · refine rgo_t hb3 ?_
    iterate 4 (refine rgo_t hb3 ?_)
    refine rpt hb3 ?_
    refine rmv ?_
    iterate 4 (refine rgo_t rfl ?_)
    refine rpt rfl ?_
    refine rmv ?_
    iterate 3 (refine rgo_t rfl ?_)
    refine rpt rfl ?_
    refine ras ?_
    refine reg_nil ?_
    refine post_imp (s' := ⟨27, [(6, some (.pv (.bool true)))], [], 0, [], [], 0, []⟩) (imps [] ⟨by kernel_rfl, trivial⟩ trivial) ?_
    refine post_next ?_
    refine aw_ret ?_
    obtain rfl := Option.some.inj hF
    exact prt
  refine rgn hb3 (op_field_lp rfl rfl Tryd_fld_28_0 rfl rfl) ?_
  refine rgn hb3 (op_field_lp rfl rfl Tryd_fld_25_3 rfl rfl) ?_
  refine rgn hb3 (op_load_lp (v := .pv (.vs 2 (List.map eGVal a1.fF.fVars))) rfl rfl rfl rfl Tryd_one_23 rfl rfl) ?_
  refine rgn hb3 (op_len_vs (n := a1.fF.fVars.length) rfl rfl (List.length_map ..) Tryd_slc_23 rfl rfl) ?_
  refine rgn hb3 (op_int (k := .i64) (m := (a1.fF.fVars.length : Int)) (n := 100) rfl rfl rfl rfl rfl rfl) ?_
  refine rpf hb3 ?_
  refine rmv ?_
  rcases ite_some hF with ⟨hb4, hF⟩ | ⟨hb4, hF⟩
  · refine rgo_t hb4 ?_
    iterate 3 (refine rgo_t hb4 ?_)
    refine rpt hb4 ?_
    refine rmv ?_
    iterate 3 (refine rgo_t rfl ?_)
    refine rpt rfl ?_
    refine ras ?_
    refine reg_nil ?_
    refine post_imp (s' := ⟨27, [(6, some (.pv (.bool true)))], [], 0, [], [], 0, []⟩) (imps [] ⟨by kernel_rfl, trivial⟩ trivial) ?_
    refine post_next ?_
    refine aw_ret ?_
    obtain rfl := Option.some.inj hF
    exact prt
  refine rgn hb4 (op_field_lp rfl rfl Tryd_fld_28_1 rfl rfl) ?_
  refine rgn hb4 (op_load_lp (v := .pv (.vs 1 (List.map eI a1.fIn))) rfl rfl rfl rfl Tryd_one_26 rfl rfl) ?_
  refine rgn hb4 (op_len_vs (n := a1.fIn.length) rfl rfl (List.length_map ..) Tryd_slc_26 rfl rfl) ?_
  refine rgn hb4 (op_int (k := .i64) (m := (a1.fIn.length : Int)) (n := 300) rfl rfl rfl rfl rfl rfl) ?_
  refine rpf hb4 ?_
  refine rmv ?_
  rcases ite_some hF with ⟨hb5, hF⟩ | ⟨hb5, hF⟩
  · refine rgo_t hb5 ?_
    iterate 2 (refine rgo_t hb5 ?_)
    refine rpt hb5 ?_
    refine ras ?_
    refine reg_nil ?_
    refine post_imp (s' := ⟨27, [(6, some (.pv (.bool true)))], [], 0, [], [], 0, []⟩) (imps [] ⟨by kernel_rfl, trivial⟩ trivial) ?_
    refine post_next ?_
    refine aw_ret ?_
    obtain rfl := Option.some.inj hF
    exact prt
  refine rgn hb5 (op_load_lp_agg (ps := eGExpr a2) rfl rfl rfl rfl rfl rfl Tryd_agg_31 rfl rfl) ?_
  obtain ⟨y6, h7, hF⟩ := bind_some hF
  refine rgn hb5 (op_call 2 rfl (caps := []) (args := [.agg (eGExpr a2)]) (rs := [.p (.int .i64 y6)]) rfl rfl rfl Tryd_cal_29 (ref06_Size_ok h7) rfl rfl rfl) ?_
  refine rgn hb5 (op_int (k := .i64) (m := y6) (n := 200) rfl rfl rfl rfl rfl rfl) ?_
  refine rpf hb5 ?_
  refine ras ?_
  refine reg_nil ?_
  refine post_imp (s' := ⟨27, [(6, some (.pv (.bool (decide (y6 > 200)))))], [], 0, [], [], 0, []⟩) (imps [] ⟨by kernel_rfl, trivial⟩ trivial) ?_
  refine post_next ?_
  refine aw_ret ?_
  obtain rfl := Option.some.inj hF
  exact prt
theorem slices_IndexFunc_api_Expr_ok {a0 : List GExpr} {q1 : GExpr → Option Bool} {r : Int} {q1_f : Nat} {q1_c : List PV} (q1_b : callB Tryd.prog q1_f = true) (q1_h : ∀ (x0 : GExpr) (r : Bool), q1 x0 = some r → Abs.Fn globs_Tryd Tryd.prog q1_f ([.agg (eGExpr x0)] ++ q1_c) [.p (.bool r)]) (hF : slices_IndexFunc_api_Expr a0 q1 = some r) : Abs.Fn globs_Tryd Tryd.prog 117 [.vs 4 (eLGExpr a0), .fn q1_f q1_c] [.p (.int .i64 r)] := by
  unfold slices_IndexFunc_api_Expr at hF
  refine fn_of_body (n := 19) Tryd.func117 rfl rfl rfl ?_
  intro w O
  refine aw_seq ?_
  refine aw_region ?_
  refine ras ?_
  refine reg_nil ?_
  refine post_imp (s' := ⟨19, [(0, some (.pv (.vs 4 (eLGExpr a0)))), (1, some (.pv (.fn q1_f q1_c)))], [], 0, [], [], 0, []⟩) (imps [] ⟨by kernel_rfl, by kernel_rfl, trivial⟩ trivial) ?_
  refine post_next ?_
  iterate 2 (refine aw_seq ?_)
  refine aw_region ?_
  refine rmv ?_
  refine rgp (op_len_vs (n := a0.length) rfl rfl (lenR eLGExpr_map) Tryd_slc_29 rfl rfl) ?_
  refine rmv ?_
  refine reg_nil ?_
  refine post_imp (s' := ⟨19, [(0, some (.pv (.vs 4 (eLGExpr a0)))), (1, some (.pv (.fn q1_f q1_c))), (7, some (.pv (.int .i64 (a0.length : Int)))), (8, some (.pv (.int .i64 0)))], [], 0, [], [], 0, []⟩) (imps [] ⟨by kernel_rfl, by kernel_rfl, by kernel_rfl, by kernel_rfl, trivial⟩ trivial) ?_
  refine post_next ?_
  obtain ⟨lr34, hF, hK35⟩ := bind_some hF
  refine aw_for ((((a0.length : Int) : Int) - (0)).toNat + 1) (fun s1 => ∃ q, lr34 = .next q ∧ s1 = ⟨19, [], [], 0, [], [], 0, []⟩) ?_ ?_
  · refine rnd_loop (α := Int) (fun q => ⟨19, [(0, some (.pv (.vs 4 (eLGExpr a0)))), (1, some (.pv (.fn q1_f q1_c))), (7, some (.pv (.int .i64 (a0.length : Int)))), (8, some (.pv (.int .i64 q)))], [], 0, [], [], 0, []⟩) (fun k q => slices_IndexFunc_api_Expr_L1 a0 q1 k q = some lr34) 0 (imps [] ⟨by kernel_rfl, by kernel_rfl, by kernel_rfl, by kernel_rfl, trivial⟩ trivial) hF (fun q h => by cases h) ?_
    clear hF
    rintro k x11 hF ih
    refine rnd_succ ?_
    refine aw_seq ?_
    refine aw_region ?_
    refine rgp (op_int (k := .i64) (m := x11) (n := (a0.length : Int)) rfl rfl rfl rfl rfl rfl) ?_
    refine reg_nil ?_
    refine post_imp (s' := ⟨19, [(0, some (.pv (.vs 4 (eLGExpr a0)))), (1, some (.pv (.fn q1_f q1_c))), (7, some (.pv (.int .i64 (a0.length : Int)))), (8, some (.pv (.int .i64 x11))), (9, some (.pv (.bool (decide (x11 < (a0.length : Int))))))], [], 0, [], [], 0, []⟩) (imps [] ⟨by kernel_rfl, by kernel_rfl, by kernel_rfl, by kernel_rfl, by kernel_rfl, trivial⟩ trivial) ?_
    refine post_next ?_
    refine aw_seq ?_
    rcases ite_some hF with ⟨hb23, hF⟩ | ⟨hb23, hF⟩
    · refine aw_cond_t rfl hb23 ?_
      refine aw_skip ?_
      refine post_next ?_
      refine aw_seq ?_
      refine aw_block ?_
      refine aw_seq ?_
      refine aw_region ?_
      refine rmv ?_
      refine ras ?_
      refine reg_nil ?_
      refine post_imp (s' := ⟨19, [(0, some (.pv (.vs 4 (eLGExpr a0)))), (1, some (.pv (.fn q1_f q1_c))), (5, some (.pv (.int .i64 x11))), (7, some (.pv (.int .i64 (a0.length : Int)))), (8, some (.pv (.int .i64 x11)))], [], 0, [], [], 0, []⟩) (imps [] ⟨by kernel_rfl, by kernel_rfl, by kernel_rfl, by kernel_rfl, by kernel_rfl, trivial⟩ trivial) ?_
      refine post_next ?_
      refine aw_seq ?_
      refine aw_region ?_
      iterate 3 (refine rmv ?_)
      obtain ⟨y28, h29, hF⟩ := bind_some hF
      refine rgp (op_index_vs (k := .i64) rfl rfl rfl (idxR eLGExpr_map h29) Tryd_slc_29 rfl rfl) ?_
      refine rgp (op_load_vp_agg (ps := eGExpr y28) rfl rfl rfl rfl Tryd_agg_31 rfl rfl) ?_
      obtain ⟨y30, h31, hF⟩ := bind_some hF
      refine rgp (op_call 0 rfl (caps := q1_c) (args := [.agg (eGExpr y28)]) (rs := [.p (.bool y30)]) rfl rfl rfl q1_b (q1_h y28 _ h31) rfl rfl rfl) ?_
      refine reg_nil ?_
      refine post_imp (s' := ⟨19, [(0, some (.pv (.vs 4 (eLGExpr a0)))), (1, some (.pv (.fn q1_f q1_c))), (5, some (.pv (.int .i64 x11))), (7, some (.pv (.int .i64 (a0.length : Int)))), (8, some (.pv (.int .i64 x11))), (16, some (.pv (.bool y30)))], [], 0, [], [], 0, []⟩) (imps [] ⟨by kernel_rfl, by kernel_rfl, by kernel_rfl, by kernel_rfl, by kernel_rfl, by kernel_rfl, trivial⟩ trivial) ?_
      refine post_next ?_
      rcases ite_some hF with ⟨hb32, hF⟩ | ⟨hb32, hF⟩
      · refine aw_cond_t rfl hb32 ?_
        refine aw_seq ?_
        refine aw_region ?_
        refine rmv ?_
        refine ras ?_
        refine reg_nil ?_
        refine post_imp (s' := ⟨19, [(4, some (.pv (.int .i64 x11)))], [], 0, [], [], 0, []⟩) (imps [] ⟨by kernel_rfl, trivial⟩ trivial) ?_
        refine post_next ?_
        refine aw_ret ?_
        refine post_block_ret ?_
        iterate 2 (refine post_then_ret ?_)
        refine post_lp_ret ?_
        obtain rfl := Option.some.inj hF
        have hF := elim_stop hK35
        refine post_then_ret ?_
        obtain rfl := Option.some.inj hF
        exact prt
      refine aw_cond_f rfl hb32 ?_
      refine aw_skip ?_
      refine post_block_normal ?_
      refine post_next ?_
      refine aw_region ?_
      refine rgp (op_int (k := .i64) (m := x11) (n := 1) rfl rfl rfl rfl rfl rfl) ?_
      refine rmv ?_
      refine reg_nil ?_
      refine post_round ?_
      exact rnd_back (ih (w_i64 (x11 + 1)) hF) (imps [] ⟨by kernel_rfl, by kernel_rfl, by kernel_rfl, by kernel_rfl, trivial⟩ trivial)
    refine aw_cond_f rfl hb23 ?_
    refine aw_exit ?_
    iterate 2 (refine post_then_exit ?_)
    obtain rfl := Option.some.inj hF
    exact post_lp_break _ ⟨_, rfl, rfl⟩ (imps [] trivial trivial)
  rintro _ ⟨⟨⟩, rfl, rfl⟩
  have hF := elim_next hK35
  clear hK35
  refine post_next ?_
  refine aw_seq ?_
  refine aw_region ?_
  refine ras ?_
  refine reg_nil ?_
  refine post_imp (s' := ⟨19, [(4, some (.pv (.int .i64 (-1))))], [], 0, [], [], 0, []⟩) (imps [] ⟨by kernel_rfl, trivial⟩ trivial) ?_
  refine post_next ?_
  refine aw_ret ?_
  obtain rfl := Option.some.inj hF
  exact prt
theorem slices_ContainsFunc_api_Expr_ok {a0 : List GExpr} {q1 : GExpr → Option Bool} {r : Bool} {q1_f : Nat} {q1_c : List PV} (q1_b : callB Tryd.prog q1_f = true) (q1_h : ∀ (x0 : GExpr) (r : Bool), q1 x0 = some r → Abs.Fn globs_Tryd Tryd.prog q1_f ([.agg (eGExpr x0)] ++ q1_c) [.p (.bool r)]) (hF : slices_ContainsFunc_api_Expr a0 q1 = some r) : Abs.Fn globs_Tryd Tryd.prog 85 [.vs 4 (eLGExpr a0), .fn q1_f q1_c] [.p (.bool r)] := by
  unfold slices_ContainsFunc_api_Expr at hF
  refine fn_of_body (n := 9) Tryd.func85 rfl rfl rfl ?_
  intro w O
  refine aw_seq ?_
  refine aw_region ?_
  refine ras ?_
  refine reg_nil ?_
  refine post_imp (s' := ⟨9, [(0, some (.pv (.vs 4 (eLGExpr a0)))), (1, some (.pv (.fn q1_f q1_c)))], [], 0, [], [], 0, []⟩) (imps [] ⟨by kernel_rfl, by kernel_rfl, trivial⟩ trivial) ?_
  refine post_next ?_
  refine aw_seq ?_
  refine aw_region ?_
  iterate 2 (refine rmv ?_)
  obtain ⟨y1, h2, hF⟩ := bind_some hF
  refine rgp (op_call 0 rfl (caps := []) (args := [.vs 4 (eLGExpr a0), .fn q1_f q1_c]) (rs := [.p (.int .i64 y1)]) rfl rfl rfl Tryd_cal_117 (slices_IndexFunc_api_Expr_ok (q1_b := q1_b) (q1_h := q1_h) h2) rfl rfl rfl) ?_
  refine rgp (op_int (k := .i64) (m := y1) (n := 0) rfl rfl rfl rfl rfl rfl) ?_
  refine ras ?_
  refine reg_nil ?_
  refine post_imp (s' := ⟨9, [(4, some (.pv (.bool (decide (y1 ≥ 0)))))], [], 0, [], [], 0, []⟩) (imps [] ⟨by kernel_rfl, trivial⟩ trivial) ?_
  refine post_next ?_
  refine aw_ret ?_
  obtain rfl := Option.some.inj hF
  exact prt
theorem expr_deep_ring : ∀ n : Nat, (∀ (a0 : GExpr) (a1 : Int) (r : Bool), expr_deep n a0 a1 = some r → Abs.Fn globs_Tryd Tryd.prog 59 [.agg (eGExpr a0), .int .i64 a1] [.p (.bool r)]) ∧ (∀ (a0 : GExpr) (c0 : Int) (r : Bool), expr_deep_1 n a0 c0 = some r → Abs.Fn globs_Tryd Tryd.prog 86 [.agg (eGExpr a0), .vp (eI c0)] [.p (.bool r)]) := by
  intro n
  induction n with
  | zero => exact ⟨fun _ _ _ h => by simp [expr_deep] at h, fun _ _ _ h => by simp [expr_deep_1] at h⟩
  | succ n ih =>
    obtain ⟨expr_deep_ih, expr_deep_1_ih⟩ := ih
    refine ⟨?_, ?_⟩
    · intro a0 a1 r hF
      unfold expr_deep at hF
      revert hF expr_deep_ih expr_deep_1_ih
      generalize expr_deep n = expr_deep_rec
      generalize expr_deep_1 n = expr_deep_1_rec
      intro expr_deep_ih expr_deep_1_ih hF
      refine fn_of_body (n := 12) Tryd.func59 rfl rfl rfl ?_
      intro w O
      refine aw_seq ?_
      refine aw_region ?_
      refine rgp (op_box 0 rfl rfl rfl rfl rfl rfl) ?_
      refine rgp (op_box 1 rfl rfl rfl rfl rfl rfl) ?_
      refine ras ?_
      refine reg_nil ?_
      refine post_imp (s' := ⟨12, [(2, some (.lp 0 0)), (3, some (.lp 1 0))], [(0, some (.box 31 (bxv (eGExpr a0)))), (1, some (.box 3 [.pv (.int .i64 a1)]))], 2, [], [], 0, []⟩) (imps [0, 1] ⟨by kernel_rfl, by kernel_rfl, trivial⟩ ⟨by kernel_rfl, by kernel_rfl, trivial⟩) ?_
      refine post_next ?_
      iterate 2 (refine aw_seq ?_)
      refine aw_region ?_
      refine rgp (op_load_lp (v := .pv (.int .i64 a1)) rfl rfl rfl rfl Tryd_one_3 rfl rfl) ?_
      refine rgp (op_int (k := .i64) (m := a1) (n := 0) rfl rfl rfl rfl rfl rfl) ?_
      refine reg_nil ?_
      refine post_imp (s' := ⟨12, [(2, some (.lp 0 0)), (3, some (.lp 1 0)), (6, some (.pv (.bool (a1 == 0))))], [(0, some (.box 31 (bxv (eGExpr a0)))), (1, some (.box 3 [.pv (.int .i64 a1)]))], 2, [], [], 0, []⟩) (imps [0, 1] ⟨by kernel_rfl, by kernel_rfl, by kernel_rfl, trivial⟩ ⟨by kernel_rfl, by kernel_rfl, trivial⟩) ?_
      refine post_next ?_
      rcases ite_some hF with ⟨hb1, hF⟩ | ⟨hb1, hF⟩
      · refine aw_cond_t rfl hb1 ?_
        refine aw_seq ?_
        refine aw_region ?_
        refine ras ?_
        refine reg_nil ?_
        refine post_imp (s' := ⟨12, [(4, some (.pv (.bool false)))], [], 0, [], [], 0, []⟩) (imps [] ⟨by kernel_rfl, trivial⟩ trivial) ?_
        refine post_next ?_
        refine aw_ret ?_
        refine post_then_ret ?_
        obtain rfl := Option.some.inj hF
        exact prt
      refine aw_cond_f rfl hb1 ?_
      refine aw_skip ?_
      refine post_next ?_
      refine aw_seq ?_
      refine aw_region ?_
      refine rgp (op_field_lp rfl rfl Tryd_fld_31_3 rfl rfl) ?_
      refine rgp (op_load_lp (v := .pv (.vs 4 (eLGExpr a0.fKids))) rfl rfl rfl rfl Tryd_one_29 rfl rfl) ?_
      refine rgp (op_makeFunc rfl rfl rfl rfl) ?_
      obtain ⟨y3, h4, hF⟩ := bind_some hF
      refine rgp (op_callB 2 rfl (caps := []) (args := [.vs 4 (eLGExpr a0.fKids), .fn 86 [.vp (eI a1)]]) [(1, some (.box 3 [.pv (.int .i64 a1)]))] rfl rfl rfl (FzH.spec ⟨rfl, trivial⟩) rfl rfl Tryd_cal_85 (slices_ContainsFunc_api_Expr_ok (q1_f := 86) (q1_c := [.vp (eI a1)]) (q1_b := Tryd_cal_86) (q1_h := fun _ r h => (expr_deep_1_ih _ _ _ h)) h4) rfl rfl rfl) ?_
      refine rgp (op_not rfl rfl rfl rfl) ?_
      refine ras ?_
      refine reg_nil ?_
      refine post_imp (s' := ⟨12, [(4, some (.pv (.bool (!y3))))], [], 0, [], [], 0, []⟩) (imps [] ⟨by kernel_rfl, trivial⟩ trivial) ?_
      refine post_next ?_
      refine aw_ret ?_
      obtain rfl := Option.some.inj hF
      exact prt
    · intro a0 c0 r hF
      unfold expr_deep_1 at hF
      revert hF expr_deep_ih expr_deep_1_ih
      generalize expr_deep n = expr_deep_rec
      generalize expr_deep_1 n = expr_deep_1_rec
      intro expr_deep_ih expr_deep_1_ih hF
      refine fn_of_body (n := 9) Tryd.func86 rfl rfl rfl ?_
      intro w O
      refine aw_seq ?_
      refine aw_region ?_
      refine rgp (op_box 0 rfl rfl rfl rfl rfl rfl) ?_
      refine ras ?_
      refine reg_nil ?_
      refine post_imp (s' := ⟨9, [(1, some (.pv (.vp (eI c0)))), (2, some (.lp 0 0))], [(0, some (.box 31 (bxv (eGExpr a0))))], 1, [], [], 0, []⟩) (imps [0] ⟨by kernel_rfl, by kernel_rfl, trivial⟩ ⟨by kernel_rfl, trivial⟩) ?_
      refine post_next ?_
      refine aw_seq ?_
      refine aw_region ?_
      refine rgp (op_load_lp_agg (ps := eGExpr a0) rfl rfl rfl rfl rfl rfl Tryd_agg_31 rfl rfl) ?_
      refine rgp (op_load_vp (p := .int .i64 c0) rfl rfl rfl Tryd_one_3 rfl rfl) ?_
      refine rgp (op_int (k := .i64) (m := c0) (n := 1) rfl rfl rfl rfl rfl rfl) ?_
      obtain ⟨y1, h2, hF⟩ := bind_some hF
      refine rgp (op_call 1 rfl (caps := []) (args := [.agg (eGExpr a0), .int .i64 (w_i64 (c0 - 1))]) (rs := [.p (.bool y1)]) rfl rfl rfl Tryd_cal_59 (expr_deep_ih _ _ _ h2) rfl rfl rfl) ?_
      refine rgp (op_not rfl rfl rfl rfl) ?_
      refine ras ?_
      refine reg_nil ?_
      refine post_imp (s' := ⟨9, [(3, some (.pv (.bool (!y1))))], [], 0, [], [], 0, []⟩) (imps [] ⟨by kernel_rfl, trivial⟩ trivial) ?_
      refine post_next ?_
      refine aw_ret ?_
      obtain rfl := Option.some.inj hF
      exact prt
theorem expr_deep_ok {n : Nat} {a0 : GExpr} {a1 : Int} {r : Bool} (hF : expr_deep n a0 a1 = some r) : Abs.Fn globs_Tryd Tryd.prog 59 [.agg (eGExpr a0), .int .i64 a1] [.p (.bool r)] := (expr_deep_ring n).1 _ _ _ hF
theorem expr_deep_1_ok {n : Nat} {a0 : GExpr} {c0 : Int} {r : Bool} (hF : expr_deep_1 n a0 c0 = some r) : Abs.Fn globs_Tryd Tryd.prog 86 [.agg (eGExpr a0), .vp (eI c0)] [.p (.bool r)] := (expr_deep_ring n).2 _ _ _ hF


theorem expr_all_ok {a0 : GExpr} {r : GExpr} (hF : expr_all a0 = some r) : Abs.Fn globs_Tryd Tryd.prog 60 [.agg (eGExpr a0)] [.p (.fn 87 [.vp (eGExpr r)])] := by
  unfold expr_all at hF
  refine fn_of_body (n := 4) Tryd.func60 rfl rfl rfl ?_
  intro w O
  refine aw_seq ?_
  refine aw_region ?_
  refine rgp (op_box 0 rfl rfl rfl rfl rfl rfl) ?_
  refine ras ?_
  refine reg_nil ?_
  refine post_imp (s' := ⟨4, [(1, some (.lp 0 0))], [(0, some (.box 31 (bxv (eGExpr a0))))], 1, [], [], 0, []⟩) (imps [0] ⟨by kernel_rfl, trivial⟩ ⟨by kernel_rfl, trivial⟩) ?_
  refine post_next ?_
  refine aw_seq ?_
  refine aw_region ?_
  refine rgp (op_makeFunc rfl rfl rfl rfl) ?_
  refine ras ?_
  refine reg_nil ?_
  refine post_imp (s' := ⟨4, [(2, some (.fn 87 [.lp 0 0]))], [(0, some (.box 31 (bxv (eGExpr a0))))], 1, [], [], 0, []⟩) (imps [0] ⟨by kernel_rfl, trivial⟩ ⟨by kernel_rfl, trivial⟩) ?_
  refine post_next ?_
  refine aw_ret ?_
  refine post_imp (imp_freeze [(0, some (.box 31 (bxv (eGExpr a0))))] [(2, some (.pv (.fn 87 [.vp (eGExpr a0)])))] (FzH.spec ⟨rfl, trivial⟩) ⟨⟨_, rfl, rfl⟩, trivial⟩) ?_
  obtain rfl := Option.some.inj hF
  exact post_ret rfl rfl (.cons _ _ _ _ _ (.tmp _ _ rfl) (.p _) .nil) (.inl rfl)
theorem slices_Backward_api_Expr_ok {a0 : List GExpr} {r : (List GExpr)} (hF : slices_Backward_api_Expr a0 = some r) : Abs.Fn globs_Tryd Tryd.prog 88 [.vs 4 (eLGExpr a0)] [.p (.fn 118 [.vp ((fun x => ([.vs 4 (eLGExpr x)] : List PV)) r)])] := by
  unfold slices_Backward_api_Expr at hF
  refine fn_of_body (n := 4) Tryd.func88 rfl rfl rfl ?_
  intro w O
  refine aw_seq ?_
  refine aw_region ?_
  refine rgp (op_box 0 rfl rfl rfl rfl rfl rfl) ?_
  refine ras ?_
  refine reg_nil ?_
  refine post_imp (s' := ⟨4, [(1, some (.lp 0 0))], [(0, some (.box 29 [.pv (.vs 4 (eLGExpr a0))]))], 1, [], [], 0, []⟩) (imps [0] ⟨by kernel_rfl, trivial⟩ ⟨by kernel_rfl, trivial⟩) ?_
  refine post_next ?_
  refine aw_seq ?_
  refine aw_region ?_
  refine rgp (op_makeFunc rfl rfl rfl rfl) ?_
  refine ras ?_
  refine reg_nil ?_
  refine post_imp (s' := ⟨4, [(2, some (.fn 118 [.lp 0 0]))], [(0, some (.box 29 [.pv (.vs 4 (eLGExpr a0))]))], 1, [], [], 0, []⟩) (imps [0] ⟨by kernel_rfl, trivial⟩ ⟨by kernel_rfl, trivial⟩) ?_
  refine post_next ?_
  refine aw_ret ?_
  refine post_imp (imp_freeze [(0, some (.box 29 [.pv (.vs 4 (eLGExpr a0))]))] [(2, some (.pv (.fn 118 [.vp ((fun x => ([.vs 4 (eLGExpr x)] : List PV)) a0)])))] (FzH.spec ⟨rfl, trivial⟩) ⟨⟨_, rfl, rfl⟩, trivial⟩) ?_
  obtain rfl := Option.some.inj hF
  exact post_ret rfl rfl (.cons _ _ _ _ _ (.tmp _ _ rfl) (.p _) .nil) (.inl rfl)
theorem slices_Backward_api_Expr_1_it {rows : List (Int × GExpr)} {sp : Nat} {c0 : List GExpr} (hF : slices_Backward_api_Expr_1 rows sp c0 = some (min (sp + 1) rows.length)) : It globs_Tryd Tryd.prog 118 2 [.vp ((fun x => ([.vs 4 (eLGExpr x)] : List PV)) c0)] none [] (rows.map (fun z : Int × GExpr => ([.int .i64 z.1, .agg (eGExpr z.2)] : List PV))) sp := by
  unfold slices_Backward_api_Expr_1 at hF
  refine it_of_body (n := 19) Tryd.func118 rfl rfl rfl ?_
  intro l c hcx
  refine aw_seq ?_
  refine aw_region ?_
  refine rgp (op_load_vp (p := .vs 4 (eLGExpr c0)) rfl rfl rfl Tryd_one_29 rfl rfl) ?_
  refine rgp (op_len_vs (n := c0.length) rfl rfl (lenR eLGExpr_map) Tryd_slc_29 rfl rfl) ?_
  refine rgp (op_int (k := .i64) (m := (c0.length : Int)) (n := 1) rfl rfl rfl rfl rfl rfl) ?_
  refine ras ?_
  refine reg_nil ?_
  refine post_imp (s' := ⟨19, [(0, some (.pv (.yld l))), (1, some (.pv (.vp ((fun x => ([.vs 4 (eLGExpr x)] : List PV)) c0)))), (3, some (.pv (.int .i64 (w_i64 ((c0.length : Int) - 1)))))], [], 0, [], [], 0, []⟩) (imps [] ⟨by kernel_rfl, by kernel_rfl, by kernel_rfl, trivial⟩ trivial) ?_
  refine post_next ?_
  obtain ⟨lr38, hF, hK39⟩ := bind_some hF
  refine aw_for ((((w_i64 ((c0.length : Int) - 1)) : Int) - (0)).toNat + 2) (fun s1 => ∃ q, lr38 = .next q ∧ s1 = ⟨19, [], [], 0, [], [], q, []⟩) ?_ ?_
  · refine rnd_loop (α := Nat × Int) (fun q => ⟨19, [(0, some (.pv (.yld l))), (1, some (.pv (.vp ((fun x => ([.vs 4 (eLGExpr x)] : List PV)) c0)))), (3, some (.pv (.int .i64 q.2)))], [], 0, [], [], q.1, []⟩) (fun k q => slices_Backward_api_Expr_1_L1 c0 sp rows k q.1 q.2 = some lr38) (0, w_i64 ((c0.length : Int) - 1)) (imps [] ⟨by kernel_rfl, by kernel_rfl, by kernel_rfl, trivial⟩ trivial) hF (fun q h => by cases h) ?_
    clear hF
    rintro k ⟨x11, x12⟩ hF ih
    refine rnd_succ ?_
    iterate 2 (refine aw_seq ?_)
    refine aw_region ?_
    refine rmv ?_
    refine rgp (op_int (k := .i64) (m := x12) (n := 0) rfl rfl rfl rfl rfl rfl) ?_
    refine reg_nil ?_
    refine post_imp (s' := ⟨19, [(0, some (.pv (.yld l))), (1, some (.pv (.vp ((fun x => ([.vs 4 (eLGExpr x)] : List PV)) c0)))), (3, some (.pv (.int .i64 x12))), (8, some (.pv (.bool (decide (x12 ≥ 0)))))], [], 0, [], [], x11, []⟩) (imps [] ⟨by kernel_rfl, by kernel_rfl, by kernel_rfl, by kernel_rfl, trivial⟩ trivial) ?_
    refine post_next ?_
    rcases ite_some hF with ⟨hb25, hF⟩ | ⟨hb25, hF⟩
    · refine aw_cond_t rfl hb25 ?_
      refine aw_skip ?_
      refine post_next ?_
      refine aw_seq ?_
      refine aw_block ?_
      refine aw_seq ?_
      refine aw_region ?_
      iterate 2 (refine rmv ?_)
      refine rgp (op_load_vp (p := .vs 4 (eLGExpr c0)) rfl rfl rfl Tryd_one_29 rfl rfl) ?_
      refine rmv ?_
      obtain ⟨y30, h31, hF⟩ := bind_some hF
      refine rgp (op_index_vs (k := .i64) rfl rfl rfl (idxR eLGExpr_map h31) Tryd_slc_29 rfl rfl) ?_
      refine rgp (op_load_vp_agg (ps := eGExpr y30) rfl rfl rfl rfl Tryd_agg_31 rfl rfl) ?_
      obtain ⟨u32, h33, hF⟩ := bind_some hF
      refine rgp (op_yield (row := (fun z : Int × GExpr => ([.int .i64 z.1, .agg (eGExpr z.2)] : List PV)) (x12, y30)) hcx rfl rfl rfl rfl (yck_row (fun z : Int × GExpr => ([.int .i64 z.1, .agg (eGExpr z.2)] : List PV)) h33) (yck_spec h33).2 rfl rfl) ?_
      refine rgp (op_not rfl rfl rfl rfl) ?_
      refine reg_nil ?_
      refine post_imp (s' := ⟨19, [(0, some (.pv (.yld l))), (1, some (.pv (.vp ((fun x => ([.vs 4 (eLGExpr x)] : List PV)) c0)))), (3, some (.pv (.int .i64 x12))), (18, some (.pv (.bool (!(!(x11 == sp))))))], [], 0, [], [], (x11 + 1), []⟩) (imps [] ⟨by kernel_rfl, by kernel_rfl, by kernel_rfl, by kernel_rfl, trivial⟩ trivial) ?_
      refine post_next ?_
      rcases ite_some hF with ⟨hb34, hF⟩ | ⟨hb34, hF⟩
      · refine aw_cond_t rfl hb34 ?_
        refine aw_ret ?_
        refine post_block_ret ?_
        iterate 2 (refine post_then_ret ?_)
        refine post_lp_ret ?_
        obtain rfl := Option.some.inj hF
        have hF := elim_stop hK39
        exact post_it (it_len hF) rfl (.inl rfl)
      refine aw_cond_f rfl hb34 ?_
      refine aw_skip ?_
      refine post_block_normal ?_
      refine post_next ?_
      refine aw_region ?_
      refine rmv ?_
      refine rgp (op_int (k := .i64) (m := x12) (n := 1) rfl rfl rfl rfl rfl rfl) ?_
      refine ras ?_
      refine reg_nil ?_
      refine post_round ?_
      exact rnd_back (ih ((x11 + 1), w_i64 (x12 - 1)) hF) (imps [] ⟨by kernel_rfl, by kernel_rfl, by kernel_rfl, trivial⟩ trivial)
    refine aw_cond_f rfl hb25 ?_
    refine aw_exit ?_
    iterate 2 (refine post_then_exit ?_)
    obtain rfl := Option.some.inj hF
    exact post_lp_break _ ⟨_, rfl, rfl⟩ (imps [] trivial trivial)
  rintro _ ⟨x37, rfl, rfl⟩
  have hF := elim_next hK39
  clear hK39
  exact post_it (it_len hF) rfl (.inr rfl)

theorem expr_all_1_it {rows : List (GExpr)} {sp : Nat} {c0 : GExpr} (hF : expr_all_1 rows sp c0 = some (min (sp + 1) rows.length)) : It globs_Tryd Tryd.prog 87 1 [.vp (eGExpr c0)] none [] (rows.map (fun z : GExpr => ([.agg (eGExpr z)] : List PV))) sp := by
  unfold expr_all_1 at hF
  refine it_of_body (n := 38) Tryd.func87 rfl rfl rfl ?_
  intro l c hcx
  refine aw_seq ?_
  refine aw_region ?_
  refine rgp (op_load_vp_agg (ps := eGExpr c0) rfl rfl rfl rfl Tryd_agg_31 rfl rfl) ?_
  refine rgp (op_litOwnR 0 rfl (rows := List.map eGExpr ([c0] : List GExpr)) (rows' := eLGExpr ([c0] : List GExpr)) (zs := (eGExpr zGExpr)) rfl rfl Tryd_slc_29 Tryd_zer_31 (by exact ⟨rfl, rfl, rfl, trivial, trivial⟩) rfl rfl rfl rfl rfl rfl (eLGExpr_map _) rfl rfl) ?_
  refine rgp (op_alloc 1 rfl (ps := [.nils]) rfl Tryd_zer_29 (by exact ⟨rfl, trivial⟩) rfl rfl) ?_
  refine reg_imp (imp_nil_box 1 0 29 31 4 2 rfl rfl rfl) ?_
  refine rgp (op_store_lp (n := 1) rfl rfl rfl rfl rfl (or_one Tryd_one_29) (by rw [Tryd_one_29]; rfl) rfl rfl rfl) ?_
  refine reg_nil ?_
  refine post_imp (s' := ⟨38, [(0, some (.pv (.yld l))), (3, some (.lp 0 0))], [(0, some (.box 29 [.ls 1])), (1, some (.row 31 4 (eLGExpr [c0])))], 2, [], [], 0, []⟩) (imps [1, 0] ⟨by kernel_rfl, by kernel_rfl, trivial⟩ ⟨by kernel_rfl, by kernel_rfl, trivial⟩) ?_
  refine post_next ?_
  obtain ⟨lr149, hF, hK150⟩ := bind_some hF
  refine aw_for (mGExpr c0 + 2) (fun s1 => ∃ q, lr149 = .next q ∧ s1 = ⟨38, [], [], 0, [], [], q, []⟩) ?_ ?_
  · refine rnd_loop (α := Nat × (List GExpr)) (fun q => ⟨38, [(0, some (.pv (.yld l))), (3, some (.lp 0 0))], [(0, some (.box 29 [.ls 1])), (1, some (.row 31 4 (eLGExpr q.2)))], 2, [], [], q.1, []⟩) (fun k q => expr_all_1_L1 sp rows k q.1 q.2 = some lr149) (0, [c0]) (imps [0, 1] ⟨by kernel_rfl, by kernel_rfl, trivial⟩ ⟨by kernel_rfl, by kernel_rfl, trivial⟩) hF (fun q h => by cases h) ?_
    clear hF
    rintro k ⟨x48, x49⟩ hF ih
    refine rnd_succ ?_
    iterate 2 (refine aw_seq ?_)
    refine aw_region ?_
    refine rgp (op_load_lp (v := .ls 1) rfl rfl rfl rfl Tryd_one_29 rfl rfl) ?_
    refine rgp (op_len_ls (n := x49.length) rfl rfl rfl (lenR eLGExpr_map) Tryd_slc_29 rfl rfl) ?_
    refine rgp (op_int (k := .i64) (m := (x49.length : Int)) (n := 0) rfl rfl rfl rfl rfl rfl) ?_
    refine reg_nil ?_
    refine post_imp (s' := ⟨38, [(0, some (.pv (.yld l))), (3, some (.lp 0 0)), (11, some (.pv (.bool (decide ((x49.length : Int) > 0)))))], [(0, some (.box 29 [.ls 1])), (1, some (.row 31 4 (eLGExpr x49)))], 2, [], [], x48, []⟩) (imps [0, 1] ⟨by kernel_rfl, by kernel_rfl, by kernel_rfl, trivial⟩ ⟨by kernel_rfl, by kernel_rfl, trivial⟩) ?_
    refine post_next ?_
    rcases ite_some hF with ⟨hb99, hF⟩ | ⟨hb99, hF⟩
    · refine aw_cond_t rfl hb99 ?_
      refine aw_skip ?_
      refine post_next ?_
      refine aw_block ?_
      refine aw_seq ?_
      refine aw_region ?_
      iterate 2 (refine rgp (op_load_lp (v := .ls 1) rfl rfl rfl rfl Tryd_one_29 rfl rfl) ?_)
      refine rgp (op_len_ls (n := x49.length) rfl rfl rfl (lenR eLGExpr_map) Tryd_slc_29 rfl rfl) ?_
      refine rgp (op_int (k := .i64) (m := (x49.length : Int)) (n := 1) rfl rfl rfl rfl rfl rfl) ?_
      obtain ⟨y102, h103, hF⟩ := bind_some hF
      refine rgp (op_index_ls (k := .i64) rfl rfl rfl rfl (idxR eLGExpr_map h103) Tryd_slc_29 rfl rfl) ?_
      refine rgp (op_load_le_agg (ps := eGExpr y102) rfl rfl rfl (getR eLGExpr_map h103) rfl rfl Tryd_agg_31 rfl rfl) ?_
      refine rgp (op_alloc 2 rfl (ps := (eGExpr zGExpr)) rfl Tryd_zer_31 (by exact ⟨rfl, rfl, rfl, trivial, trivial⟩) rfl rfl) ?_
      refine rgp (op_store_lp (n := 4) rfl rfl rfl rfl rfl (or_agg Tryd_agg_31) (by rw [Tryd_non_31]; rfl) rfl rfl rfl) ?_
      refine reg_nil ?_
      refine post_imp (s' := ⟨38, [(0, some (.pv (.yld l))), (3, some (.lp 0 0)), (4, some (.lp 2 0))], [(0, some (.box 29 [.ls 1])), (1, some (.row 31 4 (eLGExpr x49))), (2, some (.box 31 (bxv (eGExpr y102))))], 3, [], [], x48, []⟩) (imps [0, 1, 2] ⟨by kernel_rfl, by kernel_rfl, by kernel_rfl, trivial⟩ ⟨by kernel_rfl, by kernel_rfl, by kernel_rfl, trivial⟩) ?_
      refine post_next ?_
      refine aw_seq ?_
      refine aw_region ?_
      iterate 2 (refine rgp (op_load_lp (v := .ls 1) rfl rfl rfl rfl Tryd_one_29 rfl rfl) ?_)
      refine rgp (op_len_ls (n := x49.length) rfl rfl rfl (lenR eLGExpr_map) Tryd_slc_29 rfl rfl) ?_
      refine rgp (op_int (k := .i64) (m := (x49.length : Int)) (n := 1) rfl rfl rfl rfl rfl rfl) ?_
      obtain ⟨y106, h107, hF⟩ := bind_some hF
      refine rgp (op_slice_own 3 rfl rfl rfl rfl rfl Tryd_slc_29 (cutR0 eLGExpr_map h107) rfl rfl) ?_
      refine rgp (op_store_lp (n := 1) rfl rfl rfl rfl rfl (or_one Tryd_one_29) (by rw [Tryd_one_29]; rfl) rfl rfl rfl) ?_
      refine reg_nil ?_
      refine post_imp (s' := ⟨38, [(0, some (.pv (.yld l))), (3, some (.lp 0 0)), (4, some (.lp 2 0))], [(0, some (.box 29 [.ls 1])), (1, some (.row 31 4 (eLGExpr y106))), (2, some (.box 31 (bxv (eGExpr y102))))], 3, [], [], x48, []⟩) (imps [0, 3, 2] ⟨by kernel_rfl, by kernel_rfl, by kernel_rfl, trivial⟩ ⟨by kernel_rfl, by kernel_rfl, by kernel_rfl, trivial⟩) ?_
      refine post_next ?_
      iterate 2 (refine aw_seq ?_)
      refine aw_region ?_
      refine rmv ?_
      refine rgp (op_load_lp_agg (ps := eGExpr y102) rfl rfl rfl rfl rfl rfl Tryd_agg_31 rfl rfl) ?_
      obtain ⟨u110, h111, hF⟩ := bind_some hF
      refine rgp (op_yield (row := (fun z : GExpr => ([.agg (eGExpr z)] : List PV)) y102) hcx rfl rfl rfl rfl (yck_row (fun z : GExpr => ([.agg (eGExpr z)] : List PV)) h111) (yck_spec h111).2 rfl rfl) ?_
      refine rgp (op_not rfl rfl rfl rfl) ?_
      refine reg_nil ?_
      refine post_imp (s' := ⟨38, [(0, some (.pv (.yld l))), (3, some (.lp 0 0)), (4, some (.lp 2 0)), (26, some (.pv (.bool (!(!(x48 == sp))))))], [(0, some (.box 29 [.ls 1])), (1, some (.row 31 4 (eLGExpr y106))), (2, some (.box 31 (bxv (eGExpr y102))))], 3, [], [], (x48 + 1), []⟩) (imps [0, 1, 2] ⟨by kernel_rfl, by kernel_rfl, by kernel_rfl, by kernel_rfl, trivial⟩ ⟨by kernel_rfl, by kernel_rfl, by kernel_rfl, trivial⟩) ?_
      refine post_next ?_
      rcases ite_some hF with ⟨hb112, hF⟩ | ⟨hb112, hF⟩
      · refine aw_cond_t rfl hb112 ?_
        refine aw_ret ?_
        refine post_then_ret ?_
        refine post_block_ret ?_
        refine post_then_ret ?_
        refine post_lp_ret ?_
        obtain rfl := Option.some.inj hF
        have hF := elim_stop hK150
        exact post_it (it_len hF) rfl (.inl rfl)
      refine aw_cond_f rfl hb112 ?_
      refine aw_skip ?_
      refine post_next ?_
      refine aw_seq ?_
      refine aw_region ?_
      refine rgp (op_field_lp rfl rfl Tryd_fld_31_3 rfl rfl) ?_
      refine rgp (op_load_lp (v := .pv (.vs 4 (eLGExpr y102.fKids))) rfl rfl rfl rfl Tryd_one_29 rfl rfl) ?_
      obtain ⟨y115, h116, hF⟩ := bind_some hF
      refine rgp (op_call 3 rfl (caps := []) (args := [.vs 4 (eLGExpr y102.fKids)]) (rs := [.p (.fn 118 [.vp ((fun x => ([.vs 4 (eLGExpr x)] : List PV)) y115)])]) rfl rfl rfl Tryd_cal_88 (slices_Backward_api_Expr_ok h116) rfl rfl rfl) ?_
      refine reg_nil ?_
      refine post_imp (s' := ⟨38, [(0, some (.pv (.yld l))), (3, some (.lp 0 0)), (29, some (.pv (.fn 118 [.vp ((fun x => ([.vs 4 (eLGExpr x)] : List PV)) y115)])))], [(0, some (.box 29 [.ls 1])), (1, some (.row 31 4 (eLGExpr y106)))], 2, [], [], (x48 + 1), []⟩) (imps [0, 1] ⟨by kernel_rfl, by kernel_rfl, by kernel_rfl, trivial⟩ ⟨by kernel_rfl, by kernel_rfl, trivial⟩) ?_
      refine post_next ?_
      refine aw_block ?_
      refine aw_imp (s' := ⟨38, [(0, some (.pv (.yld l))), (3, some (.lp 0 0)), (29, some (.pv (.fn 118 [.vp ((fun x => ([.vs 4 (eLGExpr x)] : List PV)) y115)])))], [(0, some (.box 29 [.ls 1])), (1, some (.row 31 4 (eLGExpr y106)))], 2, [], [], (x48 + 1), []⟩) (imps [0, 1] ⟨by kernel_rfl, by kernel_rfl, by kernel_rfl, trivial⟩ ⟨by kernel_rfl, by kernel_rfl, trivial⟩) ?_
      obtain ⟨rows138, hR139, hF⟩ := bind_some hF
      obtain ⟨lr140, hL141, hF⟩ := bind_some hF
      refine aw_rangeFunc (X := (Int × GExpr)) (Q := (List GExpr)) (E := Unit) (pre := [.vp ((fun x => ([.vs 4 (eLGExpr x)] : List PV)) y115)]) (bx := none) (post := []) (kt := [0, 3]) (psl := [30, 31]) none (fun z : Int × GExpr => ([.int .i64 z.1, .agg (eGExpr z.2)] : List PV)) rows138 expr_all_1_B2 y106 lr140 hL141 (fun q => ⟨38, [(0, some (.pv (.yld l))), (3, some (.lp 0 0))], [(0, some (.box 29 [.ls 1])), (1, some (.row 31 4 (eLGExpr q)))], 2, [], [], (x48 + 1), []⟩) (fun _ => (.ret, ⟨38, [], [], 0, [], [], 0, []⟩)) ⟨rfl, rfl⟩ Tryd_cal_118 (fun sp => slices_Backward_api_Expr_1_it (itR_back_api_Expr_ok hR139 sp)) (fun _ => rfl) rfl rfl (by decide) rfl (fun x q => ⟨38, [(0, some (.pv (.yld l))), (3, some (.lp 0 0)), (6, some (.lp 2 0)), (30, some (.pv (.int .i64 x.1))), (31, some (.pv (.agg (eGExpr x.2))))], [(0, some (.box 29 [.ls 1])), (1, some (.row 31 4 (eLGExpr q))), (2, some (.box 31 (bxv (eGExpr x.2))))], 3, [], [], (x48 + 1), [0, 3]⟩) (fun q => ⟨rfl, rfl, rfl, rfl⟩) (fun z => ⟨rfl, rfl, rfl, rfl⟩) (fun z => rfl) rfl rfl ⟨rfl, rfl, trivial⟩ ⟨⟨rfl, rfl, rfl⟩, ⟨rfl, rfl, rfl⟩, trivial⟩ ?_ ?_ ?_ ?_
      · rintro l142 c143 ⟨x131, x132⟩ x123 hc144
        refine aw_region ?_
        refine rgp (op_alloc 2 rfl (ps := (eGExpr zGExpr)) rfl Tryd_zer_31 (by exact ⟨rfl, rfl, rfl, trivial, trivial⟩) rfl rfl) ?_
        refine rgp (op_store_lp (n := 4) rfl rfl rfl rfl rfl (or_agg Tryd_agg_31) (by rw [Tryd_non_31]; rfl) rfl rfl rfl) ?_
        refine reg_nil ?_
        exact post_cut1 (imps [0, 1, 2] ⟨by kernel_rfl, by kernel_rfl, by kernel_rfl, by kernel_rfl, by kernel_rfl, trivial⟩ ⟨by kernel_rfl, by kernel_rfl, by kernel_rfl, trivial⟩)
      · rintro l142 c143 ⟨x131, x132⟩ x123 r145 hc144 hF
        rw [expr_all_1_B2] at hF
        have hcx := hcx.round hc144
        refine aw_block ?_
        refine aw_imp (imp_names 1) ?_
        refine dr_start ⟨_, _, _⟩ rfl ?_
        refine dr_cons { need := [(3, .lp 0 0)], hneed := [(0, .box 29 [.ls 1])], dst := some 32, val := some (.ls 1) } (fun m h => step_on (guard_no rfl) (op_load_lp (v := .ls 1) rfl h.1.1 h.2.1.1 rfl Tryd_one_29 rfl rfl) rfl) ⟨⟨rfl, trivial⟩, ⟨rfl, trivial⟩, trivial⟩ ?_
        refine dr_cons { need := [(6, .lp 2 0)], hneed := [(2, .box 31 (bxv (eGExpr x132)))], dst := some 33, val := some (.pv (.agg (eGExpr x132))) } (fun m h => step_on (guard_no rfl) (op_load_lp_agg (ps := eGExpr x132) rfl h.1.1 h.2.1.1 rfl rfl rfl Tryd_agg_31 rfl rfl) rfl) ⟨⟨rfl, trivial⟩, ⟨rfl, trivial⟩, trivial⟩ ?_
        refine dr_cons { need := [(32, .ls 1)], hneed := [(1, .row 31 4 (eLGExpr x123))], dst := some 34, val := some (.pv (.int .i64 (x123.length : Int))) } (fun m h => step_on (guard_no rfl) (op_len_ls (n := x123.length) rfl h.1.1 h.2.1.1 (lenR eLGExpr_map) Tryd_slc_29 rfl rfl) rfl) ⟨⟨rfl, trivial⟩, ⟨rfl, trivial⟩, trivial⟩ ?_
        refine dr_cons { dst := some 35, val := some (.pv (.vs 4 (eLGExpr ([zGExpr] : List GExpr)))) } (fun m h => step_on (guard_no rfl) (op_litZ (zs := (eGExpr zGExpr)) (rows := eLGExpr ([zGExpr] : List GExpr)) rfl Tryd_slc_29 Tryd_zer_31 (by exact ⟨rfl, rfl, rfl, trivial, trivial⟩) (by exact ⟨rfl, rfl, rfl, trivial, trivial⟩) rfl rfl rfl rfl rfl rfl rfl) rfl) ⟨trivial, trivial, trivial⟩ ?_
        obtain ⟨u133, h134, hF⟩ := bind_some hF
        refine dr_cons { need := [(32, .ls 1), (35, .pv (.vs 4 (eLGExpr ([zGExpr] : List GExpr))))], hneed := [(1, .row 31 4 (eLGExpr x123))], names := [3], dst := some 36, val := some (.ls 3), upd := [(3, some (.row 31 4 (eLGExpr (x123 ++ ([zGExpr] : List GExpr))))), (1, none)] } (fun m h => step_on (guard_no rfl) (op_append 3 (fresh_free h.2.2.1) rfl h.1.1 h.2.1.1 h.1.2.1 Tryd_slc_29 Tryd_elm_31 Tryd_zer_31 rfl rfl rfl (roomR eLGExpr_map h134) (appR eLGExpr_map _ _) rfl rfl) rfl) ⟨⟨rfl, rfl, trivial⟩, ⟨rfl, trivial⟩, ⟨rfl, trivial⟩⟩ ?_
        obtain ⟨y135, h136, hF⟩ := bind_some hF
        refine dr_cons { need := [(36, .ls 3), (34, .pv (.int .i64 (x123.length : Int)))], hneed := [(3, .row 31 4 (eLGExpr (x123 ++ ([zGExpr] : List GExpr))))], dst := some 37, val := some (.le 3 4 ((x123.length : Int) : Int).toNat 0) } (fun m h => step_on (guard_no rfl) (op_index_ls (k := .i64) rfl h.1.1 h.1.2.1 h.2.1.1 (idxR eLGExpr_map h136) Tryd_slc_29 rfl rfl) rfl) ⟨⟨rfl, rfl, trivial⟩, ⟨rfl, trivial⟩, trivial⟩ ?_
        refine dr_cons { need := [(37, .le 3 4 ((x123.length : Int) : Int).toNat 0), (33, .pv (.agg (eGExpr x132)))], hneed := [(3, .row 31 4 (eLGExpr (x123 ++ ([zGExpr] : List GExpr))))], upd := [(3, some (.row 31 4 (eLGExpr ((x123 ++ ([zGExpr] : List GExpr)).set ((x123.length : Int) : Int).toNat x132))))] } (fun m h => step_on (guard_no rfl) (op_store_le (n := 4) rfl h.1.1 h.1.2.1 rfl h.2.1.1 (getR eLGExpr_map h136) (or_agg Tryd_agg_31) (by rw [Tryd_non_31]; rfl) rfl (setR eLGExpr_map (x123 ++ ([zGExpr] : List GExpr)) _ x132) rfl rfl) rfl) ⟨⟨rfl, rfl, trivial⟩, ⟨rfl, trivial⟩, trivial⟩ ?_
        refine dr_cons { need := [(3, .lp 0 0), (36, .ls 3)], hneed := [(0, .box 29 [.ls 1])], upd := [(0, some (.box 29 [.ls 3]))] } (fun m h => step_on (guard_no rfl) (op_store_lp (n := 1) rfl h.1.1 h.1.2.1 rfl h.2.1.1 (or_one Tryd_one_29) (by rw [Tryd_one_29]; rfl) rfl rfl rfl) rfl) ⟨⟨rfl, rfl, trivial⟩, ⟨rfl, trivial⟩, trivial⟩ ?_
        refine dr_nil Tryd_mixed rfl (by kernel_rfl) ?_
        refine post_imp (s' := ⟨38, [(0, some (.pv (.yld l))), (3, some (.lp 0 0))], [(0, some (.box 29 [.ls 1])), (1, some (.row 31 4 (eLGExpr ((x123 ++ ([zGExpr] : List GExpr)).set ((x123.length : Int) : Int).toNat x132))))], 2, [], [], (x48 + 1), [0, 3]⟩) (imps [0, 3] ⟨by kernel_rfl, by kernel_rfl, trivial⟩ ⟨by kernel_rfl, by kernel_rfl, trivial⟩) ?_
        refine post_block_normal ?_
        obtain rfl := Option.some.inj hF
        exact post_rnd ((x123 ++ ([zGExpr] : List GExpr)).set ((x123.length : Int) : Int).toNat x132) rfl (imps [0, 1] ⟨by kernel_rfl, by kernel_rfl, trivial⟩ ⟨by kernel_rfl, by kernel_rfl, trivial⟩)
      · rintro x123 rfl
        have hF := elim_next hF
        iterate 2 (refine post_block_normal ?_)
        refine post_round ?_
        exact rnd_back (ih ((x48 + 1), x123) hF) (imps [0, 1] ⟨by kernel_rfl, by kernel_rfl, trivial⟩ ⟨by kernel_rfl, by kernel_rfl, trivial⟩)
      rintro ⟨⟩ rfl
      have hF := elim_stop hF
      cases hF
    refine aw_cond_f rfl hb99 ?_
    refine aw_exit ?_
    iterate 2 (refine post_then_exit ?_)
    obtain rfl := Option.some.inj hF
    exact post_lp_break _ ⟨_, rfl, rfl⟩ (imps [] trivial trivial)
  rintro _ ⟨x148, rfl, rfl⟩
  have hF := elim_next hK150
  clear hK150
  exact post_it (it_len hF) rfl (.inr rfl)

theorem expr_kids_ok {a0 : Int} {r : Int} (hF : expr_kids a0 = some r) : Abs.Fn globs_Tryd Tryd.prog 89 [.int .i64 a0] [.p (.int .i64 r)] := by
  unfold expr_kids at hF
  refine fn_of_body (n := 21) Tryd.func89 rfl rfl rfl ?_
  intro w O
  refine aw_seq ?_
  refine aw_region ?_
  refine ras ?_
  refine reg_nil ?_
  refine post_imp (s' := ⟨21, [(0, some (.pv (.int .i64 a0)))], [], 0, [], [], 0, []⟩) (imps [] ⟨by kernel_rfl, trivial⟩ trivial) ?_
  refine post_next ?_
  iterate 2 (refine aw_seq ?_)
  refine aw_region ?_
  refine rmv ?_
  refine reg_nil ?_
  refine post_imp (s' := ⟨21, [(3, some (.pv (.int .i64 a0)))], [], 0, [], [], 0, []⟩) (imps [] ⟨by kernel_rfl, trivial⟩ trivial) ?_
  refine post_next ?_
  refine aw_block ?_
  refine aw_seq ?_
  obtain ⟨x5, hF, hK7⟩ := bind_some hF
  refine aw_cut (fun s1 => s1 = ⟨21, [(3, some (.pv (.int .i64 a0))), (4, some (.pv (.bool x5)))], [], 0, [], [], 0, []⟩) ?_ ?_
  · refine aw_seq ?_
    refine aw_region ?_
    refine rgp (op_int (k := .i64) (m := a0) (n := 1) rfl rfl rfl rfl rfl rfl) ?_
    refine ras ?_
    refine reg_nil ?_
    refine post_imp (s' := ⟨21, [(3, some (.pv (.int .i64 a0))), (4, some (.pv (.bool (a0 == 1))))], [], 0, [], [], 0, []⟩) (imps [] ⟨by kernel_rfl, by kernel_rfl, trivial⟩ trivial) ?_
    refine post_next ?_
    rcases ite_some hF with ⟨hb1, hF⟩ | ⟨hb1, hF⟩
    · refine aw_cond_t rfl hb1 ?_
      refine aw_skip ?_
      cases hF
      exact post_cut _ rfl (imps [] ⟨by kernel_rfl, by kernel_rfl, trivial⟩ trivial)
    refine aw_cond_f rfl hb1 ?_
    refine aw_seq ?_
    refine aw_region ?_
    refine rgp (op_int (k := .i64) (m := a0) (n := 2) rfl rfl rfl rfl rfl rfl) ?_
    refine ras ?_
    refine reg_nil ?_
    refine post_imp (s' := ⟨21, [(3, some (.pv (.int .i64 a0))), (4, some (.pv (.bool (a0 == 2))))], [], 0, [], [], 0, []⟩) (imps [] ⟨by kernel_rfl, by kernel_rfl, trivial⟩ trivial) ?_
    refine post_next ?_
    rcases ite_some hF with ⟨hb2, hF⟩ | ⟨hb2, hF⟩
    · refine aw_cond_t rfl hb2 ?_
      refine aw_skip ?_
      cases hF
      exact post_cut _ rfl (imps [] ⟨by kernel_rfl, by kernel_rfl, trivial⟩ trivial)
    refine aw_cond_f rfl hb2 ?_
    refine aw_seq ?_
    refine aw_region ?_
    refine rgp (op_int (k := .i64) (m := a0) (n := 3) rfl rfl rfl rfl rfl rfl) ?_
    refine ras ?_
    refine reg_nil ?_
    refine post_imp (s' := ⟨21, [(3, some (.pv (.int .i64 a0))), (4, some (.pv (.bool (a0 == 3))))], [], 0, [], [], 0, []⟩) (imps [] ⟨by kernel_rfl, by kernel_rfl, trivial⟩ trivial) ?_
    refine post_next ?_
    rcases ite_some hF with ⟨hb3, hF⟩ | ⟨hb3, hF⟩
    · refine aw_cond_t rfl hb3 ?_
      refine aw_skip ?_
      cases hF
      exact post_cut _ rfl (imps [] ⟨by kernel_rfl, by kernel_rfl, trivial⟩ trivial)
    refine aw_cond_f rfl hb3 ?_
    refine aw_seq ?_
    refine aw_region ?_
    refine rgp (op_int (k := .i64) (m := a0) (n := 4) rfl rfl rfl rfl rfl rfl) ?_
    refine ras ?_
    refine reg_nil ?_
    refine post_imp (s' := ⟨21, [(3, some (.pv (.int .i64 a0))), (4, some (.pv (.bool (a0 == 4))))], [], 0, [], [], 0, []⟩) (imps [] ⟨by kernel_rfl, by kernel_rfl, trivial⟩ trivial) ?_
    refine post_next ?_
    rcases ite_some hF with ⟨hb4, hF⟩ | ⟨hb4, hF⟩
    · refine aw_cond_t rfl hb4 ?_
      refine aw_skip ?_
      cases hF
      exact post_cut _ rfl (imps [] ⟨by kernel_rfl, by kernel_rfl, trivial⟩ trivial)
    refine aw_cond_f rfl hb4 ?_
    refine aw_region ?_
    refine rgp (op_int (k := .i64) (m := a0) (n := 5) rfl rfl rfl rfl rfl rfl) ?_
    refine ras ?_
    refine reg_nil ?_
    cases hF
    exact post_cut _ rfl (imps [] ⟨by kernel_rfl, by kernel_rfl, trivial⟩ trivial)
  rintro _ rfl
  have hF := hK7
  clear hK7
  refine post_next ?_
  rcases ite_some hF with ⟨hb8, hF⟩ | ⟨hb8, hF⟩
  · refine aw_cond_t rfl hb8 ?_
    refine aw_seq ?_
    refine aw_region ?_
    refine ras ?_
    refine reg_nil ?_
    refine post_imp (s' := ⟨21, [(2, some (.pv (.int .i64 0)))], [], 0, [], [], 0, []⟩) (imps [] ⟨by kernel_rfl, trivial⟩ trivial) ?_
    refine post_next ?_
    refine aw_ret ?_
    refine post_block_ret ?_
    refine post_then_ret ?_
    obtain rfl := Option.some.inj hF
    exact prt
  refine aw_cond_f rfl hb8 ?_
  refine aw_seq ?_
  obtain ⟨x10, hF, hK12⟩ := bind_some hF
  refine aw_cut (fun s1 => s1 = ⟨21, [(3, some (.pv (.int .i64 a0))), (10, some (.pv (.bool x10)))], [], 0, [], [], 0, []⟩) ?_ ?_
  · refine aw_seq ?_
    refine aw_region ?_
    refine rgp (op_int (k := .i64) (m := a0) (n := 12) rfl rfl rfl rfl rfl rfl) ?_
    refine ras ?_
    refine reg_nil ?_
    refine post_imp (s' := ⟨21, [(3, some (.pv (.int .i64 a0))), (10, some (.pv (.bool (a0 == 12))))], [], 0, [], [], 0, []⟩) (imps [] ⟨by kernel_rfl, by kernel_rfl, trivial⟩ trivial) ?_
    refine post_next ?_
    rcases ite_some hF with ⟨hb9, hF⟩ | ⟨hb9, hF⟩
    · refine aw_cond_t rfl hb9 ?_
      refine aw_skip ?_
      cases hF
      exact post_cut _ rfl (imps [] ⟨by kernel_rfl, by kernel_rfl, trivial⟩ trivial)
    refine aw_cond_f rfl hb9 ?_
    refine aw_region ?_
    refine rgp (op_int (k := .i64) (m := a0) (n := 13) rfl rfl rfl rfl rfl rfl) ?_
    refine ras ?_
    refine reg_nil ?_
    cases hF
    exact post_cut _ rfl (imps [] ⟨by kernel_rfl, by kernel_rfl, trivial⟩ trivial)
  rintro _ rfl
  have hF := hK12
  clear hK12
  refine post_next ?_
  rcases ite_some hF with ⟨hb13, hF⟩ | ⟨hb13, hF⟩
  · refine aw_cond_t rfl hb13 ?_
    refine aw_seq ?_
    refine aw_region ?_
    refine ras ?_
    refine reg_nil ?_
    refine post_imp (s' := ⟨21, [(2, some (.pv (.int .i64 1)))], [], 0, [], [], 0, []⟩) (imps [] ⟨by kernel_rfl, trivial⟩ trivial) ?_
    refine post_next ?_
    refine aw_ret ?_
    refine post_block_ret ?_
    refine post_then_ret ?_
    obtain rfl := Option.some.inj hF
    exact prt
  refine aw_cond_f rfl hb13 ?_
  refine aw_seq ?_
  obtain ⟨x20, hF, hK22⟩ := bind_some hF
  refine aw_cut (fun s1 => s1 = ⟨21, [(13, some (.pv (.bool x20)))], [], 0, [], [], 0, []⟩) ?_ ?_
  · refine aw_seq ?_
    refine aw_region ?_
    refine rgp (op_int (k := .i64) (m := a0) (n := 6) rfl rfl rfl rfl rfl rfl) ?_
    refine ras ?_
    refine reg_nil ?_
    refine post_imp (s' := ⟨21, [(3, some (.pv (.int .i64 a0))), (13, some (.pv (.bool (a0 == 6))))], [], 0, [], [], 0, []⟩) (imps [] ⟨by kernel_rfl, by kernel_rfl, trivial⟩ trivial) ?_
    refine post_next ?_
    rcases ite_some hF with ⟨hb14, hF⟩ | ⟨hb14, hF⟩
    · refine aw_cond_t rfl hb14 ?_
      refine aw_skip ?_
      cases hF
      exact post_cut _ rfl (imps [] ⟨by kernel_rfl, trivial⟩ trivial)
    refine aw_cond_f rfl hb14 ?_
    refine aw_seq ?_
    refine aw_region ?_
    refine rgp (op_int (k := .i64) (m := a0) (n := 7) rfl rfl rfl rfl rfl rfl) ?_
    refine ras ?_
    refine reg_nil ?_
    refine post_imp (s' := ⟨21, [(3, some (.pv (.int .i64 a0))), (13, some (.pv (.bool (a0 == 7))))], [], 0, [], [], 0, []⟩) (imps [] ⟨by kernel_rfl, by kernel_rfl, trivial⟩ trivial) ?_
    refine post_next ?_
    rcases ite_some hF with ⟨hb15, hF⟩ | ⟨hb15, hF⟩
    · refine aw_cond_t rfl hb15 ?_
      refine aw_skip ?_
      cases hF
      exact post_cut _ rfl (imps [] ⟨by kernel_rfl, trivial⟩ trivial)
    refine aw_cond_f rfl hb15 ?_
    refine aw_seq ?_
    refine aw_region ?_
    refine rgp (op_int (k := .i64) (m := a0) (n := 8) rfl rfl rfl rfl rfl rfl) ?_
    refine ras ?_
    refine reg_nil ?_
    refine post_imp (s' := ⟨21, [(3, some (.pv (.int .i64 a0))), (13, some (.pv (.bool (a0 == 8))))], [], 0, [], [], 0, []⟩) (imps [] ⟨by kernel_rfl, by kernel_rfl, trivial⟩ trivial) ?_
    refine post_next ?_
    rcases ite_some hF with ⟨hb16, hF⟩ | ⟨hb16, hF⟩
    · refine aw_cond_t rfl hb16 ?_
      refine aw_skip ?_
      cases hF
      exact post_cut _ rfl (imps [] ⟨by kernel_rfl, trivial⟩ trivial)
    refine aw_cond_f rfl hb16 ?_
    refine aw_seq ?_
    refine aw_region ?_
    refine rgp (op_int (k := .i64) (m := a0) (n := 9) rfl rfl rfl rfl rfl rfl) ?_
    refine ras ?_
    refine reg_nil ?_
    refine post_imp (s' := ⟨21, [(3, some (.pv (.int .i64 a0))), (13, some (.pv (.bool (a0 == 9))))], [], 0, [], [], 0, []⟩) (imps [] ⟨by kernel_rfl, by kernel_rfl, trivial⟩ trivial) ?_
    refine post_next ?_
    rcases ite_some hF with ⟨hb17, hF⟩ | ⟨hb17, hF⟩
    · refine aw_cond_t rfl hb17 ?_
      refine aw_skip ?_
      cases hF
      exact post_cut _ rfl (imps [] ⟨by kernel_rfl, trivial⟩ trivial)
    refine aw_cond_f rfl hb17 ?_
    refine aw_seq ?_
    refine aw_region ?_
    refine rgp (op_int (k := .i64) (m := a0) (n := 10) rfl rfl rfl rfl rfl rfl) ?_
    refine ras ?_
    refine reg_nil ?_
    refine post_imp (s' := ⟨21, [(3, some (.pv (.int .i64 a0))), (13, some (.pv (.bool (a0 == 10))))], [], 0, [], [], 0, []⟩) (imps [] ⟨by kernel_rfl, by kernel_rfl, trivial⟩ trivial) ?_
    refine post_next ?_
    rcases ite_some hF with ⟨hb18, hF⟩ | ⟨hb18, hF⟩
    · refine aw_cond_t rfl hb18 ?_
      refine aw_skip ?_
      cases hF
      exact post_cut _ rfl (imps [] ⟨by kernel_rfl, trivial⟩ trivial)
    refine aw_cond_f rfl hb18 ?_
    refine aw_seq ?_
    refine aw_region ?_
    refine rgp (op_int (k := .i64) (m := a0) (n := 11) rfl rfl rfl rfl rfl rfl) ?_
    refine ras ?_
    refine reg_nil ?_
    refine post_imp (s' := ⟨21, [(3, some (.pv (.int .i64 a0))), (13, some (.pv (.bool (a0 == 11))))], [], 0, [], [], 0, []⟩) (imps [] ⟨by kernel_rfl, by kernel_rfl, trivial⟩ trivial) ?_
    refine post_next ?_
    rcases ite_some hF with ⟨hb19, hF⟩ | ⟨hb19, hF⟩
    · refine aw_cond_t rfl hb19 ?_
      refine aw_skip ?_
      cases hF
      exact post_cut _ rfl (imps [] ⟨by kernel_rfl, trivial⟩ trivial)
    refine aw_cond_f rfl hb19 ?_
    refine aw_region ?_
    refine rgp (op_int (k := .i64) (m := a0) (n := 14) rfl rfl rfl rfl rfl rfl) ?_
    refine ras ?_
    refine reg_nil ?_
    cases hF
    exact post_cut _ rfl (imps [] ⟨by kernel_rfl, trivial⟩ trivial)
  rintro _ rfl
  have hF := hK22
  clear hK22
  refine post_next ?_
  rcases ite_some hF with ⟨hb23, hF⟩ | ⟨hb23, hF⟩
  · refine aw_cond_t rfl hb23 ?_
    refine aw_seq ?_
    refine aw_region ?_
    refine ras ?_
    refine reg_nil ?_
    refine post_imp (s' := ⟨21, [(2, some (.pv (.int .i64 2)))], [], 0, [], [], 0, []⟩) (imps [] ⟨by kernel_rfl, trivial⟩ trivial) ?_
    refine post_next ?_
    refine aw_ret ?_
    refine post_block_ret ?_
    refine post_then_ret ?_
    obtain rfl := Option.some.inj hF
    exact prt
  refine aw_cond_f rfl hb23 ?_
  refine aw_skip ?_
  refine post_block_normal ?_
  refine post_next ?_
  refine aw_seq ?_
  refine aw_region ?_
  refine ras ?_
  refine reg_nil ?_
  refine post_imp (s' := ⟨21, [(2, some (.pv (.int .i64 (-1))))], [], 0, [], [], 0, []⟩) (imps [] ⟨by kernel_rfl, trivial⟩ trivial) ?_
  refine post_next ?_
  refine aw_ret ?_
  obtain rfl := Option.some.inj hF
  exact prt
theorem word_Letter_ok {a0 : Int} {r : Bool} (hF : word_Letter a0 = some r) : Abs.Fn globs_Tryd Tryd.prog 119 [.int .u8 a0] [.p (.bool r)] := by
  unfold word_Letter at hF
  refine fn_of_body (n := 12) Tryd.func119 rfl rfl rfl ?_
  intro w O
  refine aw_seq ?_
  refine aw_region ?_
  refine ras ?_
  refine reg_nil ?_
  refine post_imp (s' := ⟨12, [(0, some (.pv (.int .u8 a0)))], [], 0, [], [], 0, []⟩) (imps [] ⟨by kernel_rfl, trivial⟩ trivial) ?_
  refine post_next ?_
  refine aw_seq ?_
  refine aw_region ?_
  refine rmv ?_
  refine rgp (op_int2 (k := .u8) (m := a0) (n := 32) rfl rfl rfl rfl rfl rfl) ?_
  refine ras ?_
  refine reg_nil ?_
  refine post_imp (s' := ⟨12, [(3, some (.pv (.int .u8 (orI .u8 a0 32))))], [], 0, [], [], 0, []⟩) (imps [] ⟨by kernel_rfl, trivial⟩ trivial) ?_
  refine post_next ?_
  refine aw_seq ?_
  refine aw_region ?_
  refine rmv ?_
  refine rgp (op_int (k := .u8) (m := orI .u8 a0 32) (n := 97) rfl rfl rfl rfl rfl rfl) ?_
  refine rmv ?_
  rcases ite_some hF with ⟨hb1, hF⟩ | ⟨hb1, hF⟩
  · refine rgn hb1 (op_move rfl rfl rfl rfl) ?_
    refine rgn hb1 (op_int (k := .u8) (m := orI .u8 a0 32) (n := 122) rfl rfl rfl rfl rfl rfl) ?_
    refine rpt hb1 ?_
    refine ras ?_
    refine reg_nil ?_
    refine post_imp (s' := ⟨12, [(2, some (.pv (.bool (decide ((orI .u8 a0 32) ≤ 122)))))], [], 0, [], [], 0, []⟩) (imps [] ⟨by kernel_rfl, trivial⟩ trivial) ?_
    refine post_next ?_
    refine aw_ret ?_
    obtain rfl := Option.some.inj hF
    exact prt
  iterate 2 (refine rgo_f hb1 ?_)
  refine rpf hb1 ?_
  refine ras ?_
  refine reg_nil ?_
  refine post_imp (s' := ⟨12, [(2, some (.pv (.bool false)))], [], 0, [], [], 0, []⟩) (imps [] ⟨by kernel_rfl, trivial⟩ trivial) ?_
  refine post_next ?_
  refine aw_ret ?_
  obtain rfl := Option.some.inj hF
  exact prt
theorem word_Digit_ok {a0 : Int} {r : Bool} (hF : word_Digit a0 = some r) : Abs.Fn globs_Tryd Tryd.prog 120 [.int .u8 a0] [.p (.bool r)] := by
  unfold word_Digit at hF
  refine fn_of_body (n := 6) Tryd.func120 rfl rfl rfl ?_
  intro w O
  refine aw_seq ?_
  refine aw_region ?_
  refine ras ?_
  refine reg_nil ?_
  refine post_imp (s' := ⟨6, [(0, some (.pv (.int .u8 a0)))], [], 0, [], [], 0, []⟩) (imps [] ⟨by kernel_rfl, trivial⟩ trivial) ?_
  refine post_next ?_
  refine aw_seq ?_
  refine aw_region ?_
  refine rmv ?_
  refine rgp (op_int (k := .u8) (m := a0) (n := 48) rfl rfl rfl rfl rfl rfl) ?_
  refine rgp (op_int (k := .u8) (m := w_u8 (a0 - 48)) (n := 10) rfl rfl rfl rfl rfl rfl) ?_
  refine ras ?_
  refine reg_nil ?_
  refine post_imp (s' := ⟨6, [(2, some (.pv (.bool (decide ((w_u8 (a0 - 48)) < 10)))))], [], 0, [], [], 0, []⟩) (imps [] ⟨by kernel_rfl, trivial⟩ trivial) ?_
  refine post_next ?_
  refine aw_ret ?_
  obtain rfl := Option.some.inj hF
  exact prt

theorem word_is_ok {a0 : List UInt8} {r : (List UInt8)} (hF : word_is a0 = some r) : Abs.Fn globs_Tryd Tryd.prog 135 [.str a0] [.p (.fn 146 [.vp (eS r)])] := by
  unfold word_is at hF
  refine fn_of_body (n := 4) Tryd.func135 rfl rfl rfl ?_
  intro w O
  refine aw_seq ?_
  refine aw_region ?_
  refine rgp (op_box 0 rfl rfl rfl rfl rfl rfl) ?_
  refine ras ?_
  refine reg_nil ?_
  refine post_imp (s' := ⟨4, [(1, some (.lp 0 0))], [(0, some (.box 9 [.pv (.str a0)]))], 1, [], [], 0, []⟩) (imps [0] ⟨by kernel_rfl, trivial⟩ ⟨by kernel_rfl, trivial⟩) ?_
  refine post_next ?_
  refine aw_seq ?_
  refine aw_region ?_
  refine rgp (op_makeFunc rfl rfl rfl rfl) ?_
  refine ras ?_
  refine reg_nil ?_
  refine post_imp (s' := ⟨4, [(2, some (.fn 146 [.lp 0 0]))], [(0, some (.box 9 [.pv (.str a0)]))], 1, [], [], 0, []⟩) (imps [0] ⟨by kernel_rfl, trivial⟩ ⟨by kernel_rfl, trivial⟩) ?_
  refine post_next ?_
  refine aw_ret ?_
  refine post_imp (imp_freeze [(0, some (.box 9 [.pv (.str a0)]))] [(2, some (.pv (.fn 146 [.vp (eS a0)])))] (FzH.spec ⟨rfl, trivial⟩) ⟨⟨_, rfl, rfl⟩, trivial⟩) ?_
  obtain rfl := Option.some.inj hF
  exact post_ret rfl rfl (.cons _ _ _ _ _ (.tmp _ _ rfl) (.p _) .nil) (.inl rfl)
theorem slices_IndexFunc_string_ok {a0 : List (List UInt8)} {q1 : (List UInt8) → Option Bool} {r : Int} {q1_f : Nat} {q1_c : List PV} (q1_b : callB Tryd.prog q1_f = true) (q1_h : ∀ (x0 : List UInt8) (r : Bool), q1 x0 = some r → Abs.Fn globs_Tryd Tryd.prog q1_f ([.str x0] ++ q1_c) [.p (.bool r)]) (hF : slices_IndexFunc_string a0 q1 = some r) : Abs.Fn globs_Tryd Tryd.prog 134 [.vs 1 (List.map eS a0), .fn q1_f q1_c] [.p (.int .i64 r)] := by
  unfold slices_IndexFunc_string at hF
  refine fn_of_body (n := 19) Tryd.func134 rfl rfl rfl ?_
  intro w O
  refine aw_seq ?_
  refine aw_region ?_
  refine ras ?_
  refine reg_nil ?_
  refine post_imp (s' := ⟨19, [(0, some (.pv (.vs 1 (List.map eS a0)))), (1, some (.pv (.fn q1_f q1_c)))], [], 0, [], [], 0, []⟩) (imps [] ⟨by kernel_rfl, by kernel_rfl, trivial⟩ trivial) ?_
  refine post_next ?_
  iterate 2 (refine aw_seq ?_)
  refine aw_region ?_
  refine rmv ?_
  refine rgp (op_len_vs (n := a0.length) rfl rfl (List.length_map ..) Tryd_slc_77 rfl rfl) ?_
  refine rmv ?_
  refine reg_nil ?_
  refine post_imp (s' := ⟨19, [(0, some (.pv (.vs 1 (List.map eS a0)))), (1, some (.pv (.fn q1_f q1_c))), (7, some (.pv (.int .i64 (a0.length : Int)))), (8, some (.pv (.int .i64 0)))], [], 0, [], [], 0, []⟩) (imps [] ⟨by kernel_rfl, by kernel_rfl, by kernel_rfl, by kernel_rfl, trivial⟩ trivial) ?_
  refine post_next ?_
  obtain ⟨lr34, hF, hK35⟩ := bind_some hF
  refine aw_for ((((a0.length : Int) : Int) - (0)).toNat + 1) (fun s1 => ∃ q, lr34 = .next q ∧ s1 = ⟨19, [], [], 0, [], [], 0, []⟩) ?_ ?_
  · refine rnd_loop (α := Int) (fun q => ⟨19, [(0, some (.pv (.vs 1 (List.map eS a0)))), (1, some (.pv (.fn q1_f q1_c))), (7, some (.pv (.int .i64 (a0.length : Int)))), (8, some (.pv (.int .i64 q)))], [], 0, [], [], 0, []⟩) (fun k q => slices_IndexFunc_string_L1 a0 q1 k q = some lr34) 0 (imps [] ⟨by kernel_rfl, by kernel_rfl, by kernel_rfl, by kernel_rfl, trivial⟩ trivial) hF (fun q h => by cases h) ?_
    clear hF
    rintro k x11 hF ih
    refine rnd_succ ?_
    refine aw_seq ?_
    refine aw_region ?_
    refine rgp (op_int (k := .i64) (m := x11) (n := (a0.length : Int)) rfl rfl rfl rfl rfl rfl) ?_
    refine reg_nil ?_
    refine post_imp (s' := ⟨19, [(0, some (.pv (.vs 1 (List.map eS a0)))), (1, some (.pv (.fn q1_f q1_c))), (7, some (.pv (.int .i64 (a0.length : Int)))), (8, some (.pv (.int .i64 x11))), (9, some (.pv (.bool (decide (x11 < (a0.length : Int))))))], [], 0, [], [], 0, []⟩) (imps [] ⟨by kernel_rfl, by kernel_rfl, by kernel_rfl, by kernel_rfl, by kernel_rfl, trivial⟩ trivial) ?_
    refine post_next ?_
    refine aw_seq ?_
    rcases ite_some hF with ⟨hb23, hF⟩ | ⟨hb23, hF⟩
    · refine aw_cond_t rfl hb23 ?_
      refine aw_skip ?_
      refine post_next ?_
      refine aw_seq ?_
      refine aw_block ?_
      refine aw_seq ?_
      refine aw_region ?_
      refine rmv ?_
      refine ras ?_
      refine reg_nil ?_
      refine post_imp (s' := ⟨19, [(0, some (.pv (.vs 1 (List.map eS a0)))), (1, some (.pv (.fn q1_f q1_c))), (5, some (.pv (.int .i64 x11))), (7, some (.pv (.int .i64 (a0.length : Int)))), (8, some (.pv (.int .i64 x11)))], [], 0, [], [], 0, []⟩) (imps [] ⟨by kernel_rfl, by kernel_rfl, by kernel_rfl, by kernel_rfl, by kernel_rfl, trivial⟩ trivial) ?_
      refine post_next ?_
      refine aw_seq ?_
      refine aw_region ?_
      iterate 3 (refine rmv ?_)
      obtain ⟨y28, h29, hF⟩ := bind_some hF
      refine rgp (op_index_vs (k := .i64) rfl rfl rfl (idx_map eS h29) Tryd_slc_77 rfl rfl) ?_
      refine rgp (op_load_vp (p := .str y28) rfl rfl rfl Tryd_one_9 rfl rfl) ?_
      obtain ⟨y30, h31, hF⟩ := bind_some hF
      refine rgp (op_call 0 rfl (caps := q1_c) (args := [.str y28]) (rs := [.p (.bool y30)]) rfl rfl rfl q1_b (q1_h y28 _ h31) rfl rfl rfl) ?_
      refine reg_nil ?_
      refine post_imp (s' := ⟨19, [(0, some (.pv (.vs 1 (List.map eS a0)))), (1, some (.pv (.fn q1_f q1_c))), (5, some (.pv (.int .i64 x11))), (7, some (.pv (.int .i64 (a0.length : Int)))), (8, some (.pv (.int .i64 x11))), (16, some (.pv (.bool y30)))], [], 0, [], [], 0, []⟩) (imps [] ⟨by kernel_rfl, by kernel_rfl, by kernel_rfl, by kernel_rfl, by kernel_rfl, by kernel_rfl, trivial⟩ trivial) ?_
      refine post_next ?_
      rcases ite_some hF with ⟨hb32, hF⟩ | ⟨hb32, hF⟩
      · refine aw_cond_t rfl hb32 ?_
        refine aw_seq ?_
        refine aw_region ?_
        refine rmv ?_
        refine ras ?_
        refine reg_nil ?_
        refine post_imp (s' := ⟨19, [(4, some (.pv (.int .i64 x11)))], [], 0, [], [], 0, []⟩) (imps [] ⟨by kernel_rfl, trivial⟩ trivial) ?_
        refine post_next ?_
        refine aw_ret ?_
        refine post_block_ret ?_
        iterate 2 (refine post_then_ret ?_)
        refine post_lp_ret ?_
        obtain rfl := Option.some.inj hF
        have hF := elim_stop hK35
        refine post_then_ret ?_
        obtain rfl := Option.some.inj hF
        exact prt
      refine aw_cond_f rfl hb32 ?_
      refine aw_skip ?_
      refine post_block_normal ?_
      refine post_next ?_
      refine aw_region ?_
      refine rgp (op_int (k := .i64) (m := x11) (n := 1) rfl rfl rfl rfl rfl rfl) ?_
      refine rmv ?_
      refine reg_nil ?_
      refine post_round ?_
      exact rnd_back (ih (w_i64 (x11 + 1)) hF) (imps [] ⟨by kernel_rfl, by kernel_rfl, by kernel_rfl, by kernel_rfl, trivial⟩ trivial)
    refine aw_cond_f rfl hb23 ?_
    refine aw_exit ?_
    iterate 2 (refine post_then_exit ?_)
    obtain rfl := Option.some.inj hF
    exact post_lp_break _ ⟨_, rfl, rfl⟩ (imps [] trivial trivial)
  rintro _ ⟨⟨⟩, rfl, rfl⟩
  have hF := elim_next hK35
  clear hK35
  refine post_next ?_
  refine aw_seq ?_
  refine aw_region ?_
  refine ras ?_
  refine reg_nil ?_
  refine post_imp (s' := ⟨19, [(4, some (.pv (.int .i64 (-1))))], [], 0, [], [], 0, []⟩) (imps [] ⟨by kernel_rfl, trivial⟩ trivial) ?_
  refine post_next ?_
  refine aw_ret ?_
  obtain rfl := Option.some.inj hF
  exact prt
theorem word_is_1_ok {a0 : List UInt8} {c0 : List UInt8} {r : Bool} (hF : word_is_1 a0 c0 = some r) : Abs.Fn globs_Tryd Tryd.prog 146 [.str a0, .vp (eS c0)] [.p (.bool r)] := by
  unfold word_is_1 at hF
  refine fn_of_body (n := 7) Tryd.func146 rfl rfl rfl ?_
  intro w O
  refine aw_seq ?_
  refine aw_region ?_
  refine ras ?_
  refine reg_nil ?_
  refine post_imp (s' := ⟨7, [(0, some (.pv (.str a0))), (1, some (.pv (.vp (eS c0))))], [], 0, [], [], 0, []⟩) (imps [] ⟨by kernel_rfl, by kernel_rfl, trivial⟩ trivial) ?_
  refine post_next ?_
  refine aw_seq ?_
  refine aw_region ?_
  refine rmv ?_
  refine rgp (op_load_vp (p := .str c0) rfl rfl rfl Tryd_one_9 rfl rfl) ?_
  refine rgp (op_str rfl rfl rfl rfl rfl rfl) ?_
  refine ras ?_
  refine reg_nil ?_
  refine post_imp (s' := ⟨7, [(3, some (.pv (.bool (a0 == c0))))], [], 0, [], [], 0, []⟩) (imps [] ⟨by kernel_rfl, trivial⟩ trivial) ?_
  refine post_next ?_
  refine aw_ret ?_
  obtain rfl := Option.some.inj hF
  exact prt
theorem word_Find_ok {a0 : List UInt8} {r : Int} (hF : word_Find a0 = some r) : Abs.Fn globs_Tryd Tryd.prog 121 [.str a0] [.p (.int .i64 r)] := by
  unfold word_Find at hF
  refine fn_of_body (n := 8) Tryd.func121 rfl rfl rfl ?_
  intro w O
  refine aw_seq ?_
  refine aw_region ?_
  refine ras ?_
  refine reg_nil ?_
  refine post_imp (s' := ⟨8, [(0, some (.pv (.str a0)))], [], 0, [], [], 0, []⟩) (imps [] ⟨by kernel_rfl, trivial⟩ trivial) ?_
  refine post_next ?_
  refine aw_seq ?_
  refine dr_start ⟨_, _, _⟩ rfl ?_
  refine dr_cons { dst := some 3, val := some (.pv (.vs 1 (List.map eS glob_0))) } (fun m h => step_on (guard_no rfl) (op_glob_slice (l := glob_0) (f := eS) rfl globm_0 Tryd_arr_177 globe_0 (fun _ => rfl) rfl rfl rfl rfl) rfl) ⟨trivial, trivial, trivial⟩ ?_
  refine drm ?_
  obtain ⟨y1, h2, hF⟩ := bind_some hF
  refine dr_cons { need := [(4, .pv (.str a0))], dst := some 5, val := some (.pv (.fn 146 [.vp (eS y1)])) } (fun m h => step_on (guard_no rfl) (op_call 0 rfl (caps := []) (args := [.str a0]) (rs := [.p (.fn 146 [.vp (eS y1)])]) rfl rfl (evl_cons h.1.1 evl_nil) Tryd_cal_135 (word_is_ok h2) rfl rfl rfl) rfl) ⟨⟨rfl, trivial⟩, trivial, trivial⟩ ?_
  obtain ⟨y4, h5, hF⟩ := bind_some hF
  refine dr_cons { need := [(5, .pv (.fn 146 [.vp (eS y1)])), (3, .pv (.vs 1 (List.map eS glob_0)))], dst := some 6, val := some (.pv (.int .i64 y4)) } (fun m h => step_on (guard_no rfl) (op_call 0 rfl (caps := []) (args := [.vs 1 (List.map eS glob_0), .fn 146 [.vp (eS y1)]]) (rs := [.p (.int .i64 y4)]) rfl rfl (evl_cons h.1.2.1 (evl_cons h.1.1 evl_nil)) Tryd_cal_134 (slices_IndexFunc_string_ok (q1_f := 146) (q1_c := [.vp (eS y1)]) (q1_b := Tryd_cal_146) (q1_h := fun _ r h => (word_is_1_ok h)) h5) rfl rfl rfl) rfl) ⟨⟨rfl, rfl, trivial⟩, trivial, trivial⟩ ?_
  refine dr_cons { need := [(6, .pv (.int .i64 y4))], dst := some 7, val := some (.pv (.int .i64 (w_i64 (y4 + 1)))) } (fun m h => step_on (guard_no rfl) (op_int (k := .i64) (m := y4) (n := 1) rfl h.1.1 rfl rfl rfl rfl) rfl) ⟨⟨rfl, trivial⟩, trivial, trivial⟩ ?_
  refine dr_cons { need := [(7, .pv (.int .i64 (w_i64 (y4 + 1))))], dst := some 2, val := some (.pv (.int .i64 (w_i64 (y4 + 1)))) } (fun m h => step_on (guard_no rfl) (op_assign rfl h.1.1 rfl rfl) rfl) ⟨⟨rfl, trivial⟩, trivial, trivial⟩ ?_
  refine dr_nil Tryd_mixed rfl (by kernel_rfl) ?_
  refine post_imp (s' := ⟨8, [(2, some (.pv (.int .i64 (w_i64 (y4 + 1)))))], [], 0, [], [], 0, []⟩) (imps [] ⟨by kernel_rfl, trivial⟩ trivial) ?_
  refine post_next ?_
  refine aw_ret ?_
  obtain rfl := Option.some.inj hF
  exact prt
theorem word_Name_ok {a0 : List UInt8} {r : Bool} (hF : word_Name a0 = some r) : Abs.Fn globs_Tryd Tryd.prog 90 [.str a0] [.p (.bool r)] := by
  unfold word_Name at hF
  refine fn_of_body (n := 37) Tryd.func90 rfl rfl rfl ?_
  intro w O
  refine aw_seq ?_
  refine aw_region ?_
  refine ras ?_
  refine reg_nil ?_
  refine post_imp (s' := ⟨37, [(0, some (.pv (.str a0)))], [], 0, [], [], 0, []⟩) (imps [] ⟨by kernel_rfl, trivial⟩ trivial) ?_
  refine post_next ?_
  iterate 2 (refine aw_seq ?_)
  obtain ⟨x7, hF, hK9⟩ := bind_some hF
  refine aw_cut (fun s1 => s1 = ⟨37, [(0, some (.pv (.str a0))), (17, some (.pv (.bool x7)))], [], 0, [], [], 0, []⟩) ?_ ?_
  · refine aw_region ?_
    refine rmv ?_
    refine rgp (op_str rfl rfl rfl rfl rfl rfl) ?_
    refine rmv ?_
    rcases ite_some hF with ⟨hb1, hF⟩ | ⟨hb1, hF⟩
    · refine rgo_t hb1 ?_
      iterate 2 (refine rgo_t hb1 ?_)
      refine rpt hb1 ?_
      refine rmv ?_
      iterate 4 (refine rgo_t rfl ?_)
      refine rpt rfl ?_
      refine reg_nil ?_
      cases hF
      exact post_cut _ rfl (imps [] ⟨by kernel_rfl, by kernel_rfl, trivial⟩ trivial)
    refine rgn hb1 (op_move rfl rfl rfl rfl) ?_
    refine rgn hb1 (op_len_str rfl rfl Tryd_und_9 rfl rfl) ?_
    refine rgn hb1 (op_int (k := .i64) (m := (a0.length : Int)) (n := 20) rfl rfl rfl rfl rfl rfl) ?_
    refine rpf hb1 ?_
    refine rmv ?_
    rcases ite_some hF with ⟨hb2, hF⟩ | ⟨hb2, hF⟩
    · refine rgo_t hb2 ?_
      iterate 3 (refine rgo_t hb2 ?_)
      refine rpt hb2 ?_
      refine reg_nil ?_
      cases hF
      exact post_cut _ rfl (imps [] ⟨by kernel_rfl, by kernel_rfl, trivial⟩ trivial)
    refine rgn hb2 (op_move rfl rfl rfl rfl) ?_
    obtain ⟨y3, h4, hF⟩ := bind_some hF
    refine rgn hb2 (op_index_str (k := .i64) rfl rfl rfl h4 Tryd_und_9 rfl rfl) ?_
    obtain ⟨y5, h6, hF⟩ := bind_some hF
    refine rgn hb2 (op_call 0 rfl (caps := []) (args := [.int .u8 (y3.toNat : Int)]) (rs := [.p (.bool y5)]) rfl rfl rfl Tryd_cal_119 (word_Letter_ok h6) rfl rfl rfl) ?_
    refine rgn hb2 (op_not rfl rfl rfl rfl) ?_
    refine rpf hb2 ?_
    refine reg_nil ?_
    cases hF
    exact post_cut _ rfl (imps [] ⟨by kernel_rfl, by kernel_rfl, trivial⟩ trivial)
  rintro _ rfl
  have hF := hK9
  clear hK9
  refine post_next ?_
  rcases ite_some hF with ⟨hb10, hF⟩ | ⟨hb10, hF⟩
  · refine aw_cond_t rfl hb10 ?_
    refine aw_seq ?_
    refine aw_region ?_
    refine ras ?_
    refine reg_nil ?_
    refine post_imp (s' := ⟨37, [(2, some (.pv (.bool false)))], [], 0, [], [], 0, []⟩) (imps [] ⟨by kernel_rfl, trivial⟩ trivial) ?_
    refine post_next ?_
    refine aw_ret ?_
    refine post_then_ret ?_
    obtain rfl := Option.some.inj hF
    exact prt
  refine aw_cond_f rfl hb10 ?_
  refine aw_skip ?_
  refine post_next ?_
  iterate 2 (refine aw_seq ?_)
  refine aw_region ?_
  refine rmv ?_
  obtain ⟨u13, h14, hF⟩ := bind_some hF
  refine rgp (op_strBytes (E := eI_u8) rfl rfl Tryd_und_9 Tryd_und_94 Tryd_und_5 h14 rfl rfl rfl) ?_
  refine rgp (op_len_vs (n := (bytesL a0).length) rfl rfl (List.length_map ..) Tryd_slc_94 rfl rfl) ?_
  refine rmv ?_
  refine reg_nil ?_
  refine post_imp (s' := ⟨37, [(0, some (.pv (.str a0))), (19, some (.pv (.vs 1 (List.map eI_u8 (bytesL a0))))), (20, some (.pv (.int .i64 ((bytesL a0).length : Int)))), (21, some (.pv (.int .i64 0)))], [], 0, [], [], 0, []⟩) (imps [] ⟨by kernel_rfl, by kernel_rfl, by kernel_rfl, by kernel_rfl, trivial⟩ trivial) ?_
  refine post_next ?_
  obtain ⟨lr66, hF, hK67⟩ := bind_some hF
  refine aw_for (((((bytesL a0).length : Int) : Int) - (0)).toNat + 1) (fun s1 => ∃ q, lr66 = .next q ∧ s1 = ⟨37, [(0, some (.pv (.str a0)))], [], 0, [], [], 0, []⟩) ?_ ?_
  · refine rnd_loop (α := Int) (fun q => ⟨37, [(0, some (.pv (.str a0))), (19, some (.pv (.vs 1 (List.map eI_u8 (bytesL a0))))), (20, some (.pv (.int .i64 ((bytesL a0).length : Int)))), (21, some (.pv (.int .i64 q)))], [], 0, [], [], 0, []⟩) (fun k q => word_Name_L1 a0 k q = some lr66) 0 (imps [] ⟨by kernel_rfl, by kernel_rfl, by kernel_rfl, by kernel_rfl, trivial⟩ trivial) hF (fun q h => by cases h) ?_
    clear hF
    rintro k x31 hF ih
    refine rnd_succ ?_
    refine aw_seq ?_
    refine aw_region ?_
    refine rgp (op_int (k := .i64) (m := x31) (n := ((bytesL a0).length : Int)) rfl rfl rfl rfl rfl rfl) ?_
    refine reg_nil ?_
    refine post_imp (s' := ⟨37, [(0, some (.pv (.str a0))), (19, some (.pv (.vs 1 (List.map eI_u8 (bytesL a0))))), (20, some (.pv (.int .i64 ((bytesL a0).length : Int)))), (21, some (.pv (.int .i64 x31))), (22, some (.pv (.bool (decide (x31 < ((bytesL a0).length : Int))))))], [], 0, [], [], 0, []⟩) (imps [] ⟨by kernel_rfl, by kernel_rfl, by kernel_rfl, by kernel_rfl, by kernel_rfl, trivial⟩ trivial) ?_
    refine post_next ?_
    refine aw_seq ?_
    rcases ite_some hF with ⟨hb49, hF⟩ | ⟨hb49, hF⟩
    · refine aw_cond_t rfl hb49 ?_
      refine aw_skip ?_
      refine post_next ?_
      refine aw_seq ?_
      refine aw_block ?_
      refine aw_seq ?_
      refine aw_region ?_
      obtain ⟨y52, h53, hF⟩ := bind_some hF
      refine rgp (op_index_vs (k := .i64) rfl rfl rfl (idx_map eI_u8 h53) Tryd_slc_94 rfl rfl) ?_
      refine rgp (op_load_vp (p := .int .u8 y52) rfl rfl rfl Tryd_one_5 rfl rfl) ?_
      refine ras ?_
      refine reg_nil ?_
      refine post_imp (s' := ⟨37, [(0, some (.pv (.str a0))), (4, some (.pv (.int .u8 y52))), (19, some (.pv (.vs 1 (List.map eI_u8 (bytesL a0))))), (20, some (.pv (.int .i64 ((bytesL a0).length : Int)))), (21, some (.pv (.int .i64 x31)))], [], 0, [], [], 0, []⟩) (imps [] ⟨by kernel_rfl, by kernel_rfl, by kernel_rfl, by kernel_rfl, by kernel_rfl, trivial⟩ trivial) ?_
      refine post_next ?_
      refine aw_seq ?_
      obtain ⟨x61, hF, hK63⟩ := bind_some hF
      refine aw_cut (fun s1 => s1 = ⟨37, [(0, some (.pv (.str a0))), (19, some (.pv (.vs 1 (List.map eI_u8 (bytesL a0))))), (20, some (.pv (.int .i64 ((bytesL a0).length : Int)))), (21, some (.pv (.int .i64 x31))), (32, some (.pv (.bool x61)))], [], 0, [], [], 0, []⟩) ?_ ?_
      · refine aw_region ?_
        refine rmv ?_
        obtain ⟨y56, h57, hF⟩ := bind_some hF
        refine rgp (op_call 0 rfl (caps := []) (args := [.int .u8 y52]) (rs := [.p (.bool y56)]) rfl rfl rfl Tryd_cal_119 (word_Letter_ok h57) rfl rfl rfl) ?_
        refine rgp (op_not rfl rfl rfl rfl) ?_
        refine rmv ?_
        rcases ite_some hF with ⟨hb58, hF⟩ | ⟨hb58, hF⟩
        · refine rgn hb58 (op_move rfl rfl rfl rfl) ?_
          obtain ⟨y59, h60, hF⟩ := bind_some hF
          refine rgn hb58 (op_call 0 rfl (caps := []) (args := [.int .u8 y52]) (rs := [.p (.bool y59)]) rfl rfl rfl Tryd_cal_120 (word_Digit_ok h60) rfl rfl rfl) ?_
          refine rgn hb58 (op_not rfl rfl rfl rfl) ?_
          refine rpt hb58 ?_
          refine reg_nil ?_
          cases hF
          exact post_cut _ rfl (imps [] ⟨by kernel_rfl, by kernel_rfl, by kernel_rfl, by kernel_rfl, by kernel_rfl, trivial⟩ trivial)
        iterate 3 (refine rgo_f hb58 ?_)
        refine rpf hb58 ?_
        refine reg_nil ?_
        cases hF
        exact post_cut _ rfl (imps [] ⟨by kernel_rfl, by kernel_rfl, by kernel_rfl, by kernel_rfl, by kernel_rfl, trivial⟩ trivial)
      rintro _ rfl
      have hF := hK63
      clear hK63
      refine post_next ?_
      rcases ite_some hF with ⟨hb64, hF⟩ | ⟨hb64, hF⟩
      · refine aw_cond_t rfl hb64 ?_
        refine aw_seq ?_
        refine aw_region ?_
        refine ras ?_
        refine reg_nil ?_
        refine post_imp (s' := ⟨37, [(2, some (.pv (.bool false)))], [], 0, [], [], 0, []⟩) (imps [] ⟨by kernel_rfl, trivial⟩ trivial) ?_
        refine post_next ?_
        refine aw_ret ?_
        refine post_block_ret ?_
        iterate 2 (refine post_then_ret ?_)
        refine post_lp_ret ?_
        obtain rfl := Option.some.inj hF
        have hF := elim_stop hK67
        refine post_then_ret ?_
        obtain rfl := Option.some.inj hF
        exact prt
      refine aw_cond_f rfl hb64 ?_
      refine aw_skip ?_
      refine post_block_normal ?_
      refine post_next ?_
      refine aw_region ?_
      refine rgp (op_int (k := .i64) (m := x31) (n := 1) rfl rfl rfl rfl rfl rfl) ?_
      refine rmv ?_
      refine reg_nil ?_
      refine post_round ?_
      exact rnd_back (ih (w_i64 (x31 + 1)) hF) (imps [] ⟨by kernel_rfl, by kernel_rfl, by kernel_rfl, by kernel_rfl, trivial⟩ trivial)
    refine aw_cond_f rfl hb49 ?_
    refine aw_exit ?_
    iterate 2 (refine post_then_exit ?_)
    obtain rfl := Option.some.inj hF
    exact post_lp_break _ ⟨_, rfl, rfl⟩ (imps [] ⟨by kernel_rfl, trivial⟩ trivial)
  rintro _ ⟨⟨⟩, rfl, rfl⟩
  have hF := elim_next hK67
  clear hK67
  refine post_next ?_
  refine aw_seq ?_
  refine aw_region ?_
  refine rmv ?_
  obtain ⟨y68, h69, hF⟩ := bind_some hF
  refine rgp (op_call 0 rfl (caps := []) (args := [.str a0]) (rs := [.p (.int .i64 y68)]) rfl rfl rfl Tryd_cal_121 (word_Find_ok h69) rfl rfl rfl) ?_
  refine rgp (op_int (k := .i64) (m := y68) (n := 0) rfl rfl rfl rfl rfl rfl) ?_
  refine ras ?_
  refine reg_nil ?_
  refine post_imp (s' := ⟨37, [(2, some (.pv (.bool (y68 == 0))))], [], 0, [], [], 0, []⟩) (imps [] ⟨by kernel_rfl, trivial⟩ trivial) ?_
  refine post_next ?_
  refine aw_ret ?_
  obtain rfl := Option.some.inj hF
  exact prt
theorem expr_plain_1_ok {a0 : GExpr} {c0 : GExpr} {r : Bool} (hF : expr_plain_1 a0 c0 = some r) : Abs.Fn globs_Tryd Tryd.prog 91 [.agg (eGExpr a0), .vp (eGExpr c0)] [.p (.bool r)] := by
  unfold expr_plain_1 at hF
  refine fn_of_body (n := 22) Tryd.func91 rfl rfl rfl ?_
  intro w O
  refine aw_seq ?_
  refine aw_region ?_
  refine rgp (op_box 0 rfl rfl rfl rfl rfl rfl) ?_
  refine ras ?_
  refine reg_nil ?_
  refine post_imp (s' := ⟨22, [(1, some (.pv (.vp (eGExpr c0)))), (2, some (.lp 0 0))], [(0, some (.box 31 (bxv (eGExpr a0))))], 1, [], [], 0, []⟩) (imps [0] ⟨by kernel_rfl, by kernel_rfl, trivial⟩ ⟨by kernel_rfl, trivial⟩) ?_
  refine post_next ?_
  refine aw_seq ?_
  refine aw_region ?_
  refine rgp (op_field_lp rfl rfl Tryd_fld_31_0 rfl rfl) ?_
  refine rgp (op_load_lp (v := .pv (.int .i64 a0.fKind)) rfl rfl rfl rfl Tryd_one_3 rfl rfl) ?_
  refine rgp (op_int (k := .i64) (m := a0.fKind) (n := 2) rfl rfl rfl rfl rfl rfl) ?_
  refine rmv ?_
  rcases ite_some hF with ⟨hb1, hF⟩ | ⟨hb1, hF⟩
  · refine rgn hb1 (op_field_lp rfl rfl Tryd_fld_31_0 rfl rfl) ?_
    refine rgn hb1 (op_load_lp (v := .pv (.int .i64 a0.fKind)) rfl rfl rfl rfl Tryd_one_3 rfl rfl) ?_
    refine rgn hb1 (op_int (k := .i64) (m := a0.fKind) (n := 3) rfl rfl rfl rfl rfl rfl) ?_
    refine rpt hb1 ?_
    refine rmv ?_
    rcases ite_some hF with ⟨hb2, hF⟩ | ⟨hb2, hF⟩
    · refine rgn hb2 (op_field_lp rfl rfl Tryd_fld_31_0 rfl rfl) ?_
      refine rgn hb2 (op_load_lp (v := .pv (.int .i64 a0.fKind)) rfl rfl rfl rfl Tryd_one_3 rfl rfl) ?_
      refine rgn hb2 (op_int (k := .i64) (m := a0.fKind) (n := 4) rfl rfl rfl rfl rfl rfl) ?_
      refine rgn hb2 (op_move rfl rfl rfl rfl) ?_
      rcases ite_some hF with ⟨hb3, hF⟩ | ⟨hb3, hF⟩
      · refine rgo_t hb3 ?_
        iterate 2 (refine rgo_t hb3 ?_)
        refine rgn hb2 (op_pick_t rfl rfl hb3 rfl rfl rfl) ?_
        refine rpt hb2 ?_
        refine ras ?_
        refine reg_nil ?_
        refine post_imp (s' := ⟨22, [(3, some (.pv (.bool true)))], [], 0, [], [], 0, []⟩) (imps [] ⟨by kernel_rfl, trivial⟩ trivial) ?_
        refine post_next ?_
        refine aw_ret ?_
        obtain rfl := Option.some.inj hF
        exact prt
      refine rgn hb3 (op_field_vp rfl rfl Tryd_fld_31_0 rfl rfl) ?_
      refine rgn hb3 (op_load_vp (p := .int .i64 c0.fKind) rfl rfl rfl Tryd_one_3 rfl rfl) ?_
      refine rgn hb3 (op_int (k := .i64) (m := c0.fKind) (n := 13) rfl rfl rfl rfl rfl rfl) ?_
      refine rgn hb2 (op_pick_f rfl rfl hb3 rfl rfl rfl) ?_
      refine rpt hb2 ?_
      refine ras ?_
      refine reg_nil ?_
      refine post_imp (s' := ⟨22, [(3, some (.pv (.bool (c0.fKind == 13))))], [], 0, [], [], 0, []⟩) (imps [] ⟨by kernel_rfl, trivial⟩ trivial) ?_
      refine post_next ?_
      refine aw_ret ?_
      obtain rfl := Option.some.inj hF
      exact prt
    iterate 4 (refine rgo_f hb2 ?_)
    iterate 3 (refine rgu ?_)
    refine rgo_f hb2 ?_
    refine rpf hb2 ?_
    refine ras ?_
    refine reg_nil ?_
    refine post_imp (s' := ⟨22, [(3, some (.pv (.bool false)))], [], 0, [], [], 0, []⟩) (imps [] ⟨by kernel_rfl, trivial⟩ trivial) ?_
    refine post_next ?_
    refine aw_ret ?_
    obtain rfl := Option.some.inj hF
    exact prt
  iterate 3 (refine rgo_f hb1 ?_)
  refine rpf hb1 ?_
  refine rmv ?_
  iterate 4 (refine rgo_f rfl ?_)
  iterate 3 (refine rgu ?_)
  refine rgo_f rfl ?_
  refine rpf rfl ?_
  refine ras ?_
  refine reg_nil ?_
  refine post_imp (s' := ⟨22, [(3, some (.pv (.bool false)))], [], 0, [], [], 0, []⟩) (imps [] ⟨by kernel_rfl, trivial⟩ trivial) ?_
  refine post_next ?_
  refine aw_ret ?_
  obtain rfl := Option.some.inj hF
  exact prt
abbrev expr_plain_e70 (a0 : GExpr) : Eff := { need := [(24, .pv (.bool (a0.fKind != 2))), (25, .lp 0 2)], hneed := [(0, .box 31 (bxv (eGExpr a0)))], dst := some 26, val := some (.pv (.str a0.fName)) }
abbrev expr_plain_e71 (a0 : GExpr) : Eff := { need := [(24, .pv (.bool (a0.fKind != 2))), (26, .pv (.str a0.fName))], dst := some 27, val := some (.pv (.bool (!(a0.fName == [])))) }
theorem expr_plain_ok {a0 : GExpr} {r : Bool} (hF : expr_plain a0 = some r) : Abs.Fn globs_Tryd Tryd.prog 61 [.agg (eGExpr a0)] [.p (.bool r)] := by
  unfold expr_plain at hF
  refine fn_of_body (n := 55) Tryd.func61 rfl rfl rfl ?_
  intro w O
  refine aw_seq ?_
  refine aw_region ?_
  refine rgp (op_box 0 rfl rfl rfl rfl rfl rfl) ?_
  refine ras ?_
  refine reg_nil ?_
  refine post_imp (s' := ⟨55, [(1, some (.lp 0 0))], [(0, some (.box 31 (bxv (eGExpr a0))))], 1, [], [], 0, []⟩) (imps [0] ⟨by kernel_rfl, trivial⟩ ⟨by kernel_rfl, trivial⟩) ?_
  refine post_next ?_
  iterate 2 (refine aw_seq ?_)
  obtain ⟨x10, hF, hK12⟩ := bind_some hF
  refine aw_cut (fun s1 => s1 = ⟨55, [(1, some (.lp 0 0)), (29, some (.pv (.bool x10)))], [(0, some (.box 31 (bxv (eGExpr a0))))], 1, [], [], 0, []⟩) ?_ ?_
  · refine dr_start ⟨_, _, _⟩ rfl ?_
    refine dr_cons { need := [(1, .lp 0 0)], dst := some 3, val := some (.lp 0 3) } (fun m h => step_on (guard_no rfl) (op_field_lp rfl h.1.1 Tryd_fld_31_3 rfl rfl) rfl) ⟨⟨rfl, trivial⟩, trivial, trivial⟩ ?_
    refine dr_cons { need := [(3, .lp 0 3)], hneed := [(0, .box 31 (bxv (eGExpr a0)))], dst := some 4, val := some (.pv (.vs 4 (eLGExpr a0.fKids))) } (fun m h => step_on (guard_no rfl) (op_load_lp (v := .pv (.vs 4 (eLGExpr a0.fKids))) rfl h.1.1 h.2.1.1 rfl Tryd_one_29 rfl rfl) rfl) ⟨⟨rfl, trivial⟩, ⟨rfl, trivial⟩, trivial⟩ ?_
    refine dr_cons { need := [(4, .pv (.vs 4 (eLGExpr a0.fKids)))], dst := some 5, val := some (.pv (.int .i64 (a0.fKids.length : Int))) } (fun m h => step_on (guard_no rfl) (op_len_vs (n := a0.fKids.length) rfl h.1.1 (lenR eLGExpr_map) Tryd_slc_29 rfl rfl) rfl) ⟨⟨rfl, trivial⟩, trivial, trivial⟩ ?_
    refine dr_cons { need := [(1, .lp 0 0)], dst := some 6, val := some (.lp 0 0) } (fun m h => step_on (guard_no rfl) (op_field_lp rfl h.1.1 Tryd_fld_31_0 rfl rfl) rfl) ⟨⟨rfl, trivial⟩, trivial, trivial⟩ ?_
    refine dr_cons { need := [(6, .lp 0 0)], hneed := [(0, .box 31 (bxv (eGExpr a0)))], dst := some 7, val := some (.pv (.int .i64 a0.fKind)) } (fun m h => step_on (guard_no rfl) (op_load_lp (v := .pv (.int .i64 a0.fKind)) rfl h.1.1 h.2.1.1 rfl Tryd_one_3 rfl rfl) rfl) ⟨⟨rfl, trivial⟩, ⟨rfl, trivial⟩, trivial⟩ ?_
    obtain ⟨y3, h4, hF⟩ := bind_some hF
    refine dr_cons { need := [(7, .pv (.int .i64 a0.fKind))], dst := some 8, val := some (.pv (.int .i64 y3)) } (fun m h => step_on (guard_no rfl) (op_call 1 rfl (caps := []) (args := [.int .i64 a0.fKind]) (rs := [.p (.int .i64 y3)]) rfl rfl (evl_cons h.1.1 evl_nil) Tryd_cal_89 (expr_kids_ok h4) rfl rfl rfl) rfl) ⟨⟨rfl, trivial⟩, trivial, trivial⟩ ?_
    refine dr_cons { need := [(5, .pv (.int .i64 (a0.fKids.length : Int))), (8, .pv (.int .i64 y3))], dst := some 9, val := some (.pv (.bool ((a0.fKids.length : Int) != y3))) } (fun m h => step_on (guard_no rfl) (op_int (k := .i64) (m := (a0.fKids.length : Int)) (n := y3) rfl h.1.1 h.1.2.1 rfl rfl rfl) rfl) ⟨⟨rfl, rfl, trivial⟩, trivial, trivial⟩ ?_
    refine drm ?_
    rcases ite_some hF with ⟨hb5, hF⟩ | ⟨hb5, hF⟩
    · refine dro_t hb5 ?_
      iterate 3 (refine dro_t hb5 ?_)
      iterate 3 (refine dru ?_)
      refine dro_t hb5 ?_
      refine drpt hb5 ?_
      refine drm ?_
      iterate 4 (refine dro_t rfl ?_)
      iterate 3 (refine dru ?_)
      refine dro_t rfl ?_
      refine drpt rfl ?_
      refine dr_nil Tryd_mixed rfl (by kernel_rfl) ?_
      refine post_imp (s' := ⟨55, [(1, some (.lp 0 0)), (29, some (.pv (.bool true)))], [(0, some (.box 31 (bxv (eGExpr a0))))], 1, [], [], 0, []⟩) (imps [0] ⟨by kernel_rfl, by kernel_rfl, trivial⟩ ⟨by kernel_rfl, trivial⟩) ?_
      cases hF
      exact post_cut _ rfl (imps [0] ⟨by kernel_rfl, by kernel_rfl, trivial⟩ ⟨by kernel_rfl, trivial⟩)
    refine dr_cons { need := [(10, .pv (.bool ((a0.fKids.length : Int) != y3))), (1, .lp 0 0)], dst := some 11, val := some (.lp 0 0) } (fun m h => step_on (guard_on rfl rfl rfl h.1.1 hb5) (op_field_lp rfl h.1.2.1 Tryd_fld_31_0 rfl rfl) rfl) ⟨⟨rfl, rfl, trivial⟩, trivial, trivial⟩ ?_
    refine dr_cons { need := [(10, .pv (.bool ((a0.fKids.length : Int) != y3))), (11, .lp 0 0)], hneed := [(0, .box 31 (bxv (eGExpr a0)))], dst := some 12, val := some (.pv (.int .i64 a0.fKind)) } (fun m h => step_on (guard_on rfl rfl rfl h.1.1 hb5) (op_load_lp (v := .pv (.int .i64 a0.fKind)) rfl h.1.2.1 h.2.1.1 rfl Tryd_one_3 rfl rfl) rfl) ⟨⟨rfl, rfl, trivial⟩, ⟨rfl, trivial⟩, trivial⟩ ?_
    refine dr_cons { need := [(10, .pv (.bool ((a0.fKids.length : Int) != y3))), (12, .pv (.int .i64 a0.fKind))], dst := some 13, val := some (.pv (.bool (a0.fKind != 1))) } (fun m h => step_on (guard_on rfl rfl rfl h.1.1 hb5) (op_int (k := .i64) (m := a0.fKind) (n := 1) rfl h.1.2.1 rfl rfl rfl rfl) rfl) ⟨⟨rfl, rfl, trivial⟩, trivial, trivial⟩ ?_
    refine dr_cons { need := [(10, .pv (.bool ((a0.fKids.length : Int) != y3))), (13, .pv (.bool (a0.fKind != 1)))], dst := some 14, val := some (.pv (.bool (a0.fKind != 1))) } (fun m h => step_on (guard_on rfl rfl rfl h.1.1 hb5) (op_move rfl h.1.2.1 rfl rfl) rfl) ⟨⟨rfl, rfl, trivial⟩, trivial, trivial⟩ ?_
    rcases ite_some hF with ⟨hb6, hF⟩ | ⟨hb6, hF⟩
    · refine dr_cons { need := [(14, .pv (.bool (a0.fKind != 1))), (1, .lp 0 0)], dst := some 15, val := some (.lp 0 1) } (fun m h => step_on (guard_on rfl rfl rfl h.1.1 hb6) (op_field_lp rfl h.1.2.1 Tryd_fld_31_1 rfl rfl) rfl) ⟨⟨rfl, rfl, trivial⟩, trivial, trivial⟩ ?_
      refine dr_cons { need := [(14, .pv (.bool (a0.fKind != 1))), (15, .lp 0 1)], hneed := [(0, .box 31 (bxv (eGExpr a0)))], dst := some 16, val := some (.pv (.int .i64 a0.fNum)) } (fun m h => step_on (guard_on rfl rfl rfl h.1.1 hb6) (op_load_lp (v := .pv (.int .i64 a0.fNum)) rfl h.1.2.1 h.2.1.1 rfl Tryd_one_3 rfl rfl) rfl) ⟨⟨rfl, rfl, trivial⟩, ⟨rfl, trivial⟩, trivial⟩ ?_
      refine dr_cons { need := [(14, .pv (.bool (a0.fKind != 1))), (16, .pv (.int .i64 a0.fNum))], dst := some 17, val := some (.pv (.bool (a0.fNum != 0))) } (fun m h => step_on (guard_on rfl rfl rfl h.1.1 hb6) (op_int (k := .i64) (m := a0.fNum) (n := 0) rfl h.1.2.1 rfl rfl rfl rfl) rfl) ⟨⟨rfl, rfl, trivial⟩, trivial, trivial⟩ ?_
      refine dr_cons { need := [(10, .pv (.bool ((a0.fKids.length : Int) != y3))), (14, .pv (.bool (a0.fKind != 1))), (17, .pv (.bool (a0.fNum != 0)))], dst := some 18, val := some (.pv (.bool (a0.fNum != 0))) } (fun m h => step_on (guard_on rfl rfl rfl h.1.1 hb5) (op_pick_t rfl h.1.2.1 hb6 h.1.2.2.1 rfl rfl) rfl) ⟨⟨rfl, rfl, rfl, trivial⟩, trivial, trivial⟩ ?_
      refine dr_cons { need := [(10, .pv (.bool ((a0.fKids.length : Int) != y3))), (18, .pv (.bool (a0.fNum != 0)))], dst := some 19, val := some (.pv (.bool (a0.fNum != 0))) } (fun m h => step_on (guard_no rfl) (op_pick_f rfl h.1.1 hb5 h.1.2.1 rfl rfl) rfl) ⟨⟨rfl, rfl, trivial⟩, trivial, trivial⟩ ?_
      refine drm ?_
      rcases ite_some hF with ⟨hb7, hF⟩ | ⟨hb7, hF⟩
      · refine dro_t hb7 ?_
        iterate 3 (refine dro_t hb7 ?_)
        iterate 3 (refine dru ?_)
        refine dro_t hb7 ?_
        refine drpt hb7 ?_
        refine dr_nil Tryd_mixed rfl (by kernel_rfl) ?_
        refine post_imp (s' := ⟨55, [(1, some (.lp 0 0)), (29, some (.pv (.bool true)))], [(0, some (.box 31 (bxv (eGExpr a0))))], 1, [], [], 0, []⟩) (imps [0] ⟨by kernel_rfl, by kernel_rfl, trivial⟩ ⟨by kernel_rfl, trivial⟩) ?_
        cases hF
        exact post_cut _ rfl (imps [0] ⟨by kernel_rfl, by kernel_rfl, trivial⟩ ⟨by kernel_rfl, trivial⟩)
      refine dr_cons { need := [(20, .pv (.bool (a0.fNum != 0))), (1, .lp 0 0)], dst := some 21, val := some (.lp 0 0) } (fun m h => step_on (guard_on rfl rfl rfl h.1.1 hb7) (op_field_lp rfl h.1.2.1 Tryd_fld_31_0 rfl rfl) rfl) ⟨⟨rfl, rfl, trivial⟩, trivial, trivial⟩ ?_
      refine dr_cons { need := [(20, .pv (.bool (a0.fNum != 0))), (21, .lp 0 0)], hneed := [(0, .box 31 (bxv (eGExpr a0)))], dst := some 22, val := some (.pv (.int .i64 a0.fKind)) } (fun m h => step_on (guard_on rfl rfl rfl h.1.1 hb7) (op_load_lp (v := .pv (.int .i64 a0.fKind)) rfl h.1.2.1 h.2.1.1 rfl Tryd_one_3 rfl rfl) rfl) ⟨⟨rfl, rfl, trivial⟩, ⟨rfl, trivial⟩, trivial⟩ ?_
      refine dr_cons { need := [(20, .pv (.bool (a0.fNum != 0))), (22, .pv (.int .i64 a0.fKind))], dst := some 23, val := some (.pv (.bool (a0.fKind != 2))) } (fun m h => step_on (guard_on rfl rfl rfl h.1.1 hb7) (op_int (k := .i64) (m := a0.fKind) (n := 2) rfl h.1.2.1 rfl rfl rfl rfl) rfl) ⟨⟨rfl, rfl, trivial⟩, trivial, trivial⟩ ?_
      refine dr_cons { need := [(20, .pv (.bool (a0.fNum != 0))), (23, .pv (.bool (a0.fKind != 2)))], dst := some 24, val := some (.pv (.bool (a0.fKind != 2))) } (fun m h => step_on (guard_on rfl rfl rfl h.1.1 hb7) (op_move rfl h.1.2.1 rfl rfl) rfl) ⟨⟨rfl, rfl, trivial⟩, trivial, trivial⟩ ?_
      rcases ite_some hF with ⟨hb8, hF⟩ | ⟨hb8, hF⟩
      · refine dr_cons { need := [(24, .pv (.bool (a0.fKind != 2))), (1, .lp 0 0)], dst := some 25, val := some (.lp 0 2) } (fun m h => step_on (guard_on rfl rfl rfl h.1.1 hb8) (op_field_lp rfl h.1.2.1 Tryd_fld_31_2 rfl rfl) rfl) ⟨⟨rfl, rfl, trivial⟩, trivial, trivial⟩ ?_
        refine dr_cons (expr_plain_e70 a0) (fun m h => step_on (guard_on rfl rfl rfl h.1.1 hb8) (op_load_lp (v := .pv (.str a0.fName)) rfl h.1.2.1 h.2.1.1 rfl Tryd_one_9 rfl rfl) rfl) ⟨⟨rfl, rfl, trivial⟩, ⟨rfl, trivial⟩, trivial⟩ ?_
        refine dr_cons (expr_plain_e71 a0) (fun m h => step_on (guard_on rfl rfl rfl h.1.1 hb8) (op_str rfl h.1.2.1 rfl rfl rfl rfl) rfl) ⟨⟨rfl, rfl, trivial⟩, trivial, trivial⟩ ?_
        refine dr_cons { need := [(20, .pv (.bool (a0.fNum != 0))), (24, .pv (.bool (a0.fKind != 2))), (27, .pv (.bool (!(a0.fName == []))))], dst := some 28, val := some (.pv (.bool (!(a0.fName == [])))) } (fun m h => step_on (guard_on rfl rfl rfl h.1.1 hb7) (op_pick_t rfl h.1.2.1 hb8 h.1.2.2.1 rfl rfl) rfl) ⟨⟨rfl, rfl, rfl, trivial⟩, trivial, trivial⟩ ?_
        refine dr_cons { need := [(20, .pv (.bool (a0.fNum != 0))), (28, .pv (.bool (!(a0.fName == []))))], dst := some 29, val := some (.pv (.bool (!(a0.fName == [])))) } (fun m h => step_on (guard_no rfl) (op_pick_f rfl h.1.1 hb7 h.1.2.1 rfl rfl) rfl) ⟨⟨rfl, rfl, trivial⟩, trivial, trivial⟩ ?_
        refine dr_nil Tryd_mixed rfl (by kernel_rfl) ?_
        refine post_imp (s' := ⟨55, [(1, some (.lp 0 0)), (29, some (.pv (.bool (!(a0.fName == [])))))], [(0, some (.box 31 (bxv (eGExpr a0))))], 1, [], [], 0, []⟩) (imps [0] ⟨by kernel_rfl, by kernel_rfl, trivial⟩ ⟨by kernel_rfl, trivial⟩) ?_
        cases hF
        exact post_cut _ rfl (imps [0] ⟨by kernel_rfl, by kernel_rfl, trivial⟩ ⟨by kernel_rfl, trivial⟩)
      iterate 3 (refine dro_f hb8 ?_)
      refine dr_cons { need := [(20, .pv (.bool (a0.fNum != 0))), (24, .pv (.bool (a0.fKind != 2)))], dst := some 28, val := some (.pv (.bool false)) } (fun m h => step_on (guard_on rfl rfl rfl h.1.1 hb7) (op_pick_f rfl h.1.2.1 hb8 rfl rfl rfl) rfl) ⟨⟨rfl, rfl, trivial⟩, trivial, trivial⟩ ?_
      refine dr_cons { need := [(20, .pv (.bool (a0.fNum != 0))), (28, .pv (.bool false))], dst := some 29, val := some (.pv (.bool false)) } (fun m h => step_on (guard_no rfl) (op_pick_f rfl h.1.1 hb7 h.1.2.1 rfl rfl) rfl) ⟨⟨rfl, rfl, trivial⟩, trivial, trivial⟩ ?_
      refine dr_nil Tryd_mixed rfl (by kernel_rfl) ?_
      refine post_imp (s' := ⟨55, [(1, some (.lp 0 0)), (29, some (.pv (.bool false)))], [(0, some (.box 31 (bxv (eGExpr a0))))], 1, [], [], 0, []⟩) (imps [0] ⟨by kernel_rfl, by kernel_rfl, trivial⟩ ⟨by kernel_rfl, trivial⟩) ?_
      cases hF
      exact post_cut _ rfl (imps [0] ⟨by kernel_rfl, by kernel_rfl, trivial⟩ ⟨by kernel_rfl, trivial⟩)
    iterate 3 (refine dro_f hb6 ?_)
    refine dr_cons { need := [(10, .pv (.bool ((a0.fKids.length : Int) != y3))), (14, .pv (.bool (a0.fKind != 1)))], dst := some 18, val := some (.pv (.bool false)) } (fun m h => step_on (guard_on rfl rfl rfl h.1.1 hb5) (op_pick_f rfl h.1.2.1 hb6 rfl rfl rfl) rfl) ⟨⟨rfl, rfl, trivial⟩, trivial, trivial⟩ ?_
    refine dr_cons { need := [(10, .pv (.bool ((a0.fKids.length : Int) != y3))), (18, .pv (.bool false))], dst := some 19, val := some (.pv (.bool false)) } (fun m h => step_on (guard_no rfl) (op_pick_f rfl h.1.1 hb5 h.1.2.1 rfl rfl) rfl) ⟨⟨rfl, rfl, trivial⟩, trivial, trivial⟩ ?_
    refine drm ?_
    refine dr_cons { need := [(20, .pv (.bool false)), (1, .lp 0 0)], dst := some 21, val := some (.lp 0 0) } (fun m h => step_on (guard_on rfl rfl rfl h.1.1 rfl) (op_field_lp rfl h.1.2.1 Tryd_fld_31_0 rfl rfl) rfl) ⟨⟨rfl, rfl, trivial⟩, trivial, trivial⟩ ?_
    refine dr_cons { need := [(20, .pv (.bool false)), (21, .lp 0 0)], hneed := [(0, .box 31 (bxv (eGExpr a0)))], dst := some 22, val := some (.pv (.int .i64 a0.fKind)) } (fun m h => step_on (guard_on rfl rfl rfl h.1.1 rfl) (op_load_lp (v := .pv (.int .i64 a0.fKind)) rfl h.1.2.1 h.2.1.1 rfl Tryd_one_3 rfl rfl) rfl) ⟨⟨rfl, rfl, trivial⟩, ⟨rfl, trivial⟩, trivial⟩ ?_
    refine dr_cons { need := [(20, .pv (.bool false)), (22, .pv (.int .i64 a0.fKind))], dst := some 23, val := some (.pv (.bool (a0.fKind != 2))) } (fun m h => step_on (guard_on rfl rfl rfl h.1.1 rfl) (op_int (k := .i64) (m := a0.fKind) (n := 2) rfl h.1.2.1 rfl rfl rfl rfl) rfl) ⟨⟨rfl, rfl, trivial⟩, trivial, trivial⟩ ?_
    refine dr_cons { need := [(20, .pv (.bool false)), (23, .pv (.bool (a0.fKind != 2)))], dst := some 24, val := some (.pv (.bool (a0.fKind != 2))) } (fun m h => step_on (guard_on rfl rfl rfl h.1.1 rfl) (op_move rfl h.1.2.1 rfl rfl) rfl) ⟨⟨rfl, rfl, trivial⟩, trivial, trivial⟩ ?_
    rcases ite_some hF with ⟨hb9, hF⟩ | ⟨hb9, hF⟩
    · refine dr_cons { need := [(24, .pv (.bool (a0.fKind != 2))), (1, .lp 0 0)], dst := some 25, val := some (.lp 0 2) } (fun m h => step_on (guard_on rfl rfl rfl h.1.1 hb9) (op_field_lp rfl h.1.2.1 Tryd_fld_31_2 rfl rfl) rfl) ⟨⟨rfl, rfl, trivial⟩, trivial, trivial⟩ ?_
      refine dr_cons (expr_plain_e70 a0) (fun m h => step_on (guard_on rfl rfl rfl h.1.1 hb9) (op_load_lp (v := .pv (.str a0.fName)) rfl h.1.2.1 h.2.1.1 rfl Tryd_one_9 rfl rfl) rfl) ⟨⟨rfl, rfl, trivial⟩, ⟨rfl, trivial⟩, trivial⟩ ?_
      refine dr_cons (expr_plain_e71 a0) (fun m h => step_on (guard_on rfl rfl rfl h.1.1 hb9) (op_str rfl h.1.2.1 rfl rfl rfl rfl) rfl) ⟨⟨rfl, rfl, trivial⟩, trivial, trivial⟩ ?_
      refine dr_cons { need := [(20, .pv (.bool false)), (24, .pv (.bool (a0.fKind != 2))), (27, .pv (.bool (!(a0.fName == []))))], dst := some 28, val := some (.pv (.bool (!(a0.fName == [])))) } (fun m h => step_on (guard_on rfl rfl rfl h.1.1 rfl) (op_pick_t rfl h.1.2.1 hb9 h.1.2.2.1 rfl rfl) rfl) ⟨⟨rfl, rfl, rfl, trivial⟩, trivial, trivial⟩ ?_
      refine dr_cons { need := [(20, .pv (.bool false)), (28, .pv (.bool (!(a0.fName == []))))], dst := some 29, val := some (.pv (.bool (!(a0.fName == [])))) } (fun m h => step_on (guard_no rfl) (op_pick_f rfl h.1.1 rfl h.1.2.1 rfl rfl) rfl) ⟨⟨rfl, rfl, trivial⟩, trivial, trivial⟩ ?_
      refine dr_nil Tryd_mixed rfl (by kernel_rfl) ?_
      refine post_imp (s' := ⟨55, [(1, some (.lp 0 0)), (29, some (.pv (.bool (!(a0.fName == [])))))], [(0, some (.box 31 (bxv (eGExpr a0))))], 1, [], [], 0, []⟩) (imps [0] ⟨by kernel_rfl, by kernel_rfl, trivial⟩ ⟨by kernel_rfl, trivial⟩) ?_
      cases hF
      exact post_cut _ rfl (imps [0] ⟨by kernel_rfl, by kernel_rfl, trivial⟩ ⟨by kernel_rfl, trivial⟩)
    iterate 3 (refine dro_f hb9 ?_)
    refine dr_cons { need := [(20, .pv (.bool false)), (24, .pv (.bool (a0.fKind != 2)))], dst := some 28, val := some (.pv (.bool false)) } (fun m h => step_on (guard_on rfl rfl rfl h.1.1 rfl) (op_pick_f rfl h.1.2.1 hb9 rfl rfl rfl) rfl) ⟨⟨rfl, rfl, trivial⟩, trivial, trivial⟩ ?_
    refine dr_cons { need := [(20, .pv (.bool false)), (28, .pv (.bool false))], dst := some 29, val := some (.pv (.bool false)) } (fun m h => step_on (guard_no rfl) (op_pick_f rfl h.1.1 rfl h.1.2.1 rfl rfl) rfl) ⟨⟨rfl, rfl, trivial⟩, trivial, trivial⟩ ?_
    refine dr_nil Tryd_mixed rfl (by kernel_rfl) ?_
    refine post_imp (s' := ⟨55, [(1, some (.lp 0 0)), (29, some (.pv (.bool false)))], [(0, some (.box 31 (bxv (eGExpr a0))))], 1, [], [], 0, []⟩) (imps [0] ⟨by kernel_rfl, by kernel_rfl, trivial⟩ ⟨by kernel_rfl, trivial⟩) ?_
    cases hF
    exact post_cut _ rfl (imps [0] ⟨by kernel_rfl, by kernel_rfl, trivial⟩ ⟨by kernel_rfl, trivial⟩)
  rintro _ rfl
  have hF := hK12
  clear hK12
  refine post_next ?_
  rcases ite_some hF with ⟨hb13, hF⟩ | ⟨hb13, hF⟩
  · refine aw_cond_t rfl hb13 ?_
    refine aw_seq ?_
    refine aw_region ?_
    refine ras ?_
    refine reg_nil ?_
    refine post_imp (s' := ⟨55, [(2, some (.pv (.bool false)))], [], 0, [], [], 0, []⟩) (imps [] ⟨by kernel_rfl, trivial⟩ trivial) ?_
    refine post_next ?_
    refine aw_ret ?_
    refine post_then_ret ?_
    obtain rfl := Option.some.inj hF
    exact prt
  refine aw_cond_f rfl hb13 ?_
  refine aw_skip ?_
  refine post_next ?_
  iterate 2 (refine aw_seq ?_)
  refine aw_region ?_
  refine rgp (op_field_lp rfl rfl Tryd_fld_31_0 rfl rfl) ?_
  refine rgp (op_load_lp (v := .pv (.int .i64 a0.fKind)) rfl rfl rfl rfl Tryd_one_3 rfl rfl) ?_
  refine reg_nil ?_
  refine post_imp (s' := ⟨55, [(1, some (.lp 0 0)), (31, some (.pv (.int .i64 a0.fKind)))], [(0, some (.box 31 (bxv (eGExpr a0))))], 1, [], [], 0, []⟩) (imps [0] ⟨by kernel_rfl, by kernel_rfl, trivial⟩ ⟨by kernel_rfl, trivial⟩) ?_
  refine post_next ?_
  refine aw_block ?_
  refine aw_seq ?_
  refine aw_region ?_
  refine rgp (op_int (k := .i64) (m := a0.fKind) (n := 1) rfl rfl rfl rfl rfl rfl) ?_
  refine ras ?_
  refine reg_nil ?_
  refine post_imp (s' := ⟨55, [(1, some (.lp 0 0)), (31, some (.pv (.int .i64 a0.fKind))), (32, some (.pv (.bool (a0.fKind == 1))))], [(0, some (.box 31 (bxv (eGExpr a0))))], 1, [], [], 0, []⟩) (imps [0] ⟨by kernel_rfl, by kernel_rfl, by kernel_rfl, trivial⟩ ⟨by kernel_rfl, trivial⟩) ?_
  refine post_next ?_
  rcases ite_some hF with ⟨hb14, hF⟩ | ⟨hb14, hF⟩
  · refine aw_cond_t rfl hb14 ?_
    refine aw_seq ?_
    refine aw_region ?_
    refine rgp (op_field_lp rfl rfl Tryd_fld_31_1 rfl rfl) ?_
    refine rgp (op_load_lp (v := .pv (.int .i64 a0.fNum)) rfl rfl rfl rfl Tryd_one_3 rfl rfl) ?_
    refine rgp (op_int (k := .i64) (m := a0.fNum) (n := 0) rfl rfl rfl rfl rfl rfl) ?_
    refine rmv ?_
    rcases ite_some hF with ⟨hb15, hF⟩ | ⟨hb15, hF⟩
    · refine rgn hb15 (op_field_lp rfl rfl Tryd_fld_31_1 rfl rfl) ?_
      refine rgn hb15 (op_load_lp (v := .pv (.int .i64 a0.fNum)) rfl rfl rfl rfl Tryd_one_3 rfl rfl) ?_
      refine rgn hb15 (op_int (k := .i64) (m := a0.fNum) (n := 999999999) rfl rfl rfl rfl rfl rfl) ?_
      refine rpt hb15 ?_
      refine ras ?_
      refine reg_nil ?_
      refine post_imp (s' := ⟨55, [(2, some (.pv (.bool (decide (a0.fNum ≤ 999999999)))))], [], 0, [], [], 0, []⟩) (imps [] ⟨by kernel_rfl, trivial⟩ trivial) ?_
      refine post_next ?_
      refine aw_ret ?_
      refine post_block_ret ?_
      refine post_then_ret ?_
      obtain rfl := Option.some.inj hF
      exact prt
    iterate 3 (refine rgo_f hb15 ?_)
    refine rpf hb15 ?_
    refine ras ?_
    refine reg_nil ?_
    refine post_imp (s' := ⟨55, [(2, some (.pv (.bool false)))], [], 0, [], [], 0, []⟩) (imps [] ⟨by kernel_rfl, trivial⟩ trivial) ?_
    refine post_next ?_
    refine aw_ret ?_
    refine post_block_ret ?_
    refine post_then_ret ?_
    obtain rfl := Option.some.inj hF
    exact prt
  refine aw_cond_f rfl hb14 ?_
  refine aw_seq ?_
  refine aw_region ?_
  refine rgp (op_int (k := .i64) (m := a0.fKind) (n := 2) rfl rfl rfl rfl rfl rfl) ?_
  refine ras ?_
  refine reg_nil ?_
  refine post_imp (s' := ⟨55, [(1, some (.lp 0 0)), (31, some (.pv (.int .i64 a0.fKind))), (42, some (.pv (.bool (a0.fKind == 2))))], [(0, some (.box 31 (bxv (eGExpr a0))))], 1, [], [], 0, []⟩) (imps [0] ⟨by kernel_rfl, by kernel_rfl, by kernel_rfl, trivial⟩ ⟨by kernel_rfl, trivial⟩) ?_
  refine post_next ?_
  rcases ite_some hF with ⟨hb16, hF⟩ | ⟨hb16, hF⟩
  · refine aw_cond_t rfl hb16 ?_
    refine aw_seq ?_
    refine aw_region ?_
    refine rgp (op_field_lp rfl rfl Tryd_fld_31_2 rfl rfl) ?_
    refine rgp (op_load_lp (v := .pv (.str a0.fName)) rfl rfl rfl rfl Tryd_one_9 rfl rfl) ?_
    obtain ⟨y17, h18, hF⟩ := bind_some hF
    refine rgp (op_call 1 rfl (caps := []) (args := [.str a0.fName]) (rs := [.p (.bool y17)]) rfl rfl rfl Tryd_cal_90 (word_Name_ok h18) rfl rfl rfl) ?_
    refine ras ?_
    refine reg_nil ?_
    refine post_imp (s' := ⟨55, [(2, some (.pv (.bool y17)))], [], 0, [], [], 0, []⟩) (imps [] ⟨by kernel_rfl, trivial⟩ trivial) ?_
    refine post_next ?_
    refine aw_ret ?_
    refine post_block_ret ?_
    refine post_then_ret ?_
    obtain rfl := Option.some.inj hF
    exact prt
  refine aw_cond_f rfl hb16 ?_
  refine aw_seq ?_
  obtain ⟨x20, hF, hK22⟩ := bind_some hF
  refine aw_cut (fun s1 => s1 = ⟨55, [(1, some (.lp 0 0)), (47, some (.pv (.bool x20)))], [(0, some (.box 31 (bxv (eGExpr a0))))], 1, [], [], 0, []⟩) ?_ ?_
  · refine aw_seq ?_
    refine aw_region ?_
    refine rgp (op_int (k := .i64) (m := a0.fKind) (n := 13) rfl rfl rfl rfl rfl rfl) ?_
    refine ras ?_
    refine reg_nil ?_
    refine post_imp (s' := ⟨55, [(1, some (.lp 0 0)), (31, some (.pv (.int .i64 a0.fKind))), (47, some (.pv (.bool (a0.fKind == 13))))], [(0, some (.box 31 (bxv (eGExpr a0))))], 1, [], [], 0, []⟩) (imps [0] ⟨by kernel_rfl, by kernel_rfl, by kernel_rfl, trivial⟩ ⟨by kernel_rfl, trivial⟩) ?_
    refine post_next ?_
    rcases ite_some hF with ⟨hb19, hF⟩ | ⟨hb19, hF⟩
    · refine aw_cond_t rfl hb19 ?_
      refine aw_skip ?_
      cases hF
      exact post_cut _ rfl (imps [0] ⟨by kernel_rfl, by kernel_rfl, trivial⟩ ⟨by kernel_rfl, trivial⟩)
    refine aw_cond_f rfl hb19 ?_
    refine aw_region ?_
    refine rgp (op_int (k := .i64) (m := a0.fKind) (n := 14) rfl rfl rfl rfl rfl rfl) ?_
    refine ras ?_
    refine reg_nil ?_
    cases hF
    exact post_cut _ rfl (imps [0] ⟨by kernel_rfl, by kernel_rfl, trivial⟩ ⟨by kernel_rfl, trivial⟩)
  rintro _ rfl
  have hF := hK22
  clear hK22
  refine post_next ?_
  rcases ite_some hF with ⟨hb23, hF⟩ | ⟨hb23, hF⟩
  · refine aw_cond_t rfl hb23 ?_
    refine aw_seq ?_
    refine aw_region ?_
    refine rgp (op_field_lp rfl rfl Tryd_fld_31_3 rfl rfl) ?_
    refine rgp (op_load_lp (v := .pv (.vs 4 (eLGExpr a0.fKids))) rfl rfl rfl rfl Tryd_one_29 rfl rfl) ?_
    refine rgp (op_makeFunc rfl rfl rfl rfl) ?_
    obtain ⟨y25, h26, hF⟩ := bind_some hF
    refine rgp (op_callB 1 rfl (caps := []) (args := [.vs 4 (eLGExpr a0.fKids), .fn 91 [.vp (eGExpr a0)]]) [(0, some (.box 31 (bxv (eGExpr a0))))] rfl rfl rfl (FzH.spec ⟨rfl, trivial⟩) rfl rfl Tryd_cal_85 (slices_ContainsFunc_api_Expr_ok (q1_f := 91) (q1_c := [.vp (eGExpr a0)]) (q1_b := Tryd_cal_91) (q1_h := fun _ r h => (expr_plain_1_ok h)) h26) rfl rfl rfl) ?_
    refine rgp (op_not rfl rfl rfl rfl) ?_
    refine ras ?_
    refine reg_nil ?_
    refine post_imp (s' := ⟨55, [(2, some (.pv (.bool (!y25))))], [], 0, [], [], 0, []⟩) (imps [] ⟨by kernel_rfl, trivial⟩ trivial) ?_
    refine post_next ?_
    refine aw_ret ?_
    refine post_block_ret ?_
    refine post_then_ret ?_
    obtain rfl := Option.some.inj hF
    exact prt
  refine aw_cond_f rfl hb23 ?_
  refine aw_skip ?_
  refine post_block_normal ?_
  refine post_next ?_
  refine aw_seq ?_
  refine aw_region ?_
  refine ras ?_
  refine reg_nil ?_
  refine post_imp (s' := ⟨55, [(2, some (.pv (.bool true)))], [], 0, [], [], 0, []⟩) (imps [] ⟨by kernel_rfl, trivial⟩ trivial) ?_
  refine post_next ?_
  refine aw_ret ?_
  obtain rfl := Option.some.inj hF
  exact prt
theorem expr_Right_ok {a0 : GExpr} {r : Bool} (hF : expr_Right a0 = some r) : Abs.Fn globs_Tryd Tryd.prog 33 [.agg (eGExpr a0)] [.p (.bool r)] := by
  unfold expr_Right at hF
  refine fn_of_body (n := 13) Tryd.func33 rfl rfl rfl ?_
  intro w O
  refine aw_seq ?_
  refine aw_region ?_
  refine rgp (op_box 0 rfl rfl rfl rfl rfl rfl) ?_
  refine rgp (op_alloc 1 rfl (ps := [.bool false]) rfl Tryd_zer_4 (by exact ⟨rfl, trivial⟩) rfl rfl) ?_
  refine reg_nil ?_
  refine post_imp (s' := ⟨13, [(1, some (.lp 0 0)), (2, some (.lp 1 0))], [(0, some (.box 31 (bxv (eGExpr a0)))), (1, some (.box 4 [.pv (.bool false)]))], 2, [], [], 0, []⟩) (imps [0, 1] ⟨by kernel_rfl, by kernel_rfl, trivial⟩ ⟨by kernel_rfl, by kernel_rfl, trivial⟩) ?_
  refine post_next ?_
  iterate 2 (refine aw_seq ?_)
  refine aw_region ?_
  refine rgp (op_load_lp_agg (ps := eGExpr a0) rfl rfl rfl rfl rfl rfl Tryd_agg_31 rfl rfl) ?_
  obtain ⟨y3, h4, hF⟩ := bind_some hF
  refine rgp (op_call 2 rfl (caps := []) (args := [.agg (eGExpr a0), .int .i64 20]) (rs := [.p (.bool y3)]) rfl rfl rfl Tryd_cal_59 (expr_deep_ok h4) rfl rfl rfl) ?_
  refine rgp (op_not rfl rfl rfl rfl) ?_
  refine reg_nil ?_
  refine post_imp (s' := ⟨13, [(1, some (.lp 0 0)), (2, some (.lp 1 0)), (6, some (.pv (.bool (!y3))))], [(0, some (.box 31 (bxv (eGExpr a0)))), (1, some (.box 4 [.pv (.bool false)]))], 2, [], [], 0, []⟩) (imps [0, 1] ⟨by kernel_rfl, by kernel_rfl, by kernel_rfl, trivial⟩ ⟨by kernel_rfl, by kernel_rfl, trivial⟩) ?_
  refine post_next ?_
  rcases ite_some hF with ⟨hb5, hF⟩ | ⟨hb5, hF⟩
  · refine aw_cond_t rfl hb5 ?_
    refine aw_seq ?_
    refine aw_region ?_
    refine rgp (op_store_lp (n := 1) rfl rfl rfl rfl rfl (or_one Tryd_one_4) (by rw [Tryd_one_4]; rfl) rfl rfl rfl) ?_
    refine reg_nil ?_
    refine post_imp (s' := ⟨13, [(2, some (.lp 0 0))], [(0, some (.box 4 [.pv (.bool false)]))], 1, [], [], 0, []⟩) (imps [1] ⟨by kernel_rfl, trivial⟩ ⟨by kernel_rfl, trivial⟩) ?_
    refine post_next ?_
    refine aw_ret ?_
    refine post_then_ret ?_
    obtain rfl := Option.some.inj hF
    exact post_ret rfl rfl (.cons _ _ _ _ _ (.one _ _ _ _ _ _ _ rfl rfl Tryd_one_4 rfl) (.p _) .nil) (.inl rfl)
  refine aw_cond_f rfl hb5 ?_
  refine aw_skip ?_
  refine post_next ?_
  iterate 2 (refine aw_seq ?_)
  refine aw_region ?_
  refine rgp (op_load_lp_agg (ps := eGExpr a0) rfl rfl rfl rfl rfl rfl Tryd_agg_31 rfl rfl) ?_
  obtain ⟨y8, h9, hF⟩ := bind_some hF
  refine rgp (op_call 2 rfl (caps := []) (args := [.agg (eGExpr a0)]) (rs := [.p (.fn 87 [.vp (eGExpr y8)])]) rfl rfl rfl Tryd_cal_60 (expr_all_ok h9) rfl rfl rfl) ?_
  refine reg_nil ?_
  refine post_imp (s' := ⟨13, [(2, some (.lp 0 0)), (8, some (.pv (.fn 87 [.vp (eGExpr y8)])))], [(0, some (.box 4 [.pv (.bool false)]))], 1, [], [], 0, []⟩) (imps [1] ⟨by kernel_rfl, by kernel_rfl, trivial⟩ ⟨by kernel_rfl, trivial⟩) ?_
  refine post_next ?_
  refine aw_block ?_
  refine aw_imp (s' := ⟨13, [(2, some (.lp 0 0)), (8, some (.pv (.fn 87 [.vp (eGExpr y8)])))], [(0, some (.box 4 [.pv (.bool false)]))], 1, [], [], 0, []⟩) (imps [0] ⟨by kernel_rfl, by kernel_rfl, trivial⟩ ⟨by kernel_rfl, trivial⟩) ?_
  obtain ⟨rows28, hR29, hF⟩ := bind_some hF
  obtain ⟨lr30, hL31, hF⟩ := bind_some hF
  refine aw_rangeFunc (X := GExpr) (Q := Unit) (E := Unit) (pre := [.vp (eGExpr y8)]) (bx := none) (post := []) (kt := [2]) (psl := [9]) none (fun z : GExpr => ([.agg (eGExpr z)] : List PV)) rows28 expr_Right_B1 () lr30 hL31 (fun q => ⟨13, [(2, some (.lp 0 0))], [(0, some (.box 4 [.pv (.bool false)]))], 1, [], [], 0, []⟩) (fun z => (.ret, ⟨13, [(2, some (.lp 0 0))], [(0, some (.box 4 [.pv (.bool false)]))], 1, [], [], 0, []⟩)) ⟨rfl, rfl⟩ Tryd_cal_87 (fun sp => expr_all_1_it (itR_all_ok hR29 sp)) (fun _ => rfl) rfl rfl (by decide) rfl (fun x q => ⟨13, [(2, some (.lp 0 0)), (3, some (.lp 1 0)), (9, some (.pv (.agg (eGExpr x))))], [(0, some (.box 4 [.pv (.bool false)])), (1, some (.box 31 (bxv (eGExpr x))))], 2, [], [], 0, [2]⟩) (fun q => ⟨rfl, rfl, rfl, rfl⟩) (fun z => ⟨rfl, rfl, rfl, rfl⟩) (fun z => rfl) rfl rfl ⟨rfl, trivial⟩ ⟨⟨rfl, rfl, rfl⟩, trivial⟩ ?_ ?_ ?_ ?_
  · rintro l32 c33 x22 ⟨⟩ hc34
    refine aw_region ?_
    refine rgp (op_alloc 1 rfl (ps := (eGExpr zGExpr)) rfl Tryd_zer_31 (by exact ⟨rfl, rfl, rfl, trivial, trivial⟩) rfl rfl) ?_
    refine rgp (op_store_lp (n := 4) rfl rfl rfl rfl rfl (or_agg Tryd_agg_31) (by rw [Tryd_non_31]; rfl) rfl rfl rfl) ?_
    refine reg_nil ?_
    exact post_cut1 (imps [0, 1] ⟨by kernel_rfl, by kernel_rfl, by kernel_rfl, trivial⟩ ⟨by kernel_rfl, by kernel_rfl, trivial⟩)
  · rintro l32 c33 x22 ⟨⟩ r35 hc34 hF
    refine aw_block ?_
    refine aw_seq ?_
    refine aw_region ?_
    refine rgp (op_load_lp_agg (ps := eGExpr x22) rfl rfl rfl rfl rfl rfl Tryd_agg_31 rfl rfl) ?_
    obtain ⟨y25, h26, hF⟩ := bind_some hF
    refine rgp (op_call 2 rfl (caps := []) (args := [.agg (eGExpr x22)]) (rs := [.p (.bool y25)]) rfl rfl rfl Tryd_cal_61 (expr_plain_ok h26) rfl rfl rfl) ?_
    refine rgp (op_not rfl rfl rfl rfl) ?_
    refine reg_nil ?_
    refine post_imp (s' := ⟨13, [(2, some (.lp 0 0)), (12, some (.pv (.bool (!y25))))], [(0, some (.box 4 [.pv (.bool false)]))], 1, [], [], 0, [2]⟩) (imps [0] ⟨by kernel_rfl, by kernel_rfl, trivial⟩ ⟨by kernel_rfl, trivial⟩) ?_
    refine post_next ?_
    rcases ite_some hF with ⟨hb27, hF⟩ | ⟨hb27, hF⟩
    · refine aw_cond_t rfl hb27 ?_
      refine aw_seq ?_
      refine aw_region ?_
      refine rgp (op_store_lp (n := 1) rfl rfl rfl rfl rfl (or_one Tryd_one_4) (by rw [Tryd_one_4]; rfl) rfl rfl rfl) ?_
      refine reg_nil ?_
      refine post_imp (s' := ⟨13, [(2, some (.lp 0 0))], [(0, some (.box 4 [.pv (.bool false)]))], 1, [], [], 0, [2]⟩) (imps [0] ⟨by kernel_rfl, trivial⟩ ⟨by kernel_rfl, trivial⟩) ?_
      refine post_next ?_
      refine aw_ret ?_
      refine post_block_ret ?_
      obtain rfl := Option.some.inj hF
      exact post_rnd_ret () rfl rfl (imps [0] ⟨by kernel_rfl, trivial⟩ ⟨by kernel_rfl, trivial⟩)
    refine aw_cond_f rfl hb27 ?_
    refine aw_skip ?_
    refine post_block_normal ?_
    obtain rfl := Option.some.inj hF
    exact post_rnd () rfl (imps [0] ⟨by kernel_rfl, trivial⟩ ⟨by kernel_rfl, trivial⟩)
  · rintro ⟨⟩ rfl
    have hF := elim_next hF
    refine post_block_normal ?_
    refine post_next ?_
    refine aw_seq ?_
    refine aw_region ?_
    refine rgp (op_store_lp (n := 1) rfl rfl rfl rfl rfl (or_one Tryd_one_4) (by rw [Tryd_one_4]; rfl) rfl rfl rfl) ?_
    refine reg_nil ?_
    refine post_imp (s' := ⟨13, [(2, some (.lp 0 0))], [(0, some (.box 4 [.pv (.bool true)]))], 1, [], [], 0, []⟩) (imps [0] ⟨by kernel_rfl, trivial⟩ ⟨by kernel_rfl, trivial⟩) ?_
    refine post_next ?_
    refine aw_ret ?_
    obtain rfl := Option.some.inj hF
    exact post_ret rfl rfl (.cons _ _ _ _ _ (.one _ _ _ _ _ _ _ rfl rfl Tryd_one_4 rfl) (.p _) .nil) (.inl rfl)
  rintro ⟨⟩ rfl
  have hF := elim_stop hF
  show Post _ _ .ret _
  refine post_block_ret ?_
  refine post_then_ret ?_
  obtain rfl := Option.some.inj hF
  exact post_ret rfl rfl (.cons _ _ _ _ _ (.one _ _ _ _ _ _ _ rfl rfl Tryd_one_4 rfl) (.p _) .nil) (.inl rfl)
theorem slices_IndexFunc_api_Class_ok {a0 : List GClass} {q1 : GClass → Option Bool} {r : Int} {q1_f : Nat} {q1_c : List PV} (q1_b : callB Tryd.prog q1_f = true) (q1_h : ∀ (x0 : GClass) (r : Bool), q1 x0 = some r → Abs.Fn globs_Tryd Tryd.prog q1_f ([.agg (eGClass x0)] ++ q1_c) [.p (.bool r)]) (hF : slices_IndexFunc_api_Class a0 q1 = some r) : Abs.Fn globs_Tryd Tryd.prog 136 [.vs 7 (List.map eGClass a0), .fn q1_f q1_c] [.p (.int .i64 r)] := by
  unfold slices_IndexFunc_api_Class at hF
  refine fn_of_body (n := 19) Tryd.func136 rfl rfl rfl ?_
  intro w O
  refine aw_seq ?_
  refine aw_region ?_
  refine ras ?_
  refine reg_nil ?_
  refine post_imp (s' := ⟨19, [(0, some (.pv (.vs 7 (List.map eGClass a0)))), (1, some (.pv (.fn q1_f q1_c)))], [], 0, [], [], 0, []⟩) (imps [] ⟨by kernel_rfl, by kernel_rfl, trivial⟩ trivial) ?_
  refine post_next ?_
  iterate 2 (refine aw_seq ?_)
  refine aw_region ?_
  refine rmv ?_
  refine rgp (op_len_vs (n := a0.length) rfl rfl (List.length_map ..) Tryd_slc_22 rfl rfl) ?_
  refine rmv ?_
  refine reg_nil ?_
  refine post_imp (s' := ⟨19, [(0, some (.pv (.vs 7 (List.map eGClass a0)))), (1, some (.pv (.fn q1_f q1_c))), (7, some (.pv (.int .i64 (a0.length : Int)))), (8, some (.pv (.int .i64 0)))], [], 0, [], [], 0, []⟩) (imps [] ⟨by kernel_rfl, by kernel_rfl, by kernel_rfl, by kernel_rfl, trivial⟩ trivial) ?_
  refine post_next ?_
  obtain ⟨lr34, hF, hK35⟩ := bind_some hF
  refine aw_for ((((a0.length : Int) : Int) - (0)).toNat + 1) (fun s1 => ∃ q, lr34 = .next q ∧ s1 = ⟨19, [], [], 0, [], [], 0, []⟩) ?_ ?_
  · refine rnd_loop (α := Int) (fun q => ⟨19, [(0, some (.pv (.vs 7 (List.map eGClass a0)))), (1, some (.pv (.fn q1_f q1_c))), (7, some (.pv (.int .i64 (a0.length : Int)))), (8, some (.pv (.int .i64 q)))], [], 0, [], [], 0, []⟩) (fun k q => slices_IndexFunc_api_Class_L1 a0 q1 k q = some lr34) 0 (imps [] ⟨by kernel_rfl, by kernel_rfl, by kernel_rfl, by kernel_rfl, trivial⟩ trivial) hF (fun q h => by cases h) ?_
    clear hF
    rintro k x11 hF ih
    refine rnd_succ ?_
    refine aw_seq ?_
    refine aw_region ?_
    refine rgp (op_int (k := .i64) (m := x11) (n := (a0.length : Int)) rfl rfl rfl rfl rfl rfl) ?_
    refine reg_nil ?_
    refine post_imp (s' := ⟨19, [(0, some (.pv (.vs 7 (List.map eGClass a0)))), (1, some (.pv (.fn q1_f q1_c))), (7, some (.pv (.int .i64 (a0.length : Int)))), (8, some (.pv (.int .i64 x11))), (9, some (.pv (.bool (decide (x11 < (a0.length : Int))))))], [], 0, [], [], 0, []⟩) (imps [] ⟨by kernel_rfl, by kernel_rfl, by kernel_rfl, by kernel_rfl, by kernel_rfl, trivial⟩ trivial) ?_
    refine post_next ?_
    refine aw_seq ?_
    rcases ite_some hF with ⟨hb23, hF⟩ | ⟨hb23, hF⟩
    · refine aw_cond_t rfl hb23 ?_
      refine aw_skip ?_
      refine post_next ?_
      refine aw_seq ?_
      refine aw_block ?_
      refine aw_seq ?_
      refine aw_region ?_
      refine rmv ?_
      refine ras ?_
      refine reg_nil ?_
      refine post_imp (s' := ⟨19, [(0, some (.pv (.vs 7 (List.map eGClass a0)))), (1, some (.pv (.fn q1_f q1_c))), (5, some (.pv (.int .i64 x11))), (7, some (.pv (.int .i64 (a0.length : Int)))), (8, some (.pv (.int .i64 x11)))], [], 0, [], [], 0, []⟩) (imps [] ⟨by kernel_rfl, by kernel_rfl, by kernel_rfl, by kernel_rfl, by kernel_rfl, trivial⟩ trivial) ?_
      refine post_next ?_
      refine aw_seq ?_
      refine aw_region ?_
      iterate 3 (refine rmv ?_)
      obtain ⟨y28, h29, hF⟩ := bind_some hF
      refine rgp (op_index_vs (k := .i64) rfl rfl rfl (idx_map eGClass h29) Tryd_slc_22 rfl rfl) ?_
      refine rgp (op_load_vp_agg (ps := eGClass y28) rfl rfl rfl rfl Tryd_agg_108 rfl rfl) ?_
      obtain ⟨y30, h31, hF⟩ := bind_some hF
      refine rgp (op_call 0 rfl (caps := q1_c) (args := [.agg (eGClass y28)]) (rs := [.p (.bool y30)]) rfl rfl rfl q1_b (q1_h y28 _ h31) rfl rfl rfl) ?_
      refine reg_nil ?_
      refine post_imp (s' := ⟨19, [(0, some (.pv (.vs 7 (List.map eGClass a0)))), (1, some (.pv (.fn q1_f q1_c))), (5, some (.pv (.int .i64 x11))), (7, some (.pv (.int .i64 (a0.length : Int)))), (8, some (.pv (.int .i64 x11))), (16, some (.pv (.bool y30)))], [], 0, [], [], 0, []⟩) (imps [] ⟨by kernel_rfl, by kernel_rfl, by kernel_rfl, by kernel_rfl, by kernel_rfl, by kernel_rfl, trivial⟩ trivial) ?_
      refine post_next ?_
      rcases ite_some hF with ⟨hb32, hF⟩ | ⟨hb32, hF⟩
      · refine aw_cond_t rfl hb32 ?_
        refine aw_seq ?_
        refine aw_region ?_
        refine rmv ?_
        refine ras ?_
        refine reg_nil ?_
        refine post_imp (s' := ⟨19, [(4, some (.pv (.int .i64 x11)))], [], 0, [], [], 0, []⟩) (imps [] ⟨by kernel_rfl, trivial⟩ trivial) ?_
        refine post_next ?_
        refine aw_ret ?_
        refine post_block_ret ?_
        iterate 2 (refine post_then_ret ?_)
        refine post_lp_ret ?_
        obtain rfl := Option.some.inj hF
        have hF := elim_stop hK35
        refine post_then_ret ?_
        obtain rfl := Option.some.inj hF
        exact prt
      refine aw_cond_f rfl hb32 ?_
      refine aw_skip ?_
      refine post_block_normal ?_
      refine post_next ?_
      refine aw_region ?_
      refine rgp (op_int (k := .i64) (m := x11) (n := 1) rfl rfl rfl rfl rfl rfl) ?_
      refine rmv ?_
      refine reg_nil ?_
      refine post_round ?_
      exact rnd_back (ih (w_i64 (x11 + 1)) hF) (imps [] ⟨by kernel_rfl, by kernel_rfl, by kernel_rfl, by kernel_rfl, trivial⟩ trivial)
    refine aw_cond_f rfl hb23 ?_
    refine aw_exit ?_
    iterate 2 (refine post_then_exit ?_)
    obtain rfl := Option.some.inj hF
    exact post_lp_break _ ⟨_, rfl, rfl⟩ (imps [] trivial trivial)
  rintro _ ⟨⟨⟩, rfl, rfl⟩
  have hF := elim_next hK35
  clear hK35
  refine post_next ?_
  refine aw_seq ?_
  refine aw_region ?_
  refine ras ?_
  refine reg_nil ?_
  refine post_imp (s' := ⟨19, [(4, some (.pv (.int .i64 (-1))))], [], 0, [], [], 0, []⟩) (imps [] ⟨by kernel_rfl, trivial⟩ trivial) ?_
  refine post_next ?_
  refine aw_ret ?_
  obtain rfl := Option.some.inj hF
  exact prt
theorem table_Find_1_ok {a0 : GClass} {c0 : List UInt8} {r : Bool} (hF : table_Find_1 a0 c0 = some r) : Abs.Fn globs_Tryd Tryd.prog 137 [.agg (eGClass a0), .vp (eS c0)] [.p (.bool r)] := by
  unfold table_Find_1 at hF
  refine fn_of_body (n := 8) Tryd.func137 rfl rfl rfl ?_
  intro w O
  refine aw_seq ?_
  refine aw_region ?_
  refine rgp (op_box 0 rfl rfl rfl rfl rfl rfl) ?_
  refine ras ?_
  refine reg_nil ?_
  refine post_imp (s' := ⟨8, [(1, some (.pv (.vp (eS c0)))), (2, some (.lp 0 0))], [(0, some (.box 108 (bxv (eGClass a0))))], 1, [], [], 0, []⟩) (imps [0] ⟨by kernel_rfl, by kernel_rfl, trivial⟩ ⟨by kernel_rfl, trivial⟩) ?_
  refine post_next ?_
  refine aw_seq ?_
  refine aw_region ?_
  refine rgp (op_field_lp rfl rfl Tryd_fld_108_0 rfl rfl) ?_
  refine rgp (op_load_lp (v := .pv (.str a0.fName)) rfl rfl rfl rfl Tryd_one_9 rfl rfl) ?_
  refine rgp (op_load_vp (p := .str c0) rfl rfl rfl Tryd_one_9 rfl rfl) ?_
  refine rgp (op_str rfl rfl rfl rfl rfl rfl) ?_
  refine ras ?_
  refine reg_nil ?_
  refine post_imp (s' := ⟨8, [(3, some (.pv (.bool (a0.fName == c0))))], [], 0, [], [], 0, []⟩) (imps [] ⟨by kernel_rfl, trivial⟩ trivial) ?_
  refine post_next ?_
  refine aw_ret ?_
  obtain rfl := Option.some.inj hF
  exact prt
theorem table_Find_ok {a0 : List GClass} {a1 : List UInt8} {r : Int} (hF : table_Find a0 a1 = some r) : Abs.Fn globs_Tryd Tryd.prog 122 [.vs 7 (List.map eGClass a0), .str a1] [.p (.int .i64 r)] := by
  unfold table_Find at hF
  refine fn_of_body (n := 8) Tryd.func122 rfl rfl rfl ?_
  intro w O
  refine aw_seq ?_
  refine aw_region ?_
  refine rgp (op_box 0 rfl rfl rfl rfl rfl rfl) ?_
  refine ras ?_
  refine reg_nil ?_
  refine post_imp (s' := ⟨8, [(0, some (.pv (.vs 7 (List.map eGClass a0)))), (3, some (.lp 0 0))], [(0, some (.box 9 [.pv (.str a1)]))], 1, [], [], 0, []⟩) (imps [0] ⟨by kernel_rfl, by kernel_rfl, trivial⟩ ⟨by kernel_rfl, trivial⟩) ?_
  refine post_next ?_
  refine aw_seq ?_
  refine aw_region ?_
  refine rmv ?_
  refine rgp (op_makeFunc rfl rfl rfl rfl) ?_
  obtain ⟨y2, h3, hF⟩ := bind_some hF
  refine rgp (op_callB 1 rfl (caps := []) (args := [.vs 7 (List.map eGClass a0), .fn 137 [.vp (eS a1)]]) [(0, some (.box 9 [.pv (.str a1)]))] rfl rfl rfl (FzH.spec ⟨rfl, trivial⟩) rfl rfl Tryd_cal_136 (slices_IndexFunc_api_Class_ok (q1_f := 137) (q1_c := [.vp (eS a1)]) (q1_b := Tryd_cal_137) (q1_h := fun _ r h => (table_Find_1_ok h)) h3) rfl rfl rfl) ?_
  refine ras ?_
  refine reg_nil ?_
  refine post_imp (s' := ⟨8, [(4, some (.pv (.int .i64 y2)))], [], 0, [], [], 0, []⟩) (imps [] ⟨by kernel_rfl, trivial⟩ trivial) ?_
  refine post_next ?_
  refine aw_ret ?_
  obtain rfl := Option.some.inj hF
  exact prt
theorem slices_IndexFunc_api_Method_ok {a0 : List GMethod} {q1 : GMethod → Option Bool} {r : Int} {q1_f : Nat} {q1_c : List PV} (q1_b : callB Tryd.prog q1_f = true) (q1_h : ∀ (x0 : GMethod) (r : Bool), q1 x0 = some r → Abs.Fn globs_Tryd Tryd.prog q1_f ([.agg (eGMethod x0)] ++ q1_c) [.p (.bool r)]) (hF : slices_IndexFunc_api_Method a0 q1 = some r) : Abs.Fn globs_Tryd Tryd.prog 123 [.vs 17 (List.map eGMethod a0), .fn q1_f q1_c] [.p (.int .i64 r)] := by
  unfold slices_IndexFunc_api_Method at hF
  refine fn_of_body (n := 19) Tryd.func123 rfl rfl rfl ?_
  intro w O
  refine aw_seq ?_
  refine aw_region ?_
  refine ras ?_
  refine reg_nil ?_
  refine post_imp (s' := ⟨19, [(0, some (.pv (.vs 17 (List.map eGMethod a0)))), (1, some (.pv (.fn q1_f q1_c)))], [], 0, [], [], 0, []⟩) (imps [] ⟨by kernel_rfl, by kernel_rfl, trivial⟩ trivial) ?_
  refine post_next ?_
  iterate 2 (refine aw_seq ?_)
  refine aw_region ?_
  refine rmv ?_
  refine rgp (op_len_vs (n := a0.length) rfl rfl (List.length_map ..) Tryd_slc_106 rfl rfl) ?_
  refine rmv ?_
  refine reg_nil ?_
  refine post_imp (s' := ⟨19, [(0, some (.pv (.vs 17 (List.map eGMethod a0)))), (1, some (.pv (.fn q1_f q1_c))), (7, some (.pv (.int .i64 (a0.length : Int)))), (8, some (.pv (.int .i64 0)))], [], 0, [], [], 0, []⟩) (imps [] ⟨by kernel_rfl, by kernel_rfl, by kernel_rfl, by kernel_rfl, trivial⟩ trivial) ?_
  refine post_next ?_
  obtain ⟨lr34, hF, hK35⟩ := bind_some hF
  refine aw_for ((((a0.length : Int) : Int) - (0)).toNat + 1) (fun s1 => ∃ q, lr34 = .next q ∧ s1 = ⟨19, [], [], 0, [], [], 0, []⟩) ?_ ?_
  · refine rnd_loop (α := Int) (fun q => ⟨19, [(0, some (.pv (.vs 17 (List.map eGMethod a0)))), (1, some (.pv (.fn q1_f q1_c))), (7, some (.pv (.int .i64 (a0.length : Int)))), (8, some (.pv (.int .i64 q)))], [], 0, [], [], 0, []⟩) (fun k q => slices_IndexFunc_api_Method_L1 a0 q1 k q = some lr34) 0 (imps [] ⟨by kernel_rfl, by kernel_rfl, by kernel_rfl, by kernel_rfl, trivial⟩ trivial) hF (fun q h => by cases h) ?_
    clear hF
    rintro k x11 hF ih
    refine rnd_succ ?_
    refine aw_seq ?_
    refine aw_region ?_
    refine rgp (op_int (k := .i64) (m := x11) (n := (a0.length : Int)) rfl rfl rfl rfl rfl rfl) ?_
    refine reg_nil ?_
    refine post_imp (s' := ⟨19, [(0, some (.pv (.vs 17 (List.map eGMethod a0)))), (1, some (.pv (.fn q1_f q1_c))), (7, some (.pv (.int .i64 (a0.length : Int)))), (8, some (.pv (.int .i64 x11))), (9, some (.pv (.bool (decide (x11 < (a0.length : Int))))))], [], 0, [], [], 0, []⟩) (imps [] ⟨by kernel_rfl, by kernel_rfl, by kernel_rfl, by kernel_rfl, by kernel_rfl, trivial⟩ trivial) ?_
    refine post_next ?_
    refine aw_seq ?_
    rcases ite_some hF with ⟨hb23, hF⟩ | ⟨hb23, hF⟩
    · refine aw_cond_t rfl hb23 ?_
      refine aw_skip ?_
      refine post_next ?_
      refine aw_seq ?_
      refine aw_block ?_
      refine aw_seq ?_
      refine aw_region ?_
      refine rmv ?_
      refine ras ?_
      refine reg_nil ?_
      refine post_imp (s' := ⟨19, [(0, some (.pv (.vs 17 (List.map eGMethod a0)))), (1, some (.pv (.fn q1_f q1_c))), (5, some (.pv (.int .i64 x11))), (7, some (.pv (.int .i64 (a0.length : Int)))), (8, some (.pv (.int .i64 x11)))], [], 0, [], [], 0, []⟩) (imps [] ⟨by kernel_rfl, by kernel_rfl, by kernel_rfl, by kernel_rfl, by kernel_rfl, trivial⟩ trivial) ?_
      refine post_next ?_
      refine aw_seq ?_
      refine aw_region ?_
      iterate 3 (refine rmv ?_)
      obtain ⟨y28, h29, hF⟩ := bind_some hF
      refine rgp (op_index_vs (k := .i64) rfl rfl rfl (idx_map eGMethod h29) Tryd_slc_106 rfl rfl) ?_
      refine rgp (op_load_vp_agg (ps := eGMethod y28) rfl rfl rfl rfl Tryd_agg_116 rfl rfl) ?_
      obtain ⟨y30, h31, hF⟩ := bind_some hF
      refine rgp (op_call 0 rfl (caps := q1_c) (args := [.agg (eGMethod y28)]) (rs := [.p (.bool y30)]) rfl rfl rfl q1_b (q1_h y28 _ h31) rfl rfl rfl) ?_
      refine reg_nil ?_
      refine post_imp (s' := ⟨19, [(0, some (.pv (.vs 17 (List.map eGMethod a0)))), (1, some (.pv (.fn q1_f q1_c))), (5, some (.pv (.int .i64 x11))), (7, some (.pv (.int .i64 (a0.length : Int)))), (8, some (.pv (.int .i64 x11))), (16, some (.pv (.bool y30)))], [], 0, [], [], 0, []⟩) (imps [] ⟨by kernel_rfl, by kernel_rfl, by kernel_rfl, by kernel_rfl, by kernel_rfl, by kernel_rfl, trivial⟩ trivial) ?_
      refine post_next ?_
      rcases ite_some hF with ⟨hb32, hF⟩ | ⟨hb32, hF⟩
      · refine aw_cond_t rfl hb32 ?_
        refine aw_seq ?_
        refine aw_region ?_
        refine rmv ?_
        refine ras ?_
        refine reg_nil ?_
        refine post_imp (s' := ⟨19, [(4, some (.pv (.int .i64 x11)))], [], 0, [], [], 0, []⟩) (imps [] ⟨by kernel_rfl, trivial⟩ trivial) ?_
        refine post_next ?_
        refine aw_ret ?_
        refine post_block_ret ?_
        iterate 2 (refine post_then_ret ?_)
        refine post_lp_ret ?_
        obtain rfl := Option.some.inj hF
        have hF := elim_stop hK35
        refine post_then_ret ?_
        obtain rfl := Option.some.inj hF
        exact prt
      refine aw_cond_f rfl hb32 ?_
      refine aw_skip ?_
      refine post_block_normal ?_
      refine post_next ?_
      refine aw_region ?_
      refine rgp (op_int (k := .i64) (m := x11) (n := 1) rfl rfl rfl rfl rfl rfl) ?_
      refine rmv ?_
      refine reg_nil ?_
      refine post_round ?_
      exact rnd_back (ih (w_i64 (x11 + 1)) hF) (imps [] ⟨by kernel_rfl, by kernel_rfl, by kernel_rfl, by kernel_rfl, trivial⟩ trivial)
    refine aw_cond_f rfl hb23 ?_
    refine aw_exit ?_
    iterate 2 (refine post_then_exit ?_)
    obtain rfl := Option.some.inj hF
    exact post_lp_break _ ⟨_, rfl, rfl⟩ (imps [] trivial trivial)
  rintro _ ⟨⟨⟩, rfl, rfl⟩
  have hF := elim_next hK35
  clear hK35
  refine post_next ?_
  refine aw_seq ?_
  refine aw_region ?_
  refine ras ?_
  refine reg_nil ?_
  refine post_imp (s' := ⟨19, [(4, some (.pv (.int .i64 (-1))))], [], 0, [], [], 0, []⟩) (imps [] ⟨by kernel_rfl, trivial⟩ trivial) ?_
  refine post_next ?_
  refine aw_ret ?_
  obtain rfl := Option.some.inj hF
  exact prt
theorem frame_Method_1_ok {a0 : GMethod} {c0 : GFrame} {r : Bool} (hF : frame_Method_1 a0 c0 = some r) : Abs.Fn globs_Tryd Tryd.prog 124 [.agg (eGMethod a0), .vp (eGFrame c0)] [.p (.bool r)] := by
  unfold frame_Method_1 at hF
  refine fn_of_body (n := 9) Tryd.func124 rfl rfl rfl ?_
  intro w O
  refine aw_seq ?_
  refine aw_region ?_
  refine rgp (op_box 0 rfl rfl rfl rfl rfl rfl) ?_
  refine ras ?_
  refine reg_nil ?_
  refine post_imp (s' := ⟨9, [(1, some (.pv (.vp (eGFrame c0)))), (2, some (.lp 0 0))], [(0, some (.box 116 (bxv (eGMethod a0))))], 1, [], [], 0, []⟩) (imps [0] ⟨by kernel_rfl, by kernel_rfl, trivial⟩ ⟨by kernel_rfl, trivial⟩) ?_
  refine post_next ?_
  refine aw_seq ?_
  refine aw_region ?_
  refine rgp (op_field_lp rfl rfl Tryd_fld_116_0 rfl rfl) ?_
  refine rgp (op_load_lp (v := .pv (.str a0.fName)) rfl rfl rfl rfl Tryd_one_9 rfl rfl) ?_
  refine rgp (op_field_vp rfl rfl Tryd_fld_25_2 rfl rfl) ?_
  refine rgp (op_load_vp (p := .str c0.fMethod) rfl rfl rfl Tryd_one_9 rfl rfl) ?_
  refine rgp (op_str rfl rfl rfl rfl rfl rfl) ?_
  refine ras ?_
  refine reg_nil ?_
  refine post_imp (s' := ⟨9, [(3, some (.pv (.bool (a0.fName == c0.fMethod))))], [], 0, [], [], 0, []⟩) (imps [] ⟨by kernel_rfl, trivial⟩ trivial) ?_
  refine post_next ?_
  refine aw_ret ?_
  obtain rfl := Option.some.inj hF
  exact prt
theorem frame_Method_ok {a0 : List GClass} {a1 : GFrame} {r : GClass × GMethod × Bool} (hF : frame_Method a0 a1 = some r) : Abs.Fn globs_Tryd Tryd.prog 92 [.vs 7 (List.map eGClass a0), .agg (eGFrame a1)] [.p (.agg (eGClass r.1)), .p (.agg (eGMethod r.2.1)), .p (.bool r.2.2)] := by
  unfold frame_Method at hF
  refine fn_of_body (n := 40) Tryd.func92 rfl rfl rfl ?_
  intro w O
  refine aw_seq ?_
  refine aw_region ?_
  refine rgp (op_box 0 rfl rfl rfl rfl rfl rfl) ?_
  refine rgp (op_alloc 1 rfl (ps := (eGClass zGClass)) rfl Tryd_zer_108 (by exact ⟨rfl, trivial, rfl, trivial, trivial, trivial, rfl, trivial⟩) rfl rfl) ?_
  refine rgp (op_alloc 2 rfl (ps := (eGMethod zGMethod)) rfl Tryd_zer_116 (by exact ⟨rfl, rfl, rfl, rfl, rfl, rfl, rfl, rfl, rfl, rfl, rfl, rfl, rfl, trivial, trivial, trivial, rfl, trivial⟩) rfl rfl) ?_
  refine ras ?_
  refine reg_nil ?_
  refine post_imp (s' := ⟨40, [(0, some (.pv (.vs 7 (List.map eGClass a0)))), (3, some (.lp 0 0)), (4, some (.lp 1 0)), (5, some (.lp 2 0))], [(0, some (.box 25 (bxv (eGFrame a1)))), (1, some (.box 108 (bxv (eGClass zGClass)))), (2, some (.box 116 (bxv (eGMethod zGMethod))))], 3, [], [], 0, []⟩) (imps [0, 1, 2] ⟨by kernel_rfl, by kernel_rfl, by kernel_rfl, by kernel_rfl, trivial⟩ ⟨by kernel_rfl, by kernel_rfl, by kernel_rfl, trivial⟩) ?_
  refine post_next ?_
  refine aw_seq ?_
  refine aw_region ?_
  refine rmv ?_
  refine rgp (op_field_lp rfl rfl Tryd_fld_25_1 rfl rfl) ?_
  refine rgp (op_load_lp (v := .pv (.str a1.fClass)) rfl rfl rfl rfl Tryd_one_9 rfl rfl) ?_
  obtain ⟨y3, h4, hF⟩ := bind_some hF
  refine rgp (op_call 3 rfl (caps := []) (args := [.vs 7 (List.map eGClass a0), .str a1.fClass]) (rs := [.p (.int .i64 y3)]) rfl rfl rfl Tryd_cal_122 (table_Find_ok h4) rfl rfl rfl) ?_
  refine ras ?_
  refine reg_nil ?_
  refine post_imp (s' := ⟨40, [(0, some (.pv (.vs 7 (List.map eGClass a0)))), (3, some (.lp 0 0)), (4, some (.lp 1 0)), (5, some (.lp 2 0)), (7, some (.pv (.int .i64 y3)))], [(0, some (.box 25 (bxv (eGFrame a1)))), (1, some (.box 108 (bxv (eGClass zGClass)))), (2, some (.box 116 (bxv (eGMethod zGMethod))))], 3, [], [], 0, []⟩) (imps [0, 1, 2] ⟨by kernel_rfl, by kernel_rfl, by kernel_rfl, by kernel_rfl, by kernel_rfl, trivial⟩ ⟨by kernel_rfl, by kernel_rfl, by kernel_rfl, trivial⟩) ?_
  refine post_next ?_
  iterate 2 (refine aw_seq ?_)
  refine aw_region ?_
  refine rmv ?_
  refine rgp (op_int (k := .i64) (m := y3) (n := 0) rfl rfl rfl rfl rfl rfl) ?_
  refine reg_nil ?_
  refine post_imp (s' := ⟨40, [(0, some (.pv (.vs 7 (List.map eGClass a0)))), (3, some (.lp 0 0)), (4, some (.lp 1 0)), (5, some (.lp 2 0)), (7, some (.pv (.int .i64 y3))), (14, some (.pv (.bool (decide (y3 < 0)))))], [(0, some (.box 25 (bxv (eGFrame a1)))), (1, some (.box 108 (bxv (eGClass zGClass)))), (2, some (.box 116 (bxv (eGMethod zGMethod))))], 3, [], [], 0, []⟩) (imps [0, 1, 2] ⟨by kernel_rfl, by kernel_rfl, by kernel_rfl, by kernel_rfl, by kernel_rfl, by kernel_rfl, trivial⟩ ⟨by kernel_rfl, by kernel_rfl, by kernel_rfl, trivial⟩) ?_
  refine post_next ?_
  rcases ite_some hF with ⟨hb5, hF⟩ | ⟨hb5, hF⟩
  · refine aw_cond_t rfl hb5 ?_
    refine aw_seq ?_
    refine aw_region ?_
    refine rgp (op_build (zs := (eGClass zGClass)) (r := eGClass ({ fName := [], fParams := [], fSuper := [], fAbove := [], fFields := [], fMethods := [], fAt := 0 } : GClass)) rfl Tryd_zer_108 (by exact ⟨rfl, trivial, rfl, trivial, trivial, trivial, rfl, trivial⟩) Tryd_plc_108 rfl rfl rfl rfl) ?_
    refine rgp (op_build (zs := (eGMethod zGMethod)) (r := eGMethod ({ fName := [], fPure := false, fRet := zGType, fParams := [], fLocals := [], fBody := [], fAt := 0 } : GMethod)) rfl Tryd_zer_116 (by exact ⟨rfl, rfl, rfl, rfl, rfl, rfl, rfl, rfl, rfl, rfl, rfl, rfl, rfl, trivial, trivial, trivial, rfl, trivial⟩) Tryd_plc_116 rfl rfl rfl rfl) ?_
    refine rgp (op_store_lp (n := 7) rfl rfl rfl rfl rfl (or_agg Tryd_agg_108) (by rw [Tryd_non_108]; rfl) rfl rfl rfl) ?_
    refine rgp (op_store_lp (n := 17) rfl rfl rfl rfl rfl (or_agg Tryd_agg_116) (by rw [Tryd_non_116]; rfl) rfl rfl rfl) ?_
    refine ras ?_
    refine reg_nil ?_
    refine post_imp (s' := ⟨40, [(4, some (.lp 0 0)), (5, some (.lp 1 0)), (6, some (.pv (.bool false)))], [(0, some (.box 108 (bxv (eGClass ({ fName := [], fParams := [], fSuper := [], fAbove := [], fFields := [], fMethods := [], fAt := 0 } : GClass))))), (1, some (.box 116 (bxv (eGMethod ({ fName := [], fPure := false, fRet := zGType, fParams := [], fLocals := [], fBody := [], fAt := 0 } : GMethod)))))], 2, [], [], 0, []⟩) (imps [1, 2] ⟨by kernel_rfl, by kernel_rfl, by kernel_rfl, trivial⟩ ⟨by kernel_rfl, by kernel_rfl, trivial⟩) ?_
    refine post_next ?_
    refine aw_ret ?_
    refine post_then_ret ?_
    obtain rfl := Option.some.inj hF
    exact post_ret rfl rfl (.cons _ _ _ _ _ (.agg _ _ _ _ _ 7 _ _ rfl rfl Tryd_agg_108 rfl rfl rfl) (.p _) (.cons _ _ _ _ _ (.agg _ _ _ _ _ 17 _ _ rfl rfl Tryd_agg_116 rfl rfl rfl) (.p _) (.cons _ _ _ _ _ (.tmp _ _ rfl) (.p _) .nil))) (.inl rfl)
  refine aw_cond_f rfl hb5 ?_
  refine aw_skip ?_
  refine post_next ?_
  refine aw_seq ?_
  refine aw_region ?_
  iterate 2 (refine rmv ?_)
  obtain ⟨y11, h12, hF⟩ := bind_some hF
  refine rgp (op_index_vs (k := .i64) rfl rfl rfl (idx_map eGClass h12) Tryd_slc_22 rfl rfl) ?_
  refine rgp (op_field_vp rfl rfl Tryd_fld_108_5 rfl rfl) ?_
  refine rgp (op_load_vp (p := .vs 17 (List.map eGMethod y11.fMethods)) rfl rfl rfl Tryd_one_106 rfl rfl) ?_
  refine rgp (op_makeFunc rfl rfl rfl rfl) ?_
  obtain ⟨y14, h15, hF⟩ := bind_some hF
  refine rgp (op_callB 3 rfl (caps := []) (args := [.vs 17 (List.map eGMethod y11.fMethods), .fn 124 [.vp (eGFrame a1)]]) [(0, some (.box 25 (bxv (eGFrame a1))))] rfl rfl rfl (FzH.spec ⟨rfl, trivial⟩) rfl rfl Tryd_cal_123 (slices_IndexFunc_api_Method_ok (q1_f := 124) (q1_c := [.vp (eGFrame a1)]) (q1_b := Tryd_cal_124) (q1_h := fun _ r h => (frame_Method_1_ok h)) h15) rfl rfl rfl) ?_
  refine ras ?_
  refine reg_nil ?_
  refine post_imp (s' := ⟨40, [(0, some (.pv (.vs 7 (List.map eGClass a0)))), (4, some (.lp 0 0)), (5, some (.lp 1 0)), (7, some (.pv (.int .i64 y3))), (8, some (.pv (.int .i64 y14)))], [(0, some (.box 108 (bxv (eGClass zGClass)))), (1, some (.box 116 (bxv (eGMethod zGMethod))))], 2, [], [], 0, []⟩) (imps [1, 2] ⟨by kernel_rfl, by kernel_rfl, by kernel_rfl, by kernel_rfl, by kernel_rfl, trivial⟩ ⟨by kernel_rfl, by kernel_rfl, trivial⟩) ?_
  refine post_next ?_
  iterate 2 (refine aw_seq ?_)
  refine aw_region ?_
  refine rmv ?_
  refine rgp (op_int (k := .i64) (m := y14) (n := 0) rfl rfl rfl rfl rfl rfl) ?_
  refine reg_nil ?_
  refine post_imp (s' := ⟨40, [(0, some (.pv (.vs 7 (List.map eGClass a0)))), (4, some (.lp 0 0)), (5, some (.lp 1 0)), (7, some (.pv (.int .i64 y3))), (8, some (.pv (.int .i64 y14))), (25, some (.pv (.bool (decide (y14 < 0)))))], [(0, some (.box 108 (bxv (eGClass zGClass)))), (1, some (.box 116 (bxv (eGMethod zGMethod))))], 2, [], [], 0, []⟩) (imps [0, 1] ⟨by kernel_rfl, by kernel_rfl, by kernel_rfl, by kernel_rfl, by kernel_rfl, by kernel_rfl, trivial⟩ ⟨by kernel_rfl, by kernel_rfl, trivial⟩) ?_
  refine post_next ?_
  rcases ite_some hF with ⟨hb16, hF⟩ | ⟨hb16, hF⟩
  · refine aw_cond_t rfl hb16 ?_
    refine aw_seq ?_
    refine aw_region ?_
    refine rgp (op_build (zs := (eGClass zGClass)) (r := eGClass ({ fName := [], fParams := [], fSuper := [], fAbove := [], fFields := [], fMethods := [], fAt := 0 } : GClass)) rfl Tryd_zer_108 (by exact ⟨rfl, trivial, rfl, trivial, trivial, trivial, rfl, trivial⟩) Tryd_plc_108 rfl rfl rfl rfl) ?_
    refine rgp (op_build (zs := (eGMethod zGMethod)) (r := eGMethod ({ fName := [], fPure := false, fRet := zGType, fParams := [], fLocals := [], fBody := [], fAt := 0 } : GMethod)) rfl Tryd_zer_116 (by exact ⟨rfl, rfl, rfl, rfl, rfl, rfl, rfl, rfl, rfl, rfl, rfl, rfl, rfl, trivial, trivial, trivial, rfl, trivial⟩) Tryd_plc_116 rfl rfl rfl rfl) ?_
    refine rgp (op_store_lp (n := 7) rfl rfl rfl rfl rfl (or_agg Tryd_agg_108) (by rw [Tryd_non_108]; rfl) rfl rfl rfl) ?_
    refine rgp (op_store_lp (n := 17) rfl rfl rfl rfl rfl (or_agg Tryd_agg_116) (by rw [Tryd_non_116]; rfl) rfl rfl rfl) ?_
    refine ras ?_
    refine reg_nil ?_
    refine post_imp (s' := ⟨40, [(4, some (.lp 0 0)), (5, some (.lp 1 0)), (6, some (.pv (.bool false)))], [(0, some (.box 108 (bxv (eGClass ({ fName := [], fParams := [], fSuper := [], fAbove := [], fFields := [], fMethods := [], fAt := 0 } : GClass))))), (1, some (.box 116 (bxv (eGMethod ({ fName := [], fPure := false, fRet := zGType, fParams := [], fLocals := [], fBody := [], fAt := 0 } : GMethod)))))], 2, [], [], 0, []⟩) (imps [0, 1] ⟨by kernel_rfl, by kernel_rfl, by kernel_rfl, trivial⟩ ⟨by kernel_rfl, by kernel_rfl, trivial⟩) ?_
    refine post_next ?_
    refine aw_ret ?_
    refine post_then_ret ?_
    obtain rfl := Option.some.inj hF
    exact post_ret rfl rfl (.cons _ _ _ _ _ (.agg _ _ _ _ _ 7 _ _ rfl rfl Tryd_agg_108 rfl rfl rfl) (.p _) (.cons _ _ _ _ _ (.agg _ _ _ _ _ 17 _ _ rfl rfl Tryd_agg_116 rfl rfl rfl) (.p _) (.cons _ _ _ _ _ (.tmp _ _ rfl) (.p _) .nil))) (.inl rfl)
  refine aw_cond_f rfl hb16 ?_
  refine aw_skip ?_
  refine post_next ?_
  refine aw_seq ?_
  refine dr_start ⟨_, _, _⟩ rfl ?_
  iterate 2 (refine drm ?_)
  obtain ⟨y17, h18, hF⟩ := bind_some hF
  refine dr_cons { need := [(28, .pv (.vs 7 (List.map eGClass a0))), (29, .pv (.int .i64 y3))], dst := some 30, val := some (.pv (.vp (eGClass y17))) } (fun m h => step_on (guard_no rfl) (op_index_vs (k := .i64) rfl h.1.1 h.1.2.1 (idx_map eGClass h18) Tryd_slc_22 rfl rfl) rfl) ⟨⟨rfl, rfl, trivial⟩, trivial, trivial⟩ ?_
  refine dr_cons { need := [(30, .pv (.vp (eGClass y17)))], dst := some 31, val := some (.pv (.agg (eGClass y17))) } (fun m h => step_on (guard_no rfl) (op_load_vp_agg (ps := eGClass y17) rfl h.1.1 rfl rfl Tryd_agg_108 rfl rfl) rfl) ⟨⟨rfl, trivial⟩, trivial, trivial⟩ ?_
  iterate 2 (refine drm ?_)
  obtain ⟨y19, h20, hF⟩ := bind_some hF
  refine dr_cons { need := [(32, .pv (.vs 7 (List.map eGClass a0))), (33, .pv (.int .i64 y3))], dst := some 34, val := some (.pv (.vp (eGClass y19))) } (fun m h => step_on (guard_no rfl) (op_index_vs (k := .i64) rfl h.1.1 h.1.2.1 (idx_map eGClass h20) Tryd_slc_22 rfl rfl) rfl) ⟨⟨rfl, rfl, trivial⟩, trivial, trivial⟩ ?_
  refine dr_cons { need := [(34, .pv (.vp (eGClass y19)))], dst := some 35, val := some (.pv (.vp (List.drop 5 (eGClass y19)))) } (fun m h => step_on (guard_no rfl) (op_field_vp rfl h.1.1 Tryd_fld_108_5 rfl rfl) rfl) ⟨⟨rfl, trivial⟩, trivial, trivial⟩ ?_
  refine dr_cons { need := [(35, .pv (.vp (List.drop 5 (eGClass y19))))], dst := some 36, val := some (.pv (.vs 17 (List.map eGMethod y19.fMethods))) } (fun m h => step_on (guard_no rfl) (op_load_vp (p := .vs 17 (List.map eGMethod y19.fMethods)) rfl h.1.1 rfl Tryd_one_106 rfl rfl) rfl) ⟨⟨rfl, trivial⟩, trivial, trivial⟩ ?_
  refine drm ?_
  obtain ⟨y21, h22, hF⟩ := bind_some hF
  refine dr_cons { need := [(36, .pv (.vs 17 (List.map eGMethod y19.fMethods))), (37, .pv (.int .i64 y14))], dst := some 38, val := some (.pv (.vp (eGMethod y21))) } (fun m h => step_on (guard_no rfl) (op_index_vs (k := .i64) rfl h.1.1 h.1.2.1 (idx_map eGMethod h22) Tryd_slc_106 rfl rfl) rfl) ⟨⟨rfl, rfl, trivial⟩, trivial, trivial⟩ ?_
  refine dr_cons { need := [(38, .pv (.vp (eGMethod y21)))], dst := some 39, val := some (.pv (.agg (eGMethod y21))) } (fun m h => step_on (guard_no rfl) (op_load_vp_agg (ps := eGMethod y21) rfl h.1.1 rfl rfl Tryd_agg_116 rfl rfl) rfl) ⟨⟨rfl, trivial⟩, trivial, trivial⟩ ?_
  refine dr_cons { need := [(4, .lp 0 0), (31, .pv (.agg (eGClass y17)))], hneed := [(0, .box 108 (bxv (eGClass zGClass)))], upd := [(0, some (.box 108 (bxv (eGClass y17))))] } (fun m h => step_on (guard_no rfl) (op_store_lp (n := 7) rfl h.1.1 h.1.2.1 rfl h.2.1.1 (or_agg Tryd_agg_108) (by rw [Tryd_non_108]; rfl) rfl rfl rfl) rfl) ⟨⟨rfl, rfl, trivial⟩, ⟨rfl, trivial⟩, trivial⟩ ?_
  refine dr_cons { need := [(5, .lp 1 0), (39, .pv (.agg (eGMethod y21)))], hneed := [(1, .box 116 (bxv (eGMethod zGMethod)))], upd := [(1, some (.box 116 (bxv (eGMethod y21))))] } (fun m h => step_on (guard_no rfl) (op_store_lp (n := 17) rfl h.1.1 h.1.2.1 rfl h.2.1.1 (or_agg Tryd_agg_116) (by rw [Tryd_non_116]; rfl) rfl rfl rfl) rfl) ⟨⟨rfl, rfl, trivial⟩, ⟨rfl, trivial⟩, trivial⟩ ?_
  refine dr_cons { dst := some 6, val := some (.pv (.bool true)) } (fun m h => step_on (guard_no rfl) (op_assign rfl rfl rfl rfl) rfl) ⟨trivial, trivial, trivial⟩ ?_
  refine dr_nil Tryd_mixed rfl (by kernel_rfl) ?_
  refine post_imp (s' := ⟨40, [(4, some (.lp 0 0)), (5, some (.lp 1 0)), (6, some (.pv (.bool true)))], [(0, some (.box 108 (bxv (eGClass y17)))), (1, some (.box 116 (bxv (eGMethod y21))))], 2, [], [], 0, []⟩) (imps [0, 1] ⟨by kernel_rfl, by kernel_rfl, by kernel_rfl, trivial⟩ ⟨by kernel_rfl, by kernel_rfl, trivial⟩) ?_
  refine post_next ?_
  refine aw_ret ?_
  obtain rfl := Option.some.inj hF
  exact post_ret rfl rfl (.cons _ _ _ _ _ (.agg _ _ _ _ _ 7 _ _ rfl rfl Tryd_agg_108 rfl rfl rfl) (.p _) (.cons _ _ _ _ _ (.agg _ _ _ _ _ 17 _ _ rfl rfl Tryd_agg_116 rfl rfl rfl) (.p _) (.cons _ _ _ _ _ (.tmp _ _ rfl) (.p _) .nil))) (.inl rfl)
theorem slices_IndexFunc_api_Var_ok {a0 : List GVar} {q1 : GVar → Option Bool} {r : Int} {q1_f : Nat} {q1_c : List PV} (q1_b : callB Tryd.prog q1_f = true) (q1_h : ∀ (x0 : GVar) (r : Bool), q1 x0 = some r → Abs.Fn globs_Tryd Tryd.prog q1_f ([.agg (eGVar x0)] ++ q1_c) [.p (.bool r)]) (hF : slices_IndexFunc_api_Var a0 q1 = some r) : Abs.Fn globs_Tryd Tryd.prog 139 [.vs 13 (List.map eGVar a0), .fn q1_f q1_c] [.p (.int .i64 r)] := by
  unfold slices_IndexFunc_api_Var at hF
  refine fn_of_body (n := 19) Tryd.func139 rfl rfl rfl ?_
  intro w O
  refine aw_seq ?_
  refine aw_region ?_
  refine ras ?_
  refine reg_nil ?_
  refine post_imp (s' := ⟨19, [(0, some (.pv (.vs 13 (List.map eGVar a0)))), (1, some (.pv (.fn q1_f q1_c)))], [], 0, [], [], 0, []⟩) (imps [] ⟨by kernel_rfl, by kernel_rfl, trivial⟩ trivial) ?_
  refine post_next ?_
  iterate 2 (refine aw_seq ?_)
  refine aw_region ?_
  refine rmv ?_
  refine rgp (op_len_vs (n := a0.length) rfl rfl (List.length_map ..) Tryd_slc_105 rfl rfl) ?_
  refine rmv ?_
  refine reg_nil ?_
  refine post_imp (s' := ⟨19, [(0, some (.pv (.vs 13 (List.map eGVar a0)))), (1, some (.pv (.fn q1_f q1_c))), (7, some (.pv (.int .i64 (a0.length : Int)))), (8, some (.pv (.int .i64 0)))], [], 0, [], [], 0, []⟩) (imps [] ⟨by kernel_rfl, by kernel_rfl, by kernel_rfl, by kernel_rfl, trivial⟩ trivial) ?_
  refine post_next ?_
  obtain ⟨lr34, hF, hK35⟩ := bind_some hF
  refine aw_for ((((a0.length : Int) : Int) - (0)).toNat + 1) (fun s1 => ∃ q, lr34 = .next q ∧ s1 = ⟨19, [], [], 0, [], [], 0, []⟩) ?_ ?_
  · refine rnd_loop (α := Int) (fun q => ⟨19, [(0, some (.pv (.vs 13 (List.map eGVar a0)))), (1, some (.pv (.fn q1_f q1_c))), (7, some (.pv (.int .i64 (a0.length : Int)))), (8, some (.pv (.int .i64 q)))], [], 0, [], [], 0, []⟩) (fun k q => slices_IndexFunc_api_Var_L1 a0 q1 k q = some lr34) 0 (imps [] ⟨by kernel_rfl, by kernel_rfl, by kernel_rfl, by kernel_rfl, trivial⟩ trivial) hF (fun q h => by cases h) ?_
    clear hF
    rintro k x11 hF ih
    refine rnd_succ ?_
    refine aw_seq ?_
    refine aw_region ?_
    refine rgp (op_int (k := .i64) (m := x11) (n := (a0.length : Int)) rfl rfl rfl rfl rfl rfl) ?_
    refine reg_nil ?_
    refine post_imp (s' := ⟨19, [(0, some (.pv (.vs 13 (List.map eGVar a0)))), (1, some (.pv (.fn q1_f q1_c))), (7, some (.pv (.int .i64 (a0.length : Int)))), (8, some (.pv (.int .i64 x11))), (9, some (.pv (.bool (decide (x11 < (a0.length : Int))))))], [], 0, [], [], 0, []⟩) (imps [] ⟨by kernel_rfl, by kernel_rfl, by kernel_rfl, by kernel_rfl, by kernel_rfl, trivial⟩ trivial) ?_
    refine post_next ?_
    refine aw_seq ?_
    rcases ite_some hF with ⟨hb23, hF⟩ | ⟨hb23, hF⟩
    · refine aw_cond_t rfl hb23 ?_
      refine aw_skip ?_
      refine post_next ?_
      refine aw_seq ?_
      refine aw_block ?_
      refine aw_seq ?_
      refine aw_region ?_
      refine rmv ?_
      refine ras ?_
      refine reg_nil ?_
      refine post_imp (s' := ⟨19, [(0, some (.pv (.vs 13 (List.map eGVar a0)))), (1, some (.pv (.fn q1_f q1_c))), (5, some (.pv (.int .i64 x11))), (7, some (.pv (.int .i64 (a0.length : Int)))), (8, some (.pv (.int .i64 x11)))], [], 0, [], [], 0, []⟩) (imps [] ⟨by kernel_rfl, by kernel_rfl, by kernel_rfl, by kernel_rfl, by kernel_rfl, trivial⟩ trivial) ?_
      refine post_next ?_
      refine aw_seq ?_
      refine aw_region ?_
      iterate 3 (refine rmv ?_)
      obtain ⟨y28, h29, hF⟩ := bind_some hF
      refine rgp (op_index_vs (k := .i64) rfl rfl rfl (idx_map eGVar h29) Tryd_slc_105 rfl rfl) ?_
      refine rgp (op_load_vp_agg (ps := eGVar y28) rfl rfl rfl rfl Tryd_agg_143 rfl rfl) ?_
      obtain ⟨y30, h31, hF⟩ := bind_some hF
      refine rgp (op_call 0 rfl (caps := q1_c) (args := [.agg (eGVar y28)]) (rs := [.p (.bool y30)]) rfl rfl rfl q1_b (q1_h y28 _ h31) rfl rfl rfl) ?_
      refine reg_nil ?_
      refine post_imp (s' := ⟨19, [(0, some (.pv (.vs 13 (List.map eGVar a0)))), (1, some (.pv (.fn q1_f q1_c))), (5, some (.pv (.int .i64 x11))), (7, some (.pv (.int .i64 (a0.length : Int)))), (8, some (.pv (.int .i64 x11))), (16, some (.pv (.bool y30)))], [], 0, [], [], 0, []⟩) (imps [] ⟨by kernel_rfl, by kernel_rfl, by kernel_rfl, by kernel_rfl, by kernel_rfl, by kernel_rfl, trivial⟩ trivial) ?_
      refine post_next ?_
      rcases ite_some hF with ⟨hb32, hF⟩ | ⟨hb32, hF⟩
      · refine aw_cond_t rfl hb32 ?_
        refine aw_seq ?_
        refine aw_region ?_
        refine rmv ?_
        refine ras ?_
        refine reg_nil ?_
        refine post_imp (s' := ⟨19, [(4, some (.pv (.int .i64 x11)))], [], 0, [], [], 0, []⟩) (imps [] ⟨by kernel_rfl, trivial⟩ trivial) ?_
        refine post_next ?_
        refine aw_ret ?_
        refine post_block_ret ?_
        iterate 2 (refine post_then_ret ?_)
        refine post_lp_ret ?_
        obtain rfl := Option.some.inj hF
        have hF := elim_stop hK35
        refine post_then_ret ?_
        obtain rfl := Option.some.inj hF
        exact prt
      refine aw_cond_f rfl hb32 ?_
      refine aw_skip ?_
      refine post_block_normal ?_
      refine post_next ?_
      refine aw_region ?_
      refine rgp (op_int (k := .i64) (m := x11) (n := 1) rfl rfl rfl rfl rfl rfl) ?_
      refine rmv ?_
      refine reg_nil ?_
      refine post_round ?_
      exact rnd_back (ih (w_i64 (x11 + 1)) hF) (imps [] ⟨by kernel_rfl, by kernel_rfl, by kernel_rfl, by kernel_rfl, trivial⟩ trivial)
    refine aw_cond_f rfl hb23 ?_
    refine aw_exit ?_
    iterate 2 (refine post_then_exit ?_)
    obtain rfl := Option.some.inj hF
    exact post_lp_break _ ⟨_, rfl, rfl⟩ (imps [] trivial trivial)
  rintro _ ⟨⟨⟩, rfl, rfl⟩
  have hF := elim_next hK35
  clear hK35
  refine post_next ?_
  refine aw_seq ?_
  refine aw_region ?_
  refine ras ?_
  refine reg_nil ?_
  refine post_imp (s' := ⟨19, [(4, some (.pv (.int .i64 (-1))))], [], 0, [], [], 0, []⟩) (imps [] ⟨by kernel_rfl, trivial⟩ trivial) ?_
  refine post_next ?_
  refine aw_ret ?_
  obtain rfl := Option.some.inj hF
  exact prt
theorem scope_Place_1_ok {a0 : GVar} {c0 : List UInt8} {r : Bool} (hF : scope_Place_1 a0 c0 = some r) : Abs.Fn globs_Tryd Tryd.prog 138 [.agg (eGVar a0), .vp (eS c0)] [.p (.bool r)] := by
  unfold scope_Place_1 at hF
  refine fn_of_body (n := 8) Tryd.func138 rfl rfl rfl ?_
  intro w O
  refine aw_seq ?_
  refine aw_region ?_
  refine rgp (op_box 0 rfl rfl rfl rfl rfl rfl) ?_
  refine ras ?_
  refine reg_nil ?_
  refine post_imp (s' := ⟨8, [(1, some (.pv (.vp (eS c0)))), (2, some (.lp 0 0))], [(0, some (.box 143 (bxv (eGVar a0))))], 1, [], [], 0, []⟩) (imps [0] ⟨by kernel_rfl, by kernel_rfl, trivial⟩ ⟨by kernel_rfl, trivial⟩) ?_
  refine post_next ?_
  refine aw_seq ?_
  refine aw_region ?_
  refine rgp (op_field_lp rfl rfl Tryd_fld_143_0 rfl rfl) ?_
  refine rgp (op_load_lp (v := .pv (.str a0.fName)) rfl rfl rfl rfl Tryd_one_9 rfl rfl) ?_
  refine rgp (op_load_vp (p := .str c0) rfl rfl rfl Tryd_one_9 rfl rfl) ?_
  refine rgp (op_str rfl rfl rfl rfl rfl rfl) ?_
  refine ras ?_
  refine reg_nil ?_
  refine post_imp (s' := ⟨8, [(3, some (.pv (.bool (a0.fName == c0))))], [], 0, [], [], 0, []⟩) (imps [] ⟨by kernel_rfl, trivial⟩ trivial) ?_
  refine post_next ?_
  refine aw_ret ?_
  obtain rfl := Option.some.inj hF
  exact prt
end Go.Proofs.YtnnphkfiookbnaaDoor
