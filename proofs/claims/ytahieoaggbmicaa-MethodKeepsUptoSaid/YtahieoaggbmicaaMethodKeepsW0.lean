/- A part of the proof that the law MethodKeeps gives true for every input. -/
import Derived.Test.YtahieoaggbmicaaMethodKeepsT
import Derived.Test.YtahieoaggbmicaaMethodKeepsX
import Derived.Test.YtahieoaggbmicaaMethodKeepsI
/- Each Go function computes its plain function. -/
namespace Go.Proofs.Ytahieoaggbmicaa
open Go.RowKit Go.Abs
set_option maxRecDepth 100000
set_option maxHeartbeats 4000000
theorem ref10_uniques_ok {a0 : GMethod} {r : Int} (hF : ref10_uniques a0 = some r) : Abs.Fn Try.prog 38 [.agg (eGMethod a0)] [.p (.int .i64 r)] := by
  unfold ref10_uniques at hF
  refine fn_of_body (n := 45) Try.func38 rfl rfl rfl ?_
  intro w O
  refine aw_seq ?_
  refine aw_region ?_
  refine rgp (op_box 0 rfl rfl rfl rfl rfl rfl) ?_
  refine ras ?_
  refine reg_nil ?_
  refine post_imp (s' := ⟨45, [(1, some (.lp 0 0))], [(0, some (.box 33 (bxv (eGMethod a0))))], 1, [], [], 0, []⟩) (imps [0] ⟨by kernel_rfl, trivial⟩ ⟨by kernel_rfl, trivial⟩) ?_
  refine post_next ?_
  refine aw_seq ?_
  refine aw_region ?_
  refine ras ?_
  refine reg_nil ?_
  refine post_imp (s' := ⟨45, [(1, some (.lp 0 0)), (3, some (.pv (.int .i64 0)))], [(0, some (.box 33 (bxv (eGMethod a0))))], 1, [], [], 0, []⟩) (imps [0] ⟨by kernel_rfl, by kernel_rfl, trivial⟩ ⟨by kernel_rfl, trivial⟩) ?_
  refine post_next ?_
  iterate 2 (refine aw_seq ?_)
  refine aw_region ?_
  refine ras ?_
  refine reg_nil ?_
  refine post_imp (s' := ⟨45, [(1, some (.lp 0 0)), (3, some (.pv (.int .i64 0))), (4, some (.pv (.int .i64 0)))], [(0, some (.box 33 (bxv (eGMethod a0))))], 1, [], [], 0, []⟩) (imps [0] ⟨by kernel_rfl, by kernel_rfl, by kernel_rfl, trivial⟩ ⟨by kernel_rfl, trivial⟩) ?_
  refine post_next ?_
  obtain ⟨x34, hF, hK35⟩ := bind_some hF
  refine aw_for ((((a0.fParams.length : Int) : Int) - (0)).toNat + 1) (fun s1 => s1 = ⟨45, [(1, some (.lp 0 0)), (3, some (.pv (.int .i64 x34)))], [(0, some (.box 33 (bxv (eGMethod a0))))], 1, [], [], 0, []⟩) ?_ ?_
  · refine rnd_loop (α := Int × Int) (fun q => ⟨45, [(1, some (.lp 0 0)), (3, some (.pv (.int .i64 q.1))), (4, some (.pv (.int .i64 q.2)))], [(0, some (.box 33 (bxv (eGMethod a0))))], 1, [], [], 0, []⟩) (fun k q => ref10_uniques_L1 a0 k q.1 q.2 = some x34) (0, 0) (imps [0] ⟨by kernel_rfl, by kernel_rfl, by kernel_rfl, trivial⟩ ⟨by kernel_rfl, trivial⟩) hF (fun q h => by cases h) ?_
    clear hF
    rintro k ⟨x10, x11⟩ hF ih
    refine rnd_succ ?_
    iterate 2 (refine aw_seq ?_)
    refine aw_region ?_
    refine rmv ?_
    refine rgp (op_field_lp rfl rfl Try_fld_33_3 rfl rfl) ?_
    refine rgp (op_load_lp (v := .pv (.vs 13 (List.map eGVar a0.fParams))) rfl rfl rfl rfl Try_one_30 rfl rfl) ?_
    refine rgp (op_len_vs (n := a0.fParams.length) rfl rfl (List.length_map ..) Try_slc_30 rfl rfl) ?_
    refine rgp (op_int (k := .i64) (m := x11) (n := (a0.fParams.length : Int)) rfl rfl rfl rfl rfl rfl) ?_
    refine reg_nil ?_
    refine post_imp (s' := ⟨45, [(1, some (.lp 0 0)), (3, some (.pv (.int .i64 x10))), (4, some (.pv (.int .i64 x11))), (10, some (.pv (.bool (decide (x11 < (a0.fParams.length : Int))))))], [(0, some (.box 33 (bxv (eGMethod a0))))], 1, [], [], 0, []⟩) (imps [0] ⟨by kernel_rfl, by kernel_rfl, by kernel_rfl, by kernel_rfl, trivial⟩ ⟨by kernel_rfl, trivial⟩) ?_
    refine post_next ?_
    rcases ite_some hF with ⟨hb23, hF⟩ | ⟨hb23, hF⟩
    · refine aw_cond_t rfl hb23 ?_
      refine aw_skip ?_
      refine post_next ?_
      refine aw_seq ?_
      obtain ⟨x29, hF, hK31⟩ := bind_some hF
      refine aw_cut (fun s1 => s1 = ⟨45, [(1, some (.lp 0 0)), (3, some (.pv (.int .i64 x29))), (4, some (.pv (.int .i64 x11)))], [(0, some (.box 33 (bxv (eGMethod a0))))], 1, [], [], 0, []⟩) ?_ ?_
      · refine aw_block ?_
        refine aw_seq ?_
        refine aw_region ?_
        refine rgp (op_field_lp rfl rfl Try_fld_33_3 rfl rfl) ?_
        refine rgp (op_load_lp (v := .pv (.vs 13 (List.map eGVar a0.fParams))) rfl rfl rfl rfl Try_one_30 rfl rfl) ?_
        refine rmv ?_
        obtain ⟨y26, h27, hF⟩ := bind_some hF
        refine rgp (op_index_vs (k := .i64) rfl rfl rfl (idx_map eGVar h27) Try_slc_30 rfl rfl) ?_
        refine rgp (op_field_vp rfl rfl Try_fld_50_1 rfl rfl) ?_
        refine rgp (op_field_vp rfl rfl Try_fld_29_3 rfl rfl) ?_
        refine rgp (op_arr_vp (k := .i64) (m := 0) (n := 4) rfl rfl rfl Try_arr_27 rfl rfl rfl rfl) ?_
        refine rgp (op_field_vp rfl rfl Try_fld_26_0 rfl rfl) ?_
        refine rgp (op_load_vp (p := .int .i64 y26.fType.fOwn.a0.fKind) rfl rfl rfl Try_one_3 rfl rfl) ?_
        refine rgp (op_int (k := .i64) (m := y26.fType.fOwn.a0.fKind) (n := 6) rfl rfl rfl rfl rfl rfl) ?_
        refine reg_nil ?_
        refine post_imp (s' := ⟨45, [(1, some (.lp 0 0)), (3, some (.pv (.int .i64 x10))), (4, some (.pv (.int .i64 x11))), (22, some (.pv (.bool (y26.fType.fOwn.a0.fKind == 6))))], [(0, some (.box 33 (bxv (eGMethod a0))))], 1, [], [], 0, []⟩) (imps [0] ⟨by kernel_rfl, by kernel_rfl, by kernel_rfl, by kernel_rfl, trivial⟩ ⟨by kernel_rfl, trivial⟩) ?_
        refine post_next ?_
        rcases ite_some hF with ⟨hb28, hF⟩ | ⟨hb28, hF⟩
        · refine aw_cond_t rfl hb28 ?_
          refine aw_region ?_
          refine rmv ?_
          refine rgp (op_int (k := .i64) (m := x10) (n := 1) rfl rfl rfl rfl rfl rfl) ?_
          refine ras ?_
          refine reg_nil ?_
          refine post_imp (s' := ⟨45, [(1, some (.lp 0 0)), (3, some (.pv (.int .i64 (w_i64 (x10 + 1))))), (4, some (.pv (.int .i64 x11)))], [(0, some (.box 33 (bxv (eGMethod a0))))], 1, [], [], 0, []⟩) (imps [0] ⟨by kernel_rfl, by kernel_rfl, by kernel_rfl, trivial⟩ ⟨by kernel_rfl, trivial⟩) ?_
          refine post_block_normal ?_
          cases hF
          exact post_cut _ rfl (imps [0] ⟨by kernel_rfl, by kernel_rfl, by kernel_rfl, trivial⟩ ⟨by kernel_rfl, trivial⟩)
        refine aw_cond_f rfl hb28 ?_
        refine aw_skip ?_
        refine post_block_normal ?_
        cases hF
        exact post_cut _ rfl (imps [0] ⟨by kernel_rfl, by kernel_rfl, by kernel_rfl, trivial⟩ ⟨by kernel_rfl, trivial⟩)
      rintro _ rfl
      have hF := hK31
      clear hK31
      refine post_next ?_
      refine aw_region ?_
      refine rmv ?_
      refine rgp (op_int (k := .i64) (m := x11) (n := 1) rfl rfl rfl rfl rfl rfl) ?_
      refine ras ?_
      refine reg_nil ?_
      refine post_round ?_
      exact rnd_back (ih (x29, w_i64 (x11 + 1)) hF) (imps [0] ⟨by kernel_rfl, by kernel_rfl, by kernel_rfl, trivial⟩ ⟨by kernel_rfl, trivial⟩)
    refine aw_cond_f rfl hb23 ?_
    refine aw_exit ?_
    iterate 2 (refine post_then_exit ?_)
    obtain rfl := Option.some.inj hF
    exact post_lp_break _ rfl (imps [0] ⟨by kernel_rfl, by kernel_rfl, trivial⟩ ⟨by kernel_rfl, trivial⟩)
  rintro _ rfl
  have hF := hK35
  clear hK35
  refine post_next ?_
  iterate 2 (refine aw_seq ?_)
  refine aw_region ?_
  refine ras ?_
  refine reg_nil ?_
  refine post_imp (s' := ⟨45, [(1, some (.lp 0 0)), (3, some (.pv (.int .i64 x34))), (5, some (.pv (.int .i64 0)))], [(0, some (.box 33 (bxv (eGMethod a0))))], 1, [], [], 0, []⟩) (imps [0] ⟨by kernel_rfl, by kernel_rfl, by kernel_rfl, trivial⟩ ⟨by kernel_rfl, trivial⟩) ?_
  refine post_next ?_
  obtain ⟨x69, hF, hK70⟩ := bind_some hF
  refine aw_for ((((a0.fLocals.length : Int) : Int) - (0)).toNat + 1) (fun s1 => s1 = ⟨45, [(3, some (.pv (.int .i64 x69)))], [], 0, [], [], 0, []⟩) ?_ ?_
  · refine rnd_loop (α := Int × Int) (fun q => ⟨45, [(1, some (.lp 0 0)), (3, some (.pv (.int .i64 q.1))), (5, some (.pv (.int .i64 q.2)))], [(0, some (.box 33 (bxv (eGMethod a0))))], 1, [], [], 0, []⟩) (fun k q => ref10_uniques_L2 a0 k q.1 q.2 = some x69) (x34, 0) (imps [0] ⟨by kernel_rfl, by kernel_rfl, by kernel_rfl, trivial⟩ ⟨by kernel_rfl, trivial⟩) hF (fun q h => by cases h) ?_
    clear hF
    rintro k ⟨x45, x46⟩ hF ih
    refine rnd_succ ?_
    iterate 2 (refine aw_seq ?_)
    refine aw_region ?_
    refine rmv ?_
    refine rgp (op_field_lp rfl rfl Try_fld_33_4 rfl rfl) ?_
    refine rgp (op_load_lp (v := .pv (.vs 13 (List.map eGVar a0.fLocals))) rfl rfl rfl rfl Try_one_30 rfl rfl) ?_
    refine rgp (op_len_vs (n := a0.fLocals.length) rfl rfl (List.length_map ..) Try_slc_30 rfl rfl) ?_
    refine rgp (op_int (k := .i64) (m := x46) (n := (a0.fLocals.length : Int)) rfl rfl rfl rfl rfl rfl) ?_
    refine reg_nil ?_
    refine post_imp (s' := ⟨45, [(1, some (.lp 0 0)), (3, some (.pv (.int .i64 x45))), (5, some (.pv (.int .i64 x46))), (29, some (.pv (.bool (decide (x46 < (a0.fLocals.length : Int))))))], [(0, some (.box 33 (bxv (eGMethod a0))))], 1, [], [], 0, []⟩) (imps [0] ⟨by kernel_rfl, by kernel_rfl, by kernel_rfl, by kernel_rfl, trivial⟩ ⟨by kernel_rfl, trivial⟩) ?_
    refine post_next ?_
    rcases ite_some hF with ⟨hb58, hF⟩ | ⟨hb58, hF⟩
    · refine aw_cond_t rfl hb58 ?_
      refine aw_skip ?_
      refine post_next ?_
      refine aw_seq ?_
      obtain ⟨x64, hF, hK66⟩ := bind_some hF
      refine aw_cut (fun s1 => s1 = ⟨45, [(1, some (.lp 0 0)), (3, some (.pv (.int .i64 x64))), (5, some (.pv (.int .i64 x46)))], [(0, some (.box 33 (bxv (eGMethod a0))))], 1, [], [], 0, []⟩) ?_ ?_
      · refine aw_block ?_
        refine aw_seq ?_
        refine aw_region ?_
        refine rgp (op_field_lp rfl rfl Try_fld_33_4 rfl rfl) ?_
        refine rgp (op_load_lp (v := .pv (.vs 13 (List.map eGVar a0.fLocals))) rfl rfl rfl rfl Try_one_30 rfl rfl) ?_
        refine rmv ?_
        obtain ⟨y61, h62, hF⟩ := bind_some hF
        refine rgp (op_index_vs (k := .i64) rfl rfl rfl (idx_map eGVar h62) Try_slc_30 rfl rfl) ?_
        refine rgp (op_field_vp rfl rfl Try_fld_50_1 rfl rfl) ?_
        refine rgp (op_field_vp rfl rfl Try_fld_29_3 rfl rfl) ?_
        refine rgp (op_arr_vp (k := .i64) (m := 0) (n := 4) rfl rfl rfl Try_arr_27 rfl rfl rfl rfl) ?_
        refine rgp (op_field_vp rfl rfl Try_fld_26_0 rfl rfl) ?_
        refine rgp (op_load_vp (p := .int .i64 y61.fType.fOwn.a0.fKind) rfl rfl rfl Try_one_3 rfl rfl) ?_
        refine rgp (op_int (k := .i64) (m := y61.fType.fOwn.a0.fKind) (n := 6) rfl rfl rfl rfl rfl rfl) ?_
        refine reg_nil ?_
        refine post_imp (s' := ⟨45, [(1, some (.lp 0 0)), (3, some (.pv (.int .i64 x45))), (5, some (.pv (.int .i64 x46))), (41, some (.pv (.bool (y61.fType.fOwn.a0.fKind == 6))))], [(0, some (.box 33 (bxv (eGMethod a0))))], 1, [], [], 0, []⟩) (imps [0] ⟨by kernel_rfl, by kernel_rfl, by kernel_rfl, by kernel_rfl, trivial⟩ ⟨by kernel_rfl, trivial⟩) ?_
        refine post_next ?_
        rcases ite_some hF with ⟨hb63, hF⟩ | ⟨hb63, hF⟩
        · refine aw_cond_t rfl hb63 ?_
          refine aw_region ?_
          refine rmv ?_
          refine rgp (op_int (k := .i64) (m := x45) (n := 1) rfl rfl rfl rfl rfl rfl) ?_
          refine ras ?_
          refine reg_nil ?_
          refine post_imp (s' := ⟨45, [(1, some (.lp 0 0)), (3, some (.pv (.int .i64 (w_i64 (x45 + 1))))), (5, some (.pv (.int .i64 x46)))], [(0, some (.box 33 (bxv (eGMethod a0))))], 1, [], [], 0, []⟩) (imps [0] ⟨by kernel_rfl, by kernel_rfl, by kernel_rfl, trivial⟩ ⟨by kernel_rfl, trivial⟩) ?_
          refine post_block_normal ?_
          cases hF
          exact post_cut _ rfl (imps [0] ⟨by kernel_rfl, by kernel_rfl, by kernel_rfl, trivial⟩ ⟨by kernel_rfl, trivial⟩)
        refine aw_cond_f rfl hb63 ?_
        refine aw_skip ?_
        refine post_block_normal ?_
        cases hF
        exact post_cut _ rfl (imps [0] ⟨by kernel_rfl, by kernel_rfl, by kernel_rfl, trivial⟩ ⟨by kernel_rfl, trivial⟩)
      rintro _ rfl
      have hF := hK66
      clear hK66
      refine post_next ?_
      refine aw_region ?_
      refine rmv ?_
      refine rgp (op_int (k := .i64) (m := x46) (n := 1) rfl rfl rfl rfl rfl rfl) ?_
      refine ras ?_
      refine reg_nil ?_
      refine post_round ?_
      exact rnd_back (ih (x64, w_i64 (x46 + 1)) hF) (imps [0] ⟨by kernel_rfl, by kernel_rfl, by kernel_rfl, trivial⟩ ⟨by kernel_rfl, trivial⟩)
    refine aw_cond_f rfl hb58 ?_
    refine aw_exit ?_
    iterate 2 (refine post_then_exit ?_)
    obtain rfl := Option.some.inj hF
    exact post_lp_break _ rfl (imps [] ⟨by kernel_rfl, trivial⟩ trivial)
  rintro _ rfl
  have hF := hK70
  clear hK70
  refine post_next ?_
  refine aw_seq ?_
  refine aw_region ?_
  refine rmv ?_
  refine ras ?_
  refine reg_nil ?_
  refine post_imp (s' := ⟨45, [(2, some (.pv (.int .i64 x69)))], [], 0, [], [], 0, []⟩) (imps [] ⟨by kernel_rfl, trivial⟩ trivial) ?_
  refine post_next ?_
  refine aw_ret ?_
  obtain rfl := Option.some.inj hF
  exact prt
theorem ref10_kids_ring : ∀ n : Nat, (∀ (a0 : GExpr) (a1 : Int) (r : Bool), ref10_kids n a0 a1 = some r → Abs.Fn Try.prog 63 [.agg (eGExpr a0), .int .i64 a1] [.p (.bool r)]) := by
  intro n
  induction n with
  | zero => exact (fun _ _ _ h => by simp [ref10_kids] at h)
  | succ n ih =>
    have ref10_kids_ih := ih
    clear ih
    intro a0 a1 r hF
    unfold ref10_kids at hF
    revert hF ref10_kids_ih
    generalize ref10_kids n = ref10_kids_rec
    intro ref10_kids_ih hF
    refine fn_of_body (n := 29) Try.func63 rfl rfl rfl ?_
    intro w O
    refine aw_seq ?_
    refine aw_region ?_
    refine rgp (op_box 0 rfl rfl rfl rfl rfl rfl) ?_
    refine ras ?_
    refine reg_nil ?_
    refine post_imp (s' := ⟨29, [(1, some (.pv (.int .i64 a1))), (2, some (.lp 0 0))], [(0, some (.box 81 (bxv (eGExpr a0))))], 1, [], [], 0, []⟩) (imps [0] ⟨by kernel_rfl, by kernel_rfl, trivial⟩ ⟨by kernel_rfl, trivial⟩) ?_
    refine post_next ?_
    iterate 2 (refine aw_seq ?_)
    obtain ⟨x2, hF, hK4⟩ := bind_some hF
    refine aw_cut (fun s1 => s1 = ⟨29, [(1, some (.pv (.int .i64 a1))), (2, some (.lp 0 0)), (13, some (.pv (.bool x2)))], [(0, some (.box 81 (bxv (eGExpr a0))))], 1, [], [], 0, []⟩) ?_ ?_
    · refine aw_region ?_
      refine rmv ?_
      refine rgp (op_int (k := .i64) (m := a1) (n := 0) rfl rfl rfl rfl rfl rfl) ?_
      refine rmv ?_
      rcases ite_some hF with ⟨hb1, hF⟩ | ⟨hb1, hF⟩
      · refine rgo_t hb1 ?_
        iterate 3 (refine rgo_t hb1 ?_)
        refine rpt hb1 ?_
        refine reg_nil ?_
        cases hF
        exact post_cut _ rfl (imps [0] ⟨by kernel_rfl, by kernel_rfl, by kernel_rfl, trivial⟩ ⟨by kernel_rfl, trivial⟩)
      refine rgn hb1 (op_field_lp rfl rfl Try_fld_81_3 rfl rfl) ?_
      refine rgn hb1 (op_load_lp (v := .pv (.vs 4 (eLGExpr a0.fKids))) rfl rfl rfl rfl Try_one_79 rfl rfl) ?_
      refine rgn hb1 (op_len_vs (n := a0.fKids.length) rfl rfl (lenR eLGExpr_map) Try_slc_79 rfl rfl) ?_
      refine rgn hb1 (op_int (k := .i64) (m := (a0.fKids.length : Int)) (n := 4) rfl rfl rfl rfl rfl rfl) ?_
      refine rpf hb1 ?_
      refine reg_nil ?_
      cases hF
      exact post_cut _ rfl (imps [0] ⟨by kernel_rfl, by kernel_rfl, by kernel_rfl, trivial⟩ ⟨by kernel_rfl, trivial⟩)
    rintro _ rfl
    have hF := hK4
    clear hK4
    refine post_next ?_
    rcases ite_some hF with ⟨hb5, hF⟩ | ⟨hb5, hF⟩
    · refine aw_cond_t rfl hb5 ?_
      refine aw_seq ?_
      refine aw_region ?_
      refine ras ?_
      refine reg_nil ?_
      refine post_imp (s' := ⟨29, [(4, some (.pv (.bool true)))], [], 0, [], [], 0, []⟩) (imps [] ⟨by kernel_rfl, trivial⟩ trivial) ?_
      refine post_next ?_
      refine aw_ret ?_
      refine post_then_ret ?_
      obtain rfl := Option.some.inj hF
      exact prt
    refine aw_cond_f rfl hb5 ?_
    refine aw_skip ?_
    refine post_next ?_
    iterate 2 (refine aw_seq ?_)
    refine aw_region ?_
    refine ras ?_
    refine reg_nil ?_
    refine post_imp (s' := ⟨29, [(1, some (.pv (.int .i64 a1))), (2, some (.lp 0 0)), (5, some (.pv (.int .i64 0)))], [(0, some (.box 81 (bxv (eGExpr a0))))], 1, [], [], 0, []⟩) (imps [0] ⟨by kernel_rfl, by kernel_rfl, by kernel_rfl, trivial⟩ ⟨by kernel_rfl, trivial⟩) ?_
    refine post_next ?_
    obtain ⟨lr39, hF, hK40⟩ := bind_some hF
    refine aw_for ((((a0.fKids.length : Int) : Int) - (0)).toNat + 1) (fun s1 => ∃ q, lr39 = .next q ∧ s1 = ⟨29, [], [], 0, [], [], 0, []⟩) ?_ ?_
    · refine rnd_loop (α := Int) (fun q => ⟨29, [(1, some (.pv (.int .i64 a1))), (2, some (.lp 0 0)), (5, some (.pv (.int .i64 q)))], [(0, some (.box 81 (bxv (eGExpr a0))))], 1, [], [], 0, []⟩) (fun k q => ref10_kids_L1 a0 a1 ref10_kids_rec k q = some lr39) 0 (imps [0] ⟨by kernel_rfl, by kernel_rfl, by kernel_rfl, trivial⟩ ⟨by kernel_rfl, trivial⟩) hF (fun q h => by cases h) ?_
      clear hF
      rintro k x16 hF ih
      refine rnd_succ ?_
      iterate 2 (refine aw_seq ?_)
      refine aw_region ?_
      refine rmv ?_
      refine rgp (op_field_lp rfl rfl Try_fld_81_3 rfl rfl) ?_
      refine rgp (op_load_lp (v := .pv (.vs 4 (eLGExpr a0.fKids))) rfl rfl rfl rfl Try_one_79 rfl rfl) ?_
      refine rgp (op_len_vs (n := a0.fKids.length) rfl rfl (lenR eLGExpr_map) Try_slc_79 rfl rfl) ?_
      refine rgp (op_int (k := .i64) (m := x16) (n := (a0.fKids.length : Int)) rfl rfl rfl rfl rfl rfl) ?_
      refine reg_nil ?_
      refine post_imp (s' := ⟨29, [(1, some (.pv (.int .i64 a1))), (2, some (.lp 0 0)), (5, some (.pv (.int .i64 x16))), (18, some (.pv (.bool (decide (x16 < (a0.fKids.length : Int))))))], [(0, some (.box 81 (bxv (eGExpr a0))))], 1, [], [], 0, []⟩) (imps [0] ⟨by kernel_rfl, by kernel_rfl, by kernel_rfl, by kernel_rfl, trivial⟩ ⟨by kernel_rfl, trivial⟩) ?_
      refine post_next ?_
      rcases ite_some hF with ⟨hb28, hF⟩ | ⟨hb28, hF⟩
      · refine aw_cond_t rfl hb28 ?_
        refine aw_skip ?_
        refine post_next ?_
        refine aw_seq ?_
        refine aw_block ?_
        refine aw_seq ?_
        refine aw_region ?_
        refine rgp (op_field_lp rfl rfl Try_fld_81_3 rfl rfl) ?_
        refine rgp (op_load_lp (v := .pv (.vs 4 (eLGExpr a0.fKids))) rfl rfl rfl rfl Try_one_79 rfl rfl) ?_
        refine rmv ?_
        obtain ⟨y33, h34, hF⟩ := bind_some hF
        refine rgp (op_index_vs (k := .i64) rfl rfl rfl (idxR eLGExpr_map h34) Try_slc_79 rfl rfl) ?_
        refine rgp (op_load_vp_agg (ps := eGExpr y33) rfl rfl rfl rfl Try_agg_81 rfl rfl) ?_
        refine rmv ?_
        refine rgp (op_int (k := .i64) (m := a1) (n := 1) rfl rfl rfl rfl rfl rfl) ?_
        obtain ⟨y35, h36, hF⟩ := bind_some hF
        refine rgp (op_call 1 rfl (caps := []) (args := [.agg (eGExpr y33), .int .i64 (w_i64 (a1 - 1))]) (rs := [.p (.bool y35)]) rfl rfl rfl Try_cal_63 (ref10_kids_ih _ _ _ h36) rfl rfl rfl) ?_
        refine reg_nil ?_
        refine post_imp (s' := ⟨29, [(1, some (.pv (.int .i64 a1))), (2, some (.lp 0 0)), (5, some (.pv (.int .i64 x16))), (28, some (.pv (.bool y35)))], [(0, some (.box 81 (bxv (eGExpr a0))))], 1, [], [], 0, []⟩) (imps [0] ⟨by kernel_rfl, by kernel_rfl, by kernel_rfl, by kernel_rfl, trivial⟩ ⟨by kernel_rfl, trivial⟩) ?_
        refine post_next ?_
        rcases ite_some hF with ⟨hb37, hF⟩ | ⟨hb37, hF⟩
        · refine aw_cond_t rfl hb37 ?_
          refine aw_seq ?_
          refine aw_region ?_
          refine ras ?_
          refine reg_nil ?_
          refine post_imp (s' := ⟨29, [(4, some (.pv (.bool true)))], [], 0, [], [], 0, []⟩) (imps [] ⟨by kernel_rfl, trivial⟩ trivial) ?_
          refine post_next ?_
          refine aw_ret ?_
          refine post_block_ret ?_
          iterate 2 (refine post_then_ret ?_)
          refine post_lp_ret ?_
          obtain rfl := Option.some.inj hF
          have hF := elim_stop hK40
          refine post_then_ret ?_
          obtain rfl := Option.some.inj hF
          exact prt
        refine aw_cond_f rfl hb37 ?_
        refine aw_skip ?_
        refine post_block_normal ?_
        refine post_next ?_
        refine aw_region ?_
        refine rmv ?_
        refine rgp (op_int (k := .i64) (m := x16) (n := 1) rfl rfl rfl rfl rfl rfl) ?_
        refine ras ?_
        refine reg_nil ?_
        refine post_round ?_
        exact rnd_back (ih (w_i64 (x16 + 1)) hF) (imps [0] ⟨by kernel_rfl, by kernel_rfl, by kernel_rfl, trivial⟩ ⟨by kernel_rfl, trivial⟩)
      refine aw_cond_f rfl hb28 ?_
      refine aw_exit ?_
      iterate 2 (refine post_then_exit ?_)
      obtain rfl := Option.some.inj hF
      exact post_lp_break _ ⟨_, rfl, rfl⟩ (imps [] trivial trivial)
    rintro _ ⟨⟨⟩, rfl, rfl⟩
    have hF := elim_next hK40
    clear hK40
    refine post_next ?_
    refine aw_seq ?_
    refine aw_region ?_
    refine ras ?_
    refine reg_nil ?_
    refine post_imp (s' := ⟨29, [(4, some (.pv (.bool false)))], [], 0, [], [], 0, []⟩) (imps [] ⟨by kernel_rfl, trivial⟩ trivial) ?_
    refine post_next ?_
    refine aw_ret ?_
    obtain rfl := Option.some.inj hF
    exact prt
theorem ref10_kids_ok {n : Nat} {a0 : GExpr} {a1 : Int} {r : Bool} (hF : ref10_kids n a0 a1 = some r) : Abs.Fn Try.prog 63 [.agg (eGExpr a0), .int .i64 a1] [.p (.bool r)] := (ref10_kids_ring n) _ _ _ hF

theorem ref10_much_ring : ∀ n : Nat, (∀ (a0 : GStmt) (a1 : Int) (r : Bool), ref10_much n a0 a1 = some r → Abs.Fn Try.prog 39 [.agg (eGStmt a0), .int .i64 a1] [.p (.bool r)]) := by
  intro n
  induction n with
  | zero => exact (fun _ _ _ h => by simp [ref10_much] at h)
  | succ n ih =>
    have ref10_much_ih := ih
    clear ih
    intro a0 a1 r hF
    unfold ref10_much at hF
    revert hF ref10_much_ih
    generalize ref10_much n = ref10_much_rec
    intro ref10_much_ih hF
    refine fn_of_body (n := 76) Try.func39 rfl rfl rfl ?_
    intro w O
    refine aw_seq ?_
    refine aw_region ?_
    refine rgp (op_box 0 rfl rfl rfl rfl rfl rfl) ?_
    refine ras ?_
    refine reg_nil ?_
    refine post_imp (s' := ⟨76, [(1, some (.pv (.int .i64 a1))), (2, some (.lp 0 0))], [(0, some (.box 83 (bxv (eGStmt a0))))], 1, [], [], 0, []⟩) (imps [0] ⟨by kernel_rfl, by kernel_rfl, trivial⟩ ⟨by kernel_rfl, trivial⟩) ?_
    refine post_next ?_
    iterate 2 (refine aw_seq ?_)
    obtain ⟨x7, hF, hK9⟩ := bind_some hF
    refine aw_cut (fun s1 => s1 = ⟨76, [(1, some (.pv (.int .i64 a1))), (2, some (.lp 0 0)), (32, some (.pv (.bool x7)))], [(0, some (.box 83 (bxv (eGStmt a0))))], 1, [], [], 0, []⟩) ?_ ?_
    · refine aw_region ?_
      refine rmv ?_
      refine rgp (op_int (k := .i64) (m := a1) (n := 0) rfl rfl rfl rfl rfl rfl) ?_
      refine rmv ?_
      rcases ite_some hF with ⟨hb1, hF⟩ | ⟨hb1, hF⟩
      · refine rgo_t hb1 ?_
        iterate 3 (refine rgo_t hb1 ?_)
        refine rpt hb1 ?_
        refine rmv ?_
        iterate 4 (refine rgo_t rfl ?_)
        refine rpt rfl ?_
        refine rmv ?_
        iterate 4 (refine rgo_t rfl ?_)
        refine rpt rfl ?_
        refine rmv ?_
        iterate 3 (refine rgo_t rfl ?_)
        refine rpt rfl ?_
        refine reg_nil ?_
        cases hF
        exact post_cut _ rfl (imps [0] ⟨by kernel_rfl, by kernel_rfl, by kernel_rfl, trivial⟩ ⟨by kernel_rfl, trivial⟩)
      refine rgn hb1 (op_field_lp rfl rfl Try_fld_83_7 rfl rfl) ?_
      refine rgn hb1 (op_load_lp (v := .pv (.vs 23 (eLGStmt a0.fBody))) rfl rfl rfl rfl Try_one_31 rfl rfl) ?_
      refine rgn hb1 (op_len_vs (n := a0.fBody.length) rfl rfl (lenR eLGStmt_map) Try_slc_31 rfl rfl) ?_
      refine rgn hb1 (op_int (k := .i64) (m := (a0.fBody.length : Int)) (n := 500) rfl rfl rfl rfl rfl rfl) ?_
      refine rpf hb1 ?_
      refine rmv ?_
      rcases ite_some hF with ⟨hb2, hF⟩ | ⟨hb2, hF⟩
      · refine rgo_t hb2 ?_
        iterate 3 (refine rgo_t hb2 ?_)
        refine rpt hb2 ?_
        refine rmv ?_
        iterate 4 (refine rgo_t rfl ?_)
        refine rpt rfl ?_
        refine rmv ?_
        iterate 3 (refine rgo_t rfl ?_)
        refine rpt rfl ?_
        refine reg_nil ?_
        cases hF
        exact post_cut _ rfl (imps [0] ⟨by kernel_rfl, by kernel_rfl, by kernel_rfl, trivial⟩ ⟨by kernel_rfl, trivial⟩)
      refine rgn hb2 (op_field_lp rfl rfl Try_fld_83_8 rfl rfl) ?_
      refine rgn hb2 (op_load_lp (v := .pv (.vs 23 (eLGStmt a0.fElse))) rfl rfl rfl rfl Try_one_31 rfl rfl) ?_
      refine rgn hb2 (op_len_vs (n := a0.fElse.length) rfl rfl (lenR eLGStmt_map) Try_slc_31 rfl rfl) ?_
      refine rgn hb2 (op_int (k := .i64) (m := (a0.fElse.length : Int)) (n := 500) rfl rfl rfl rfl rfl rfl) ?_
      refine rpf hb2 ?_
      refine rmv ?_
      rcases ite_some hF with ⟨hb3, hF⟩ | ⟨hb3, hF⟩
      · refine rgo_t hb3 ?_
        iterate 3 (refine rgo_t hb3 ?_)
        refine rpt hb3 ?_
        refine rmv ?_
        iterate 3 (refine rgo_t rfl ?_)
        refine rpt rfl ?_
        refine reg_nil ?_
        cases hF
        exact post_cut _ rfl (imps [0] ⟨by kernel_rfl, by kernel_rfl, by kernel_rfl, trivial⟩ ⟨by kernel_rfl, trivial⟩)
      refine rgn hb3 (op_field_lp rfl rfl Try_fld_83_6 rfl rfl) ?_
      refine rgn hb3 (op_load_lp (v := .pv (.vs 4 (eLGExpr a0.fArgs))) rfl rfl rfl rfl Try_one_79 rfl rfl) ?_
      refine rgn hb3 (op_len_vs (n := a0.fArgs.length) rfl rfl (lenR eLGExpr_map) Try_slc_79 rfl rfl) ?_
      refine rgn hb3 (op_int (k := .i64) (m := (a0.fArgs.length : Int)) (n := 20) rfl rfl rfl rfl rfl rfl) ?_
      refine rpf hb3 ?_
      refine rmv ?_
      rcases ite_some hF with ⟨hb4, hF⟩ | ⟨hb4, hF⟩
      · refine rgo_t hb4 ?_
        iterate 2 (refine rgo_t hb4 ?_)
        refine rpt hb4 ?_
        refine reg_nil ?_
        cases hF
        exact post_cut _ rfl (imps [0] ⟨by kernel_rfl, by kernel_rfl, by kernel_rfl, trivial⟩ ⟨by kernel_rfl, trivial⟩)
      refine rgn hb4 (op_field_lp rfl rfl Try_fld_83_5 rfl rfl) ?_
      refine rgn hb4 (op_load_lp_agg (ps := eGExpr a0.fE) rfl rfl rfl rfl rfl rfl Try_agg_81 rfl rfl) ?_
      obtain ⟨y5, h6, hF⟩ := bind_some hF
      refine rgn hb4 (op_call 1 rfl (caps := []) (args := [.agg (eGExpr a0.fE), .int .i64 25]) (rs := [.p (.bool y5)]) rfl rfl rfl Try_cal_63 (ref10_kids_ok h6) rfl rfl rfl) ?_
      refine rpf hb4 ?_
      refine reg_nil ?_
      cases hF
      exact post_cut _ rfl (imps [0] ⟨by kernel_rfl, by kernel_rfl, by kernel_rfl, trivial⟩ ⟨by kernel_rfl, trivial⟩)
    rintro _ rfl
    have hF := hK9
    clear hK9
    refine post_next ?_
    rcases ite_some hF with ⟨hb10, hF⟩ | ⟨hb10, hF⟩
    · refine aw_cond_t rfl hb10 ?_
      refine aw_seq ?_
      refine aw_region ?_
      refine ras ?_
      refine reg_nil ?_
      refine post_imp (s' := ⟨76, [(4, some (.pv (.bool true)))], [], 0, [], [], 0, []⟩) (imps [] ⟨by kernel_rfl, trivial⟩ trivial) ?_
      refine post_next ?_
      refine aw_ret ?_
      refine post_then_ret ?_
      obtain rfl := Option.some.inj hF
      exact prt
    refine aw_cond_f rfl hb10 ?_
    refine aw_skip ?_
    refine post_next ?_
    iterate 2 (refine aw_seq ?_)
    refine aw_region ?_
    refine ras ?_
    refine reg_nil ?_
    refine post_imp (s' := ⟨76, [(1, some (.pv (.int .i64 a1))), (2, some (.lp 0 0)), (5, some (.pv (.int .i64 0)))], [(0, some (.box 83 (bxv (eGStmt a0))))], 1, [], [], 0, []⟩) (imps [0] ⟨by kernel_rfl, by kernel_rfl, by kernel_rfl, trivial⟩ ⟨by kernel_rfl, trivial⟩) ?_
    refine post_next ?_
    obtain ⟨lr44, hF, hK45⟩ := bind_some hF
    refine aw_for ((((a0.fArgs.length : Int) : Int) - (0)).toNat + 1) (fun s1 => ∃ q, lr44 = .next q ∧ s1 = ⟨76, [(1, some (.pv (.int .i64 a1))), (2, some (.lp 0 0))], [(0, some (.box 83 (bxv (eGStmt a0))))], 1, [], [], 0, []⟩) ?_ ?_
    · refine rnd_loop (α := Int) (fun q => ⟨76, [(1, some (.pv (.int .i64 a1))), (2, some (.lp 0 0)), (5, some (.pv (.int .i64 q)))], [(0, some (.box 83 (bxv (eGStmt a0))))], 1, [], [], 0, []⟩) (fun k q => ref10_much_L1 a0 k q = some lr44) 0 (imps [0] ⟨by kernel_rfl, by kernel_rfl, by kernel_rfl, trivial⟩ ⟨by kernel_rfl, trivial⟩) hF (fun q h => by cases h) ?_
      clear hF
      rintro k x21 hF ih
      refine rnd_succ ?_
      iterate 2 (refine aw_seq ?_)
      refine aw_region ?_
      refine rmv ?_
      refine rgp (op_field_lp rfl rfl Try_fld_83_6 rfl rfl) ?_
      refine rgp (op_load_lp (v := .pv (.vs 4 (eLGExpr a0.fArgs))) rfl rfl rfl rfl Try_one_79 rfl rfl) ?_
      refine rgp (op_len_vs (n := a0.fArgs.length) rfl rfl (lenR eLGExpr_map) Try_slc_79 rfl rfl) ?_
      refine rgp (op_int (k := .i64) (m := x21) (n := (a0.fArgs.length : Int)) rfl rfl rfl rfl rfl rfl) ?_
      refine reg_nil ?_
      refine post_imp (s' := ⟨76, [(1, some (.pv (.int .i64 a1))), (2, some (.lp 0 0)), (5, some (.pv (.int .i64 x21))), (37, some (.pv (.bool (decide (x21 < (a0.fArgs.length : Int))))))], [(0, some (.box 83 (bxv (eGStmt a0))))], 1, [], [], 0, []⟩) (imps [0] ⟨by kernel_rfl, by kernel_rfl, by kernel_rfl, by kernel_rfl, trivial⟩ ⟨by kernel_rfl, trivial⟩) ?_
      refine post_next ?_
      rcases ite_some hF with ⟨hb33, hF⟩ | ⟨hb33, hF⟩
      · refine aw_cond_t rfl hb33 ?_
        refine aw_skip ?_
        refine post_next ?_
        refine aw_seq ?_
        refine aw_block ?_
        refine aw_seq ?_
        refine aw_region ?_
        refine rgp (op_field_lp rfl rfl Try_fld_83_6 rfl rfl) ?_
        refine rgp (op_load_lp (v := .pv (.vs 4 (eLGExpr a0.fArgs))) rfl rfl rfl rfl Try_one_79 rfl rfl) ?_
        refine rmv ?_
        obtain ⟨y38, h39, hF⟩ := bind_some hF
        refine rgp (op_index_vs (k := .i64) rfl rfl rfl (idxR eLGExpr_map h39) Try_slc_79 rfl rfl) ?_
        refine rgp (op_load_vp_agg (ps := eGExpr y38) rfl rfl rfl rfl Try_agg_81 rfl rfl) ?_
        obtain ⟨y40, h41, hF⟩ := bind_some hF
        refine rgp (op_call 1 rfl (caps := []) (args := [.agg (eGExpr y38), .int .i64 25]) (rs := [.p (.bool y40)]) rfl rfl rfl Try_cal_63 (ref10_kids_ok h41) rfl rfl rfl) ?_
        refine reg_nil ?_
        refine post_imp (s' := ⟨76, [(1, some (.pv (.int .i64 a1))), (2, some (.lp 0 0)), (5, some (.pv (.int .i64 x21))), (45, some (.pv (.bool y40)))], [(0, some (.box 83 (bxv (eGStmt a0))))], 1, [], [], 0, []⟩) (imps [0] ⟨by kernel_rfl, by kernel_rfl, by kernel_rfl, by kernel_rfl, trivial⟩ ⟨by kernel_rfl, trivial⟩) ?_
        refine post_next ?_
        rcases ite_some hF with ⟨hb42, hF⟩ | ⟨hb42, hF⟩
        · refine aw_cond_t rfl hb42 ?_
          refine aw_seq ?_
          refine aw_region ?_
          refine ras ?_
          refine reg_nil ?_
          refine post_imp (s' := ⟨76, [(4, some (.pv (.bool true)))], [], 0, [], [], 0, []⟩) (imps [] ⟨by kernel_rfl, trivial⟩ trivial) ?_
          refine post_next ?_
          refine aw_ret ?_
          refine post_block_ret ?_
          iterate 2 (refine post_then_ret ?_)
          refine post_lp_ret ?_
          obtain rfl := Option.some.inj hF
          have hF := elim_stop hK45
          refine post_then_ret ?_
          obtain rfl := Option.some.inj hF
          exact prt
        refine aw_cond_f rfl hb42 ?_
        refine aw_skip ?_
        refine post_block_normal ?_
        refine post_next ?_
        refine aw_region ?_
        refine rmv ?_
        refine rgp (op_int (k := .i64) (m := x21) (n := 1) rfl rfl rfl rfl rfl rfl) ?_
        refine ras ?_
        refine reg_nil ?_
        refine post_round ?_
        exact rnd_back (ih (w_i64 (x21 + 1)) hF) (imps [0] ⟨by kernel_rfl, by kernel_rfl, by kernel_rfl, trivial⟩ ⟨by kernel_rfl, trivial⟩)
      refine aw_cond_f rfl hb33 ?_
      refine aw_exit ?_
      iterate 2 (refine post_then_exit ?_)
      obtain rfl := Option.some.inj hF
      exact post_lp_break _ ⟨_, rfl, rfl⟩ (imps [0] ⟨by kernel_rfl, by kernel_rfl, trivial⟩ ⟨by kernel_rfl, trivial⟩)
    rintro _ ⟨⟨⟩, rfl, rfl⟩
    have hF := elim_next hK45
    clear hK45
    refine post_next ?_
    iterate 2 (refine aw_seq ?_)
    refine aw_region ?_
    refine ras ?_
    refine reg_nil ?_
    refine post_imp (s' := ⟨76, [(1, some (.pv (.int .i64 a1))), (2, some (.lp 0 0)), (6, some (.pv (.int .i64 0)))], [(0, some (.box 83 (bxv (eGStmt a0))))], 1, [], [], 0, []⟩) (imps [0] ⟨by kernel_rfl, by kernel_rfl, by kernel_rfl, trivial⟩ ⟨by kernel_rfl, trivial⟩) ?_
    refine post_next ?_
    obtain ⟨lr79, hF, hK80⟩ := bind_some hF
    refine aw_for ((((a0.fBody.length : Int) : Int) - (0)).toNat + 1) (fun s1 => ∃ q, lr79 = .next q ∧ s1 = ⟨76, [(1, some (.pv (.int .i64 a1))), (2, some (.lp 0 0))], [(0, some (.box 83 (bxv (eGStmt a0))))], 1, [], [], 0, []⟩) ?_ ?_
    · refine rnd_loop (α := Int) (fun q => ⟨76, [(1, some (.pv (.int .i64 a1))), (2, some (.lp 0 0)), (6, some (.pv (.int .i64 q)))], [(0, some (.box 83 (bxv (eGStmt a0))))], 1, [], [], 0, []⟩) (fun k q => ref10_much_L2 a0 a1 ref10_much_rec k q = some lr79) 0 (imps [0] ⟨by kernel_rfl, by kernel_rfl, by kernel_rfl, trivial⟩ ⟨by kernel_rfl, trivial⟩) hF (fun q h => by cases h) ?_
      clear hF
      rintro k x56 hF ih
      refine rnd_succ ?_
      iterate 2 (refine aw_seq ?_)
      refine aw_region ?_
      refine rmv ?_
      refine rgp (op_field_lp rfl rfl Try_fld_83_7 rfl rfl) ?_
      refine rgp (op_load_lp (v := .pv (.vs 23 (eLGStmt a0.fBody))) rfl rfl rfl rfl Try_one_31 rfl rfl) ?_
      refine rgp (op_len_vs (n := a0.fBody.length) rfl rfl (lenR eLGStmt_map) Try_slc_31 rfl rfl) ?_
      refine rgp (op_int (k := .i64) (m := x56) (n := (a0.fBody.length : Int)) rfl rfl rfl rfl rfl rfl) ?_
      refine reg_nil ?_
      refine post_imp (s' := ⟨76, [(1, some (.pv (.int .i64 a1))), (2, some (.lp 0 0)), (6, some (.pv (.int .i64 x56))), (50, some (.pv (.bool (decide (x56 < (a0.fBody.length : Int))))))], [(0, some (.box 83 (bxv (eGStmt a0))))], 1, [], [], 0, []⟩) (imps [0] ⟨by kernel_rfl, by kernel_rfl, by kernel_rfl, by kernel_rfl, trivial⟩ ⟨by kernel_rfl, trivial⟩) ?_
      refine post_next ?_
      rcases ite_some hF with ⟨hb68, hF⟩ | ⟨hb68, hF⟩
      · refine aw_cond_t rfl hb68 ?_
        refine aw_skip ?_
        refine post_next ?_
        refine aw_seq ?_
        refine aw_block ?_
        refine aw_seq ?_
        refine aw_region ?_
        refine rgp (op_field_lp rfl rfl Try_fld_83_7 rfl rfl) ?_
        refine rgp (op_load_lp (v := .pv (.vs 23 (eLGStmt a0.fBody))) rfl rfl rfl rfl Try_one_31 rfl rfl) ?_
        refine rmv ?_
        obtain ⟨y73, h74, hF⟩ := bind_some hF
        refine rgp (op_index_vs (k := .i64) rfl rfl rfl (idxR eLGStmt_map h74) Try_slc_31 rfl rfl) ?_
        refine rgp (op_load_vp_agg (ps := eGStmt y73) rfl rfl rfl rfl Try_agg_83 rfl rfl) ?_
        refine rmv ?_
        refine rgp (op_int (k := .i64) (m := a1) (n := 1) rfl rfl rfl rfl rfl rfl) ?_
        obtain ⟨y75, h76, hF⟩ := bind_some hF
        refine rgp (op_call 1 rfl (caps := []) (args := [.agg (eGStmt y73), .int .i64 (w_i64 (a1 - 1))]) (rs := [.p (.bool y75)]) rfl rfl rfl Try_cal_39 (ref10_much_ih _ _ _ h76) rfl rfl rfl) ?_
        refine reg_nil ?_
        refine post_imp (s' := ⟨76, [(1, some (.pv (.int .i64 a1))), (2, some (.lp 0 0)), (6, some (.pv (.int .i64 x56))), (60, some (.pv (.bool y75)))], [(0, some (.box 83 (bxv (eGStmt a0))))], 1, [], [], 0, []⟩) (imps [0] ⟨by kernel_rfl, by kernel_rfl, by kernel_rfl, by kernel_rfl, trivial⟩ ⟨by kernel_rfl, trivial⟩) ?_
        refine post_next ?_
        rcases ite_some hF with ⟨hb77, hF⟩ | ⟨hb77, hF⟩
        · refine aw_cond_t rfl hb77 ?_
          refine aw_seq ?_
          refine aw_region ?_
          refine ras ?_
          refine reg_nil ?_
          refine post_imp (s' := ⟨76, [(4, some (.pv (.bool true)))], [], 0, [], [], 0, []⟩) (imps [] ⟨by kernel_rfl, trivial⟩ trivial) ?_
          refine post_next ?_
          refine aw_ret ?_
          refine post_block_ret ?_
          iterate 2 (refine post_then_ret ?_)
          refine post_lp_ret ?_
          obtain rfl := Option.some.inj hF
          have hF := elim_stop hK80
          refine post_then_ret ?_
          obtain rfl := Option.some.inj hF
          exact prt
        refine aw_cond_f rfl hb77 ?_
        refine aw_skip ?_
        refine post_block_normal ?_
        refine post_next ?_
        refine aw_region ?_
        refine rmv ?_
        refine rgp (op_int (k := .i64) (m := x56) (n := 1) rfl rfl rfl rfl rfl rfl) ?_
        refine ras ?_
        refine reg_nil ?_
        refine post_round ?_
        exact rnd_back (ih (w_i64 (x56 + 1)) hF) (imps [0] ⟨by kernel_rfl, by kernel_rfl, by kernel_rfl, trivial⟩ ⟨by kernel_rfl, trivial⟩)
      refine aw_cond_f rfl hb68 ?_
      refine aw_exit ?_
      iterate 2 (refine post_then_exit ?_)
      obtain rfl := Option.some.inj hF
      exact post_lp_break _ ⟨_, rfl, rfl⟩ (imps [0] ⟨by kernel_rfl, by kernel_rfl, trivial⟩ ⟨by kernel_rfl, trivial⟩)
    rintro _ ⟨⟨⟩, rfl, rfl⟩
    have hF := elim_next hK80
    clear hK80
    refine post_next ?_
    iterate 2 (refine aw_seq ?_)
    refine aw_region ?_
    refine ras ?_
    refine reg_nil ?_
    refine post_imp (s' := ⟨76, [(1, some (.pv (.int .i64 a1))), (2, some (.lp 0 0)), (7, some (.pv (.int .i64 0)))], [(0, some (.box 83 (bxv (eGStmt a0))))], 1, [], [], 0, []⟩) (imps [0] ⟨by kernel_rfl, by kernel_rfl, by kernel_rfl, trivial⟩ ⟨by kernel_rfl, trivial⟩) ?_
    refine post_next ?_
    obtain ⟨lr114, hF, hK115⟩ := bind_some hF
    refine aw_for ((((a0.fElse.length : Int) : Int) - (0)).toNat + 1) (fun s1 => ∃ q, lr114 = .next q ∧ s1 = ⟨76, [], [], 0, [], [], 0, []⟩) ?_ ?_
    · refine rnd_loop (α := Int) (fun q => ⟨76, [(1, some (.pv (.int .i64 a1))), (2, some (.lp 0 0)), (7, some (.pv (.int .i64 q)))], [(0, some (.box 83 (bxv (eGStmt a0))))], 1, [], [], 0, []⟩) (fun k q => ref10_much_L3 a0 a1 ref10_much_rec k q = some lr114) 0 (imps [0] ⟨by kernel_rfl, by kernel_rfl, by kernel_rfl, trivial⟩ ⟨by kernel_rfl, trivial⟩) hF (fun q h => by cases h) ?_
      clear hF
      rintro k x91 hF ih
      refine rnd_succ ?_
      iterate 2 (refine aw_seq ?_)
      refine aw_region ?_
      refine rmv ?_
      refine rgp (op_field_lp rfl rfl Try_fld_83_8 rfl rfl) ?_
      refine rgp (op_load_lp (v := .pv (.vs 23 (eLGStmt a0.fElse))) rfl rfl rfl rfl Try_one_31 rfl rfl) ?_
      refine rgp (op_len_vs (n := a0.fElse.length) rfl rfl (lenR eLGStmt_map) Try_slc_31 rfl rfl) ?_
      refine rgp (op_int (k := .i64) (m := x91) (n := (a0.fElse.length : Int)) rfl rfl rfl rfl rfl rfl) ?_
      refine reg_nil ?_
      refine post_imp (s' := ⟨76, [(1, some (.pv (.int .i64 a1))), (2, some (.lp 0 0)), (7, some (.pv (.int .i64 x91))), (65, some (.pv (.bool (decide (x91 < (a0.fElse.length : Int))))))], [(0, some (.box 83 (bxv (eGStmt a0))))], 1, [], [], 0, []⟩) (imps [0] ⟨by kernel_rfl, by kernel_rfl, by kernel_rfl, by kernel_rfl, trivial⟩ ⟨by kernel_rfl, trivial⟩) ?_
      refine post_next ?_
      rcases ite_some hF with ⟨hb103, hF⟩ | ⟨hb103, hF⟩
      · refine aw_cond_t rfl hb103 ?_
        refine aw_skip ?_
        refine post_next ?_
        refine aw_seq ?_
        refine aw_block ?_
        refine aw_seq ?_
        refine aw_region ?_
        refine rgp (op_field_lp rfl rfl Try_fld_83_8 rfl rfl) ?_
        refine rgp (op_load_lp (v := .pv (.vs 23 (eLGStmt a0.fElse))) rfl rfl rfl rfl Try_one_31 rfl rfl) ?_
        refine rmv ?_
        obtain ⟨y108, h109, hF⟩ := bind_some hF
        refine rgp (op_index_vs (k := .i64) rfl rfl rfl (idxR eLGStmt_map h109) Try_slc_31 rfl rfl) ?_
        refine rgp (op_load_vp_agg (ps := eGStmt y108) rfl rfl rfl rfl Try_agg_83 rfl rfl) ?_
        refine rmv ?_
        refine rgp (op_int (k := .i64) (m := a1) (n := 1) rfl rfl rfl rfl rfl rfl) ?_
        obtain ⟨y110, h111, hF⟩ := bind_some hF
        refine rgp (op_call 1 rfl (caps := []) (args := [.agg (eGStmt y108), .int .i64 (w_i64 (a1 - 1))]) (rs := [.p (.bool y110)]) rfl rfl rfl Try_cal_39 (ref10_much_ih _ _ _ h111) rfl rfl rfl) ?_
        refine reg_nil ?_
        refine post_imp (s' := ⟨76, [(1, some (.pv (.int .i64 a1))), (2, some (.lp 0 0)), (7, some (.pv (.int .i64 x91))), (75, some (.pv (.bool y110)))], [(0, some (.box 83 (bxv (eGStmt a0))))], 1, [], [], 0, []⟩) (imps [0] ⟨by kernel_rfl, by kernel_rfl, by kernel_rfl, by kernel_rfl, trivial⟩ ⟨by kernel_rfl, trivial⟩) ?_
        refine post_next ?_
        rcases ite_some hF with ⟨hb112, hF⟩ | ⟨hb112, hF⟩
        · refine aw_cond_t rfl hb112 ?_
          refine aw_seq ?_
          refine aw_region ?_
          refine ras ?_
          refine reg_nil ?_
          refine post_imp (s' := ⟨76, [(4, some (.pv (.bool true)))], [], 0, [], [], 0, []⟩) (imps [] ⟨by kernel_rfl, trivial⟩ trivial) ?_
          refine post_next ?_
          refine aw_ret ?_
          refine post_block_ret ?_
          iterate 2 (refine post_then_ret ?_)
          refine post_lp_ret ?_
          obtain rfl := Option.some.inj hF
          have hF := elim_stop hK115
          refine post_then_ret ?_
          obtain rfl := Option.some.inj hF
          exact prt
        refine aw_cond_f rfl hb112 ?_
        refine aw_skip ?_
        refine post_block_normal ?_
        refine post_next ?_
        refine aw_region ?_
        refine rmv ?_
        refine rgp (op_int (k := .i64) (m := x91) (n := 1) rfl rfl rfl rfl rfl rfl) ?_
        refine ras ?_
        refine reg_nil ?_
        refine post_round ?_
        exact rnd_back (ih (w_i64 (x91 + 1)) hF) (imps [0] ⟨by kernel_rfl, by kernel_rfl, by kernel_rfl, trivial⟩ ⟨by kernel_rfl, trivial⟩)
      refine aw_cond_f rfl hb103 ?_
      refine aw_exit ?_
      iterate 2 (refine post_then_exit ?_)
      obtain rfl := Option.some.inj hF
      exact post_lp_break _ ⟨_, rfl, rfl⟩ (imps [] trivial trivial)
    rintro _ ⟨⟨⟩, rfl, rfl⟩
    have hF := elim_next hK115
    clear hK115
    refine post_next ?_
    refine aw_seq ?_
    refine aw_region ?_
    refine ras ?_
    refine reg_nil ?_
    refine post_imp (s' := ⟨76, [(4, some (.pv (.bool false)))], [], 0, [], [], 0, []⟩) (imps [] ⟨by kernel_rfl, trivial⟩ trivial) ?_
    refine post_next ?_
    refine aw_ret ?_
    obtain rfl := Option.some.inj hF
    exact prt
theorem ref10_much_ok {n : Nat} {a0 : GStmt} {a1 : Int} {r : Bool} (hF : ref10_much n a0 a1 = some r) : Abs.Fn Try.prog 39 [.agg (eGStmt a0), .int .i64 a1] [.p (.bool r)] := (ref10_much_ring n) _ _ _ hF

theorem ref08_Size_ring : ∀ n : Nat, (∀ (a0 : GStmt) (r : Int), ref08_Size n a0 = some r → Abs.Fn Try.prog 40 [.agg (eGStmt a0)] [.p (.int .i64 r)]) := by
  intro n
  induction n with
  | zero => exact (fun _ _ h => by simp [ref08_Size] at h)
  | succ n ih =>
    have ref08_Size_ih := ih
    clear ih
    intro a0 r hF
    unfold ref08_Size at hF
    revert hF ref08_Size_ih
    generalize ref08_Size n = ref08_Size_rec
    intro ref08_Size_ih hF
    refine fn_of_body (n := 37) Try.func40 rfl rfl rfl ?_
    intro w O
    refine aw_seq ?_
    refine aw_region ?_
    refine rgp (op_box 0 rfl rfl rfl rfl rfl rfl) ?_
    refine ras ?_
    refine reg_nil ?_
    refine post_imp (s' := ⟨37, [(1, some (.lp 0 0))], [(0, some (.box 83 (bxv (eGStmt a0))))], 1, [], [], 0, []⟩) (imps [0] ⟨by kernel_rfl, trivial⟩ ⟨by kernel_rfl, trivial⟩) ?_
    refine post_next ?_
    refine aw_seq ?_
    refine aw_region ?_
    refine ras ?_
    refine reg_nil ?_
    refine post_imp (s' := ⟨37, [(1, some (.lp 0 0)), (3, some (.pv (.int .i64 1)))], [(0, some (.box 83 (bxv (eGStmt a0))))], 1, [], [], 0, []⟩) (imps [0] ⟨by kernel_rfl, by kernel_rfl, trivial⟩ ⟨by kernel_rfl, trivial⟩) ?_
    refine post_next ?_
    iterate 2 (refine aw_seq ?_)
    refine aw_region ?_
    refine ras ?_
    refine reg_nil ?_
    refine post_imp (s' := ⟨37, [(1, some (.lp 0 0)), (3, some (.pv (.int .i64 1))), (4, some (.pv (.int .i64 0)))], [(0, some (.box 83 (bxv (eGStmt a0))))], 1, [], [], 0, []⟩) (imps [0] ⟨by kernel_rfl, by kernel_rfl, by kernel_rfl, trivial⟩ ⟨by kernel_rfl, trivial⟩) ?_
    refine post_next ?_
    obtain ⟨x34, hF, hK35⟩ := bind_some hF
    refine aw_for ((((a0.fBody.length : Int) : Int) - (0)).toNat + 1) (fun s1 => s1 = ⟨37, [(1, some (.lp 0 0)), (3, some (.pv (.int .i64 x34)))], [(0, some (.box 83 (bxv (eGStmt a0))))], 1, [], [], 0, []⟩) ?_ ?_
    · refine rnd_loop (α := Int × Int) (fun q => ⟨37, [(1, some (.lp 0 0)), (3, some (.pv (.int .i64 q.1))), (4, some (.pv (.int .i64 q.2)))], [(0, some (.box 83 (bxv (eGStmt a0))))], 1, [], [], 0, []⟩) (fun k q => ref08_Size_L1 a0 ref08_Size_rec k q.1 q.2 = some x34) (1, 0) (imps [0] ⟨by kernel_rfl, by kernel_rfl, by kernel_rfl, trivial⟩ ⟨by kernel_rfl, trivial⟩) hF (fun q h => by cases h) ?_
      clear hF
      rintro k ⟨x10, x11⟩ hF ih
      refine rnd_succ ?_
      iterate 2 (refine aw_seq ?_)
      refine aw_region ?_
      refine rmv ?_
      refine rgp (op_field_lp rfl rfl Try_fld_83_7 rfl rfl) ?_
      refine rgp (op_load_lp (v := .pv (.vs 23 (eLGStmt a0.fBody))) rfl rfl rfl rfl Try_one_31 rfl rfl) ?_
      refine rgp (op_len_vs (n := a0.fBody.length) rfl rfl (lenR eLGStmt_map) Try_slc_31 rfl rfl) ?_
      refine rgp (op_int (k := .i64) (m := x11) (n := (a0.fBody.length : Int)) rfl rfl rfl rfl rfl rfl) ?_
      refine reg_nil ?_
      refine post_imp (s' := ⟨37, [(1, some (.lp 0 0)), (3, some (.pv (.int .i64 x10))), (4, some (.pv (.int .i64 x11))), (10, some (.pv (.bool (decide (x11 < (a0.fBody.length : Int))))))], [(0, some (.box 83 (bxv (eGStmt a0))))], 1, [], [], 0, []⟩) (imps [0] ⟨by kernel_rfl, by kernel_rfl, by kernel_rfl, by kernel_rfl, trivial⟩ ⟨by kernel_rfl, trivial⟩) ?_
      refine post_next ?_
      rcases ite_some hF with ⟨hb23, hF⟩ | ⟨hb23, hF⟩
      · refine aw_cond_t rfl hb23 ?_
        refine aw_skip ?_
        refine post_next ?_
        refine aw_seq ?_
        refine aw_block ?_
        refine aw_region ?_
        refine rmv ?_
        refine rgp (op_field_lp rfl rfl Try_fld_83_7 rfl rfl) ?_
        refine rgp (op_load_lp (v := .pv (.vs 23 (eLGStmt a0.fBody))) rfl rfl rfl rfl Try_one_31 rfl rfl) ?_
        refine rmv ?_
        obtain ⟨y28, h29, hF⟩ := bind_some hF
        refine rgp (op_index_vs (k := .i64) rfl rfl rfl (idxR eLGStmt_map h29) Try_slc_31 rfl rfl) ?_
        refine rgp (op_load_vp_agg (ps := eGStmt y28) rfl rfl rfl rfl Try_agg_83 rfl rfl) ?_
        obtain ⟨y30, h31, hF⟩ := bind_some hF
        refine rgp (op_call 1 rfl (caps := []) (args := [.agg (eGStmt y28)]) (rs := [.p (.int .i64 y30)]) rfl rfl rfl Try_cal_40 (ref08_Size_ih _ _ h31) rfl rfl rfl) ?_
        refine rgp (op_int (k := .i64) (m := x10) (n := y30) rfl rfl rfl rfl rfl rfl) ?_
        refine ras ?_
        refine reg_nil ?_
        refine post_imp (s' := ⟨37, [(1, some (.lp 0 0)), (3, some (.pv (.int .i64 (w_i64 (x10 + y30))))), (4, some (.pv (.int .i64 x11)))], [(0, some (.box 83 (bxv (eGStmt a0))))], 1, [], [], 0, []⟩) (imps [0] ⟨by kernel_rfl, by kernel_rfl, by kernel_rfl, trivial⟩ ⟨by kernel_rfl, trivial⟩) ?_
        refine post_block_normal ?_
        refine post_next ?_
        refine aw_region ?_
        refine rmv ?_
        refine rgp (op_int (k := .i64) (m := x11) (n := 1) rfl rfl rfl rfl rfl rfl) ?_
        refine ras ?_
        refine reg_nil ?_
        refine post_round ?_
        exact rnd_back (ih (w_i64 (x10 + y30), w_i64 (x11 + 1)) hF) (imps [0] ⟨by kernel_rfl, by kernel_rfl, by kernel_rfl, trivial⟩ ⟨by kernel_rfl, trivial⟩)
      refine aw_cond_f rfl hb23 ?_
      refine aw_exit ?_
      iterate 2 (refine post_then_exit ?_)
      obtain rfl := Option.some.inj hF
      exact post_lp_break _ rfl (imps [0] ⟨by kernel_rfl, by kernel_rfl, trivial⟩ ⟨by kernel_rfl, trivial⟩)
    rintro _ rfl
    have hF := hK35
    clear hK35
    refine post_next ?_
    iterate 2 (refine aw_seq ?_)
    refine aw_region ?_
    refine ras ?_
    refine reg_nil ?_
    refine post_imp (s' := ⟨37, [(1, some (.lp 0 0)), (3, some (.pv (.int .i64 x34))), (5, some (.pv (.int .i64 0)))], [(0, some (.box 83 (bxv (eGStmt a0))))], 1, [], [], 0, []⟩) (imps [0] ⟨by kernel_rfl, by kernel_rfl, by kernel_rfl, trivial⟩ ⟨by kernel_rfl, trivial⟩) ?_
    refine post_next ?_
    obtain ⟨x69, hF, hK70⟩ := bind_some hF
    refine aw_for ((((a0.fElse.length : Int) : Int) - (0)).toNat + 1) (fun s1 => s1 = ⟨37, [(3, some (.pv (.int .i64 x69)))], [], 0, [], [], 0, []⟩) ?_ ?_
    · refine rnd_loop (α := Int × Int) (fun q => ⟨37, [(1, some (.lp 0 0)), (3, some (.pv (.int .i64 q.1))), (5, some (.pv (.int .i64 q.2)))], [(0, some (.box 83 (bxv (eGStmt a0))))], 1, [], [], 0, []⟩) (fun k q => ref08_Size_L2 a0 ref08_Size_rec k q.1 q.2 = some x69) (x34, 0) (imps [0] ⟨by kernel_rfl, by kernel_rfl, by kernel_rfl, trivial⟩ ⟨by kernel_rfl, trivial⟩) hF (fun q h => by cases h) ?_
      clear hF
      rintro k ⟨x45, x46⟩ hF ih
      refine rnd_succ ?_
      iterate 2 (refine aw_seq ?_)
      refine aw_region ?_
      refine rmv ?_
      refine rgp (op_field_lp rfl rfl Try_fld_83_8 rfl rfl) ?_
      refine rgp (op_load_lp (v := .pv (.vs 23 (eLGStmt a0.fElse))) rfl rfl rfl rfl Try_one_31 rfl rfl) ?_
      refine rgp (op_len_vs (n := a0.fElse.length) rfl rfl (lenR eLGStmt_map) Try_slc_31 rfl rfl) ?_
      refine rgp (op_int (k := .i64) (m := x46) (n := (a0.fElse.length : Int)) rfl rfl rfl rfl rfl rfl) ?_
      refine reg_nil ?_
      refine post_imp (s' := ⟨37, [(1, some (.lp 0 0)), (3, some (.pv (.int .i64 x45))), (5, some (.pv (.int .i64 x46))), (25, some (.pv (.bool (decide (x46 < (a0.fElse.length : Int))))))], [(0, some (.box 83 (bxv (eGStmt a0))))], 1, [], [], 0, []⟩) (imps [0] ⟨by kernel_rfl, by kernel_rfl, by kernel_rfl, by kernel_rfl, trivial⟩ ⟨by kernel_rfl, trivial⟩) ?_
      refine post_next ?_
      rcases ite_some hF with ⟨hb58, hF⟩ | ⟨hb58, hF⟩
      · refine aw_cond_t rfl hb58 ?_
        refine aw_skip ?_
        refine post_next ?_
        refine aw_seq ?_
        refine aw_block ?_
        refine aw_region ?_
        refine rmv ?_
        refine rgp (op_field_lp rfl rfl Try_fld_83_8 rfl rfl) ?_
        refine rgp (op_load_lp (v := .pv (.vs 23 (eLGStmt a0.fElse))) rfl rfl rfl rfl Try_one_31 rfl rfl) ?_
        refine rmv ?_
        obtain ⟨y63, h64, hF⟩ := bind_some hF
        refine rgp (op_index_vs (k := .i64) rfl rfl rfl (idxR eLGStmt_map h64) Try_slc_31 rfl rfl) ?_
        refine rgp (op_load_vp_agg (ps := eGStmt y63) rfl rfl rfl rfl Try_agg_83 rfl rfl) ?_
        obtain ⟨y65, h66, hF⟩ := bind_some hF
        refine rgp (op_call 1 rfl (caps := []) (args := [.agg (eGStmt y63)]) (rs := [.p (.int .i64 y65)]) rfl rfl rfl Try_cal_40 (ref08_Size_ih _ _ h66) rfl rfl rfl) ?_
        refine rgp (op_int (k := .i64) (m := x45) (n := y65) rfl rfl rfl rfl rfl rfl) ?_
        refine ras ?_
        refine reg_nil ?_
        refine post_imp (s' := ⟨37, [(1, some (.lp 0 0)), (3, some (.pv (.int .i64 (w_i64 (x45 + y65))))), (5, some (.pv (.int .i64 x46)))], [(0, some (.box 83 (bxv (eGStmt a0))))], 1, [], [], 0, []⟩) (imps [0] ⟨by kernel_rfl, by kernel_rfl, by kernel_rfl, trivial⟩ ⟨by kernel_rfl, trivial⟩) ?_
        refine post_block_normal ?_
        refine post_next ?_
        refine aw_region ?_
        refine rmv ?_
        refine rgp (op_int (k := .i64) (m := x46) (n := 1) rfl rfl rfl rfl rfl rfl) ?_
        refine ras ?_
        refine reg_nil ?_
        refine post_round ?_
        exact rnd_back (ih (w_i64 (x45 + y65), w_i64 (x46 + 1)) hF) (imps [0] ⟨by kernel_rfl, by kernel_rfl, by kernel_rfl, trivial⟩ ⟨by kernel_rfl, trivial⟩)
      refine aw_cond_f rfl hb58 ?_
      refine aw_exit ?_
      iterate 2 (refine post_then_exit ?_)
      obtain rfl := Option.some.inj hF
      exact post_lp_break _ rfl (imps [] ⟨by kernel_rfl, trivial⟩ trivial)
    rintro _ rfl
    have hF := hK70
    clear hK70
    refine post_next ?_
    refine aw_seq ?_
    refine aw_region ?_
    refine rmv ?_
    refine ras ?_
    refine reg_nil ?_
    refine post_imp (s' := ⟨37, [(2, some (.pv (.int .i64 x69)))], [], 0, [], [], 0, []⟩) (imps [] ⟨by kernel_rfl, trivial⟩ trivial) ?_
    refine post_next ?_
    refine aw_ret ?_
    obtain rfl := Option.some.inj hF
    exact prt
theorem ref08_Size_ok {n : Nat} {a0 : GStmt} {r : Int} (hF : ref08_Size n a0 = some r) : Abs.Fn Try.prog 40 [.agg (eGStmt a0)] [.p (.int .i64 r)] := (ref08_Size_ring n) _ _ hF

theorem ref10_Heavy_ok {a0 : List GClass} {r : Bool} (hF : ref10_Heavy a0 = some r) : Abs.Fn Try.prog 10 [.vs 7 (List.map eGClass a0)] [.p (.bool r)] := by
  unfold ref10_Heavy at hF
  refine fn_of_body (n := 106) Try.func10 rfl rfl rfl ?_
  intro w O
  refine aw_seq ?_
  refine aw_region ?_
  refine ras ?_
  refine reg_nil ?_
  refine post_imp (s' := ⟨106, [(0, some (.pv (.vs 7 (List.map eGClass a0))))], [], 0, [], [], 0, []⟩) (imps [] ⟨by kernel_rfl, trivial⟩ trivial) ?_
  refine post_next ?_
  refine aw_seq ?_
  refine aw_region ?_
  refine ras ?_
  refine reg_nil ?_
  refine post_imp (s' := ⟨106, [(0, some (.pv (.vs 7 (List.map eGClass a0)))), (3, some (.pv (.int .i64 0)))], [], 0, [], [], 0, []⟩) (imps [] ⟨by kernel_rfl, by kernel_rfl, trivial⟩ trivial) ?_
  refine post_next ?_
  iterate 2 (refine aw_seq ?_)
  refine aw_region ?_
  refine ras ?_
  refine reg_nil ?_
  refine post_imp (s' := ⟨106, [(0, some (.pv (.vs 7 (List.map eGClass a0)))), (3, some (.pv (.int .i64 0))), (4, some (.pv (.int .i64 0)))], [], 0, [], [], 0, []⟩) (imps [] ⟨by kernel_rfl, by kernel_rfl, by kernel_rfl, trivial⟩ trivial) ?_
  refine post_next ?_
  obtain ⟨lr767, hF, hK768⟩ := bind_some hF
  refine aw_for ((((a0.length : Int) : Int) - (0)).toNat + 1) (fun s1 => ∃ q, lr767 = .next q ∧ s1 = ⟨106, [(3, some (.pv (.int .i64 q)))], [], 0, [], [], 0, []⟩) ?_ ?_
  · refine rnd_loop (α := Int × Int) (fun q => ⟨106, [(0, some (.pv (.vs 7 (List.map eGClass a0)))), (3, some (.pv (.int .i64 q.1))), (4, some (.pv (.int .i64 q.2)))], [], 0, [], [], 0, []⟩) (fun k q => ref10_Heavy_L1 a0 k q.1 q.2 = some lr767) (0, 0) (imps [] ⟨by kernel_rfl, by kernel_rfl, by kernel_rfl, trivial⟩ trivial) hF (fun q h => by cases h) ?_
    clear hF
    rintro k ⟨x254, x255⟩ hF ih
    refine rnd_succ ?_
    iterate 2 (refine aw_seq ?_)
    refine aw_region ?_
    iterate 2 (refine rmv ?_)
    refine rgp (op_len_vs (n := a0.length) rfl rfl (List.length_map ..) Try_slc_22 rfl rfl) ?_
    refine rgp (op_int (k := .i64) (m := x255) (n := (a0.length : Int)) rfl rfl rfl rfl rfl rfl) ?_
    refine reg_nil ?_
    refine post_imp (s' := ⟨106, [(0, some (.pv (.vs 7 (List.map eGClass a0)))), (3, some (.pv (.int .i64 x254))), (4, some (.pv (.int .i64 x255))), (12, some (.pv (.bool (decide (x255 < (a0.length : Int))))))], [], 0, [], [], 0, []⟩) (imps [] ⟨by kernel_rfl, by kernel_rfl, by kernel_rfl, by kernel_rfl, trivial⟩ trivial) ?_
    refine post_next ?_
    rcases ite_some hF with ⟨hb511, hF⟩ | ⟨hb511, hF⟩
    · refine aw_cond_t rfl hb511 ?_
      refine aw_skip ?_
      refine post_next ?_
      refine aw_seq ?_
      refine aw_block ?_
      refine aw_seq ?_
      refine aw_region ?_
      iterate 2 (refine rmv ?_)
      obtain ⟨y514, h515, hF⟩ := bind_some hF
      refine rgp (op_index_vs (k := .i64) rfl rfl rfl (idx_map eGClass h515) Try_slc_22 rfl rfl) ?_
      refine rgp (op_load_vp_agg (ps := eGClass y514) rfl rfl rfl rfl Try_agg_56 rfl rfl) ?_
      refine rgp (op_alloc 0 rfl (ps := (eGClass zGClass)) rfl Try_zer_56 (by exact ⟨rfl, trivial, rfl, trivial, trivial, trivial, rfl, trivial⟩) rfl rfl) ?_
      refine rgp (op_store_lp (n := 7) rfl rfl rfl rfl rfl (or_agg Try_agg_56) (by rw [Try_non_56]; rfl) rfl rfl rfl) ?_
      refine reg_nil ?_
      refine post_imp (s' := ⟨106, [(0, some (.pv (.vs 7 (List.map eGClass a0)))), (3, some (.pv (.int .i64 x254))), (4, some (.pv (.int .i64 x255))), (5, some (.lp 0 0))], [(0, some (.box 56 (bxv (eGClass y514))))], 1, [], [], 0, []⟩) (imps [0] ⟨by kernel_rfl, by kernel_rfl, by kernel_rfl, by kernel_rfl, trivial⟩ ⟨by kernel_rfl, trivial⟩) ?_
      refine post_next ?_
      iterate 2 (refine aw_seq ?_)
      obtain ⟨x520, hF, hK522⟩ := bind_some hF
      refine aw_cut (fun s1 => s1 = ⟨106, [(0, some (.pv (.vs 7 (List.map eGClass a0)))), (3, some (.pv (.int .i64 x254))), (4, some (.pv (.int .i64 x255))), (5, some (.lp 0 0)), (45, some (.pv (.bool x520)))], [(0, some (.box 56 (bxv (eGClass y514))))], 1, [], [], 0, []⟩) ?_ ?_
      · refine aw_region ?_
        refine rmv ?_
        refine rgp (op_len_vs (n := a0.length) rfl rfl (List.length_map ..) Try_slc_22 rfl rfl) ?_
        refine rgp (op_int (k := .i64) (m := (a0.length : Int)) (n := 30) rfl rfl rfl rfl rfl rfl) ?_
        refine rmv ?_
        rcases ite_some hF with ⟨hb516, hF⟩ | ⟨hb516, hF⟩
        · refine rgo_t hb516 ?_
          iterate 3 (refine rgo_t hb516 ?_)
          refine rpt hb516 ?_
          refine rmv ?_
          iterate 4 (refine rgo_t rfl ?_)
          refine rpt rfl ?_
          refine rmv ?_
          iterate 4 (refine rgo_t rfl ?_)
          refine rpt rfl ?_
          refine rmv ?_
          iterate 4 (refine rgo_t rfl ?_)
          refine rpt rfl ?_
          refine reg_nil ?_
          cases hF
          exact post_cut _ rfl (imps [0] ⟨by kernel_rfl, by kernel_rfl, by kernel_rfl, by kernel_rfl, by kernel_rfl, trivial⟩ ⟨by kernel_rfl, trivial⟩)
        refine rgn hb516 (op_field_lp rfl rfl Try_fld_56_1 rfl rfl) ?_
        refine rgn hb516 (op_load_lp (v := .pv (.vs 1 (List.map eS y514.fParams))) rfl rfl rfl rfl Try_one_52 rfl rfl) ?_
        refine rgn hb516 (op_len_vs (n := y514.fParams.length) rfl rfl (List.length_map ..) Try_slc_52 rfl rfl) ?_
        refine rgn hb516 (op_int (k := .i64) (m := (y514.fParams.length : Int)) (n := 20) rfl rfl rfl rfl rfl rfl) ?_
        refine rpf hb516 ?_
        refine rmv ?_
        rcases ite_some hF with ⟨hb517, hF⟩ | ⟨hb517, hF⟩
        · refine rgo_t hb517 ?_
          iterate 3 (refine rgo_t hb517 ?_)
          refine rpt hb517 ?_
          refine rmv ?_
          iterate 4 (refine rgo_t rfl ?_)
          refine rpt rfl ?_
          refine rmv ?_
          iterate 4 (refine rgo_t rfl ?_)
          refine rpt rfl ?_
          refine reg_nil ?_
          cases hF
          exact post_cut _ rfl (imps [0] ⟨by kernel_rfl, by kernel_rfl, by kernel_rfl, by kernel_rfl, by kernel_rfl, trivial⟩ ⟨by kernel_rfl, trivial⟩)
        refine rgn hb517 (op_field_lp rfl rfl Try_fld_56_3 rfl rfl) ?_
        refine rgn hb517 (op_load_lp (v := .pv (.vs 2 (List.map eGOwner y514.fAbove))) rfl rfl rfl rfl Try_one_53 rfl rfl) ?_
        refine rgn hb517 (op_len_vs (n := y514.fAbove.length) rfl rfl (List.length_map ..) Try_slc_53 rfl rfl) ?_
        refine rgn hb517 (op_int (k := .i64) (m := (y514.fAbove.length : Int)) (n := 20) rfl rfl rfl rfl rfl rfl) ?_
        refine rpf hb517 ?_
        refine rmv ?_
        rcases ite_some hF with ⟨hb518, hF⟩ | ⟨hb518, hF⟩
        · refine rgo_t hb518 ?_
          iterate 3 (refine rgo_t hb518 ?_)
          refine rpt hb518 ?_
          refine rmv ?_
          iterate 4 (refine rgo_t rfl ?_)
          refine rpt rfl ?_
          refine reg_nil ?_
          cases hF
          exact post_cut _ rfl (imps [0] ⟨by kernel_rfl, by kernel_rfl, by kernel_rfl, by kernel_rfl, by kernel_rfl, trivial⟩ ⟨by kernel_rfl, trivial⟩)
        refine rgn hb518 (op_field_lp rfl rfl Try_fld_56_4 rfl rfl) ?_
        refine rgn hb518 (op_load_lp (v := .pv (.vs 13 (List.map eGVar y514.fFields))) rfl rfl rfl rfl Try_one_30 rfl rfl) ?_
        refine rgn hb518 (op_len_vs (n := y514.fFields.length) rfl rfl (List.length_map ..) Try_slc_30 rfl rfl) ?_
        refine rgn hb518 (op_int (k := .i64) (m := (y514.fFields.length : Int)) (n := 40) rfl rfl rfl rfl rfl rfl) ?_
        refine rpf hb518 ?_
        refine rmv ?_
        rcases ite_some hF with ⟨hb519, hF⟩ | ⟨hb519, hF⟩
        · refine rgo_t hb519 ?_
          iterate 3 (refine rgo_t hb519 ?_)
          refine rpt hb519 ?_
          refine reg_nil ?_
          cases hF
          exact post_cut _ rfl (imps [0] ⟨by kernel_rfl, by kernel_rfl, by kernel_rfl, by kernel_rfl, by kernel_rfl, trivial⟩ ⟨by kernel_rfl, trivial⟩)
        refine rgn hb519 (op_field_lp rfl rfl Try_fld_56_5 rfl rfl) ?_
        refine rgn hb519 (op_load_lp (v := .pv (.vs 17 (List.map eGMethod y514.fMethods))) rfl rfl rfl rfl Try_one_54 rfl rfl) ?_
        refine rgn hb519 (op_len_vs (n := y514.fMethods.length) rfl rfl (List.length_map ..) Try_slc_54 rfl rfl) ?_
        refine rgn hb519 (op_int (k := .i64) (m := (y514.fMethods.length : Int)) (n := 40) rfl rfl rfl rfl rfl rfl) ?_
        refine rpf hb519 ?_
        refine reg_nil ?_
        cases hF
        exact post_cut _ rfl (imps [0] ⟨by kernel_rfl, by kernel_rfl, by kernel_rfl, by kernel_rfl, by kernel_rfl, trivial⟩ ⟨by kernel_rfl, trivial⟩)
      rintro _ rfl
      have hF := hK522
      clear hK522
      refine post_next ?_
      rcases ite_some hF with ⟨hb523, hF⟩ | ⟨hb523, hF⟩
      · refine aw_cond_t rfl hb523 ?_
        refine aw_seq ?_
        refine aw_region ?_
        refine ras ?_
        refine reg_nil ?_
        refine post_imp (s' := ⟨106, [(2, some (.pv (.bool true)))], [], 0, [], [], 0, []⟩) (imps [] ⟨by kernel_rfl, trivial⟩ trivial) ?_
        refine post_next ?_
        refine aw_ret ?_
        refine post_then_ret ?_
        refine post_block_ret ?_
        iterate 2 (refine post_then_ret ?_)
        refine post_lp_ret ?_
        obtain rfl := Option.some.inj hF
        have hF := elim_stop hK768
        refine post_then_ret ?_
        obtain rfl := Option.some.inj hF
        exact prt
      refine aw_cond_f rfl hb523 ?_
      refine aw_skip ?_
      refine post_next ?_
      refine aw_seq ?_
      refine aw_region ?_
      refine ras ?_
      refine reg_nil ?_
      refine post_imp (s' := ⟨106, [(0, some (.pv (.vs 7 (List.map eGClass a0)))), (3, some (.pv (.int .i64 x254))), (4, some (.pv (.int .i64 x255))), (5, some (.lp 0 0)), (6, some (.pv (.int .i64 0)))], [(0, some (.box 56 (bxv (eGClass y514))))], 1, [], [], 0, []⟩) (imps [0] ⟨by kernel_rfl, by kernel_rfl, by kernel_rfl, by kernel_rfl, by kernel_rfl, trivial⟩ ⟨by kernel_rfl, trivial⟩) ?_
      refine post_next ?_
      obtain ⟨lr762, hF, hK763⟩ := bind_some hF
      refine aw_for ((((y514.fMethods.length : Int) : Int) - (0)).toNat + 1) (fun s1 => ∃ q, lr762 = .next q ∧ s1 = ⟨106, [(0, some (.pv (.vs 7 (List.map eGClass a0)))), (3, some (.pv (.int .i64 q))), (4, some (.pv (.int .i64 x255)))], [], 0, [], [], 0, []⟩) ?_ ?_
      · refine rnd_loop (α := Int × Int) (fun q => ⟨106, [(0, some (.pv (.vs 7 (List.map eGClass a0)))), (3, some (.pv (.int .i64 q.1))), (4, some (.pv (.int .i64 x255))), (5, some (.lp 0 0)), (6, some (.pv (.int .i64 q.2)))], [(0, some (.box 56 (bxv (eGClass y514))))], 1, [], [], 0, []⟩) (fun k q => ref10_Heavy_L2 y514 k q.1 q.2 = some lr762) (x254, 0) (imps [0] ⟨by kernel_rfl, by kernel_rfl, by kernel_rfl, by kernel_rfl, by kernel_rfl, trivial⟩ ⟨by kernel_rfl, trivial⟩) hF (fun q h => by cases h) ?_
        clear hF
        rintro k ⟨x601, x602⟩ hF ih
        refine rnd_succ ?_
        iterate 2 (refine aw_seq ?_)
        refine aw_region ?_
        refine rmv ?_
        refine rgp (op_field_lp rfl rfl Try_fld_56_5 rfl rfl) ?_
        refine rgp (op_load_lp (v := .pv (.vs 17 (List.map eGMethod y514.fMethods))) rfl rfl rfl rfl Try_one_54 rfl rfl) ?_
        refine rgp (op_len_vs (n := y514.fMethods.length) rfl rfl (List.length_map ..) Try_slc_54 rfl rfl) ?_
        refine rgp (op_int (k := .i64) (m := x602) (n := (y514.fMethods.length : Int)) rfl rfl rfl rfl rfl rfl) ?_
        refine reg_nil ?_
        refine post_imp (s' := ⟨106, [(0, some (.pv (.vs 7 (List.map eGClass a0)))), (3, some (.pv (.int .i64 x601))), (4, some (.pv (.int .i64 x255))), (5, some (.lp 0 0)), (6, some (.pv (.int .i64 x602))), (50, some (.pv (.bool (decide (x602 < (y514.fMethods.length : Int))))))], [(0, some (.box 56 (bxv (eGClass y514))))], 1, [], [], 0, []⟩) (imps [0] ⟨by kernel_rfl, by kernel_rfl, by kernel_rfl, by kernel_rfl, by kernel_rfl, by kernel_rfl, trivial⟩ ⟨by kernel_rfl, trivial⟩) ?_
        refine post_next ?_
        rcases ite_some hF with ⟨hb682, hF⟩ | ⟨hb682, hF⟩
        · refine aw_cond_t rfl hb682 ?_
          refine aw_skip ?_
          refine post_next ?_
          refine aw_seq ?_
          refine aw_block ?_
          refine aw_seq ?_
          refine aw_region ?_
          refine rgp (op_field_lp rfl rfl Try_fld_56_5 rfl rfl) ?_
          refine rgp (op_load_lp (v := .pv (.vs 17 (List.map eGMethod y514.fMethods))) rfl rfl rfl rfl Try_one_54 rfl rfl) ?_
          refine rmv ?_
          obtain ⟨y685, h686, hF⟩ := bind_some hF
          refine rgp (op_index_vs (k := .i64) rfl rfl rfl (idx_map eGMethod h686) Try_slc_54 rfl rfl) ?_
          refine rgp (op_load_vp_agg (ps := eGMethod y685) rfl rfl rfl rfl Try_agg_33 rfl rfl) ?_
          refine rgp (op_alloc 1 rfl (ps := (eGMethod zGMethod)) rfl Try_zer_33 (by exact ⟨rfl, rfl, rfl, rfl, rfl, rfl, rfl, rfl, rfl, rfl, rfl, rfl, rfl, trivial, trivial, trivial, rfl, trivial⟩) rfl rfl) ?_
          refine rgp (op_store_lp (n := 17) rfl rfl rfl rfl rfl (or_agg Try_agg_33) (by rw [Try_non_33]; rfl) rfl rfl rfl) ?_
          refine reg_nil ?_
          refine post_imp (s' := ⟨106, [(0, some (.pv (.vs 7 (List.map eGClass a0)))), (3, some (.pv (.int .i64 x601))), (4, some (.pv (.int .i64 x255))), (5, some (.lp 0 0)), (6, some (.pv (.int .i64 x602))), (7, some (.lp 1 0))], [(0, some (.box 56 (bxv (eGClass y514)))), (1, some (.box 33 (bxv (eGMethod y685))))], 2, [], [], 0, []⟩) (imps [0, 1] ⟨by kernel_rfl, by kernel_rfl, by kernel_rfl, by kernel_rfl, by kernel_rfl, by kernel_rfl, trivial⟩ ⟨by kernel_rfl, by kernel_rfl, trivial⟩) ?_
          refine post_next ?_
          iterate 2 (refine aw_seq ?_)
          obtain ⟨x692, hF, hK694⟩ := bind_some hF
          refine aw_cut (fun s1 => s1 = ⟨106, [(0, some (.pv (.vs 7 (List.map eGClass a0)))), (3, some (.pv (.int .i64 x601))), (4, some (.pv (.int .i64 x255))), (5, some (.lp 0 0)), (6, some (.pv (.int .i64 x602))), (7, some (.lp 1 0)), (78, some (.pv (.bool x692)))], [(0, some (.box 56 (bxv (eGClass y514)))), (1, some (.box 33 (bxv (eGMethod y685))))], 2, [], [], 0, []⟩) ?_ ?_
          · refine aw_region ?_
            refine rgp (op_field_lp rfl rfl Try_fld_33_3 rfl rfl) ?_
            refine rgp (op_load_lp (v := .pv (.vs 13 (List.map eGVar y685.fParams))) rfl rfl rfl rfl Try_one_30 rfl rfl) ?_
            refine rgp (op_len_vs (n := y685.fParams.length) rfl rfl (List.length_map ..) Try_slc_30 rfl rfl) ?_
            refine rgp (op_int (k := .i64) (m := (y685.fParams.length : Int)) (n := 40) rfl rfl rfl rfl rfl rfl) ?_
            refine rmv ?_
            rcases ite_some hF with ⟨hb687, hF⟩ | ⟨hb687, hF⟩
            · refine rgo_t hb687 ?_
              iterate 3 (refine rgo_t hb687 ?_)
              refine rpt hb687 ?_
              refine rmv ?_
              iterate 4 (refine rgo_t rfl ?_)
              refine rpt rfl ?_
              refine rmv ?_
              iterate 3 (refine rgo_t rfl ?_)
              refine rpt rfl ?_
              refine reg_nil ?_
              cases hF
              exact post_cut _ rfl (imps [0, 1] ⟨by kernel_rfl, by kernel_rfl, by kernel_rfl, by kernel_rfl, by kernel_rfl, by kernel_rfl, by kernel_rfl, trivial⟩ ⟨by kernel_rfl, by kernel_rfl, trivial⟩)
            refine rgn hb687 (op_field_lp rfl rfl Try_fld_33_4 rfl rfl) ?_
            refine rgn hb687 (op_load_lp (v := .pv (.vs 13 (List.map eGVar y685.fLocals))) rfl rfl rfl rfl Try_one_30 rfl rfl) ?_
            refine rgn hb687 (op_len_vs (n := y685.fLocals.length) rfl rfl (List.length_map ..) Try_slc_30 rfl rfl) ?_
            refine rgn hb687 (op_int (k := .i64) (m := (y685.fLocals.length : Int)) (n := 40) rfl rfl rfl rfl rfl rfl) ?_
            refine rpf hb687 ?_
            refine rmv ?_
            rcases ite_some hF with ⟨hb688, hF⟩ | ⟨hb688, hF⟩
            · refine rgo_t hb688 ?_
              iterate 3 (refine rgo_t hb688 ?_)
              refine rpt hb688 ?_
              refine rmv ?_
              iterate 3 (refine rgo_t rfl ?_)
              refine rpt rfl ?_
              refine reg_nil ?_
              cases hF
              exact post_cut _ rfl (imps [0, 1] ⟨by kernel_rfl, by kernel_rfl, by kernel_rfl, by kernel_rfl, by kernel_rfl, by kernel_rfl, by kernel_rfl, trivial⟩ ⟨by kernel_rfl, by kernel_rfl, trivial⟩)
            refine rgn hb688 (op_field_lp rfl rfl Try_fld_33_5 rfl rfl) ?_
            refine rgn hb688 (op_load_lp (v := .pv (.vs 23 (eLGStmt y685.fBody))) rfl rfl rfl rfl Try_one_31 rfl rfl) ?_
            refine rgn hb688 (op_len_vs (n := y685.fBody.length) rfl rfl (lenR eLGStmt_map) Try_slc_31 rfl rfl) ?_
            refine rgn hb688 (op_int (k := .i64) (m := (y685.fBody.length : Int)) (n := 500) rfl rfl rfl rfl rfl rfl) ?_
            refine rpf hb688 ?_
            refine rmv ?_
            rcases ite_some hF with ⟨hb689, hF⟩ | ⟨hb689, hF⟩
            · refine rgo_t hb689 ?_
              iterate 2 (refine rgo_t hb689 ?_)
              refine rpt hb689 ?_
              refine reg_nil ?_
              cases hF
              exact post_cut _ rfl (imps [0, 1] ⟨by kernel_rfl, by kernel_rfl, by kernel_rfl, by kernel_rfl, by kernel_rfl, by kernel_rfl, by kernel_rfl, trivial⟩ ⟨by kernel_rfl, by kernel_rfl, trivial⟩)
            refine rgn hb689 (op_load_lp_agg (ps := eGMethod y685) rfl rfl rfl rfl rfl rfl Try_agg_33 rfl rfl) ?_
            obtain ⟨y690, h691, hF⟩ := bind_some hF
            refine rgn hb689 (op_call 2 rfl (caps := []) (args := [.agg (eGMethod y685)]) (rs := [.p (.int .i64 y690)]) rfl rfl rfl Try_cal_38 (ref10_uniques_ok h691) rfl rfl rfl) ?_
            refine rgn hb689 (op_int (k := .i64) (m := y690) (n := 8) rfl rfl rfl rfl rfl rfl) ?_
            refine rpf hb689 ?_
            refine reg_nil ?_
            cases hF
            exact post_cut _ rfl (imps [0, 1] ⟨by kernel_rfl, by kernel_rfl, by kernel_rfl, by kernel_rfl, by kernel_rfl, by kernel_rfl, by kernel_rfl, trivial⟩ ⟨by kernel_rfl, by kernel_rfl, trivial⟩)
          rintro _ rfl
          have hF := hK694
          clear hK694
          refine post_next ?_
          rcases ite_some hF with ⟨hb695, hF⟩ | ⟨hb695, hF⟩
          · refine aw_cond_t rfl hb695 ?_
            refine aw_seq ?_
            refine aw_region ?_
            refine ras ?_
            refine reg_nil ?_
            refine post_imp (s' := ⟨106, [(2, some (.pv (.bool true)))], [], 0, [], [], 0, []⟩) (imps [] ⟨by kernel_rfl, trivial⟩ trivial) ?_
            refine post_next ?_
            refine aw_ret ?_
            refine post_then_ret ?_
            refine post_block_ret ?_
            iterate 2 (refine post_then_ret ?_)
            refine post_lp_ret ?_
            obtain rfl := Option.some.inj hF
            have hF := elim_stop hK763
            refine post_block_ret ?_
            iterate 2 (refine post_then_ret ?_)
            refine post_lp_ret ?_
            obtain rfl := Option.some.inj hF
            have hF := elim_stop hK768
            refine post_then_ret ?_
            obtain rfl := Option.some.inj hF
            exact prt
          refine aw_cond_f rfl hb695 ?_
          refine aw_skip ?_
          refine post_next ?_
          refine aw_seq ?_
          refine aw_region ?_
          refine ras ?_
          refine reg_nil ?_
          refine post_imp (s' := ⟨106, [(0, some (.pv (.vs 7 (List.map eGClass a0)))), (3, some (.pv (.int .i64 x601))), (4, some (.pv (.int .i64 x255))), (5, some (.lp 0 0)), (6, some (.pv (.int .i64 x602))), (7, some (.lp 1 0)), (8, some (.pv (.int .i64 0)))], [(0, some (.box 56 (bxv (eGClass y514)))), (1, some (.box 33 (bxv (eGMethod y685))))], 2, [], [], 0, []⟩) (imps [0, 1] ⟨by kernel_rfl, by kernel_rfl, by kernel_rfl, by kernel_rfl, by kernel_rfl, by kernel_rfl, by kernel_rfl, trivial⟩ ⟨by kernel_rfl, by kernel_rfl, trivial⟩) ?_
          refine post_next ?_
          obtain ⟨lr757, hF, hK758⟩ := bind_some hF
          refine aw_for ((((y685.fBody.length : Int) : Int) - (0)).toNat + 1) (fun s1 => ∃ q, lr757 = .next q ∧ s1 = ⟨106, [(0, some (.pv (.vs 7 (List.map eGClass a0)))), (3, some (.pv (.int .i64 q))), (4, some (.pv (.int .i64 x255))), (5, some (.lp 0 0)), (6, some (.pv (.int .i64 x602)))], [(0, some (.box 56 (bxv (eGClass y514))))], 1, [], [], 0, []⟩) ?_ ?_
          · refine rnd_loop (α := Int × Int) (fun q => ⟨106, [(0, some (.pv (.vs 7 (List.map eGClass a0)))), (3, some (.pv (.int .i64 q.1))), (4, some (.pv (.int .i64 x255))), (5, some (.lp 0 0)), (6, some (.pv (.int .i64 x602))), (7, some (.lp 1 0)), (8, some (.pv (.int .i64 q.2)))], [(0, some (.box 56 (bxv (eGClass y514)))), (1, some (.box 33 (bxv (eGMethod y685))))], 2, [], [], 0, []⟩) (fun k q => ref10_Heavy_L3 y685 k q.1 q.2 = some lr757) (x601, 0) (imps [0, 1] ⟨by kernel_rfl, by kernel_rfl, by kernel_rfl, by kernel_rfl, by kernel_rfl, by kernel_rfl, by kernel_rfl, trivial⟩ ⟨by kernel_rfl, by kernel_rfl, trivial⟩) hF (fun q h => by cases h) ?_
            clear hF
            rintro k ⟨x714, x715⟩ hF ih
            refine rnd_succ ?_
            iterate 2 (refine aw_seq ?_)
            refine aw_region ?_
            refine rmv ?_
            refine rgp (op_field_lp rfl rfl Try_fld_33_5 rfl rfl) ?_
            refine rgp (op_load_lp (v := .pv (.vs 23 (eLGStmt y685.fBody))) rfl rfl rfl rfl Try_one_31 rfl rfl) ?_
            refine rgp (op_len_vs (n := y685.fBody.length) rfl rfl (lenR eLGStmt_map) Try_slc_31 rfl rfl) ?_
            refine rgp (op_int (k := .i64) (m := x715) (n := (y685.fBody.length : Int)) rfl rfl rfl rfl rfl rfl) ?_
            refine reg_nil ?_
            refine post_imp (s' := ⟨106, [(0, some (.pv (.vs 7 (List.map eGClass a0)))), (3, some (.pv (.int .i64 x714))), (4, some (.pv (.int .i64 x255))), (5, some (.lp 0 0)), (6, some (.pv (.int .i64 x602))), (7, some (.lp 1 0)), (8, some (.pv (.int .i64 x715))), (83, some (.pv (.bool (decide (x715 < (y685.fBody.length : Int))))))], [(0, some (.box 56 (bxv (eGClass y514)))), (1, some (.box 33 (bxv (eGMethod y685))))], 2, [], [], 0, []⟩) (imps [0, 1] ⟨by kernel_rfl, by kernel_rfl, by kernel_rfl, by kernel_rfl, by kernel_rfl, by kernel_rfl, by kernel_rfl, by kernel_rfl, trivial⟩ ⟨by kernel_rfl, by kernel_rfl, trivial⟩) ?_
            refine post_next ?_
            rcases ite_some hF with ⟨hb736, hF⟩ | ⟨hb736, hF⟩
            · refine aw_cond_t rfl hb736 ?_
              refine aw_skip ?_
              refine post_next ?_
              refine aw_seq ?_
              refine aw_block ?_
              iterate 2 (refine aw_seq ?_)
              obtain ⟨x742, hF, hK744⟩ := bind_some hF
              refine aw_cut (fun s1 => s1 = ⟨106, [(0, some (.pv (.vs 7 (List.map eGClass a0)))), (3, some (.pv (.int .i64 x714))), (4, some (.pv (.int .i64 x255))), (5, some (.lp 0 0)), (6, some (.pv (.int .i64 x602))), (7, some (.lp 1 0)), (8, some (.pv (.int .i64 x715))), (95, some (.pv (.bool x742)))], [(0, some (.box 56 (bxv (eGClass y514)))), (1, some (.box 33 (bxv (eGMethod y685))))], 2, [], [], 0, []⟩) ?_ ?_
              · refine aw_region ?_
                refine rmv ?_
                refine rgp (op_int (k := .i64) (m := x714) (n := 500) rfl rfl rfl rfl rfl rfl) ?_
                refine rmv ?_
                rcases ite_some hF with ⟨hb737, hF⟩ | ⟨hb737, hF⟩
                · refine rgo_t hb737 ?_
                  iterate 5 (refine rgo_t hb737 ?_)
                  refine rpt hb737 ?_
                  refine reg_nil ?_
                  cases hF
                  exact post_cut _ rfl (imps [0, 1] ⟨by kernel_rfl, by kernel_rfl, by kernel_rfl, by kernel_rfl, by kernel_rfl, by kernel_rfl, by kernel_rfl, by kernel_rfl, trivial⟩ ⟨by kernel_rfl, by kernel_rfl, trivial⟩)
                refine rgn hb737 (op_field_lp rfl rfl Try_fld_33_5 rfl rfl) ?_
                refine rgn hb737 (op_load_lp (v := .pv (.vs 23 (eLGStmt y685.fBody))) rfl rfl rfl rfl Try_one_31 rfl rfl) ?_
                refine rgn hb737 (op_move rfl rfl rfl rfl) ?_
                obtain ⟨y738, h739, hF⟩ := bind_some hF
                refine rgn hb737 (op_index_vs (k := .i64) rfl rfl rfl (idxR eLGStmt_map h739) Try_slc_31 rfl rfl) ?_
                refine rgn hb737 (op_load_vp_agg (ps := eGStmt y738) rfl rfl rfl rfl Try_agg_83 rfl rfl) ?_
                obtain ⟨y740, h741, hF⟩ := bind_some hF
                refine rgn hb737 (op_call 2 rfl (caps := []) (args := [.agg (eGStmt y738), .int .i64 25]) (rs := [.p (.bool y740)]) rfl rfl rfl Try_cal_39 (ref10_much_ok h741) rfl rfl rfl) ?_
                refine rpf hb737 ?_
                refine reg_nil ?_
                cases hF
                exact post_cut _ rfl (imps [0, 1] ⟨by kernel_rfl, by kernel_rfl, by kernel_rfl, by kernel_rfl, by kernel_rfl, by kernel_rfl, by kernel_rfl, by kernel_rfl, trivial⟩ ⟨by kernel_rfl, by kernel_rfl, trivial⟩)
              rintro _ rfl
              have hF := hK744
              clear hK744
              refine post_next ?_
              rcases ite_some hF with ⟨hb745, hF⟩ | ⟨hb745, hF⟩
              · refine aw_cond_t rfl hb745 ?_
                refine aw_seq ?_
                refine aw_region ?_
                refine ras ?_
                refine reg_nil ?_
                refine post_imp (s' := ⟨106, [(2, some (.pv (.bool true)))], [], 0, [], [], 0, []⟩) (imps [] ⟨by kernel_rfl, trivial⟩ trivial) ?_
                refine post_next ?_
                refine aw_ret ?_
                refine post_then_ret ?_
                refine post_block_ret ?_
                iterate 2 (refine post_then_ret ?_)
                refine post_lp_ret ?_
                obtain rfl := Option.some.inj hF
                have hF := elim_stop hK758
                refine post_block_ret ?_
                iterate 2 (refine post_then_ret ?_)
                refine post_lp_ret ?_
                obtain rfl := Option.some.inj hF
                have hF := elim_stop hK763
                refine post_block_ret ?_
                iterate 2 (refine post_then_ret ?_)
                refine post_lp_ret ?_
                obtain rfl := Option.some.inj hF
                have hF := elim_stop hK768
                refine post_then_ret ?_
                obtain rfl := Option.some.inj hF
                exact prt
              refine aw_cond_f rfl hb745 ?_
              refine aw_skip ?_
              refine post_next ?_
              refine aw_region ?_
              refine rmv ?_
              refine rgp (op_field_lp rfl rfl Try_fld_33_5 rfl rfl) ?_
              refine rgp (op_load_lp (v := .pv (.vs 23 (eLGStmt y685.fBody))) rfl rfl rfl rfl Try_one_31 rfl rfl) ?_
              refine rmv ?_
              obtain ⟨y750, h751, hF⟩ := bind_some hF
              refine rgp (op_index_vs (k := .i64) rfl rfl rfl (idxR eLGStmt_map h751) Try_slc_31 rfl rfl) ?_
              refine rgp (op_load_vp_agg (ps := eGStmt y750) rfl rfl rfl rfl Try_agg_83 rfl rfl) ?_
              obtain ⟨y752, h753, hF⟩ := bind_some hF
              refine rgp (op_call 2 rfl (caps := []) (args := [.agg (eGStmt y750)]) (rs := [.p (.int .i64 y752)]) rfl rfl rfl Try_cal_40 (ref08_Size_ok h753) rfl rfl rfl) ?_
              refine rgp (op_int (k := .i64) (m := x714) (n := y752) rfl rfl rfl rfl rfl rfl) ?_
              refine ras ?_
              refine reg_nil ?_
              refine post_imp (s' := ⟨106, [(0, some (.pv (.vs 7 (List.map eGClass a0)))), (3, some (.pv (.int .i64 (w_i64 (x714 + y752))))), (4, some (.pv (.int .i64 x255))), (5, some (.lp 0 0)), (6, some (.pv (.int .i64 x602))), (7, some (.lp 1 0)), (8, some (.pv (.int .i64 x715)))], [(0, some (.box 56 (bxv (eGClass y514)))), (1, some (.box 33 (bxv (eGMethod y685))))], 2, [], [], 0, []⟩) (imps [0, 1] ⟨by kernel_rfl, by kernel_rfl, by kernel_rfl, by kernel_rfl, by kernel_rfl, by kernel_rfl, by kernel_rfl, trivial⟩ ⟨by kernel_rfl, by kernel_rfl, trivial⟩) ?_
              refine post_block_normal ?_
              refine post_next ?_
              refine aw_region ?_
              refine rmv ?_
              refine rgp (op_int (k := .i64) (m := x715) (n := 1) rfl rfl rfl rfl rfl rfl) ?_
              refine ras ?_
              refine reg_nil ?_
              refine post_round ?_
              exact rnd_back (ih (w_i64 (x714 + y752), w_i64 (x715 + 1)) hF) (imps [0, 1] ⟨by kernel_rfl, by kernel_rfl, by kernel_rfl, by kernel_rfl, by kernel_rfl, by kernel_rfl, by kernel_rfl, trivial⟩ ⟨by kernel_rfl, by kernel_rfl, trivial⟩)
            refine aw_cond_f rfl hb736 ?_
            refine aw_exit ?_
            iterate 2 (refine post_then_exit ?_)
            obtain rfl := Option.some.inj hF
            exact post_lp_break _ ⟨_, rfl, rfl⟩ (imps [0] ⟨by kernel_rfl, by kernel_rfl, by kernel_rfl, by kernel_rfl, by kernel_rfl, trivial⟩ ⟨by kernel_rfl, trivial⟩)
          rintro _ ⟨x756, rfl, rfl⟩
          have hF := elim_next hK758
          clear hK758
          refine post_block_normal ?_
          refine post_next ?_
          refine aw_region ?_
          refine rmv ?_
          refine rgp (op_int (k := .i64) (m := x602) (n := 1) rfl rfl rfl rfl rfl rfl) ?_
          refine ras ?_
          refine reg_nil ?_
          refine post_round ?_
          exact rnd_back (ih (x756, w_i64 (x602 + 1)) hF) (imps [0] ⟨by kernel_rfl, by kernel_rfl, by kernel_rfl, by kernel_rfl, by kernel_rfl, trivial⟩ ⟨by kernel_rfl, trivial⟩)
        refine aw_cond_f rfl hb682 ?_
        refine aw_exit ?_
        iterate 2 (refine post_then_exit ?_)
        obtain rfl := Option.some.inj hF
        exact post_lp_break _ ⟨_, rfl, rfl⟩ (imps [] ⟨by kernel_rfl, by kernel_rfl, by kernel_rfl, trivial⟩ trivial)
      rintro _ ⟨x761, rfl, rfl⟩
      have hF := elim_next hK763
      clear hK763
      refine post_block_normal ?_
      refine post_next ?_
      refine aw_region ?_
      refine rmv ?_
      refine rgp (op_int (k := .i64) (m := x255) (n := 1) rfl rfl rfl rfl rfl rfl) ?_
      refine ras ?_
      refine reg_nil ?_
      refine post_round ?_
      exact rnd_back (ih (x761, w_i64 (x255 + 1)) hF) (imps [] ⟨by kernel_rfl, by kernel_rfl, by kernel_rfl, trivial⟩ trivial)
    refine aw_cond_f rfl hb511 ?_
    refine aw_exit ?_
    iterate 2 (refine post_then_exit ?_)
    obtain rfl := Option.some.inj hF
    exact post_lp_break _ ⟨_, rfl, rfl⟩ (imps [] ⟨by kernel_rfl, trivial⟩ trivial)
  rintro _ ⟨x766, rfl, rfl⟩
  have hF := elim_next hK768
  clear hK768
  refine post_next ?_
  refine aw_seq ?_
  refine aw_region ?_
  refine rmv ?_
  refine rgp (op_int (k := .i64) (m := x766) (n := 500) rfl rfl rfl rfl rfl rfl) ?_
  refine ras ?_
  refine reg_nil ?_
  refine post_imp (s' := ⟨106, [(2, some (.pv (.bool (decide (x766 > 500)))))], [], 0, [], [], 0, []⟩) (imps [] ⟨by kernel_rfl, trivial⟩ trivial) ?_
  refine post_next ?_
  refine aw_ret ?_
  obtain rfl := Option.some.inj hF
  exact prt
theorem ref02_Letter_ok {a0 : Int} {r : Bool} (hF : ref02_Letter a0 = some r) : Abs.Fn Try.prog 102 [.int .u8 a0] [.p (.bool r)] := by
  unfold ref02_Letter at hF
  refine fn_of_body (n := 17) Try.func102 rfl rfl rfl ?_
  intro w O
  refine aw_seq ?_
  refine aw_region ?_
  refine ras ?_
  refine reg_nil ?_
  refine post_imp (s' := ⟨17, [(0, some (.pv (.int .u8 a0)))], [], 0, [], [], 0, []⟩) (imps [] ⟨by kernel_rfl, trivial⟩ trivial) ?_
  refine post_next ?_
  refine aw_seq ?_
  refine aw_region ?_
  refine rmv ?_
  refine rgp (op_int (k := .u8) (m := a0) (n := 97) rfl rfl rfl rfl rfl rfl) ?_
  refine rmv ?_
  rcases ite_some hF with ⟨hb1, hF⟩ | ⟨hb1, hF⟩
  · refine rgn hb1 (op_move rfl rfl rfl rfl) ?_
    refine rgn hb1 (op_int (k := .u8) (m := a0) (n := 122) rfl rfl rfl rfl rfl rfl) ?_
    refine rpt hb1 ?_
    refine rmv ?_
    rcases ite_some hF with ⟨hb2, hF⟩ | ⟨hb2, hF⟩
    · refine rgo_t hb2 ?_
      iterate 2 (refine rgo_t hb2 ?_)
      iterate 2 (refine rgu ?_)
      refine rgo_t hb2 ?_
      refine rpt hb2 ?_
      refine ras ?_
      refine reg_nil ?_
      refine post_imp (s' := ⟨17, [(2, some (.pv (.bool true)))], [], 0, [], [], 0, []⟩) (imps [] ⟨by kernel_rfl, trivial⟩ trivial) ?_
      refine post_next ?_
      refine aw_ret ?_
      obtain rfl := Option.some.inj hF
      exact prt
    refine rgn hb2 (op_move rfl rfl rfl rfl) ?_
    refine rgn hb2 (op_int (k := .u8) (m := a0) (n := 65) rfl rfl rfl rfl rfl rfl) ?_
    refine rgn hb2 (op_move rfl rfl rfl rfl) ?_
    rcases ite_some hF with ⟨hb3, hF⟩ | ⟨hb3, hF⟩
    · refine rgn hb3 (op_move rfl rfl rfl rfl) ?_
      refine rgn hb3 (op_int (k := .u8) (m := a0) (n := 90) rfl rfl rfl rfl rfl rfl) ?_
      refine rgn hb2 (op_pick_t rfl rfl hb3 rfl rfl rfl) ?_
      refine rpf hb2 ?_
      refine ras ?_
      refine reg_nil ?_
      refine post_imp (s' := ⟨17, [(2, some (.pv (.bool (decide (a0 ≤ 90)))))], [], 0, [], [], 0, []⟩) (imps [] ⟨by kernel_rfl, trivial⟩ trivial) ?_
      refine post_next ?_
      refine aw_ret ?_
      obtain rfl := Option.some.inj hF
      exact prt
    iterate 2 (refine rgo_f hb3 ?_)
    refine rgn hb2 (op_pick_f rfl rfl hb3 rfl rfl rfl) ?_
    refine rpf hb2 ?_
    refine ras ?_
    refine reg_nil ?_
    refine post_imp (s' := ⟨17, [(2, some (.pv (.bool false)))], [], 0, [], [], 0, []⟩) (imps [] ⟨by kernel_rfl, trivial⟩ trivial) ?_
    refine post_next ?_
    refine aw_ret ?_
    obtain rfl := Option.some.inj hF
    exact prt
  iterate 2 (refine rgo_f hb1 ?_)
  refine rpf hb1 ?_
  refine rmv ?_
  refine rgn rfl (op_move rfl rfl rfl rfl) ?_
  refine rgn rfl (op_int (k := .u8) (m := a0) (n := 65) rfl rfl rfl rfl rfl rfl) ?_
  refine rgn rfl (op_move rfl rfl rfl rfl) ?_
  rcases ite_some hF with ⟨hb4, hF⟩ | ⟨hb4, hF⟩
  · refine rgn hb4 (op_move rfl rfl rfl rfl) ?_
    refine rgn hb4 (op_int (k := .u8) (m := a0) (n := 90) rfl rfl rfl rfl rfl rfl) ?_
    refine rgn rfl (op_pick_t rfl rfl hb4 rfl rfl rfl) ?_
    refine rpf rfl ?_
    refine ras ?_
    refine reg_nil ?_
    refine post_imp (s' := ⟨17, [(2, some (.pv (.bool (decide (a0 ≤ 90)))))], [], 0, [], [], 0, []⟩) (imps [] ⟨by kernel_rfl, trivial⟩ trivial) ?_
    refine post_next ?_
    refine aw_ret ?_
    obtain rfl := Option.some.inj hF
    exact prt
  iterate 2 (refine rgo_f hb4 ?_)
  refine rgn rfl (op_pick_f rfl rfl hb4 rfl rfl rfl) ?_
  refine rpf rfl ?_
  refine ras ?_
  refine reg_nil ?_
  refine post_imp (s' := ⟨17, [(2, some (.pv (.bool false)))], [], 0, [], [], 0, []⟩) (imps [] ⟨by kernel_rfl, trivial⟩ trivial) ?_
  refine post_next ?_
  refine aw_ret ?_
  obtain rfl := Option.some.inj hF
  exact prt
theorem ref02_Words_ok  {r : (List (List UInt8))} (hF : ref02_Words = some r) : Abs.Fn Try.prog 114 [] [.p (.vs 1 (List.map eS r))] := by
  unfold ref02_Words at hF
  refine fn_of_body (n := 2) Try.func114 rfl rfl rfl ?_
  intro w O
  refine aw_seq ?_
  refine aw_region ?_
  refine ras ?_
  refine reg_nil ?_
  refine post_imp (s' := ⟨2, [], [], 0, [], [], 0, []⟩) (imps [] trivial trivial) ?_
  refine post_next ?_
  refine aw_seq ?_
  refine aw_region ?_
  refine rgp (op_lit (rows := List.map eS ([[99, 108, 97, 115, 115], [101, 120, 116, 101, 110, 100, 115], [114, 101, 112], [112, 101, 101, 114], [119, 111, 114, 108, 100], [97, 110, 121], [117, 110, 105, 113, 117, 101], [112, 117, 114, 101], [118, 111, 105, 100], [105, 110, 116], [105, 102], [101, 108, 115, 101], [119, 104, 105, 108, 101], [114, 101, 116, 117, 114, 110], [110, 101, 119], [109, 111, 118, 101], [100, 101, 108, 101, 116, 101], [116, 104, 105, 115], [110, 117, 108, 108], [105, 110, 112, 117, 116], [110, 105, 108], [115, 97, 109, 101], [99, 97, 115, 116]] : List (List UInt8))) (zs := [.str []]) rfl rfl Try_slc_52 Try_zer_9 (by exact ⟨rfl, trivial⟩) rfl rfl rfl rfl rfl rfl rfl rfl) ?_
  refine ras ?_
  refine reg_nil ?_
  refine post_imp (s' := ⟨2, [(0, some (.pv (.vs 1 (List.map eS [[99, 108, 97, 115, 115], [101, 120, 116, 101, 110, 100, 115], [114, 101, 112], [112, 101, 101, 114], [119, 111, 114, 108, 100], [97, 110, 121], [117, 110, 105, 113, 117, 101], [112, 117, 114, 101], [118, 111, 105, 100], [105, 110, 116], [105, 102], [101, 108, 115, 101], [119, 104, 105, 108, 101], [114, 101, 116, 117, 114, 110], [110, 101, 119], [109, 111, 118, 101], [100, 101, 108, 101, 116, 101], [116, 104, 105, 115], [110, 117, 108, 108], [105, 110, 112, 117, 116], [110, 105, 108], [115, 97, 109, 101], [99, 97, 115, 116]]))))], [], 0, [], [], 0, []⟩) (imps [] ⟨by kernel_rfl, trivial⟩ trivial) ?_
  refine post_next ?_
  refine aw_ret ?_
  obtain rfl := Option.some.inj hF
  exact prt
theorem ref02_Find_ok {a0 : List UInt8} {r : Int} (hF : ref02_Find a0 = some r) : Abs.Fn Try.prog 103 [.str a0] [.p (.int .i64 r)] := by
  unfold ref02_Find at hF
  refine fn_of_body (n := 20) Try.func103 rfl rfl rfl ?_
  intro w O
  refine aw_seq ?_
  refine aw_region ?_
  refine ras ?_
  refine reg_nil ?_
  refine post_imp (s' := ⟨20, [(0, some (.pv (.str a0)))], [], 0, [], [], 0, []⟩) (imps [] ⟨by kernel_rfl, trivial⟩ trivial) ?_
  refine post_next ?_
  refine aw_seq ?_
  refine aw_region ?_
  obtain ⟨y3, h4, hF⟩ := bind_some hF
  refine rgp (op_call 0 rfl (caps := []) (args := []) (rs := [.p (.vs 1 (List.map eS y3))]) rfl rfl rfl Try_cal_114 (ref02_Words_ok h4) rfl rfl rfl) ?_
  refine ras ?_
  refine reg_nil ?_
  refine post_imp (s' := ⟨20, [(0, some (.pv (.str a0))), (3, some (.pv (.vs 1 (List.map eS y3))))], [], 0, [], [], 0, []⟩) (imps [] ⟨by kernel_rfl, by kernel_rfl, trivial⟩ trivial) ?_
  refine post_next ?_
  iterate 2 (refine aw_seq ?_)
  refine aw_region ?_
  refine ras ?_
  refine reg_nil ?_
  refine post_imp (s' := ⟨20, [(0, some (.pv (.str a0))), (3, some (.pv (.vs 1 (List.map eS y3)))), (4, some (.pv (.int .i64 0)))], [], 0, [], [], 0, []⟩) (imps [] ⟨by kernel_rfl, by kernel_rfl, by kernel_rfl, trivial⟩ trivial) ?_
  refine post_next ?_
  obtain ⟨lr26, hF, hK27⟩ := bind_some hF
  refine aw_for ((((y3.length : Int) : Int) - (0)).toNat + 1) (fun s1 => ∃ q, lr26 = .next q ∧ s1 = ⟨20, [], [], 0, [], [], 0, []⟩) ?_ ?_
  · refine rnd_loop (α := Int) (fun q => ⟨20, [(0, some (.pv (.str a0))), (3, some (.pv (.vs 1 (List.map eS y3)))), (4, some (.pv (.int .i64 q)))], [], 0, [], [], 0, []⟩) (fun k q => ref02_Find_L1 a0 y3 k q = some lr26) 0 (imps [] ⟨by kernel_rfl, by kernel_rfl, by kernel_rfl, trivial⟩ trivial) hF (fun q h => by cases h) ?_
    clear hF
    rintro k x11 hF ih
    refine rnd_succ ?_
    iterate 2 (refine aw_seq ?_)
    refine aw_region ?_
    iterate 2 (refine rmv ?_)
    refine rgp (op_len_vs (n := y3.length) rfl rfl (List.length_map ..) Try_slc_52 rfl rfl) ?_
    refine rgp (op_int (k := .i64) (m := x11) (n := (y3.length : Int)) rfl rfl rfl rfl rfl rfl) ?_
    refine reg_nil ?_
    refine post_imp (s' := ⟨20, [(0, some (.pv (.str a0))), (3, some (.pv (.vs 1 (List.map eS y3)))), (4, some (.pv (.int .i64 x11))), (9, some (.pv (.bool (decide (x11 < (y3.length : Int))))))], [], 0, [], [], 0, []⟩) (imps [] ⟨by kernel_rfl, by kernel_rfl, by kernel_rfl, by kernel_rfl, trivial⟩ trivial) ?_
    refine post_next ?_
    rcases ite_some hF with ⟨hb19, hF⟩ | ⟨hb19, hF⟩
    · refine aw_cond_t rfl hb19 ?_
      refine aw_skip ?_
      refine post_next ?_
      refine aw_seq ?_
      refine aw_block ?_
      refine aw_seq ?_
      refine aw_region ?_
      iterate 2 (refine rmv ?_)
      obtain ⟨y22, h23, hF⟩ := bind_some hF
      refine rgp (op_index_vs (k := .i64) rfl rfl rfl (idx_map eS h23) Try_slc_52 rfl rfl) ?_
      refine rgp (op_load_vp (p := .str y22) rfl rfl rfl Try_one_9 rfl rfl) ?_
      refine rmv ?_
      refine rgp (op_str rfl rfl rfl rfl rfl rfl) ?_
      refine reg_nil ?_
      refine post_imp (s' := ⟨20, [(0, some (.pv (.str a0))), (3, some (.pv (.vs 1 (List.map eS y3)))), (4, some (.pv (.int .i64 x11))), (17, some (.pv (.bool (y22 == a0))))], [], 0, [], [], 0, []⟩) (imps [] ⟨by kernel_rfl, by kernel_rfl, by kernel_rfl, by kernel_rfl, trivial⟩ trivial) ?_
      refine post_next ?_
      rcases ite_some hF with ⟨hb24, hF⟩ | ⟨hb24, hF⟩
      · refine aw_cond_t rfl hb24 ?_
        refine aw_seq ?_
        refine aw_region ?_
        refine rmv ?_
        refine rgp (op_int (k := .i64) (m := x11) (n := 1) rfl rfl rfl rfl rfl rfl) ?_
        refine ras ?_
        refine reg_nil ?_
        refine post_imp (s' := ⟨20, [(2, some (.pv (.int .i64 (w_i64 (x11 + 1)))))], [], 0, [], [], 0, []⟩) (imps [] ⟨by kernel_rfl, trivial⟩ trivial) ?_
        refine post_next ?_
        refine aw_ret ?_
        refine post_block_ret ?_
        iterate 2 (refine post_then_ret ?_)
        refine post_lp_ret ?_
        obtain rfl := Option.some.inj hF
        have hF := elim_stop hK27
        refine post_then_ret ?_
        obtain rfl := Option.some.inj hF
        exact prt
      refine aw_cond_f rfl hb24 ?_
      refine aw_skip ?_
      refine post_block_normal ?_
      refine post_next ?_
      refine aw_region ?_
      refine rmv ?_
      refine rgp (op_int (k := .i64) (m := x11) (n := 1) rfl rfl rfl rfl rfl rfl) ?_
      refine ras ?_
      refine reg_nil ?_
      refine post_round ?_
      exact rnd_back (ih (w_i64 (x11 + 1)) hF) (imps [] ⟨by kernel_rfl, by kernel_rfl, by kernel_rfl, trivial⟩ trivial)
    refine aw_cond_f rfl hb19 ?_
    refine aw_exit ?_
    iterate 2 (refine post_then_exit ?_)
    obtain rfl := Option.some.inj hF
    exact post_lp_break _ ⟨_, rfl, rfl⟩ (imps [] trivial trivial)
  rintro _ ⟨⟨⟩, rfl, rfl⟩
  have hF := elim_next hK27
  clear hK27
  refine post_next ?_
  refine aw_seq ?_
  refine aw_region ?_
  refine ras ?_
  refine reg_nil ?_
  refine post_imp (s' := ⟨20, [(2, some (.pv (.int .i64 0)))], [], 0, [], [], 0, []⟩) (imps [] ⟨by kernel_rfl, trivial⟩ trivial) ?_
  refine post_next ?_
  refine aw_ret ?_
  obtain rfl := Option.some.inj hF
  exact prt
theorem ref02_Digit_ok {a0 : Int} {r : Bool} (hF : ref02_Digit a0 = some r) : Abs.Fn Try.prog 104 [.int .u8 a0] [.p (.bool r)] := by
  unfold ref02_Digit at hF
  refine fn_of_body (n := 9) Try.func104 rfl rfl rfl ?_
  intro w O
  refine aw_seq ?_
  refine aw_region ?_
  refine ras ?_
  refine reg_nil ?_
  refine post_imp (s' := ⟨9, [(0, some (.pv (.int .u8 a0)))], [], 0, [], [], 0, []⟩) (imps [] ⟨by kernel_rfl, trivial⟩ trivial) ?_
  refine post_next ?_
  refine aw_seq ?_
  refine aw_region ?_
  refine rmv ?_
  refine rgp (op_int (k := .u8) (m := a0) (n := 48) rfl rfl rfl rfl rfl rfl) ?_
  refine rmv ?_
  rcases ite_some hF with ⟨hb1, hF⟩ | ⟨hb1, hF⟩
  · refine rgn hb1 (op_move rfl rfl rfl rfl) ?_
    refine rgn hb1 (op_int (k := .u8) (m := a0) (n := 57) rfl rfl rfl rfl rfl rfl) ?_
    refine rpt hb1 ?_
    refine ras ?_
    refine reg_nil ?_
    refine post_imp (s' := ⟨9, [(2, some (.pv (.bool (decide (a0 ≤ 57)))))], [], 0, [], [], 0, []⟩) (imps [] ⟨by kernel_rfl, trivial⟩ trivial) ?_
    refine post_next ?_
    refine aw_ret ?_
    obtain rfl := Option.some.inj hF
    exact prt
  iterate 2 (refine rgo_f hb1 ?_)
  refine rpf hb1 ?_
  refine ras ?_
  refine reg_nil ?_
  refine post_imp (s' := ⟨9, [(2, some (.pv (.bool false)))], [], 0, [], [], 0, []⟩) (imps [] ⟨by kernel_rfl, trivial⟩ trivial) ?_
  refine post_next ?_
  refine aw_ret ?_
  obtain rfl := Option.some.inj hF
  exact prt
theorem ref02_Name_ok {a0 : List UInt8} {r : Bool} (hF : ref02_Name a0 = some r) : Abs.Fn Try.prog 89 [.str a0] [.p (.bool r)] := by
  unfold ref02_Name at hF
  refine fn_of_body (n := 41) Try.func89 rfl rfl rfl ?_
  intro w O
  refine aw_seq ?_
  refine aw_region ?_
  refine ras ?_
  refine reg_nil ?_
  refine post_imp (s' := ⟨41, [(0, some (.pv (.str a0)))], [], 0, [], [], 0, []⟩) (imps [] ⟨by kernel_rfl, trivial⟩ trivial) ?_
  refine post_next ?_
  iterate 2 (refine aw_seq ?_)
  obtain ⟨x10, hF, hK12⟩ := bind_some hF
  refine aw_cut (fun s1 => s1 = ⟨41, [(0, some (.pv (.str a0))), (22, some (.pv (.bool x10)))], [], 0, [], [], 0, []⟩) ?_ ?_
  · refine aw_region ?_
    refine rmv ?_
    refine rgp (op_len_str rfl rfl Try_und_9 rfl rfl) ?_
    refine rgp (op_int (k := .i64) (m := (a0.length : Int)) (n := 1) rfl rfl rfl rfl rfl rfl) ?_
    refine rmv ?_
    rcases ite_some hF with ⟨hb1, hF⟩ | ⟨hb1, hF⟩
    · refine rgo_t hb1 ?_
      iterate 2 (refine rgo_t hb1 ?_)
      refine rpt hb1 ?_
      refine rmv ?_
      iterate 4 (refine rgo_t rfl ?_)
      refine rpt rfl ?_
      refine rmv ?_
      iterate 3 (refine rgo_t rfl ?_)
      refine rpt rfl ?_
      refine reg_nil ?_
      cases hF
      exact post_cut _ rfl (imps [] ⟨by kernel_rfl, by kernel_rfl, trivial⟩ trivial)
    refine rgn hb1 (op_move rfl rfl rfl rfl) ?_
    refine rgn hb1 (op_len_str rfl rfl Try_und_9 rfl rfl) ?_
    refine rgn hb1 (op_int (k := .i64) (m := (a0.length : Int)) (n := 20) rfl rfl rfl rfl rfl rfl) ?_
    refine rpf hb1 ?_
    refine rmv ?_
    rcases ite_some hF with ⟨hb2, hF⟩ | ⟨hb2, hF⟩
    · refine rgo_t hb2 ?_
      iterate 3 (refine rgo_t hb2 ?_)
      refine rpt hb2 ?_
      refine rmv ?_
      iterate 3 (refine rgo_t rfl ?_)
      refine rpt rfl ?_
      refine reg_nil ?_
      cases hF
      exact post_cut _ rfl (imps [] ⟨by kernel_rfl, by kernel_rfl, trivial⟩ trivial)
    refine rgn hb2 (op_move rfl rfl rfl rfl) ?_
    obtain ⟨y3, h4, hF⟩ := bind_some hF
    refine rgn hb2 (op_index_str (k := .i64) rfl rfl rfl h4 Try_und_9 rfl rfl) ?_
    obtain ⟨y5, h6, hF⟩ := bind_some hF
    refine rgn hb2 (op_call 0 rfl (caps := []) (args := [.int .u8 (y3.toNat : Int)]) (rs := [.p (.bool y5)]) rfl rfl rfl Try_cal_102 (ref02_Letter_ok h6) rfl rfl rfl) ?_
    refine rgn hb2 (op_not rfl rfl rfl rfl) ?_
    refine rpf hb2 ?_
    refine rmv ?_
    rcases ite_some hF with ⟨hb7, hF⟩ | ⟨hb7, hF⟩
    · refine rgo_t hb7 ?_
      iterate 2 (refine rgo_t hb7 ?_)
      refine rpt hb7 ?_
      refine reg_nil ?_
      cases hF
      exact post_cut _ rfl (imps [] ⟨by kernel_rfl, by kernel_rfl, trivial⟩ trivial)
    refine rgn hb7 (op_move rfl rfl rfl rfl) ?_
    obtain ⟨y8, h9, hF⟩ := bind_some hF
    refine rgn hb7 (op_call 0 rfl (caps := []) (args := [.str a0]) (rs := [.p (.int .i64 y8)]) rfl rfl rfl Try_cal_103 (ref02_Find_ok h9) rfl rfl rfl) ?_
    refine rgn hb7 (op_int (k := .i64) (m := y8) (n := 0) rfl rfl rfl rfl rfl rfl) ?_
    refine rpf hb7 ?_
    refine reg_nil ?_
    cases hF
    exact post_cut _ rfl (imps [] ⟨by kernel_rfl, by kernel_rfl, trivial⟩ trivial)
  rintro _ rfl
  have hF := hK12
  clear hK12
  refine post_next ?_
  rcases ite_some hF with ⟨hb13, hF⟩ | ⟨hb13, hF⟩
  · refine aw_cond_t rfl hb13 ?_
    refine aw_seq ?_
    refine aw_region ?_
    refine ras ?_
    refine reg_nil ?_
    refine post_imp (s' := ⟨41, [(2, some (.pv (.bool false)))], [], 0, [], [], 0, []⟩) (imps [] ⟨by kernel_rfl, trivial⟩ trivial) ?_
    refine post_next ?_
    refine aw_ret ?_
    refine post_then_ret ?_
    obtain rfl := Option.some.inj hF
    exact prt
  refine aw_cond_f rfl hb13 ?_
  refine aw_skip ?_
  refine post_next ?_
  iterate 2 (refine aw_seq ?_)
  refine aw_region ?_
  refine ras ?_
  refine reg_nil ?_
  refine post_imp (s' := ⟨41, [(0, some (.pv (.str a0))), (3, some (.pv (.int .i64 0)))], [], 0, [], [], 0, []⟩) (imps [] ⟨by kernel_rfl, by kernel_rfl, trivial⟩ trivial) ?_
  refine post_next ?_
  obtain ⟨lr71, hF, hK72⟩ := bind_some hF
  refine aw_for ((((a0.length : Int) : Int) - (0)).toNat + 1) (fun s1 => ∃ q, lr71 = .next q ∧ s1 = ⟨41, [], [], 0, [], [], 0, []⟩) ?_ ?_
  · refine rnd_loop (α := Int) (fun q => ⟨41, [(0, some (.pv (.str a0))), (3, some (.pv (.int .i64 q)))], [], 0, [], [], 0, []⟩) (fun k q => ref02_Name_L1 a0 k q = some lr71) 0 (imps [] ⟨by kernel_rfl, by kernel_rfl, trivial⟩ trivial) hF (fun q h => by cases h) ?_
    clear hF
    rintro k x32 hF ih
    refine rnd_succ ?_
    iterate 2 (refine aw_seq ?_)
    refine aw_region ?_
    iterate 2 (refine rmv ?_)
    refine rgp (op_len_str rfl rfl Try_und_9 rfl rfl) ?_
    refine rgp (op_int (k := .i64) (m := x32) (n := (a0.length : Int)) rfl rfl rfl rfl rfl rfl) ?_
    refine reg_nil ?_
    refine post_imp (s' := ⟨41, [(0, some (.pv (.str a0))), (3, some (.pv (.int .i64 x32))), (26, some (.pv (.bool (decide (x32 < (a0.length : Int))))))], [], 0, [], [], 0, []⟩) (imps [] ⟨by kernel_rfl, by kernel_rfl, by kernel_rfl, trivial⟩ trivial) ?_
    refine post_next ?_
    rcases ite_some hF with ⟨hb52, hF⟩ | ⟨hb52, hF⟩
    · refine aw_cond_t rfl hb52 ?_
      refine aw_skip ?_
      refine post_next ?_
      refine aw_seq ?_
      refine aw_block ?_
      refine aw_seq ?_
      obtain ⟨x66, hF, hK68⟩ := bind_some hF
      refine aw_cut (fun s1 => s1 = ⟨41, [(0, some (.pv (.str a0))), (3, some (.pv (.int .i64 x32))), (40, some (.pv (.bool x66)))], [], 0, [], [], 0, []⟩) ?_ ?_
      · refine aw_region ?_
        iterate 2 (refine rmv ?_)
        obtain ⟨y57, h58, hF⟩ := bind_some hF
        refine rgp (op_index_str (k := .i64) rfl rfl rfl h58 Try_und_9 rfl rfl) ?_
        obtain ⟨y59, h60, hF⟩ := bind_some hF
        refine rgp (op_call 0 rfl (caps := []) (args := [.int .u8 (y57.toNat : Int)]) (rs := [.p (.bool y59)]) rfl rfl rfl Try_cal_102 (ref02_Letter_ok h60) rfl rfl rfl) ?_
        refine rgp (op_not rfl rfl rfl rfl) ?_
        refine rmv ?_
        rcases ite_some hF with ⟨hb61, hF⟩ | ⟨hb61, hF⟩
        · refine rgn hb61 (op_move rfl rfl rfl rfl) ?_
          refine rgn hb61 (op_move rfl rfl rfl rfl) ?_
          obtain ⟨y62, h63, hF⟩ := bind_some hF
          refine rgn hb61 (op_index_str (k := .i64) rfl rfl rfl h63 Try_und_9 rfl rfl) ?_
          obtain ⟨y64, h65, hF⟩ := bind_some hF
          refine rgn hb61 (op_call 0 rfl (caps := []) (args := [.int .u8 (y62.toNat : Int)]) (rs := [.p (.bool y64)]) rfl rfl rfl Try_cal_104 (ref02_Digit_ok h65) rfl rfl rfl) ?_
          refine rgn hb61 (op_not rfl rfl rfl rfl) ?_
          refine rpt hb61 ?_
          refine reg_nil ?_
          cases hF
          exact post_cut _ rfl (imps [] ⟨by kernel_rfl, by kernel_rfl, by kernel_rfl, trivial⟩ trivial)
        iterate 5 (refine rgo_f hb61 ?_)
        refine rpf hb61 ?_
        refine reg_nil ?_
        cases hF
        exact post_cut _ rfl (imps [] ⟨by kernel_rfl, by kernel_rfl, by kernel_rfl, trivial⟩ trivial)
      rintro _ rfl
      have hF := hK68
      clear hK68
      refine post_next ?_
      rcases ite_some hF with ⟨hb69, hF⟩ | ⟨hb69, hF⟩
      · refine aw_cond_t rfl hb69 ?_
        refine aw_seq ?_
        refine aw_region ?_
        refine ras ?_
        refine reg_nil ?_
        refine post_imp (s' := ⟨41, [(2, some (.pv (.bool false)))], [], 0, [], [], 0, []⟩) (imps [] ⟨by kernel_rfl, trivial⟩ trivial) ?_
        refine post_next ?_
        refine aw_ret ?_
        refine post_block_ret ?_
        iterate 2 (refine post_then_ret ?_)
        refine post_lp_ret ?_
        obtain rfl := Option.some.inj hF
        have hF := elim_stop hK72
        refine post_then_ret ?_
        obtain rfl := Option.some.inj hF
        exact prt
      refine aw_cond_f rfl hb69 ?_
      refine aw_skip ?_
      refine post_block_normal ?_
      refine post_next ?_
      refine aw_region ?_
      refine rmv ?_
      refine rgp (op_int (k := .i64) (m := x32) (n := 1) rfl rfl rfl rfl rfl rfl) ?_
      refine ras ?_
      refine reg_nil ?_
      refine post_round ?_
      exact rnd_back (ih (w_i64 (x32 + 1)) hF) (imps [] ⟨by kernel_rfl, by kernel_rfl, trivial⟩ trivial)
    refine aw_cond_f rfl hb52 ?_
    refine aw_exit ?_
    iterate 2 (refine post_then_exit ?_)
    obtain rfl := Option.some.inj hF
    exact post_lp_break _ ⟨_, rfl, rfl⟩ (imps [] trivial trivial)
  rintro _ ⟨⟨⟩, rfl, rfl⟩
  have hF := elim_next hK72
  clear hK72
  refine post_next ?_
  refine aw_seq ?_
  refine aw_region ?_
  refine ras ?_
  refine reg_nil ?_
  refine post_imp (s' := ⟨41, [(2, some (.pv (.bool true)))], [], 0, [], [], 0, []⟩) (imps [] ⟨by kernel_rfl, trivial⟩ trivial) ?_
  refine post_next ?_
  refine aw_ret ?_
  obtain rfl := Option.some.inj hF
  exact prt
theorem ref04_Right_ok {a0 : GOwner} {a1 : Int} {r : Bool} (hF : ref04_Right a0 a1 = some r) : Abs.Fn Try.prog 90 [.agg (eGOwner a0), .int .i64 a1] [.p (.bool r)] := by
  unfold ref04_Right at hF
  refine fn_of_body (n := 51) Try.func90 rfl rfl rfl ?_
  intro w O
  refine aw_seq ?_
  refine aw_region ?_
  refine rgp (op_box 0 rfl rfl rfl rfl rfl rfl) ?_
  refine ras ?_
  refine reg_nil ?_
  refine post_imp (s' := ⟨51, [(1, some (.pv (.int .i64 a1))), (2, some (.lp 0 0))], [(0, some (.box 26 (bxv (eGOwner a0))))], 1, [], [], 0, []⟩) (imps [0] ⟨by kernel_rfl, by kernel_rfl, trivial⟩ ⟨by kernel_rfl, trivial⟩) ?_
  refine post_next ?_
  iterate 2 (refine aw_seq ?_)
  refine aw_region ?_
  refine rgp (op_field_lp rfl rfl Try_fld_26_0 rfl rfl) ?_
  refine rgp (op_load_lp (v := .pv (.int .i64 a0.fKind)) rfl rfl rfl rfl Try_one_3 rfl rfl) ?_
  refine rgp (op_int (k := .i64) (m := a0.fKind) (n := 3) rfl rfl rfl rfl rfl rfl) ?_
  refine reg_nil ?_
  refine post_imp (s' := ⟨51, [(1, some (.pv (.int .i64 a1))), (2, some (.lp 0 0)), (7, some (.pv (.bool (a0.fKind == 3))))], [(0, some (.box 26 (bxv (eGOwner a0))))], 1, [], [], 0, []⟩) (imps [0] ⟨by kernel_rfl, by kernel_rfl, by kernel_rfl, trivial⟩ ⟨by kernel_rfl, trivial⟩) ?_
  refine post_next ?_
  rcases ite_some hF with ⟨hb1, hF⟩ | ⟨hb1, hF⟩
  · refine aw_cond_t rfl hb1 ?_
    refine aw_seq ?_
    refine aw_region ?_
    refine rgp (op_field_lp rfl rfl Try_fld_26_1 rfl rfl) ?_
    refine rgp (op_load_lp (v := .pv (.int .i64 a0.fN)) rfl rfl rfl rfl Try_one_3 rfl rfl) ?_
    refine rgp (op_int (k := .i64) (m := a0.fN) (n := 1) rfl rfl rfl rfl rfl rfl) ?_
    refine rmv ?_
    rcases ite_some hF with ⟨hb2, hF⟩ | ⟨hb2, hF⟩
    · refine rgn hb2 (op_field_lp rfl rfl Try_fld_26_1 rfl rfl) ?_
      refine rgn hb2 (op_load_lp (v := .pv (.int .i64 a0.fN)) rfl rfl rfl rfl Try_one_3 rfl rfl) ?_
      refine rgn hb2 (op_move rfl rfl rfl rfl) ?_
      refine rgn hb2 (op_int (k := .i64) (m := a0.fN) (n := a1) rfl rfl rfl rfl rfl rfl) ?_
      refine rpt hb2 ?_
      refine ras ?_
      refine reg_nil ?_
      refine post_imp (s' := ⟨51, [(4, some (.pv (.bool (decide (a0.fN ≤ a1)))))], [], 0, [], [], 0, []⟩) (imps [] ⟨by kernel_rfl, trivial⟩ trivial) ?_
      refine post_next ?_
      refine aw_ret ?_
      refine post_then_ret ?_
      obtain rfl := Option.some.inj hF
      exact prt
    iterate 4 (refine rgo_f hb2 ?_)
    refine rpf hb2 ?_
    refine ras ?_
    refine reg_nil ?_
    refine post_imp (s' := ⟨51, [(4, some (.pv (.bool false)))], [], 0, [], [], 0, []⟩) (imps [] ⟨by kernel_rfl, trivial⟩ trivial) ?_
    refine post_next ?_
    refine aw_ret ?_
    refine post_then_ret ?_
    obtain rfl := Option.some.inj hF
    exact prt
  refine aw_cond_f rfl hb1 ?_
  refine aw_skip ?_
  refine post_next ?_
  iterate 2 (refine aw_seq ?_)
  refine aw_region ?_
  refine rgp (op_field_lp rfl rfl Try_fld_26_0 rfl rfl) ?_
  refine rgp (op_load_lp (v := .pv (.int .i64 a0.fKind)) rfl rfl rfl rfl Try_one_3 rfl rfl) ?_
  refine rgp (op_int (k := .i64) (m := a0.fKind) (n := 7) rfl rfl rfl rfl rfl rfl) ?_
  refine reg_nil ?_
  refine post_imp (s' := ⟨51, [(2, some (.lp 0 0)), (19, some (.pv (.bool (a0.fKind == 7))))], [(0, some (.box 26 (bxv (eGOwner a0))))], 1, [], [], 0, []⟩) (imps [0] ⟨by kernel_rfl, by kernel_rfl, trivial⟩ ⟨by kernel_rfl, trivial⟩) ?_
  refine post_next ?_
  rcases ite_some hF with ⟨hb3, hF⟩ | ⟨hb3, hF⟩
  · refine aw_cond_t rfl hb3 ?_
    refine aw_seq ?_
    refine aw_region ?_
    refine rgp (op_field_lp rfl rfl Try_fld_26_1 rfl rfl) ?_
    refine rgp (op_load_lp (v := .pv (.int .i64 a0.fN)) rfl rfl rfl rfl Try_one_3 rfl rfl) ?_
    refine rgp (op_int (k := .i64) (m := a0.fN) (n := 0) rfl rfl rfl rfl rfl rfl) ?_
    refine ras ?_
    refine reg_nil ?_
    refine post_imp (s' := ⟨51, [(4, some (.pv (.bool (decide (a0.fN ≥ 0)))))], [], 0, [], [], 0, []⟩) (imps [] ⟨by kernel_rfl, trivial⟩ trivial) ?_
    refine post_next ?_
    refine aw_ret ?_
    refine post_then_ret ?_
    obtain rfl := Option.some.inj hF
    exact prt
  refine aw_cond_f rfl hb3 ?_
  refine aw_skip ?_
  refine post_next ?_
  refine aw_seq ?_
  refine aw_region ?_
  refine rgp (op_field_lp rfl rfl Try_fld_26_1 rfl rfl) ?_
  refine rgp (op_load_lp (v := .pv (.int .i64 a0.fN)) rfl rfl rfl rfl Try_one_3 rfl rfl) ?_
  refine rgp (op_int (k := .i64) (m := a0.fN) (n := 0) rfl rfl rfl rfl rfl rfl) ?_
  refine rmv ?_
  rcases ite_some hF with ⟨hb4, hF⟩ | ⟨hb4, hF⟩
  · refine rgn hb4 (op_field_lp rfl rfl Try_fld_26_0 rfl rfl) ?_
    refine rgn hb4 (op_load_lp (v := .pv (.int .i64 a0.fKind)) rfl rfl rfl rfl Try_one_3 rfl rfl) ?_
    refine rgn hb4 (op_int (k := .i64) (m := a0.fKind) (n := 1) rfl rfl rfl rfl rfl rfl) ?_
    refine rgn hb4 (op_move rfl rfl rfl rfl) ?_
    rcases ite_some hF with ⟨hb5, hF⟩ | ⟨hb5, hF⟩
    · refine rgo_t hb5 ?_
      iterate 2 (refine rgo_t hb5 ?_)
      refine rgn hb4 (op_pick_t rfl rfl hb5 rfl rfl rfl) ?_
      refine rgn hb4 (op_move rfl rfl rfl rfl) ?_
      iterate 3 (refine rgo_t rfl ?_)
      refine rgn hb4 (op_pick_t rfl rfl rfl rfl rfl rfl) ?_
      refine rgn hb4 (op_move rfl rfl rfl rfl) ?_
      iterate 3 (refine rgo_t rfl ?_)
      refine rgn hb4 (op_pick_t rfl rfl rfl rfl rfl rfl) ?_
      refine rgn hb4 (op_move rfl rfl rfl rfl) ?_
      iterate 3 (refine rgo_t rfl ?_)
      refine rgn hb4 (op_pick_t rfl rfl rfl rfl rfl rfl) ?_
      refine rpt hb4 ?_
      refine ras ?_
      refine reg_nil ?_
      refine post_imp (s' := ⟨51, [(4, some (.pv (.bool true)))], [], 0, [], [], 0, []⟩) (imps [] ⟨by kernel_rfl, trivial⟩ trivial) ?_
      refine post_next ?_
      refine aw_ret ?_
      obtain rfl := Option.some.inj hF
      exact prt
    refine rgn hb5 (op_field_lp rfl rfl Try_fld_26_0 rfl rfl) ?_
    refine rgn hb5 (op_load_lp (v := .pv (.int .i64 a0.fKind)) rfl rfl rfl rfl Try_one_3 rfl rfl) ?_
    refine rgn hb5 (op_int (k := .i64) (m := a0.fKind) (n := 2) rfl rfl rfl rfl rfl rfl) ?_
    refine rgn hb4 (op_pick_f rfl rfl hb5 rfl rfl rfl) ?_
    refine rgn hb4 (op_move rfl rfl rfl rfl) ?_
    rcases ite_some hF with ⟨hb6, hF⟩ | ⟨hb6, hF⟩
    · refine rgo_t hb6 ?_
      iterate 2 (refine rgo_t hb6 ?_)
      refine rgn hb4 (op_pick_t rfl rfl hb6 rfl rfl rfl) ?_
      refine rgn hb4 (op_move rfl rfl rfl rfl) ?_
      iterate 3 (refine rgo_t rfl ?_)
      refine rgn hb4 (op_pick_t rfl rfl rfl rfl rfl rfl) ?_
      refine rgn hb4 (op_move rfl rfl rfl rfl) ?_
      iterate 3 (refine rgo_t rfl ?_)
      refine rgn hb4 (op_pick_t rfl rfl rfl rfl rfl rfl) ?_
      refine rpt hb4 ?_
      refine ras ?_
      refine reg_nil ?_
      refine post_imp (s' := ⟨51, [(4, some (.pv (.bool true)))], [], 0, [], [], 0, []⟩) (imps [] ⟨by kernel_rfl, trivial⟩ trivial) ?_
      refine post_next ?_
      refine aw_ret ?_
      obtain rfl := Option.some.inj hF
      exact prt
    refine rgn hb6 (op_field_lp rfl rfl Try_fld_26_0 rfl rfl) ?_
    refine rgn hb6 (op_load_lp (v := .pv (.int .i64 a0.fKind)) rfl rfl rfl rfl Try_one_3 rfl rfl) ?_
    refine rgn hb6 (op_int (k := .i64) (m := a0.fKind) (n := 4) rfl rfl rfl rfl rfl rfl) ?_
    refine rgn hb4 (op_pick_f rfl rfl hb6 rfl rfl rfl) ?_
    refine rgn hb4 (op_move rfl rfl rfl rfl) ?_
    rcases ite_some hF with ⟨hb7, hF⟩ | ⟨hb7, hF⟩
    · refine rgo_t hb7 ?_
      iterate 2 (refine rgo_t hb7 ?_)
      refine rgn hb4 (op_pick_t rfl rfl hb7 rfl rfl rfl) ?_
      refine rgn hb4 (op_move rfl rfl rfl rfl) ?_
      iterate 3 (refine rgo_t rfl ?_)
      refine rgn hb4 (op_pick_t rfl rfl rfl rfl rfl rfl) ?_
      refine rpt hb4 ?_
      refine ras ?_
      refine reg_nil ?_
      refine post_imp (s' := ⟨51, [(4, some (.pv (.bool true)))], [], 0, [], [], 0, []⟩) (imps [] ⟨by kernel_rfl, trivial⟩ trivial) ?_
      refine post_next ?_
      refine aw_ret ?_
      obtain rfl := Option.some.inj hF
      exact prt
    refine rgn hb7 (op_field_lp rfl rfl Try_fld_26_0 rfl rfl) ?_
    refine rgn hb7 (op_load_lp (v := .pv (.int .i64 a0.fKind)) rfl rfl rfl rfl Try_one_3 rfl rfl) ?_
    refine rgn hb7 (op_int (k := .i64) (m := a0.fKind) (n := 5) rfl rfl rfl rfl rfl rfl) ?_
    refine rgn hb4 (op_pick_f rfl rfl hb7 rfl rfl rfl) ?_
    refine rgn hb4 (op_move rfl rfl rfl rfl) ?_
    rcases ite_some hF with ⟨hb8, hF⟩ | ⟨hb8, hF⟩
    · refine rgo_t hb8 ?_
      iterate 2 (refine rgo_t hb8 ?_)
      refine rgn hb4 (op_pick_t rfl rfl hb8 rfl rfl rfl) ?_
      refine rpt hb4 ?_
      refine ras ?_
      refine reg_nil ?_
      refine post_imp (s' := ⟨51, [(4, some (.pv (.bool true)))], [], 0, [], [], 0, []⟩) (imps [] ⟨by kernel_rfl, trivial⟩ trivial) ?_
      refine post_next ?_
      refine aw_ret ?_
      obtain rfl := Option.some.inj hF
      exact prt
    refine rgn hb8 (op_field_lp rfl rfl Try_fld_26_0 rfl rfl) ?_
    refine rgn hb8 (op_load_lp (v := .pv (.int .i64 a0.fKind)) rfl rfl rfl rfl Try_one_3 rfl rfl) ?_
    refine rgn hb8 (op_int (k := .i64) (m := a0.fKind) (n := 6) rfl rfl rfl rfl rfl rfl) ?_
    refine rgn hb4 (op_pick_f rfl rfl hb8 rfl rfl rfl) ?_
    refine rpt hb4 ?_
    refine ras ?_
    refine reg_nil ?_
    refine post_imp (s' := ⟨51, [(4, some (.pv (.bool (a0.fKind == 6))))], [], 0, [], [], 0, []⟩) (imps [] ⟨by kernel_rfl, trivial⟩ trivial) ?_
    refine post_next ?_
    refine aw_ret ?_
    obtain rfl := Option.some.inj hF
    exact prt
  iterate 4 (refine rgo_f hb4 ?_)
  iterate 3 (refine rgu ?_)
  iterate 2 (refine rgo_f hb4 ?_)
  iterate 3 (refine rgu ?_)
  iterate 2 (refine rgo_f hb4 ?_)
  iterate 3 (refine rgu ?_)
  iterate 2 (refine rgo_f hb4 ?_)
  iterate 3 (refine rgu ?_)
  refine rgo_f hb4 ?_
  refine rpf hb4 ?_
  refine ras ?_
  refine reg_nil ?_
  refine post_imp (s' := ⟨51, [(4, some (.pv (.bool false)))], [], 0, [], [], 0, []⟩) (imps [] ⟨by kernel_rfl, trivial⟩ trivial) ?_
  refine post_next ?_
  refine aw_ret ?_
  obtain rfl := Option.some.inj hF
  exact prt
theorem ref08_Blank_ok {a0 : GStmt} {r : GStmt} (hF : ref08_Blank a0 = some r) : Abs.Fn Try.prog 126 [.agg (eGStmt a0)] [.p (.agg (eGStmt r))] := by
  unfold ref08_Blank at hF
  refine fn_of_body (n := 105) Try.func126 rfl rfl rfl ?_
  intro w O
  refine aw_seq ?_
  refine aw_region ?_
  refine rgp (op_box 0 rfl rfl rfl rfl rfl rfl) ?_
  refine rgp (op_alloc 1 rfl (ps := (eGStmt zGStmt)) rfl Try_zer_83 (by exact ⟨rfl, rfl, rfl, rfl, rfl, rfl, rfl, rfl, rfl, rfl, rfl, rfl, rfl, rfl, rfl, rfl, rfl, rfl, trivial, trivial, trivial, trivial, rfl, trivial⟩) rfl rfl) ?_
  refine reg_nil ?_
  refine post_imp (s' := ⟨105, [(1, some (.lp 0 0)), (2, some (.lp 1 0))], [(0, some (.box 83 (bxv (eGStmt a0)))), (1, some (.box 83 (bxv (eGStmt zGStmt))))], 2, [], [], 0, []⟩) (imps [0, 1] ⟨by kernel_rfl, by kernel_rfl, trivial⟩ ⟨by kernel_rfl, by kernel_rfl, trivial⟩) ?_
  refine post_next ?_
  refine aw_seq ?_
  refine aw_region ?_
  refine rgp (op_field_lp rfl rfl Try_fld_83_0 rfl rfl) ?_
  refine rgp (op_load_lp (v := .pv (.int .i64 a0.fKind)) rfl rfl rfl rfl Try_one_3 rfl rfl) ?_
  refine ras ?_
  refine reg_nil ?_
  refine post_imp (s' := ⟨105, [(1, some (.lp 0 0)), (2, some (.lp 1 0)), (3, some (.pv (.int .i64 a0.fKind)))], [(0, some (.box 83 (bxv (eGStmt a0)))), (1, some (.box 83 (bxv (eGStmt zGStmt))))], 2, [], [], 0, []⟩) (imps [0, 1] ⟨by kernel_rfl, by kernel_rfl, by kernel_rfl, trivial⟩ ⟨by kernel_rfl, by kernel_rfl, trivial⟩) ?_
  refine post_next ?_
  refine aw_seq ?_
  obtain ⟨x10, hF, hK12⟩ := bind_some hF
  refine aw_cut (fun s1 => s1 = ⟨105, [(1, some (.lp 0 0)), (2, some (.lp 1 0)), (3, some (.pv (.int .i64 a0.fKind)))], [(0, some (.box 83 (bxv (eGStmt x10)))), (1, some (.box 83 (bxv (eGStmt zGStmt))))], 2, [], [], 0, []⟩) ?_ ?_
  · refine aw_seq ?_
    obtain ⟨x6, hF, hK8⟩ := bind_some hF
    refine aw_cut (fun s1 => s1 = ⟨105, [(1, some (.lp 0 0)), (2, some (.lp 1 0)), (3, some (.pv (.int .i64 a0.fKind))), (27, some (.pv (.bool x6)))], [(0, some (.box 83 (bxv (eGStmt a0)))), (1, some (.box 83 (bxv (eGStmt zGStmt))))], 2, [], [], 0, []⟩) ?_ ?_
    · refine aw_region ?_
      refine rmv ?_
      refine rgp (op_int (k := .i64) (m := a0.fKind) (n := 1) rfl rfl rfl rfl rfl rfl) ?_
      refine rmv ?_
      rcases ite_some hF with ⟨hb1, hF⟩ | ⟨hb1, hF⟩
      · refine rgo_t hb1 ?_
        refine rgo_t hb1 ?_
        refine rpt hb1 ?_
        refine rmv ?_
        iterate 2 (refine rgo_t rfl ?_)
        refine rpt rfl ?_
        refine rmv ?_
        iterate 2 (refine rgo_t rfl ?_)
        refine rpt rfl ?_
        refine rmv ?_
        iterate 2 (refine rgo_t rfl ?_)
        refine rpt rfl ?_
        refine rmv ?_
        iterate 2 (refine rgo_t rfl ?_)
        refine rpt rfl ?_
        refine reg_nil ?_
        cases hF
        exact post_cut _ rfl (imps [0, 1] ⟨by kernel_rfl, by kernel_rfl, by kernel_rfl, by kernel_rfl, trivial⟩ ⟨by kernel_rfl, by kernel_rfl, trivial⟩)
      refine rgn hb1 (op_move rfl rfl rfl rfl) ?_
      refine rgn hb1 (op_int (k := .i64) (m := a0.fKind) (n := 2) rfl rfl rfl rfl rfl rfl) ?_
      refine rpf hb1 ?_
      refine rmv ?_
      rcases ite_some hF with ⟨hb2, hF⟩ | ⟨hb2, hF⟩
      · refine rgo_t hb2 ?_
        refine rgo_t hb2 ?_
        refine rpt hb2 ?_
        refine rmv ?_
        iterate 2 (refine rgo_t rfl ?_)
        refine rpt rfl ?_
        refine rmv ?_
        iterate 2 (refine rgo_t rfl ?_)
        refine rpt rfl ?_
        refine rmv ?_
        iterate 2 (refine rgo_t rfl ?_)
        refine rpt rfl ?_
        refine reg_nil ?_
        cases hF
        exact post_cut _ rfl (imps [0, 1] ⟨by kernel_rfl, by kernel_rfl, by kernel_rfl, by kernel_rfl, trivial⟩ ⟨by kernel_rfl, by kernel_rfl, trivial⟩)
      refine rgn hb2 (op_move rfl rfl rfl rfl) ?_
      refine rgn hb2 (op_int (k := .i64) (m := a0.fKind) (n := 4) rfl rfl rfl rfl rfl rfl) ?_
      refine rpf hb2 ?_
      refine rmv ?_
      rcases ite_some hF with ⟨hb3, hF⟩ | ⟨hb3, hF⟩
      · refine rgo_t hb3 ?_
        refine rgo_t hb3 ?_
        refine rpt hb3 ?_
        refine rmv ?_
        iterate 2 (refine rgo_t rfl ?_)
        refine rpt rfl ?_
        refine rmv ?_
        iterate 2 (refine rgo_t rfl ?_)
        refine rpt rfl ?_
        refine reg_nil ?_
        cases hF
        exact post_cut _ rfl (imps [0, 1] ⟨by kernel_rfl, by kernel_rfl, by kernel_rfl, by kernel_rfl, trivial⟩ ⟨by kernel_rfl, by kernel_rfl, trivial⟩)
      refine rgn hb3 (op_move rfl rfl rfl rfl) ?_
      refine rgn hb3 (op_int (k := .i64) (m := a0.fKind) (n := 5) rfl rfl rfl rfl rfl rfl) ?_
      refine rpf hb3 ?_
      refine rmv ?_
      rcases ite_some hF with ⟨hb4, hF⟩ | ⟨hb4, hF⟩
      · refine rgo_t hb4 ?_
        refine rgo_t hb4 ?_
        refine rpt hb4 ?_
        refine rmv ?_
        iterate 2 (refine rgo_t rfl ?_)
        refine rpt rfl ?_
        refine reg_nil ?_
        cases hF
        exact post_cut _ rfl (imps [0, 1] ⟨by kernel_rfl, by kernel_rfl, by kernel_rfl, by kernel_rfl, trivial⟩ ⟨by kernel_rfl, by kernel_rfl, trivial⟩)
      refine rgn hb4 (op_move rfl rfl rfl rfl) ?_
      refine rgn hb4 (op_int (k := .i64) (m := a0.fKind) (n := 6) rfl rfl rfl rfl rfl rfl) ?_
      refine rpf hb4 ?_
      refine rmv ?_
      rcases ite_some hF with ⟨hb5, hF⟩ | ⟨hb5, hF⟩
      · refine rgo_t hb5 ?_
        refine rgo_t hb5 ?_
        refine rpt hb5 ?_
        refine reg_nil ?_
        cases hF
        exact post_cut _ rfl (imps [0, 1] ⟨by kernel_rfl, by kernel_rfl, by kernel_rfl, by kernel_rfl, trivial⟩ ⟨by kernel_rfl, by kernel_rfl, trivial⟩)
      refine rgn hb5 (op_move rfl rfl rfl rfl) ?_
      refine rgn hb5 (op_int (k := .i64) (m := a0.fKind) (n := 7) rfl rfl rfl rfl rfl rfl) ?_
      refine rpf hb5 ?_
      refine reg_nil ?_
      cases hF
      exact post_cut _ rfl (imps [0, 1] ⟨by kernel_rfl, by kernel_rfl, by kernel_rfl, by kernel_rfl, trivial⟩ ⟨by kernel_rfl, by kernel_rfl, trivial⟩)
    rintro _ rfl
    have hF := hK8
    clear hK8
    refine post_next ?_
    rcases ite_some hF with ⟨hb9, hF⟩ | ⟨hb9, hF⟩
    · refine aw_cond_t rfl hb9 ?_
      refine aw_region ?_
      refine rgp (op_field_lp rfl rfl Try_fld_83_1 rfl rfl) ?_
      refine rgp (op_store_lp (n := 1) rfl rfl rfl rfl rfl (or_one Try_one_9) (by rw [Try_one_9]; rfl) rfl rfl rfl) ?_
      refine reg_nil ?_
      cases hF
      exact post_cut _ rfl (imps [0, 1] ⟨by kernel_rfl, by kernel_rfl, by kernel_rfl, trivial⟩ ⟨by kernel_rfl, by kernel_rfl, trivial⟩)
    refine aw_cond_f rfl hb9 ?_
    refine aw_skip ?_
    cases hF
    exact post_cut _ rfl (imps [0, 1] ⟨by kernel_rfl, by kernel_rfl, by kernel_rfl, trivial⟩ ⟨by kernel_rfl, by kernel_rfl, trivial⟩)
  rintro _ rfl
  have hF := hK12
  clear hK12
  refine post_next ?_
  refine aw_seq ?_
  obtain ⟨x21, hF, hK23⟩ := bind_some hF
  refine aw_cut (fun s1 => s1 = ⟨105, [(1, some (.lp 0 0)), (2, some (.lp 1 0)), (3, some (.pv (.int .i64 a0.fKind)))], [(0, some (.box 83 (bxv (eGStmt x21)))), (1, some (.box 83 (bxv (eGStmt zGStmt))))], 2, [], [], 0, []⟩) ?_ ?_
  · refine aw_seq ?_
    obtain ⟨x17, hF, hK19⟩ := bind_some hF
    refine aw_cut (fun s1 => s1 = ⟨105, [(1, some (.lp 0 0)), (2, some (.lp 1 0)), (3, some (.pv (.int .i64 a0.fKind))), (46, some (.pv (.bool x17)))], [(0, some (.box 83 (bxv (eGStmt x10)))), (1, some (.box 83 (bxv (eGStmt zGStmt))))], 2, [], [], 0, []⟩) ?_ ?_
    · refine aw_region ?_
      refine rmv ?_
      refine rgp (op_int (k := .i64) (m := a0.fKind) (n := 2) rfl rfl rfl rfl rfl rfl) ?_
      refine rmv ?_
      rcases ite_some hF with ⟨hb13, hF⟩ | ⟨hb13, hF⟩
      · refine rgo_t hb13 ?_
        refine rgo_t hb13 ?_
        refine rpt hb13 ?_
        refine rmv ?_
        iterate 2 (refine rgo_t rfl ?_)
        refine rpt rfl ?_
        refine rmv ?_
        iterate 2 (refine rgo_t rfl ?_)
        refine rpt rfl ?_
        refine rmv ?_
        iterate 2 (refine rgo_t rfl ?_)
        refine rpt rfl ?_
        refine reg_nil ?_
        cases hF
        exact post_cut _ rfl (imps [0, 1] ⟨by kernel_rfl, by kernel_rfl, by kernel_rfl, by kernel_rfl, trivial⟩ ⟨by kernel_rfl, by kernel_rfl, trivial⟩)
      refine rgn hb13 (op_move rfl rfl rfl rfl) ?_
      refine rgn hb13 (op_int (k := .i64) (m := a0.fKind) (n := 3) rfl rfl rfl rfl rfl rfl) ?_
      refine rpf hb13 ?_
      refine rmv ?_
      rcases ite_some hF with ⟨hb14, hF⟩ | ⟨hb14, hF⟩
      · refine rgo_t hb14 ?_
        refine rgo_t hb14 ?_
        refine rpt hb14 ?_
        refine rmv ?_
        iterate 2 (refine rgo_t rfl ?_)
        refine rpt rfl ?_
        refine rmv ?_
        iterate 2 (refine rgo_t rfl ?_)
        refine rpt rfl ?_
        refine reg_nil ?_
        cases hF
        exact post_cut _ rfl (imps [0, 1] ⟨by kernel_rfl, by kernel_rfl, by kernel_rfl, by kernel_rfl, trivial⟩ ⟨by kernel_rfl, by kernel_rfl, trivial⟩)
      refine rgn hb14 (op_move rfl rfl rfl rfl) ?_
      refine rgn hb14 (op_int (k := .i64) (m := a0.fKind) (n := 4) rfl rfl rfl rfl rfl rfl) ?_
      refine rpf hb14 ?_
      refine rmv ?_
      rcases ite_some hF with ⟨hb15, hF⟩ | ⟨hb15, hF⟩
      · refine rgo_t hb15 ?_
        refine rgo_t hb15 ?_
        refine rpt hb15 ?_
        refine rmv ?_
        iterate 2 (refine rgo_t rfl ?_)
        refine rpt rfl ?_
        refine reg_nil ?_
        cases hF
        exact post_cut _ rfl (imps [0, 1] ⟨by kernel_rfl, by kernel_rfl, by kernel_rfl, by kernel_rfl, trivial⟩ ⟨by kernel_rfl, by kernel_rfl, trivial⟩)
      refine rgn hb15 (op_move rfl rfl rfl rfl) ?_
      refine rgn hb15 (op_int (k := .i64) (m := a0.fKind) (n := 7) rfl rfl rfl rfl rfl rfl) ?_
      refine rpf hb15 ?_
      refine rmv ?_
      rcases ite_some hF with ⟨hb16, hF⟩ | ⟨hb16, hF⟩
      · refine rgo_t hb16 ?_
        refine rgo_t hb16 ?_
        refine rpt hb16 ?_
        refine reg_nil ?_
        cases hF
        exact post_cut _ rfl (imps [0, 1] ⟨by kernel_rfl, by kernel_rfl, by kernel_rfl, by kernel_rfl, trivial⟩ ⟨by kernel_rfl, by kernel_rfl, trivial⟩)
      refine rgn hb16 (op_move rfl rfl rfl rfl) ?_
      refine rgn hb16 (op_int (k := .i64) (m := a0.fKind) (n := 8) rfl rfl rfl rfl rfl rfl) ?_
      refine rpf hb16 ?_
      refine reg_nil ?_
      cases hF
      exact post_cut _ rfl (imps [0, 1] ⟨by kernel_rfl, by kernel_rfl, by kernel_rfl, by kernel_rfl, trivial⟩ ⟨by kernel_rfl, by kernel_rfl, trivial⟩)
    rintro _ rfl
    have hF := hK19
    clear hK19
    refine post_next ?_
    rcases ite_some hF with ⟨hb20, hF⟩ | ⟨hb20, hF⟩
    · refine aw_cond_t rfl hb20 ?_
      refine aw_region ?_
      refine rgp (op_field_lp rfl rfl Try_fld_83_2 rfl rfl) ?_
      refine rgp (op_store_lp (n := 1) rfl rfl rfl rfl rfl (or_one Try_one_9) (by rw [Try_one_9]; rfl) rfl rfl rfl) ?_
      refine reg_nil ?_
      cases hF
      exact post_cut _ rfl (imps [0, 1] ⟨by kernel_rfl, by kernel_rfl, by kernel_rfl, trivial⟩ ⟨by kernel_rfl, by kernel_rfl, trivial⟩)
    refine aw_cond_f rfl hb20 ?_
    refine aw_skip ?_
    cases hF
    exact post_cut _ rfl (imps [0, 1] ⟨by kernel_rfl, by kernel_rfl, by kernel_rfl, trivial⟩ ⟨by kernel_rfl, by kernel_rfl, trivial⟩)
  rintro _ rfl
  have hF := hK23
  clear hK23
  refine post_next ?_
  refine aw_seq ?_
  obtain ⟨x30, hF, hK32⟩ := bind_some hF
  refine aw_cut (fun s1 => s1 = ⟨105, [(1, some (.lp 0 0)), (2, some (.lp 1 0)), (3, some (.pv (.int .i64 a0.fKind)))], [(0, some (.box 83 (bxv (eGStmt x30)))), (1, some (.box 83 (bxv (eGStmt zGStmt))))], 2, [], [], 0, []⟩) ?_ ?_
  · refine aw_seq ?_
    obtain ⟨x26, hF, hK28⟩ := bind_some hF
    refine aw_cut (fun s1 => s1 = ⟨105, [(1, some (.lp 0 0)), (2, some (.lp 1 0)), (3, some (.pv (.int .i64 a0.fKind))), (57, some (.pv (.bool x26)))], [(0, some (.box 83 (bxv (eGStmt x21)))), (1, some (.box 83 (bxv (eGStmt zGStmt))))], 2, [], [], 0, []⟩) ?_ ?_
    · refine aw_region ?_
      refine rmv ?_
      refine rgp (op_int (k := .i64) (m := a0.fKind) (n := 2) rfl rfl rfl rfl rfl rfl) ?_
      refine rmv ?_
      rcases ite_some hF with ⟨hb24, hF⟩ | ⟨hb24, hF⟩
      · refine rgo_t hb24 ?_
        refine rgo_t hb24 ?_
        refine rpt hb24 ?_
        refine rmv ?_
        iterate 2 (refine rgo_t rfl ?_)
        refine rpt rfl ?_
        refine reg_nil ?_
        cases hF
        exact post_cut _ rfl (imps [0, 1] ⟨by kernel_rfl, by kernel_rfl, by kernel_rfl, by kernel_rfl, trivial⟩ ⟨by kernel_rfl, by kernel_rfl, trivial⟩)
      refine rgn hb24 (op_move rfl rfl rfl rfl) ?_
      refine rgn hb24 (op_int (k := .i64) (m := a0.fKind) (n := 3) rfl rfl rfl rfl rfl rfl) ?_
      refine rpf hb24 ?_
      refine rmv ?_
      rcases ite_some hF with ⟨hb25, hF⟩ | ⟨hb25, hF⟩
      · refine rgo_t hb25 ?_
        refine rgo_t hb25 ?_
        refine rpt hb25 ?_
        refine reg_nil ?_
        cases hF
        exact post_cut _ rfl (imps [0, 1] ⟨by kernel_rfl, by kernel_rfl, by kernel_rfl, by kernel_rfl, trivial⟩ ⟨by kernel_rfl, by kernel_rfl, trivial⟩)
      refine rgn hb25 (op_move rfl rfl rfl rfl) ?_
      refine rgn hb25 (op_int (k := .i64) (m := a0.fKind) (n := 4) rfl rfl rfl rfl rfl rfl) ?_
      refine rpf hb25 ?_
      refine reg_nil ?_
      cases hF
      exact post_cut _ rfl (imps [0, 1] ⟨by kernel_rfl, by kernel_rfl, by kernel_rfl, by kernel_rfl, trivial⟩ ⟨by kernel_rfl, by kernel_rfl, trivial⟩)
    rintro _ rfl
    have hF := hK28
    clear hK28
    refine post_next ?_
    rcases ite_some hF with ⟨hb29, hF⟩ | ⟨hb29, hF⟩
    · refine aw_cond_t rfl hb29 ?_
      refine aw_region ?_
      refine rgp (op_field_lp rfl rfl Try_fld_83_3 rfl rfl) ?_
      refine rgp (op_store_lp (n := 1) rfl rfl rfl rfl rfl (or_one Try_one_9) (by rw [Try_one_9]; rfl) rfl rfl rfl) ?_
      refine reg_nil ?_
      cases hF
      exact post_cut _ rfl (imps [0, 1] ⟨by kernel_rfl, by kernel_rfl, by kernel_rfl, trivial⟩ ⟨by kernel_rfl, by kernel_rfl, trivial⟩)
    refine aw_cond_f rfl hb29 ?_
    refine aw_skip ?_
    cases hF
    exact post_cut _ rfl (imps [0, 1] ⟨by kernel_rfl, by kernel_rfl, by kernel_rfl, trivial⟩ ⟨by kernel_rfl, by kernel_rfl, trivial⟩)
  rintro _ rfl
  have hF := hK32
  clear hK32
  refine post_next ?_
  refine aw_seq ?_
  obtain ⟨x38, hF, hK40⟩ := bind_some hF
  refine aw_cut (fun s1 => s1 = ⟨105, [(1, some (.lp 0 0)), (2, some (.lp 1 0)), (3, some (.pv (.int .i64 a0.fKind)))], [(0, some (.box 83 (bxv (eGStmt x38)))), (1, some (.box 83 (bxv (eGStmt zGStmt))))], 2, [], [], 0, []⟩) ?_ ?_
  · refine aw_seq ?_
    obtain ⟨x34, hF, hK36⟩ := bind_some hF
    refine aw_cut (fun s1 => s1 = ⟨105, [(1, some (.lp 0 0)), (2, some (.lp 1 0)), (3, some (.pv (.int .i64 a0.fKind))), (64, some (.pv (.bool x34)))], [(0, some (.box 83 (bxv (eGStmt x30)))), (1, some (.box 83 (bxv (eGStmt zGStmt))))], 2, [], [], 0, []⟩) ?_ ?_
    · refine aw_region ?_
      refine rmv ?_
      refine rgp (op_int (k := .i64) (m := a0.fKind) (n := 5) rfl rfl rfl rfl rfl rfl) ?_
      refine rmv ?_
      rcases ite_some hF with ⟨hb33, hF⟩ | ⟨hb33, hF⟩
      · refine rgo_t hb33 ?_
        refine rgo_t hb33 ?_
        refine rpt hb33 ?_
        refine reg_nil ?_
        cases hF
        exact post_cut _ rfl (imps [0, 1] ⟨by kernel_rfl, by kernel_rfl, by kernel_rfl, by kernel_rfl, trivial⟩ ⟨by kernel_rfl, by kernel_rfl, trivial⟩)
      refine rgn hb33 (op_move rfl rfl rfl rfl) ?_
      refine rgn hb33 (op_int (k := .i64) (m := a0.fKind) (n := 6) rfl rfl rfl rfl rfl rfl) ?_
      refine rpf hb33 ?_
      refine reg_nil ?_
      cases hF
      exact post_cut _ rfl (imps [0, 1] ⟨by kernel_rfl, by kernel_rfl, by kernel_rfl, by kernel_rfl, trivial⟩ ⟨by kernel_rfl, by kernel_rfl, trivial⟩)
    rintro _ rfl
    have hF := hK36
    clear hK36
    refine post_next ?_
    rcases ite_some hF with ⟨hb37, hF⟩ | ⟨hb37, hF⟩
    · refine aw_cond_t rfl hb37 ?_
      refine aw_region ?_
      refine rgp (op_build (zs := (eGType zGType)) (r := eGType ({ fKind := 0, fClass := [], fN := 0, fOwn := (⟨zGOwner, zGOwner, zGOwner, zGOwner⟩ : A4 GOwner) } : GType)) rfl Try_zer_29 (by exact ⟨rfl, rfl, rfl, rfl, rfl, rfl, rfl, rfl, rfl, rfl, rfl, trivial⟩) Try_plc_29 rfl rfl rfl rfl) ?_
      refine rgp (op_field_lp rfl rfl Try_fld_83_4 rfl rfl) ?_
      refine rgp (op_store_lp (n := 11) rfl rfl rfl rfl rfl (or_agg Try_agg_29) (by rw [Try_non_29]; rfl) rfl rfl rfl) ?_
      refine reg_nil ?_
      cases hF
      exact post_cut _ rfl (imps [0, 1] ⟨by kernel_rfl, by kernel_rfl, by kernel_rfl, trivial⟩ ⟨by kernel_rfl, by kernel_rfl, trivial⟩)
    refine aw_cond_f rfl hb37 ?_
    refine aw_skip ?_
    cases hF
    exact post_cut _ rfl (imps [0, 1] ⟨by kernel_rfl, by kernel_rfl, by kernel_rfl, trivial⟩ ⟨by kernel_rfl, by kernel_rfl, trivial⟩)
  rintro _ rfl
  have hF := hK40
  clear hK40
  refine post_next ?_
  refine aw_seq ?_
  obtain ⟨x50, hF, hK52⟩ := bind_some hF
  refine aw_cut (fun s1 => s1 = ⟨105, [(1, some (.lp 0 0)), (2, some (.lp 1 0)), (3, some (.pv (.int .i64 a0.fKind)))], [(0, some (.box 83 (bxv (eGStmt x50)))), (1, some (.box 83 (bxv (eGStmt zGStmt))))], 2, [], [], 0, []⟩) ?_ ?_
  · refine aw_seq ?_
    obtain ⟨x46, hF, hK48⟩ := bind_some hF
    refine aw_cut (fun s1 => s1 = ⟨105, [(1, some (.lp 0 0)), (2, some (.lp 1 0)), (3, some (.pv (.int .i64 a0.fKind))), (88, some (.pv (.bool x46)))], [(0, some (.box 83 (bxv (eGStmt x38)))), (1, some (.box 83 (bxv (eGStmt zGStmt))))], 2, [], [], 0, []⟩) ?_ ?_
    · refine aw_region ?_
      refine rmv ?_
      refine rgp (op_int (k := .i64) (m := a0.fKind) (n := 1) rfl rfl rfl rfl rfl rfl) ?_
      refine rmv ?_
      rcases ite_some hF with ⟨hb41, hF⟩ | ⟨hb41, hF⟩
      · refine rgo_t hb41 ?_
        refine rgo_t hb41 ?_
        refine rpt hb41 ?_
        refine rmv ?_
        iterate 2 (refine rgo_t rfl ?_)
        refine rpt rfl ?_
        refine rmv ?_
        iterate 2 (refine rgo_t rfl ?_)
        refine rpt rfl ?_
        refine rmv ?_
        iterate 2 (refine rgo_t rfl ?_)
        refine rpt rfl ?_
        refine rmv ?_
        iterate 2 (refine rgo_t rfl ?_)
        refine rpt rfl ?_
        refine reg_nil ?_
        cases hF
        exact post_cut _ rfl (imps [0, 1] ⟨by kernel_rfl, by kernel_rfl, by kernel_rfl, by kernel_rfl, trivial⟩ ⟨by kernel_rfl, by kernel_rfl, trivial⟩)
      refine rgn hb41 (op_move rfl rfl rfl rfl) ?_
      refine rgn hb41 (op_int (k := .i64) (m := a0.fKind) (n := 3) rfl rfl rfl rfl rfl rfl) ?_
      refine rpf hb41 ?_
      refine rmv ?_
      rcases ite_some hF with ⟨hb42, hF⟩ | ⟨hb42, hF⟩
      · refine rgo_t hb42 ?_
        refine rgo_t hb42 ?_
        refine rpt hb42 ?_
        refine rmv ?_
        iterate 2 (refine rgo_t rfl ?_)
        refine rpt rfl ?_
        refine rmv ?_
        iterate 2 (refine rgo_t rfl ?_)
        refine rpt rfl ?_
        refine rmv ?_
        iterate 2 (refine rgo_t rfl ?_)
        refine rpt rfl ?_
        refine reg_nil ?_
        cases hF
        exact post_cut _ rfl (imps [0, 1] ⟨by kernel_rfl, by kernel_rfl, by kernel_rfl, by kernel_rfl, trivial⟩ ⟨by kernel_rfl, by kernel_rfl, trivial⟩)
      refine rgn hb42 (op_move rfl rfl rfl rfl) ?_
      refine rgn hb42 (op_int (k := .i64) (m := a0.fKind) (n := 6) rfl rfl rfl rfl rfl rfl) ?_
      refine rpf hb42 ?_
      refine rmv ?_
      rcases ite_some hF with ⟨hb43, hF⟩ | ⟨hb43, hF⟩
      · refine rgo_t hb43 ?_
        refine rgo_t hb43 ?_
        refine rpt hb43 ?_
        refine rmv ?_
        iterate 2 (refine rgo_t rfl ?_)
        refine rpt rfl ?_
        refine rmv ?_
        iterate 2 (refine rgo_t rfl ?_)
        refine rpt rfl ?_
        refine reg_nil ?_
        cases hF
        exact post_cut _ rfl (imps [0, 1] ⟨by kernel_rfl, by kernel_rfl, by kernel_rfl, by kernel_rfl, trivial⟩ ⟨by kernel_rfl, by kernel_rfl, trivial⟩)
      refine rgn hb43 (op_move rfl rfl rfl rfl) ?_
      refine rgn hb43 (op_int (k := .i64) (m := a0.fKind) (n := 9) rfl rfl rfl rfl rfl rfl) ?_
      refine rpf hb43 ?_
      refine rmv ?_
      rcases ite_some hF with ⟨hb44, hF⟩ | ⟨hb44, hF⟩
      · refine rgo_t hb44 ?_
        refine rgo_t hb44 ?_
        refine rpt hb44 ?_
        refine rmv ?_
        iterate 2 (refine rgo_t rfl ?_)
        refine rpt rfl ?_
        refine reg_nil ?_
        cases hF
        exact post_cut _ rfl (imps [0, 1] ⟨by kernel_rfl, by kernel_rfl, by kernel_rfl, by kernel_rfl, trivial⟩ ⟨by kernel_rfl, by kernel_rfl, trivial⟩)
      refine rgn hb44 (op_move rfl rfl rfl rfl) ?_
      refine rgn hb44 (op_int (k := .i64) (m := a0.fKind) (n := 10) rfl rfl rfl rfl rfl rfl) ?_
      refine rpf hb44 ?_
      refine rmv ?_
      rcases ite_some hF with ⟨hb45, hF⟩ | ⟨hb45, hF⟩
      · refine rgo_t hb45 ?_
        refine rgo_t hb45 ?_
        refine rpt hb45 ?_
        refine reg_nil ?_
        cases hF
        exact post_cut _ rfl (imps [0, 1] ⟨by kernel_rfl, by kernel_rfl, by kernel_rfl, by kernel_rfl, trivial⟩ ⟨by kernel_rfl, by kernel_rfl, trivial⟩)
      refine rgn hb45 (op_move rfl rfl rfl rfl) ?_
      refine rgn hb45 (op_int (k := .i64) (m := a0.fKind) (n := 11) rfl rfl rfl rfl rfl rfl) ?_
      refine rpf hb45 ?_
      refine reg_nil ?_
      cases hF
      exact post_cut _ rfl (imps [0, 1] ⟨by kernel_rfl, by kernel_rfl, by kernel_rfl, by kernel_rfl, trivial⟩ ⟨by kernel_rfl, by kernel_rfl, trivial⟩)
    rintro _ rfl
    have hF := hK48
    clear hK48
    refine post_next ?_
    rcases ite_some hF with ⟨hb49, hF⟩ | ⟨hb49, hF⟩
    · refine aw_cond_t rfl hb49 ?_
      refine aw_region ?_
      refine rgp (op_build (zs := (eGExpr zGExpr)) (r := eGExpr ({ fKind := 0, fNum := 0, fName := [], fKids := [] } : GExpr)) rfl Try_zer_81 (by exact ⟨rfl, rfl, rfl, trivial, trivial⟩) Try_plc_81 rfl rfl rfl rfl) ?_
      refine rgp (op_field_lp rfl rfl Try_fld_83_5 rfl rfl) ?_
      refine rgp (op_store_lp (n := 4) rfl rfl rfl rfl rfl (or_agg Try_agg_81) (by rw [Try_non_81]; rfl) rfl rfl rfl) ?_
      refine reg_nil ?_
      cases hF
      exact post_cut _ rfl (imps [0, 1] ⟨by kernel_rfl, by kernel_rfl, by kernel_rfl, trivial⟩ ⟨by kernel_rfl, by kernel_rfl, trivial⟩)
    refine aw_cond_f rfl hb49 ?_
    refine aw_skip ?_
    cases hF
    exact post_cut _ rfl (imps [0, 1] ⟨by kernel_rfl, by kernel_rfl, by kernel_rfl, trivial⟩ ⟨by kernel_rfl, by kernel_rfl, trivial⟩)
  rintro _ rfl
  have hF := hK52
  clear hK52
  refine post_next ?_
  refine aw_seq ?_
  obtain ⟨x54, hF, hK56⟩ := bind_some hF
  refine aw_cut (fun s1 => s1 = ⟨105, [(1, some (.lp 0 0)), (2, some (.lp 1 0)), (3, some (.pv (.int .i64 a0.fKind)))], [(0, some (.box 83 (bxv (eGStmt x54)))), (1, some (.box 83 (bxv (eGStmt zGStmt))))], 2, [], [], 0, []⟩) ?_ ?_
  · refine aw_seq ?_
    refine aw_region ?_
    refine rmv ?_
    refine rgp (op_int (k := .i64) (m := a0.fKind) (n := 4) rfl rfl rfl rfl rfl rfl) ?_
    refine reg_nil ?_
    refine post_imp (s' := ⟨105, [(1, some (.lp 0 0)), (2, some (.lp 1 0)), (3, some (.pv (.int .i64 a0.fKind))), (92, some (.pv (.bool (a0.fKind == 4))))], [(0, some (.box 83 (bxv (eGStmt x50)))), (1, some (.box 83 (bxv (eGStmt zGStmt))))], 2, [], [], 0, []⟩) (imps [0, 1] ⟨by kernel_rfl, by kernel_rfl, by kernel_rfl, by kernel_rfl, trivial⟩ ⟨by kernel_rfl, by kernel_rfl, trivial⟩) ?_
    refine post_next ?_
    rcases ite_some hF with ⟨hb53, hF⟩ | ⟨hb53, hF⟩
    · refine aw_cond_t rfl hb53 ?_
      refine aw_region ?_
      refine rgp (op_field_lp rfl rfl Try_fld_83_6 rfl rfl) ?_
      refine rgp (op_store_lp (n := 1) rfl rfl rfl rfl rfl (or_one Try_one_79) (by rw [Try_one_79]; rfl) rfl rfl rfl) ?_
      refine reg_imp (imp_nil_cell 0 19 83 4 rfl rfl) ?_
      refine reg_nil ?_
      cases hF
      exact post_cut _ rfl (imps [0, 1] ⟨by kernel_rfl, by kernel_rfl, by kernel_rfl, trivial⟩ ⟨by kernel_rfl, by kernel_rfl, trivial⟩)
    refine aw_cond_f rfl hb53 ?_
    refine aw_skip ?_
    cases hF
    exact post_cut _ rfl (imps [0, 1] ⟨by kernel_rfl, by kernel_rfl, by kernel_rfl, trivial⟩ ⟨by kernel_rfl, by kernel_rfl, trivial⟩)
  rintro _ rfl
  have hF := hK56
  clear hK56
  refine post_next ?_
  refine aw_seq ?_
  obtain ⟨x62, hF, hK64⟩ := bind_some hF
  refine aw_cut (fun s1 => s1 = ⟨105, [(1, some (.lp 0 0)), (2, some (.lp 1 0)), (3, some (.pv (.int .i64 a0.fKind)))], [(0, some (.box 83 (bxv (eGStmt x62)))), (1, some (.box 83 (bxv (eGStmt zGStmt))))], 2, [], [], 0, []⟩) ?_ ?_
  · refine aw_seq ?_
    obtain ⟨x58, hF, hK60⟩ := bind_some hF
    refine aw_cut (fun s1 => s1 = ⟨105, [(1, some (.lp 0 0)), (2, some (.lp 1 0)), (3, some (.pv (.int .i64 a0.fKind))), (99, some (.pv (.bool x58)))], [(0, some (.box 83 (bxv (eGStmt x54)))), (1, some (.box 83 (bxv (eGStmt zGStmt))))], 2, [], [], 0, []⟩) ?_ ?_
    · refine aw_region ?_
      refine rmv ?_
      refine rgp (op_int (k := .i64) (m := a0.fKind) (n := 9) rfl rfl rfl rfl rfl rfl) ?_
      refine rmv ?_
      rcases ite_some hF with ⟨hb57, hF⟩ | ⟨hb57, hF⟩
      · refine rgo_t hb57 ?_
        refine rgo_t hb57 ?_
        refine rpt hb57 ?_
        refine reg_nil ?_
        cases hF
        exact post_cut _ rfl (imps [0, 1] ⟨by kernel_rfl, by kernel_rfl, by kernel_rfl, by kernel_rfl, trivial⟩ ⟨by kernel_rfl, by kernel_rfl, trivial⟩)
      refine rgn hb57 (op_move rfl rfl rfl rfl) ?_
      refine rgn hb57 (op_int (k := .i64) (m := a0.fKind) (n := 10) rfl rfl rfl rfl rfl rfl) ?_
      refine rpf hb57 ?_
      refine reg_nil ?_
      cases hF
      exact post_cut _ rfl (imps [0, 1] ⟨by kernel_rfl, by kernel_rfl, by kernel_rfl, by kernel_rfl, trivial⟩ ⟨by kernel_rfl, by kernel_rfl, trivial⟩)
    rintro _ rfl
    have hF := hK60
    clear hK60
    refine post_next ?_
    rcases ite_some hF with ⟨hb61, hF⟩ | ⟨hb61, hF⟩
    · refine aw_cond_t rfl hb61 ?_
      refine aw_region ?_
      refine rgp (op_field_lp rfl rfl Try_fld_83_7 rfl rfl) ?_
      refine rgp (op_store_lp (n := 1) rfl rfl rfl rfl rfl (or_one Try_one_31) (by rw [Try_one_31]; rfl) rfl rfl rfl) ?_
      refine reg_imp (imp_nil_cell 0 20 83 23 rfl rfl) ?_
      refine reg_nil ?_
      cases hF
      exact post_cut _ rfl (imps [0, 1] ⟨by kernel_rfl, by kernel_rfl, by kernel_rfl, trivial⟩ ⟨by kernel_rfl, by kernel_rfl, trivial⟩)
    refine aw_cond_f rfl hb61 ?_
    refine aw_skip ?_
    cases hF
    exact post_cut _ rfl (imps [0, 1] ⟨by kernel_rfl, by kernel_rfl, by kernel_rfl, trivial⟩ ⟨by kernel_rfl, by kernel_rfl, trivial⟩)
  rintro _ rfl
  have hF := hK64
  clear hK64
  refine post_next ?_
  iterate 2 (refine aw_seq ?_)
  refine aw_region ?_
  refine rmv ?_
  refine rgp (op_int (k := .i64) (m := a0.fKind) (n := 9) rfl rfl rfl rfl rfl rfl) ?_
  refine reg_nil ?_
  refine post_imp (s' := ⟨105, [(1, some (.lp 0 0)), (2, some (.lp 1 0)), (102, some (.pv (.bool (a0.fKind == 9))))], [(0, some (.box 83 (bxv (eGStmt x62)))), (1, some (.box 83 (bxv (eGStmt zGStmt))))], 2, [], [], 0, []⟩) (imps [0, 1] ⟨by kernel_rfl, by kernel_rfl, by kernel_rfl, trivial⟩ ⟨by kernel_rfl, by kernel_rfl, trivial⟩) ?_
  refine post_next ?_
  rcases ite_some hF with ⟨hb65, hF⟩ | ⟨hb65, hF⟩
  · refine aw_cond_t rfl hb65 ?_
    refine aw_region ?_
    refine rgp (op_field_lp rfl rfl Try_fld_83_8 rfl rfl) ?_
    refine rgp (op_store_lp (n := 1) rfl rfl rfl rfl rfl (or_one Try_one_31) (by rw [Try_one_31]; rfl) rfl rfl rfl) ?_
    refine reg_imp (imp_nil_cell 0 21 83 23 rfl rfl) ?_
    refine reg_nil ?_
    refine post_imp (s' := ⟨105, [(1, some (.lp 0 0)), (2, some (.lp 1 0))], [(0, some (.box 83 (bxv (eGStmt ({ x62 with fElse := [] } : GStmt))))), (1, some (.box 83 (bxv (eGStmt zGStmt))))], 2, [], [], 0, []⟩) (imps [0, 1] ⟨by kernel_rfl, by kernel_rfl, trivial⟩ ⟨by kernel_rfl, by kernel_rfl, trivial⟩) ?_
    refine post_next ?_
    refine aw_seq ?_
    refine aw_region ?_
    refine rgp (op_load_lp_agg (ps := eGStmt ({ x62 with fElse := [] } : GStmt)) rfl rfl rfl rfl rfl rfl Try_agg_83 rfl rfl) ?_
    refine rgp (op_store_lp (n := 23) rfl rfl rfl rfl rfl (or_agg Try_agg_83) (by rw [Try_non_83]; rfl) rfl rfl rfl) ?_
    refine reg_nil ?_
    refine post_imp (s' := ⟨105, [(2, some (.lp 0 0))], [(0, some (.box 83 (bxv (eGStmt ({ x62 with fElse := [] } : GStmt)))))], 1, [], [], 0, []⟩) (imps [1] ⟨by kernel_rfl, trivial⟩ ⟨by kernel_rfl, trivial⟩) ?_
    refine post_next ?_
    refine aw_ret ?_
    obtain rfl := Option.some.inj hF
    exact post_ret rfl rfl (.cons _ _ _ _ _ (.agg _ _ _ _ _ 23 _ _ rfl rfl Try_agg_83 rfl rfl rfl) (.p _) .nil) (.inl rfl)
  refine aw_cond_f rfl hb65 ?_
  refine aw_skip ?_
  refine post_next ?_
  refine aw_seq ?_
  refine aw_region ?_
  refine rgp (op_load_lp_agg (ps := eGStmt x62) rfl rfl rfl rfl rfl rfl Try_agg_83 rfl rfl) ?_
  refine rgp (op_store_lp (n := 23) rfl rfl rfl rfl rfl (or_agg Try_agg_83) (by rw [Try_non_83]; rfl) rfl rfl rfl) ?_
  refine reg_nil ?_
  refine post_imp (s' := ⟨105, [(2, some (.lp 0 0))], [(0, some (.box 83 (bxv (eGStmt x62))))], 1, [], [], 0, []⟩) (imps [1] ⟨by kernel_rfl, trivial⟩ ⟨by kernel_rfl, trivial⟩) ?_
  refine post_next ?_
  refine aw_ret ?_
  obtain rfl := Option.some.inj hF
  exact post_ret rfl rfl (.cons _ _ _ _ _ (.agg _ _ _ _ _ 23 _ _ rfl rfl Try_agg_83 rfl rfl rfl) (.p _) .nil) (.inl rfl)
theorem ref06_Same_ring : ∀ n : Nat, (∀ (a0 : GExpr) (a1 : GExpr) (r : Bool), ref06_Same n a0 a1 = some r → Abs.Fn Try.prog 88 [.agg (eGExpr a0), .agg (eGExpr a1)] [.p (.bool r)]) := by
  intro n
  induction n with
  | zero => exact (fun _ _ _ h => by simp [ref06_Same] at h)
  | succ n ih =>
    have ref06_Same_ih := ih
    clear ih
    intro a0 a1 r hF
    unfold ref06_Same at hF
    revert hF ref06_Same_ih
    generalize ref06_Same n = ref06_Same_rec
    intro ref06_Same_ih hF
    refine fn_of_body (n := 53) Try.func88 rfl rfl rfl ?_
    intro w O
    refine aw_seq ?_
    refine aw_region ?_
    refine rgp (op_box 0 rfl rfl rfl rfl rfl rfl) ?_
    refine rgp (op_box 1 rfl rfl rfl rfl rfl rfl) ?_
    refine ras ?_
    refine reg_nil ?_
    refine post_imp (s' := ⟨53, [(2, some (.lp 0 0)), (3, some (.lp 1 0))], [(0, some (.box 81 (bxv (eGExpr a0)))), (1, some (.box 81 (bxv (eGExpr a1))))], 2, [], [], 0, []⟩) (imps [0, 1] ⟨by kernel_rfl, by kernel_rfl, trivial⟩ ⟨by kernel_rfl, by kernel_rfl, trivial⟩) ?_
    refine post_next ?_
    iterate 2 (refine aw_seq ?_)
    obtain ⟨x4, hF, hK6⟩ := bind_some hF
    refine aw_cut (fun s1 => s1 = ⟨53, [(2, some (.lp 0 0)), (3, some (.lp 1 0)), (33, some (.pv (.bool x4)))], [(0, some (.box 81 (bxv (eGExpr a0)))), (1, some (.box 81 (bxv (eGExpr a1))))], 2, [], [], 0, []⟩) ?_ ?_
    · refine aw_region ?_
      refine rgp (op_field_lp rfl rfl Try_fld_81_0 rfl rfl) ?_
      refine rgp (op_load_lp (v := .pv (.int .i64 a0.fKind)) rfl rfl rfl rfl Try_one_3 rfl rfl) ?_
      refine rgp (op_field_lp rfl rfl Try_fld_81_0 rfl rfl) ?_
      refine rgp (op_load_lp (v := .pv (.int .i64 a1.fKind)) rfl rfl rfl rfl Try_one_3 rfl rfl) ?_
      refine rgp (op_int (k := .i64) (m := a0.fKind) (n := a1.fKind) rfl rfl rfl rfl rfl rfl) ?_
      refine rmv ?_
      rcases ite_some hF with ⟨hb1, hF⟩ | ⟨hb1, hF⟩
      · refine rgo_t hb1 ?_
        iterate 4 (refine rgo_t hb1 ?_)
        refine rpt hb1 ?_
        refine rmv ?_
        iterate 5 (refine rgo_t rfl ?_)
        refine rpt rfl ?_
        refine rmv ?_
        iterate 7 (refine rgo_t rfl ?_)
        refine rpt rfl ?_
        refine reg_nil ?_
        cases hF
        exact post_cut _ rfl (imps [0, 1] ⟨by kernel_rfl, by kernel_rfl, by kernel_rfl, trivial⟩ ⟨by kernel_rfl, by kernel_rfl, trivial⟩)
      refine rgn hb1 (op_field_lp rfl rfl Try_fld_81_1 rfl rfl) ?_
      refine rgn hb1 (op_load_lp (v := .pv (.int .i64 a0.fNum)) rfl rfl rfl rfl Try_one_3 rfl rfl) ?_
      refine rgn hb1 (op_field_lp rfl rfl Try_fld_81_1 rfl rfl) ?_
      refine rgn hb1 (op_load_lp (v := .pv (.int .i64 a1.fNum)) rfl rfl rfl rfl Try_one_3 rfl rfl) ?_
      refine rgn hb1 (op_int (k := .i64) (m := a0.fNum) (n := a1.fNum) rfl rfl rfl rfl rfl rfl) ?_
      refine rpf hb1 ?_
      refine rmv ?_
      rcases ite_some hF with ⟨hb2, hF⟩ | ⟨hb2, hF⟩
      · refine rgo_t hb2 ?_
        iterate 4 (refine rgo_t hb2 ?_)
        refine rpt hb2 ?_
        refine rmv ?_
        iterate 7 (refine rgo_t rfl ?_)
        refine rpt rfl ?_
        refine reg_nil ?_
        cases hF
        exact post_cut _ rfl (imps [0, 1] ⟨by kernel_rfl, by kernel_rfl, by kernel_rfl, trivial⟩ ⟨by kernel_rfl, by kernel_rfl, trivial⟩)
      refine rgn hb2 (op_field_lp rfl rfl Try_fld_81_2 rfl rfl) ?_
      refine rgn hb2 (op_load_lp (v := .pv (.str a0.fName)) rfl rfl rfl rfl Try_one_9 rfl rfl) ?_
      refine rgn hb2 (op_field_lp rfl rfl Try_fld_81_2 rfl rfl) ?_
      refine rgn hb2 (op_load_lp (v := .pv (.str a1.fName)) rfl rfl rfl rfl Try_one_9 rfl rfl) ?_
      refine rgn hb2 (op_str rfl rfl rfl rfl rfl rfl) ?_
      refine rpf hb2 ?_
      refine rmv ?_
      rcases ite_some hF with ⟨hb3, hF⟩ | ⟨hb3, hF⟩
      · refine rgo_t hb3 ?_
        iterate 6 (refine rgo_t hb3 ?_)
        refine rpt hb3 ?_
        refine reg_nil ?_
        cases hF
        exact post_cut _ rfl (imps [0, 1] ⟨by kernel_rfl, by kernel_rfl, by kernel_rfl, trivial⟩ ⟨by kernel_rfl, by kernel_rfl, trivial⟩)
      refine rgn hb3 (op_field_lp rfl rfl Try_fld_81_3 rfl rfl) ?_
      refine rgn hb3 (op_load_lp (v := .pv (.vs 4 (eLGExpr a0.fKids))) rfl rfl rfl rfl Try_one_79 rfl rfl) ?_
      refine rgn hb3 (op_len_vs (n := a0.fKids.length) rfl rfl (lenR eLGExpr_map) Try_slc_79 rfl rfl) ?_
      refine rgn hb3 (op_field_lp rfl rfl Try_fld_81_3 rfl rfl) ?_
      refine rgn hb3 (op_load_lp (v := .pv (.vs 4 (eLGExpr a1.fKids))) rfl rfl rfl rfl Try_one_79 rfl rfl) ?_
      refine rgn hb3 (op_len_vs (n := a1.fKids.length) rfl rfl (lenR eLGExpr_map) Try_slc_79 rfl rfl) ?_
      refine rgn hb3 (op_int (k := .i64) (m := (a0.fKids.length : Int)) (n := (a1.fKids.length : Int)) rfl rfl rfl rfl rfl rfl) ?_
      refine rpf hb3 ?_
      refine reg_nil ?_
      cases hF
      exact post_cut _ rfl (imps [0, 1] ⟨by kernel_rfl, by kernel_rfl, by kernel_rfl, trivial⟩ ⟨by kernel_rfl, by kernel_rfl, trivial⟩)
    rintro _ rfl
    have hF := hK6
    clear hK6
    refine post_next ?_
    rcases ite_some hF with ⟨hb7, hF⟩ | ⟨hb7, hF⟩
    · refine aw_cond_t rfl hb7 ?_
      refine aw_seq ?_
      refine aw_region ?_
      refine ras ?_
      refine reg_nil ?_
      refine post_imp (s' := ⟨53, [(4, some (.pv (.bool false)))], [], 0, [], [], 0, []⟩) (imps [] ⟨by kernel_rfl, trivial⟩ trivial) ?_
      refine post_next ?_
      refine aw_ret ?_
      refine post_then_ret ?_
      obtain rfl := Option.some.inj hF
      exact prt
    refine aw_cond_f rfl hb7 ?_
    refine aw_skip ?_
    refine post_next ?_
    iterate 2 (refine aw_seq ?_)
    refine aw_region ?_
    refine ras ?_
    refine reg_nil ?_
    refine post_imp (s' := ⟨53, [(2, some (.lp 0 0)), (3, some (.lp 1 0)), (5, some (.pv (.int .i64 0)))], [(0, some (.box 81 (bxv (eGExpr a0)))), (1, some (.box 81 (bxv (eGExpr a1))))], 2, [], [], 0, []⟩) (imps [0, 1] ⟨by kernel_rfl, by kernel_rfl, by kernel_rfl, trivial⟩ ⟨by kernel_rfl, by kernel_rfl, trivial⟩) ?_
    refine post_next ?_
    obtain ⟨lr53, hF, hK54⟩ := bind_some hF
    refine aw_for ((((a0.fKids.length : Int) : Int) - (0)).toNat + 1) (fun s1 => ∃ q, lr53 = .next q ∧ s1 = ⟨53, [], [], 0, [], [], 0, []⟩) ?_ ?_
    · refine rnd_loop (α := Int) (fun q => ⟨53, [(2, some (.lp 0 0)), (3, some (.lp 1 0)), (5, some (.pv (.int .i64 q)))], [(0, some (.box 81 (bxv (eGExpr a0)))), (1, some (.box 81 (bxv (eGExpr a1))))], 2, [], [], 0, []⟩) (fun k q => ref06_Same_L1 a0 a1 ref06_Same_rec k q = some lr53) 0 (imps [0, 1] ⟨by kernel_rfl, by kernel_rfl, by kernel_rfl, trivial⟩ ⟨by kernel_rfl, by kernel_rfl, trivial⟩) hF (fun q h => by cases h) ?_
      clear hF
      rintro k x22 hF ih
      refine rnd_succ ?_
      iterate 2 (refine aw_seq ?_)
      refine aw_region ?_
      refine rmv ?_
      refine rgp (op_field_lp rfl rfl Try_fld_81_3 rfl rfl) ?_
      refine rgp (op_load_lp (v := .pv (.vs 4 (eLGExpr a0.fKids))) rfl rfl rfl rfl Try_one_79 rfl rfl) ?_
      refine rgp (op_len_vs (n := a0.fKids.length) rfl rfl (lenR eLGExpr_map) Try_slc_79 rfl rfl) ?_
      refine rgp (op_int (k := .i64) (m := x22) (n := (a0.fKids.length : Int)) rfl rfl rfl rfl rfl rfl) ?_
      refine reg_nil ?_
      refine post_imp (s' := ⟨53, [(2, some (.lp 0 0)), (3, some (.lp 1 0)), (5, some (.pv (.int .i64 x22))), (38, some (.pv (.bool (decide (x22 < (a0.fKids.length : Int))))))], [(0, some (.box 81 (bxv (eGExpr a0)))), (1, some (.box 81 (bxv (eGExpr a1))))], 2, [], [], 0, []⟩) (imps [0, 1] ⟨by kernel_rfl, by kernel_rfl, by kernel_rfl, by kernel_rfl, trivial⟩ ⟨by kernel_rfl, by kernel_rfl, trivial⟩) ?_
      refine post_next ?_
      rcases ite_some hF with ⟨hb38, hF⟩ | ⟨hb38, hF⟩
      · refine aw_cond_t rfl hb38 ?_
        refine aw_skip ?_
        refine post_next ?_
        refine aw_seq ?_
        refine aw_block ?_
        refine aw_seq ?_
        refine dr_start ⟨_, _, _⟩ rfl ?_
        refine dr_cons { need := [(2, .lp 0 0)], dst := some 41, val := some (.lp 0 3) } (fun m h => step_on (guard_no rfl) (op_field_lp rfl h.1.1 Try_fld_81_3 rfl rfl) rfl) ⟨⟨rfl, trivial⟩, trivial, trivial⟩ ?_
        refine dr_cons { need := [(41, .lp 0 3)], hneed := [(0, .box 81 (bxv (eGExpr a0)))], dst := some 42, val := some (.pv (.vs 4 (eLGExpr a0.fKids))) } (fun m h => step_on (guard_no rfl) (op_load_lp (v := .pv (.vs 4 (eLGExpr a0.fKids))) rfl h.1.1 h.2.1.1 rfl Try_one_79 rfl rfl) rfl) ⟨⟨rfl, trivial⟩, ⟨rfl, trivial⟩, trivial⟩ ?_
        refine drm ?_
        obtain ⟨y45, h46, hF⟩ := bind_some hF
        refine dr_cons { need := [(42, .pv (.vs 4 (eLGExpr a0.fKids))), (43, .pv (.int .i64 x22))], dst := some 44, val := some (.pv (.vp (eGExpr y45))) } (fun m h => step_on (guard_no rfl) (op_index_vs (k := .i64) rfl h.1.1 h.1.2.1 (idxR eLGExpr_map h46) Try_slc_79 rfl rfl) rfl) ⟨⟨rfl, rfl, trivial⟩, trivial, trivial⟩ ?_
        refine dr_cons { need := [(44, .pv (.vp (eGExpr y45)))], dst := some 45, val := some (.pv (.agg (eGExpr y45))) } (fun m h => step_on (guard_no rfl) (op_load_vp_agg (ps := eGExpr y45) rfl h.1.1 rfl rfl Try_agg_81 rfl rfl) rfl) ⟨⟨rfl, trivial⟩, trivial, trivial⟩ ?_
        refine dr_cons { need := [(3, .lp 1 0)], dst := some 46, val := some (.lp 1 3) } (fun m h => step_on (guard_no rfl) (op_field_lp rfl h.1.1 Try_fld_81_3 rfl rfl) rfl) ⟨⟨rfl, trivial⟩, trivial, trivial⟩ ?_
        refine dr_cons { need := [(46, .lp 1 3)], hneed := [(1, .box 81 (bxv (eGExpr a1)))], dst := some 47, val := some (.pv (.vs 4 (eLGExpr a1.fKids))) } (fun m h => step_on (guard_no rfl) (op_load_lp (v := .pv (.vs 4 (eLGExpr a1.fKids))) rfl h.1.1 h.2.1.1 rfl Try_one_79 rfl rfl) rfl) ⟨⟨rfl, trivial⟩, ⟨rfl, trivial⟩, trivial⟩ ?_
        refine drm ?_
        obtain ⟨y47, h48, hF⟩ := bind_some hF
        refine dr_cons { need := [(47, .pv (.vs 4 (eLGExpr a1.fKids))), (48, .pv (.int .i64 x22))], dst := some 49, val := some (.pv (.vp (eGExpr y47))) } (fun m h => step_on (guard_no rfl) (op_index_vs (k := .i64) rfl h.1.1 h.1.2.1 (idxR eLGExpr_map h48) Try_slc_79 rfl rfl) rfl) ⟨⟨rfl, rfl, trivial⟩, trivial, trivial⟩ ?_
        refine dr_cons { need := [(49, .pv (.vp (eGExpr y47)))], dst := some 50, val := some (.pv (.agg (eGExpr y47))) } (fun m h => step_on (guard_no rfl) (op_load_vp_agg (ps := eGExpr y47) rfl h.1.1 rfl rfl Try_agg_81 rfl rfl) rfl) ⟨⟨rfl, trivial⟩, trivial, trivial⟩ ?_
        obtain ⟨y49, h50, hF⟩ := bind_some hF
        refine dr_cons { need := [(50, .pv (.agg (eGExpr y47))), (45, .pv (.agg (eGExpr y45)))], dst := some 51, val := some (.pv (.bool y49)) } (fun m h => step_on (guard_no rfl) (op_call 2 rfl (caps := []) (args := [.agg (eGExpr y45), .agg (eGExpr y47)]) (rs := [.p (.bool y49)]) rfl rfl (evl_cons h.1.2.1 (evl_cons h.1.1 evl_nil)) Try_cal_88 (ref06_Same_ih _ _ _ h50) rfl rfl rfl) rfl) ⟨⟨rfl, rfl, trivial⟩, trivial, trivial⟩ ?_
        refine dr_cons { need := [(51, .pv (.bool y49))], dst := some 52, val := some (.pv (.bool (!y49))) } (fun m h => step_on (guard_no rfl) (op_not rfl h.1.1 rfl rfl) rfl) ⟨⟨rfl, trivial⟩, trivial, trivial⟩ ?_
        refine dr_nil Try_mixed rfl (by kernel_rfl) ?_
        refine post_imp (s' := ⟨53, [(2, some (.lp 0 0)), (3, some (.lp 1 0)), (5, some (.pv (.int .i64 x22))), (52, some (.pv (.bool (!y49))))], [(0, some (.box 81 (bxv (eGExpr a0)))), (1, some (.box 81 (bxv (eGExpr a1))))], 2, [], [], 0, []⟩) (imps [0, 1] ⟨by kernel_rfl, by kernel_rfl, by kernel_rfl, by kernel_rfl, trivial⟩ ⟨by kernel_rfl, by kernel_rfl, trivial⟩) ?_
        refine post_next ?_
        rcases ite_some hF with ⟨hb51, hF⟩ | ⟨hb51, hF⟩
        · refine aw_cond_t rfl hb51 ?_
          refine aw_seq ?_
          refine aw_region ?_
          refine ras ?_
          refine reg_nil ?_
          refine post_imp (s' := ⟨53, [(4, some (.pv (.bool false)))], [], 0, [], [], 0, []⟩) (imps [] ⟨by kernel_rfl, trivial⟩ trivial) ?_
          refine post_next ?_
          refine aw_ret ?_
          refine post_block_ret ?_
          iterate 2 (refine post_then_ret ?_)
          refine post_lp_ret ?_
          obtain rfl := Option.some.inj hF
          have hF := elim_stop hK54
          refine post_then_ret ?_
          obtain rfl := Option.some.inj hF
          exact prt
        refine aw_cond_f rfl hb51 ?_
        refine aw_skip ?_
        refine post_block_normal ?_
        refine post_next ?_
        refine aw_region ?_
        refine rmv ?_
        refine rgp (op_int (k := .i64) (m := x22) (n := 1) rfl rfl rfl rfl rfl rfl) ?_
        refine ras ?_
        refine reg_nil ?_
        refine post_round ?_
        exact rnd_back (ih (w_i64 (x22 + 1)) hF) (imps [0, 1] ⟨by kernel_rfl, by kernel_rfl, by kernel_rfl, trivial⟩ ⟨by kernel_rfl, by kernel_rfl, trivial⟩)
      refine aw_cond_f rfl hb38 ?_
      refine aw_exit ?_
      iterate 2 (refine post_then_exit ?_)
      obtain rfl := Option.some.inj hF
      exact post_lp_break _ ⟨_, rfl, rfl⟩ (imps [] trivial trivial)
    rintro _ ⟨⟨⟩, rfl, rfl⟩
    have hF := elim_next hK54
    clear hK54
    refine post_next ?_
    refine aw_seq ?_
    refine aw_region ?_
    refine ras ?_
    refine reg_nil ?_
    refine post_imp (s' := ⟨53, [(4, some (.pv (.bool true)))], [], 0, [], [], 0, []⟩) (imps [] ⟨by kernel_rfl, trivial⟩ trivial) ?_
    refine post_next ?_
    refine aw_ret ?_
    obtain rfl := Option.some.inj hF
    exact prt
theorem ref06_Same_ok {n : Nat} {a0 : GExpr} {a1 : GExpr} {r : Bool} (hF : ref06_Same n a0 a1 = some r) : Abs.Fn Try.prog 88 [.agg (eGExpr a0), .agg (eGExpr a1)] [.p (.bool r)] := (ref06_Same_ring n) _ _ _ hF

theorem ref08_only_ok {a0 : GStmt} {r : Bool} (hF : ref08_only a0 = some r) : Abs.Fn Try.prog 122 [.agg (eGStmt a0)] [.p (.bool r)] := by
  unfold ref08_only at hF
  refine fn_of_body (n := 55) Try.func122 rfl rfl rfl ?_
  intro w O
  refine aw_seq ?_
  refine aw_region ?_
  refine rgp (op_box 0 rfl rfl rfl rfl rfl rfl) ?_
  refine ras ?_
  refine reg_nil ?_
  refine post_imp (s' := ⟨55, [(1, some (.lp 0 0))], [(0, some (.box 83 (bxv (eGStmt a0))))], 1, [], [], 0, []⟩) (imps [0] ⟨by kernel_rfl, trivial⟩ ⟨by kernel_rfl, trivial⟩) ?_
  refine post_next ?_
  refine aw_seq ?_
  refine aw_region ?_
  refine rgp (op_load_lp_agg (ps := eGStmt a0) rfl rfl rfl rfl rfl rfl Try_agg_83 rfl rfl) ?_
  obtain ⟨y3, h4, hF⟩ := bind_some hF
  refine rgp (op_call 1 rfl (caps := []) (args := [.agg (eGStmt a0)]) (rs := [.p (.agg (eGStmt y3))]) rfl rfl rfl Try_cal_126 (ref08_Blank_ok h4) rfl rfl rfl) ?_
  refine rgp (op_alloc 1 rfl (ps := (eGStmt zGStmt)) rfl Try_zer_83 (by exact ⟨rfl, rfl, rfl, rfl, rfl, rfl, rfl, rfl, rfl, rfl, rfl, rfl, rfl, rfl, rfl, rfl, rfl, rfl, trivial, trivial, trivial, trivial, rfl, trivial⟩) rfl rfl) ?_
  refine rgp (op_store_lp (n := 23) rfl rfl rfl rfl rfl (or_agg Try_agg_83) (by rw [Try_non_83]; rfl) rfl rfl rfl) ?_
  refine reg_nil ?_
  refine post_imp (s' := ⟨55, [(1, some (.lp 0 0)), (3, some (.lp 1 0))], [(0, some (.box 83 (bxv (eGStmt a0)))), (1, some (.box 83 (bxv (eGStmt y3))))], 2, [], [], 0, []⟩) (imps [0, 1] ⟨by kernel_rfl, by kernel_rfl, trivial⟩ ⟨by kernel_rfl, by kernel_rfl, trivial⟩) ?_
  refine post_next ?_
  refine aw_seq ?_
  refine aw_region ?_
  refine rgp (op_field_lp rfl rfl Try_fld_83_0 rfl rfl) ?_
  refine rgp (op_load_lp (v := .pv (.int .i64 a0.fKind)) rfl rfl rfl rfl Try_one_3 rfl rfl) ?_
  refine rgp (op_int (k := .i64) (m := a0.fKind) (n := 1) rfl rfl rfl rfl rfl rfl) ?_
  refine rmv ?_
  rcases ite_some hF with ⟨hb5, hF⟩ | ⟨hb5, hF⟩
  · refine rgn hb5 (op_field_lp rfl rfl Try_fld_83_0 rfl rfl) ?_
    refine rgn hb5 (op_load_lp (v := .pv (.int .i64 a0.fKind)) rfl rfl rfl rfl Try_one_3 rfl rfl) ?_
    refine rgn hb5 (op_int (k := .i64) (m := a0.fKind) (n := 11) rfl rfl rfl rfl rfl rfl) ?_
    refine rpt hb5 ?_
    refine rmv ?_
    rcases ite_some hF with ⟨hb6, hF⟩ | ⟨hb6, hF⟩
    · refine rgn hb6 (op_field_lp rfl rfl Try_fld_83_1 rfl rfl) ?_
      refine rgn hb6 (op_load_lp (v := .pv (.str y3.fX)) rfl rfl rfl rfl Try_one_9 rfl rfl) ?_
      refine rgn hb6 (op_str rfl rfl rfl rfl rfl rfl) ?_
      refine rpt hb6 ?_
      refine rmv ?_
      rcases ite_some hF with ⟨hb7, hF⟩ | ⟨hb7, hF⟩
      · refine rgn hb7 (op_field_lp rfl rfl Try_fld_83_2 rfl rfl) ?_
        refine rgn hb7 (op_load_lp (v := .pv (.str y3.fY)) rfl rfl rfl rfl Try_one_9 rfl rfl) ?_
        refine rgn hb7 (op_str rfl rfl rfl rfl rfl rfl) ?_
        refine rpt hb7 ?_
        refine rmv ?_
        rcases ite_some hF with ⟨hb8, hF⟩ | ⟨hb8, hF⟩
        · refine rgn hb8 (op_field_lp rfl rfl Try_fld_83_3 rfl rfl) ?_
          refine rgn hb8 (op_load_lp (v := .pv (.str y3.fName)) rfl rfl rfl rfl Try_one_9 rfl rfl) ?_
          refine rgn hb8 (op_str rfl rfl rfl rfl rfl rfl) ?_
          refine rpt hb8 ?_
          refine rmv ?_
          rcases ite_some hF with ⟨hb9, hF⟩ | ⟨hb9, hF⟩
          · refine rgn hb9 (op_field_lp rfl rfl Try_fld_83_4 rfl rfl) ?_
            refine rgn hb9 (op_load_lp_agg (ps := eGType y3.fType) rfl rfl rfl rfl rfl rfl Try_agg_29 rfl rfl) ?_
            refine rgn hb9 (op_build (zs := (eGType zGType)) (r := eGType ({ fKind := 0, fClass := [], fN := 0, fOwn := (⟨zGOwner, zGOwner, zGOwner, zGOwner⟩ : A4 GOwner) } : GType)) rfl Try_zer_29 (by exact ⟨rfl, rfl, rfl, rfl, rfl, rfl, rfl, rfl, rfl, rfl, rfl, trivial⟩) Try_plc_29 rfl rfl rfl rfl) ?_
            refine rgn hb9 (op_eqAgg_eql (r := bGType y3.fType ({ fKind := 0, fClass := [], fN := 0, fOwn := (⟨zGOwner, zGOwner, zGOwner, zGOwner⟩ : A4 GOwner) } : GType)) rfl rfl rfl Try_eqt_29 rfl rfl rfl rfl rfl) ?_
            refine rpt hb9 ?_
            refine rmv ?_
            rcases ite_some hF with ⟨hb10, hF⟩ | ⟨hb10, hF⟩
            · refine rgn hb10 (op_field_lp rfl rfl Try_fld_83_5 rfl rfl) ?_
              refine rgn hb10 (op_load_lp_agg (ps := eGExpr y3.fE) rfl rfl rfl rfl rfl rfl Try_agg_81 rfl rfl) ?_
              refine rgn hb10 (op_build (zs := (eGExpr zGExpr)) (r := eGExpr ({ fKind := 0, fNum := 0, fName := [], fKids := [] } : GExpr)) rfl Try_zer_81 (by exact ⟨rfl, rfl, rfl, trivial, trivial⟩) Try_plc_81 rfl rfl rfl rfl) ?_
              obtain ⟨y11, h12, hF⟩ := bind_some hF
              refine rgn hb10 (op_call 2 rfl (caps := []) (args := [.agg (eGExpr y3.fE), .agg (eGExpr ({ fKind := 0, fNum := 0, fName := [], fKids := [] } : GExpr))]) (rs := [.p (.bool y11)]) rfl rfl rfl Try_cal_88 (ref06_Same_ok h12) rfl rfl rfl) ?_
              refine rpt hb10 ?_
              refine rmv ?_
              rcases ite_some hF with ⟨hb13, hF⟩ | ⟨hb13, hF⟩
              · refine rgn hb13 (op_field_lp rfl rfl Try_fld_83_6 rfl rfl) ?_
                refine rgn hb13 (op_load_lp (v := .pv (.vs 4 (eLGExpr y3.fArgs))) rfl rfl rfl rfl Try_one_79 rfl rfl) ?_
                refine rgn hb13 (op_len_vs (n := y3.fArgs.length) rfl rfl (lenR eLGExpr_map) Try_slc_79 rfl rfl) ?_
                refine rgn hb13 (op_field_lp rfl rfl Try_fld_83_7 rfl rfl) ?_
                refine rgn hb13 (op_load_lp (v := .pv (.vs 23 (eLGStmt y3.fBody))) rfl rfl rfl rfl Try_one_31 rfl rfl) ?_
                refine rgn hb13 (op_len_vs (n := y3.fBody.length) rfl rfl (lenR eLGStmt_map) Try_slc_31 rfl rfl) ?_
                refine rgn hb13 (op_int (k := .i64) (m := (y3.fArgs.length : Int)) (n := (y3.fBody.length : Int)) rfl rfl rfl rfl rfl rfl) ?_
                refine rgn hb13 (op_field_lp rfl rfl Try_fld_83_8 rfl rfl) ?_
                refine rgn hb13 (op_load_lp (v := .pv (.vs 23 (eLGStmt y3.fElse))) rfl rfl rfl rfl Try_one_31 rfl rfl) ?_
                refine rgn hb13 (op_len_vs (n := y3.fElse.length) rfl rfl (lenR eLGStmt_map) Try_slc_31 rfl rfl) ?_
                refine rgn hb13 (op_int (k := .i64) (m := w_i64 ((y3.fArgs.length : Int) + (y3.fBody.length : Int))) (n := (y3.fElse.length : Int)) rfl rfl rfl rfl rfl rfl) ?_
                refine rgn hb13 (op_int (k := .i64) (m := w_i64 ((w_i64 ((y3.fArgs.length : Int) + (y3.fBody.length : Int))) + (y3.fElse.length : Int))) (n := 0) rfl rfl rfl rfl rfl rfl) ?_
                refine rpt hb13 ?_
                refine ras ?_
                refine reg_nil ?_
                refine post_imp (s' := ⟨55, [(2, some (.pv (.bool ((w_i64 ((w_i64 ((y3.fArgs.length : Int) + (y3.fBody.length : Int))) + (y3.fElse.length : Int))) == 0))))], [], 0, [], [], 0, []⟩) (imps [] ⟨by kernel_rfl, trivial⟩ trivial) ?_
                refine post_next ?_
                refine aw_ret ?_
                obtain rfl := Option.some.inj hF
                exact prt
              iterate 12 (refine rgo_f hb13 ?_)
              refine rpf hb13 ?_
              refine ras ?_
              refine reg_nil ?_
              refine post_imp (s' := ⟨55, [(2, some (.pv (.bool false)))], [], 0, [], [], 0, []⟩) (imps [] ⟨by kernel_rfl, trivial⟩ trivial) ?_
              refine post_next ?_
              refine aw_ret ?_
              obtain rfl := Option.some.inj hF
              exact prt
            iterate 4 (refine rgo_f hb10 ?_)
            refine rpf hb10 ?_
            refine rmv ?_
            iterate 12 (refine rgo_f rfl ?_)
            refine rpf rfl ?_
            refine ras ?_
            refine reg_nil ?_
            refine post_imp (s' := ⟨55, [(2, some (.pv (.bool false)))], [], 0, [], [], 0, []⟩) (imps [] ⟨by kernel_rfl, trivial⟩ trivial) ?_
            refine post_next ?_
            refine aw_ret ?_
            obtain rfl := Option.some.inj hF
            exact prt
          iterate 4 (refine rgo_f hb9 ?_)
          refine rpf hb9 ?_
          refine rmv ?_
          iterate 4 (refine rgo_f rfl ?_)
          refine rpf rfl ?_
          refine rmv ?_
          iterate 12 (refine rgo_f rfl ?_)
          refine rpf rfl ?_
          refine ras ?_
          refine reg_nil ?_
          refine post_imp (s' := ⟨55, [(2, some (.pv (.bool false)))], [], 0, [], [], 0, []⟩) (imps [] ⟨by kernel_rfl, trivial⟩ trivial) ?_
          refine post_next ?_
          refine aw_ret ?_
          obtain rfl := Option.some.inj hF
          exact prt
        iterate 3 (refine rgo_f hb8 ?_)
        refine rpf hb8 ?_
        refine rmv ?_
        iterate 4 (refine rgo_f rfl ?_)
        refine rpf rfl ?_
        refine rmv ?_
        iterate 4 (refine rgo_f rfl ?_)
        refine rpf rfl ?_
        refine rmv ?_
        iterate 12 (refine rgo_f rfl ?_)
        refine rpf rfl ?_
        refine ras ?_
        refine reg_nil ?_
        refine post_imp (s' := ⟨55, [(2, some (.pv (.bool false)))], [], 0, [], [], 0, []⟩) (imps [] ⟨by kernel_rfl, trivial⟩ trivial) ?_
        refine post_next ?_
        refine aw_ret ?_
        obtain rfl := Option.some.inj hF
        exact prt
      iterate 3 (refine rgo_f hb7 ?_)
      refine rpf hb7 ?_
      refine rmv ?_
      iterate 3 (refine rgo_f rfl ?_)
      refine rpf rfl ?_
      refine rmv ?_
      iterate 4 (refine rgo_f rfl ?_)
      refine rpf rfl ?_
      refine rmv ?_
      iterate 4 (refine rgo_f rfl ?_)
      refine rpf rfl ?_
      refine rmv ?_
      iterate 12 (refine rgo_f rfl ?_)
      refine rpf rfl ?_
      refine ras ?_
      refine reg_nil ?_
      refine post_imp (s' := ⟨55, [(2, some (.pv (.bool false)))], [], 0, [], [], 0, []⟩) (imps [] ⟨by kernel_rfl, trivial⟩ trivial) ?_
      refine post_next ?_
      refine aw_ret ?_
      obtain rfl := Option.some.inj hF
      exact prt
    iterate 3 (refine rgo_f hb6 ?_)
    refine rpf hb6 ?_
    refine rmv ?_
    iterate 3 (refine rgo_f rfl ?_)
    refine rpf rfl ?_
    refine rmv ?_
    iterate 3 (refine rgo_f rfl ?_)
    refine rpf rfl ?_
    refine rmv ?_
    iterate 4 (refine rgo_f rfl ?_)
    refine rpf rfl ?_
    refine rmv ?_
    iterate 4 (refine rgo_f rfl ?_)
    refine rpf rfl ?_
    refine rmv ?_
    iterate 12 (refine rgo_f rfl ?_)
    refine rpf rfl ?_
    refine ras ?_
    refine reg_nil ?_
    refine post_imp (s' := ⟨55, [(2, some (.pv (.bool false)))], [], 0, [], [], 0, []⟩) (imps [] ⟨by kernel_rfl, trivial⟩ trivial) ?_
    refine post_next ?_
    refine aw_ret ?_
    obtain rfl := Option.some.inj hF
    exact prt
  iterate 3 (refine rgo_f hb5 ?_)
  refine rpf hb5 ?_
  refine rmv ?_
  iterate 3 (refine rgo_f rfl ?_)
  refine rpf rfl ?_
  refine rmv ?_
  iterate 3 (refine rgo_f rfl ?_)
  refine rpf rfl ?_
  refine rmv ?_
  iterate 3 (refine rgo_f rfl ?_)
  refine rpf rfl ?_
  refine rmv ?_
  iterate 4 (refine rgo_f rfl ?_)
  refine rpf rfl ?_
  refine rmv ?_
  iterate 4 (refine rgo_f rfl ?_)
  refine rpf rfl ?_
  refine rmv ?_
  iterate 12 (refine rgo_f rfl ?_)
  refine rpf rfl ?_
  refine ras ?_
  refine reg_nil ?_
  refine post_imp (s' := ⟨55, [(2, some (.pv (.bool false)))], [], 0, [], [], 0, []⟩) (imps [] ⟨by kernel_rfl, trivial⟩ trivial) ?_
  refine post_next ?_
  refine aw_ret ?_
  obtain rfl := Option.some.inj hF
  exact prt
theorem ref05_Right_ok {a0 : GType} {a1 : Int} {r : Bool} (hF : ref05_Right a0 a1 = some r) : Abs.Fn Try.prog 117 [.agg (eGType a0), .int .i64 a1] [.p (.bool r)] := by
  unfold ref05_Right at hF
  refine fn_of_body (n := 77) Try.func117 rfl rfl rfl ?_
  intro w O
  refine aw_seq ?_
  refine aw_region ?_
  refine rgp (op_box 0 rfl rfl rfl rfl rfl rfl) ?_
  refine ras ?_
  refine reg_nil ?_
  refine post_imp (s' := ⟨77, [(1, some (.pv (.int .i64 a1))), (2, some (.lp 0 0))], [(0, some (.box 29 (bxv (eGType a0))))], 1, [], [], 0, []⟩) (imps [0] ⟨by kernel_rfl, by kernel_rfl, trivial⟩ ⟨by kernel_rfl, trivial⟩) ?_
  refine post_next ?_
  iterate 2 (refine aw_seq ?_)
  obtain ⟨x2, hF, hK4⟩ := bind_some hF
  refine aw_cut (fun s1 => s1 = ⟨77, [(1, some (.pv (.int .i64 a1))), (2, some (.lp 0 0)), (14, some (.pv (.bool x2)))], [(0, some (.box 29 (bxv (eGType a0))))], 1, [], [], 0, []⟩) ?_ ?_
  · refine aw_region ?_
    refine rgp (op_field_lp rfl rfl Try_fld_29_0 rfl rfl) ?_
    refine rgp (op_load_lp (v := .pv (.int .i64 a0.fKind)) rfl rfl rfl rfl Try_one_3 rfl rfl) ?_
    refine rgp (op_int (k := .i64) (m := a0.fKind) (n := 0) rfl rfl rfl rfl rfl rfl) ?_
    refine rmv ?_
    rcases ite_some hF with ⟨hb1, hF⟩ | ⟨hb1, hF⟩
    · refine rgo_t hb1 ?_
      iterate 2 (refine rgo_t hb1 ?_)
      refine rpt hb1 ?_
      refine reg_nil ?_
      cases hF
      exact post_cut _ rfl (imps [0] ⟨by kernel_rfl, by kernel_rfl, by kernel_rfl, trivial⟩ ⟨by kernel_rfl, trivial⟩)
    refine rgn hb1 (op_field_lp rfl rfl Try_fld_29_0 rfl rfl) ?_
    refine rgn hb1 (op_load_lp (v := .pv (.int .i64 a0.fKind)) rfl rfl rfl rfl Try_one_3 rfl rfl) ?_
    refine rgn hb1 (op_int (k := .i64) (m := a0.fKind) (n := 1) rfl rfl rfl rfl rfl rfl) ?_
    refine rpf hb1 ?_
    refine reg_nil ?_
    cases hF
    exact post_cut _ rfl (imps [0] ⟨by kernel_rfl, by kernel_rfl, by kernel_rfl, trivial⟩ ⟨by kernel_rfl, trivial⟩)
  rintro _ rfl
  have hF := hK4
  clear hK4
  refine post_next ?_
  rcases ite_some hF with ⟨hb5, hF⟩ | ⟨hb5, hF⟩
  · refine aw_cond_t rfl hb5 ?_
    refine aw_seq ?_
    refine aw_region ?_
    refine rgp (op_load_lp_agg (ps := eGType a0) rfl rfl rfl rfl rfl rfl Try_agg_29 rfl rfl) ?_
    refine rgp (op_field_lp rfl rfl Try_fld_29_0 rfl rfl) ?_
    refine rgp (op_load_lp (v := .pv (.int .i64 a0.fKind)) rfl rfl rfl rfl Try_one_3 rfl rfl) ?_
    refine rgp (op_build (zs := (eGType zGType)) (r := eGType ({ fKind := a0.fKind, fClass := [], fN := 0, fOwn := (⟨zGOwner, zGOwner, zGOwner, zGOwner⟩ : A4 GOwner) } : GType)) rfl Try_zer_29 (by exact ⟨rfl, rfl, rfl, rfl, rfl, rfl, rfl, rfl, rfl, rfl, rfl, trivial⟩) Try_plc_29 rfl rfl rfl rfl) ?_
    refine rgp (op_eqAgg_eql (r := bGType a0 ({ fKind := a0.fKind, fClass := [], fN := 0, fOwn := (⟨zGOwner, zGOwner, zGOwner, zGOwner⟩ : A4 GOwner) } : GType)) rfl rfl rfl Try_eqt_29 rfl rfl rfl rfl rfl) ?_
    refine ras ?_
    refine reg_nil ?_
    refine post_imp (s' := ⟨77, [(4, some (.pv (.bool (bGType a0 ({ fKind := a0.fKind, fClass := [], fN := 0, fOwn := (⟨zGOwner, zGOwner, zGOwner, zGOwner⟩ : A4 GOwner) } : GType)))))], [], 0, [], [], 0, []⟩) (imps [] ⟨by kernel_rfl, trivial⟩ trivial) ?_
    refine post_next ?_
    refine aw_ret ?_
    refine post_then_ret ?_
    obtain rfl := Option.some.inj hF
    exact prt
  refine aw_cond_f rfl hb5 ?_
  refine aw_skip ?_
  refine post_next ?_
  iterate 2 (refine aw_seq ?_)
  obtain ⟨x11, hF, hK13⟩ := bind_some hF
  refine aw_cut (fun s1 => s1 = ⟨77, [(1, some (.pv (.int .i64 a1))), (2, some (.lp 0 0)), (38, some (.pv (.bool x11)))], [(0, some (.box 29 (bxv (eGType a0))))], 1, [], [], 0, []⟩) ?_ ?_
  · refine aw_region ?_
    refine rgp (op_field_lp rfl rfl Try_fld_29_0 rfl rfl) ?_
    refine rgp (op_load_lp (v := .pv (.int .i64 a0.fKind)) rfl rfl rfl rfl Try_one_3 rfl rfl) ?_
    refine rgp (op_int (k := .i64) (m := a0.fKind) (n := 2) rfl rfl rfl rfl rfl rfl) ?_
    refine rmv ?_
    rcases ite_some hF with ⟨hb6, hF⟩ | ⟨hb6, hF⟩
    · refine rgo_t hb6 ?_
      iterate 3 (refine rgo_t hb6 ?_)
      refine rpt hb6 ?_
      refine rmv ?_
      iterate 3 (refine rgo_t rfl ?_)
      refine rpt rfl ?_
      refine rmv ?_
      iterate 3 (refine rgo_t rfl ?_)
      refine rpt rfl ?_
      refine reg_nil ?_
      cases hF
      exact post_cut _ rfl (imps [0] ⟨by kernel_rfl, by kernel_rfl, by kernel_rfl, trivial⟩ ⟨by kernel_rfl, trivial⟩)
    refine rgn hb6 (op_field_lp rfl rfl Try_fld_29_1 rfl rfl) ?_
    refine rgn hb6 (op_load_lp (v := .pv (.str a0.fClass)) rfl rfl rfl rfl Try_one_9 rfl rfl) ?_
    obtain ⟨y7, h8, hF⟩ := bind_some hF
    refine rgn hb6 (op_call 1 rfl (caps := []) (args := [.str a0.fClass]) (rs := [.p (.bool y7)]) rfl rfl rfl Try_cal_89 (ref02_Name_ok h8) rfl rfl rfl) ?_
    refine rgn hb6 (op_not rfl rfl rfl rfl) ?_
    refine rpf hb6 ?_
    refine rmv ?_
    rcases ite_some hF with ⟨hb9, hF⟩ | ⟨hb9, hF⟩
    · refine rgo_t hb9 ?_
      iterate 2 (refine rgo_t hb9 ?_)
      refine rpt hb9 ?_
      refine rmv ?_
      iterate 3 (refine rgo_t rfl ?_)
      refine rpt rfl ?_
      refine reg_nil ?_
      cases hF
      exact post_cut _ rfl (imps [0] ⟨by kernel_rfl, by kernel_rfl, by kernel_rfl, trivial⟩ ⟨by kernel_rfl, trivial⟩)
    refine rgn hb9 (op_field_lp rfl rfl Try_fld_29_2 rfl rfl) ?_
    refine rgn hb9 (op_load_lp (v := .pv (.int .i64 a0.fN)) rfl rfl rfl rfl Try_one_3 rfl rfl) ?_
    refine rgn hb9 (op_int (k := .i64) (m := a0.fN) (n := 0) rfl rfl rfl rfl rfl rfl) ?_
    refine rpf hb9 ?_
    refine rmv ?_
    rcases ite_some hF with ⟨hb10, hF⟩ | ⟨hb10, hF⟩
    · refine rgo_t hb10 ?_
      iterate 2 (refine rgo_t hb10 ?_)
      refine rpt hb10 ?_
      refine reg_nil ?_
      cases hF
      exact post_cut _ rfl (imps [0] ⟨by kernel_rfl, by kernel_rfl, by kernel_rfl, trivial⟩ ⟨by kernel_rfl, trivial⟩)
    refine rgn hb10 (op_field_lp rfl rfl Try_fld_29_2 rfl rfl) ?_
    refine rgn hb10 (op_load_lp (v := .pv (.int .i64 a0.fN)) rfl rfl rfl rfl Try_one_3 rfl rfl) ?_
    refine rgn hb10 (op_int (k := .i64) (m := a0.fN) (n := 3) rfl rfl rfl rfl rfl rfl) ?_
    refine rpf hb10 ?_
    refine reg_nil ?_
    cases hF
    exact post_cut _ rfl (imps [0] ⟨by kernel_rfl, by kernel_rfl, by kernel_rfl, trivial⟩ ⟨by kernel_rfl, trivial⟩)
  rintro _ rfl
  have hF := hK13
  clear hK13
  refine post_next ?_
  rcases ite_some hF with ⟨hb14, hF⟩ | ⟨hb14, hF⟩
  · refine aw_cond_t rfl hb14 ?_
    refine aw_seq ?_
    refine aw_region ?_
    refine ras ?_
    refine reg_nil ?_
    refine post_imp (s' := ⟨77, [(4, some (.pv (.bool false)))], [], 0, [], [], 0, []⟩) (imps [] ⟨by kernel_rfl, trivial⟩ trivial) ?_
    refine post_next ?_
    refine aw_ret ?_
    refine post_then_ret ?_
    obtain rfl := Option.some.inj hF
    exact prt
  refine aw_cond_f rfl hb14 ?_
  refine aw_skip ?_
  refine post_next ?_
  iterate 2 (refine aw_seq ?_)
  refine aw_region ?_
  refine ras ?_
  refine reg_nil ?_
  refine post_imp (s' := ⟨77, [(1, some (.pv (.int .i64 a1))), (2, some (.lp 0 0)), (5, some (.pv (.int .i64 0)))], [(0, some (.box 29 (bxv (eGType a0))))], 1, [], [], 0, []⟩) (imps [0] ⟨by kernel_rfl, by kernel_rfl, by kernel_rfl, trivial⟩ ⟨by kernel_rfl, trivial⟩) ?_
  refine post_next ?_
  obtain ⟨lr77, hF, hK78⟩ := bind_some hF
  refine aw_for (((4 : Int) - (0)).toNat + 1) (fun s1 => ∃ q, lr77 = .next q ∧ s1 = ⟨77, [], [], 0, [], [], 0, []⟩) ?_ ?_
  · refine rnd_loop (α := Int) (fun q => ⟨77, [(1, some (.pv (.int .i64 a1))), (2, some (.lp 0 0)), (5, some (.pv (.int .i64 q)))], [(0, some (.box 29 (bxv (eGType a0))))], 1, [], [], 0, []⟩) (fun k q => ref05_Right_L1 a0 a1 k q = some lr77) 0 (imps [0] ⟨by kernel_rfl, by kernel_rfl, by kernel_rfl, trivial⟩ ⟨by kernel_rfl, trivial⟩) hF (fun q h => by cases h) ?_
    clear hF
    rintro k x32 hF ih
    refine rnd_succ ?_
    iterate 2 (refine aw_seq ?_)
    refine aw_region ?_
    refine rmv ?_
    refine rgp (op_int (k := .i64) (m := x32) (n := 4) rfl rfl rfl rfl rfl rfl) ?_
    refine reg_nil ?_
    refine post_imp (s' := ⟨77, [(1, some (.pv (.int .i64 a1))), (2, some (.lp 0 0)), (5, some (.pv (.int .i64 x32))), (40, some (.pv (.bool (decide (x32 < 4)))))], [(0, some (.box 29 (bxv (eGType a0))))], 1, [], [], 0, []⟩) (imps [0] ⟨by kernel_rfl, by kernel_rfl, by kernel_rfl, by kernel_rfl, trivial⟩ ⟨by kernel_rfl, trivial⟩) ?_
    refine post_next ?_
    rcases ite_some hF with ⟨hb55, hF⟩ | ⟨hb55, hF⟩
    · refine aw_cond_t rfl hb55 ?_
      refine aw_skip ?_
      refine post_next ?_
      refine aw_seq ?_
      refine aw_block ?_
      refine aw_seq ?_
      refine aw_region ?_
      refine rmv ?_
      refine rgp (op_field_lp rfl rfl Try_fld_29_3 rfl rfl) ?_
      obtain ⟨y58, h59, hF⟩ := bind_some hF
      refine rgp (op_arr_lpN (l := (a0.fOwn).l) rfl rfl rfl Try_arr_27 rfl h59 rfl rfl) ?_
      refine rgp (op_load_lp_agg (ps := eGOwner y58) rfl rfl rfl (arr_cellsN (l := (a0.fOwn).l) (f := eGOwner) rfl (fun _ => rfl) rfl h59) rfl rfl Try_agg_26 rfl rfl) ?_
      refine rgp (op_alloc 1 rfl (ps := (eGOwner zGOwner)) rfl Try_zer_26 (by exact ⟨rfl, rfl, trivial⟩) rfl rfl) ?_
      refine rgp (op_store_lp (n := 2) rfl rfl rfl rfl rfl (or_agg Try_agg_26) (by rw [Try_non_26]; rfl) rfl rfl rfl) ?_
      refine reg_nil ?_
      refine post_imp (s' := ⟨77, [(1, some (.pv (.int .i64 a1))), (2, some (.lp 0 0)), (5, some (.pv (.int .i64 x32))), (6, some (.lp 1 0))], [(0, some (.box 29 (bxv (eGType a0)))), (1, some (.box 26 (bxv (eGOwner y58))))], 2, [], [], 0, []⟩) (imps [0, 1] ⟨by kernel_rfl, by kernel_rfl, by kernel_rfl, by kernel_rfl, trivial⟩ ⟨by kernel_rfl, by kernel_rfl, trivial⟩) ?_
      refine post_next ?_
      refine aw_seq ?_
      obtain ⟨x72, hF, hK74⟩ := bind_some hF
      refine aw_cut (fun s1 => s1 = ⟨77, [(1, some (.pv (.int .i64 a1))), (2, some (.lp 0 0)), (5, some (.pv (.int .i64 x32))), (76, some (.pv (.bool x72)))], [(0, some (.box 29 (bxv (eGType a0))))], 1, [], [], 0, []⟩) ?_ ?_
      · refine aw_region ?_
        refine rmv ?_
        refine rgp (op_field_lp rfl rfl Try_fld_29_2 rfl rfl) ?_
        refine rgp (op_load_lp (v := .pv (.int .i64 a0.fN)) rfl rfl rfl rfl Try_one_3 rfl rfl) ?_
        refine rgp (op_int (k := .i64) (m := x32) (n := a0.fN) rfl rfl rfl rfl rfl rfl) ?_
        refine rmv ?_
        rcases ite_some hF with ⟨hb60, hF⟩ | ⟨hb60, hF⟩
        · refine rgn hb60 (op_load_lp_agg (ps := eGOwner y58) rfl rfl rfl rfl rfl rfl Try_agg_26 rfl rfl) ?_
          refine rgn hb60 (op_build (zs := (eGOwner zGOwner)) (r := eGOwner ({ fKind := 0, fN := 0 } : GOwner)) rfl Try_zer_26 (by exact ⟨rfl, rfl, trivial⟩) Try_plc_26 rfl rfl rfl rfl) ?_
          refine rgn hb60 (op_eqAgg_neq (r := bGOwner y58 ({ fKind := 0, fN := 0 } : GOwner)) rfl rfl rfl Try_eqt_26 rfl rfl rfl rfl rfl) ?_
          refine rpt hb60 ?_
          refine rmv ?_
          rcases ite_some hF with ⟨hb61, hF⟩ | ⟨hb61, hF⟩
          · refine rgo_t hb61 ?_
            iterate 4 (refine rgo_t hb61 ?_)
            iterate 13 (refine rgu ?_)
            refine rgo_t hb61 ?_
            refine rpt hb61 ?_
            refine reg_nil ?_
            cases hF
            exact post_cut _ rfl (imps [0] ⟨by kernel_rfl, by kernel_rfl, by kernel_rfl, by kernel_rfl, trivial⟩ ⟨by kernel_rfl, trivial⟩)
          refine rgn hb61 (op_move rfl rfl rfl rfl) ?_
          refine rgn hb61 (op_field_lp rfl rfl Try_fld_29_2 rfl rfl) ?_
          refine rgn hb61 (op_load_lp (v := .pv (.int .i64 a0.fN)) rfl rfl rfl rfl Try_one_3 rfl rfl) ?_
          refine rgn hb61 (op_int (k := .i64) (m := x32) (n := a0.fN) rfl rfl rfl rfl rfl rfl) ?_
          refine rgn hb61 (op_move rfl rfl rfl rfl) ?_
          rcases ite_some hF with ⟨hb62, hF⟩ | ⟨hb62, hF⟩
          · refine rgn hb62 (op_load_lp_agg (ps := eGOwner y58) rfl rfl rfl rfl rfl rfl Try_agg_26 rfl rfl) ?_
            refine rgn hb62 (op_move rfl rfl rfl rfl) ?_
            obtain ⟨y63, h64, hF⟩ := bind_some hF
            refine rgn hb62 (op_call 2 rfl (caps := []) (args := [.agg (eGOwner y58), .int .i64 a1]) (rs := [.p (.bool y63)]) rfl rfl rfl Try_cal_90 (ref04_Right_ok h64) rfl rfl rfl) ?_
            refine rgn hb62 (op_not rfl rfl rfl rfl) ?_
            refine rgn hb62 (op_move rfl rfl rfl rfl) ?_
            rcases ite_some hF with ⟨hb65, hF⟩ | ⟨hb65, hF⟩
            · refine rgo_t hb65 ?_
              iterate 2 (refine rgo_t hb65 ?_)
              iterate 3 (refine rgu ?_)
              refine rgo_t hb65 ?_
              refine rgn hb62 (op_pick_t rfl rfl hb65 rfl rfl rfl) ?_
              refine rgn hb61 (op_pick_t rfl rfl hb62 rfl rfl rfl) ?_
              refine rpf hb61 ?_
              refine reg_nil ?_
              cases hF
              exact post_cut _ rfl (imps [0] ⟨by kernel_rfl, by kernel_rfl, by kernel_rfl, by kernel_rfl, trivial⟩ ⟨by kernel_rfl, trivial⟩)
            refine rgn hb65 (op_move rfl rfl rfl rfl) ?_
            refine rgn hb65 (op_int (k := .i64) (m := x32) (n := 0) rfl rfl rfl rfl rfl rfl) ?_
            refine rgn hb65 (op_move rfl rfl rfl rfl) ?_
            rcases ite_some hF with ⟨hb66, hF⟩ | ⟨hb66, hF⟩
            · refine rgn hb66 (op_field_lp rfl rfl Try_fld_26_0 rfl rfl) ?_
              refine rgn hb66 (op_load_lp (v := .pv (.int .i64 y58.fKind)) rfl rfl rfl rfl Try_one_3 rfl rfl) ?_
              refine rgn hb66 (op_int (k := .i64) (m := y58.fKind) (n := 6) rfl rfl rfl rfl rfl rfl) ?_
              refine rgn hb65 (op_pick_t rfl rfl hb66 rfl rfl rfl) ?_
              refine rgn hb62 (op_pick_f rfl rfl hb65 rfl rfl rfl) ?_
              refine rgn hb61 (op_pick_t rfl rfl hb62 rfl rfl rfl) ?_
              refine rpf hb61 ?_
              refine reg_nil ?_
              cases hF
              exact post_cut _ rfl (imps [0] ⟨by kernel_rfl, by kernel_rfl, by kernel_rfl, by kernel_rfl, trivial⟩ ⟨by kernel_rfl, trivial⟩)
            iterate 3 (refine rgo_f hb66 ?_)
            refine rgn hb65 (op_pick_f rfl rfl hb66 rfl rfl rfl) ?_
            refine rgn hb62 (op_pick_f rfl rfl hb65 rfl rfl rfl) ?_
            refine rgn hb61 (op_pick_t rfl rfl hb62 rfl rfl rfl) ?_
            refine rpf hb61 ?_
            refine reg_nil ?_
            cases hF
            exact post_cut _ rfl (imps [0] ⟨by kernel_rfl, by kernel_rfl, by kernel_rfl, by kernel_rfl, trivial⟩ ⟨by kernel_rfl, trivial⟩)
          iterate 5 (refine rgo_f hb62 ?_)
          iterate 7 (refine rgu ?_)
          refine rgo_f hb62 ?_
          refine rgn hb61 (op_pick_f rfl rfl hb62 rfl rfl rfl) ?_
          refine rpf hb61 ?_
          refine reg_nil ?_
          cases hF
          exact post_cut _ rfl (imps [0] ⟨by kernel_rfl, by kernel_rfl, by kernel_rfl, by kernel_rfl, trivial⟩ ⟨by kernel_rfl, trivial⟩)
        iterate 3 (refine rgo_f hb60 ?_)
        refine rpf hb60 ?_
        refine rmv ?_
        refine rgn rfl (op_move rfl rfl rfl rfl) ?_
        refine rgn rfl (op_field_lp rfl rfl Try_fld_29_2 rfl rfl) ?_
        refine rgn rfl (op_load_lp (v := .pv (.int .i64 a0.fN)) rfl rfl rfl rfl Try_one_3 rfl rfl) ?_
        refine rgn rfl (op_int (k := .i64) (m := x32) (n := a0.fN) rfl rfl rfl rfl rfl rfl) ?_
        refine rgn rfl (op_move rfl rfl rfl rfl) ?_
        rcases ite_some hF with ⟨hb67, hF⟩ | ⟨hb67, hF⟩
        · refine rgn hb67 (op_load_lp_agg (ps := eGOwner y58) rfl rfl rfl rfl rfl rfl Try_agg_26 rfl rfl) ?_
          refine rgn hb67 (op_move rfl rfl rfl rfl) ?_
          obtain ⟨y68, h69, hF⟩ := bind_some hF
          refine rgn hb67 (op_call 2 rfl (caps := []) (args := [.agg (eGOwner y58), .int .i64 a1]) (rs := [.p (.bool y68)]) rfl rfl rfl Try_cal_90 (ref04_Right_ok h69) rfl rfl rfl) ?_
          refine rgn hb67 (op_not rfl rfl rfl rfl) ?_
          refine rgn hb67 (op_move rfl rfl rfl rfl) ?_
          rcases ite_some hF with ⟨hb70, hF⟩ | ⟨hb70, hF⟩
          · refine rgo_t hb70 ?_
            iterate 2 (refine rgo_t hb70 ?_)
            iterate 3 (refine rgu ?_)
            refine rgo_t hb70 ?_
            refine rgn hb67 (op_pick_t rfl rfl hb70 rfl rfl rfl) ?_
            refine rgn rfl (op_pick_t rfl rfl hb67 rfl rfl rfl) ?_
            refine rpf rfl ?_
            refine reg_nil ?_
            cases hF
            exact post_cut _ rfl (imps [0] ⟨by kernel_rfl, by kernel_rfl, by kernel_rfl, by kernel_rfl, trivial⟩ ⟨by kernel_rfl, trivial⟩)
          refine rgn hb70 (op_move rfl rfl rfl rfl) ?_
          refine rgn hb70 (op_int (k := .i64) (m := x32) (n := 0) rfl rfl rfl rfl rfl rfl) ?_
          refine rgn hb70 (op_move rfl rfl rfl rfl) ?_
          rcases ite_some hF with ⟨hb71, hF⟩ | ⟨hb71, hF⟩
          · refine rgn hb71 (op_field_lp rfl rfl Try_fld_26_0 rfl rfl) ?_
            refine rgn hb71 (op_load_lp (v := .pv (.int .i64 y58.fKind)) rfl rfl rfl rfl Try_one_3 rfl rfl) ?_
            refine rgn hb71 (op_int (k := .i64) (m := y58.fKind) (n := 6) rfl rfl rfl rfl rfl rfl) ?_
            refine rgn hb70 (op_pick_t rfl rfl hb71 rfl rfl rfl) ?_
            refine rgn hb67 (op_pick_f rfl rfl hb70 rfl rfl rfl) ?_
            refine rgn rfl (op_pick_t rfl rfl hb67 rfl rfl rfl) ?_
            refine rpf rfl ?_
            refine reg_nil ?_
            cases hF
            exact post_cut _ rfl (imps [0] ⟨by kernel_rfl, by kernel_rfl, by kernel_rfl, by kernel_rfl, trivial⟩ ⟨by kernel_rfl, trivial⟩)
          iterate 3 (refine rgo_f hb71 ?_)
          refine rgn hb70 (op_pick_f rfl rfl hb71 rfl rfl rfl) ?_
          refine rgn hb67 (op_pick_f rfl rfl hb70 rfl rfl rfl) ?_
          refine rgn rfl (op_pick_t rfl rfl hb67 rfl rfl rfl) ?_
          refine rpf rfl ?_
          refine reg_nil ?_
          cases hF
          exact post_cut _ rfl (imps [0] ⟨by kernel_rfl, by kernel_rfl, by kernel_rfl, by kernel_rfl, trivial⟩ ⟨by kernel_rfl, trivial⟩)
        iterate 5 (refine rgo_f hb67 ?_)
        iterate 7 (refine rgu ?_)
        refine rgo_f hb67 ?_
        refine rgn rfl (op_pick_f rfl rfl hb67 rfl rfl rfl) ?_
        refine rpf rfl ?_
        refine reg_nil ?_
        cases hF
        exact post_cut _ rfl (imps [0] ⟨by kernel_rfl, by kernel_rfl, by kernel_rfl, by kernel_rfl, trivial⟩ ⟨by kernel_rfl, trivial⟩)
      rintro _ rfl
      have hF := hK74
      clear hK74
      refine post_next ?_
      rcases ite_some hF with ⟨hb75, hF⟩ | ⟨hb75, hF⟩
      · refine aw_cond_t rfl hb75 ?_
        refine aw_seq ?_
        refine aw_region ?_
        refine ras ?_
        refine reg_nil ?_
        refine post_imp (s' := ⟨77, [(4, some (.pv (.bool false)))], [], 0, [], [], 0, []⟩) (imps [] ⟨by kernel_rfl, trivial⟩ trivial) ?_
        refine post_next ?_
        refine aw_ret ?_
        refine post_block_ret ?_
        iterate 2 (refine post_then_ret ?_)
        refine post_lp_ret ?_
        obtain rfl := Option.some.inj hF
        have hF := elim_stop hK78
        refine post_then_ret ?_
        obtain rfl := Option.some.inj hF
        exact prt
      refine aw_cond_f rfl hb75 ?_
      refine aw_skip ?_
      refine post_block_normal ?_
      refine post_next ?_
      refine aw_region ?_
      refine rmv ?_
      refine rgp (op_int (k := .i64) (m := x32) (n := 1) rfl rfl rfl rfl rfl rfl) ?_
      refine ras ?_
      refine reg_nil ?_
      refine post_round ?_
      exact rnd_back (ih (w_i64 (x32 + 1)) hF) (imps [0] ⟨by kernel_rfl, by kernel_rfl, by kernel_rfl, trivial⟩ ⟨by kernel_rfl, trivial⟩)
    refine aw_cond_f rfl hb55 ?_
    refine aw_exit ?_
    iterate 2 (refine post_then_exit ?_)
    obtain rfl := Option.some.inj hF
    exact post_lp_break _ ⟨_, rfl, rfl⟩ (imps [] trivial trivial)
  rintro _ ⟨⟨⟩, rfl, rfl⟩
  have hF := elim_next hK78
  clear hK78
  refine post_next ?_
  refine aw_seq ?_
  refine aw_region ?_
  refine ras ?_
  refine reg_nil ?_
  refine post_imp (s' := ⟨77, [(4, some (.pv (.bool true)))], [], 0, [], [], 0, []⟩) (imps [] ⟨by kernel_rfl, trivial⟩ trivial) ?_
  refine post_next ?_
  refine aw_ret ?_
  obtain rfl := Option.some.inj hF
  exact prt
theorem ref08_names_ok {a0 : GStmt} {a1 : Int} {r : Bool} (hF : ref08_names a0 a1 = some r) : Abs.Fn Try.prog 123 [.agg (eGStmt a0), .int .i64 a1] [.p (.bool r)] := by
  unfold ref08_names at hF
  refine fn_of_body (n := 115) Try.func123 rfl rfl rfl ?_
  intro w O
  refine aw_seq ?_
  refine aw_region ?_
  refine rgp (op_box 0 rfl rfl rfl rfl rfl rfl) ?_
  refine ras ?_
  refine reg_nil ?_
  refine post_imp (s' := ⟨115, [(1, some (.pv (.int .i64 a1))), (2, some (.lp 0 0))], [(0, some (.box 83 (bxv (eGStmt a0))))], 1, [], [], 0, []⟩) (imps [0] ⟨by kernel_rfl, by kernel_rfl, trivial⟩ ⟨by kernel_rfl, trivial⟩) ?_
  refine post_next ?_
  refine aw_seq ?_
  refine aw_region ?_
  refine rgp (op_field_lp rfl rfl Try_fld_83_0 rfl rfl) ?_
  refine rgp (op_load_lp (v := .pv (.int .i64 a0.fKind)) rfl rfl rfl rfl Try_one_3 rfl rfl) ?_
  refine ras ?_
  refine reg_nil ?_
  refine post_imp (s' := ⟨115, [(1, some (.pv (.int .i64 a1))), (2, some (.lp 0 0)), (5, some (.pv (.int .i64 a0.fKind)))], [(0, some (.box 83 (bxv (eGStmt a0))))], 1, [], [], 0, []⟩) (imps [0] ⟨by kernel_rfl, by kernel_rfl, by kernel_rfl, trivial⟩ ⟨by kernel_rfl, trivial⟩) ?_
  refine post_next ?_
  refine aw_seq ?_
  obtain ⟨x12, hF, hK14⟩ := bind_some hF
  refine aw_cut (fun s1 => s1 = ⟨115, [(1, some (.pv (.int .i64 a1))), (2, some (.lp 0 0)), (5, some (.pv (.int .i64 a0.fKind))), (6, some (.pv (.bool x12)))], [(0, some (.box 83 (bxv (eGStmt a0))))], 1, [], [], 0, []⟩) ?_ ?_
  · refine aw_region ?_
    refine rgp (op_field_lp rfl rfl Try_fld_83_1 rfl rfl) ?_
    refine rgp (op_load_lp (v := .pv (.str a0.fX)) rfl rfl rfl rfl Try_one_9 rfl rfl) ?_
    obtain ⟨y3, h4, hF⟩ := bind_some hF
    refine rgp (op_call 1 rfl (caps := []) (args := [.str a0.fX]) (rs := [.p (.bool y3)]) rfl rfl rfl Try_cal_89 (ref02_Name_ok h4) rfl rfl rfl) ?_
    refine rmv ?_
    rcases ite_some hF with ⟨hb5, hF⟩ | ⟨hb5, hF⟩
    · refine rgo_t hb5 ?_
      iterate 2 (refine rgo_t hb5 ?_)
      iterate 3 (refine rgu ?_)
      refine rgo_t hb5 ?_
      refine rpt hb5 ?_
      refine rmv ?_
      iterate 2 (refine rgo_t rfl ?_)
      refine rpt rfl ?_
      refine rmv ?_
      iterate 2 (refine rgo_t rfl ?_)
      refine rpt rfl ?_
      refine rmv ?_
      iterate 2 (refine rgo_t rfl ?_)
      refine rpt rfl ?_
      refine ras ?_
      refine reg_nil ?_
      cases hF
      exact post_cut _ rfl (imps [0] ⟨by kernel_rfl, by kernel_rfl, by kernel_rfl, by kernel_rfl, trivial⟩ ⟨by kernel_rfl, trivial⟩)
    refine rgn hb5 (op_move rfl rfl rfl rfl) ?_
    refine rgn hb5 (op_int (k := .i64) (m := a0.fKind) (n := 4) rfl rfl rfl rfl rfl rfl) ?_
    refine rgn hb5 (op_move rfl rfl rfl rfl) ?_
    rcases ite_some hF with ⟨hb6, hF⟩ | ⟨hb6, hF⟩
    · refine rgn hb6 (op_field_lp rfl rfl Try_fld_83_1 rfl rfl) ?_
      refine rgn hb6 (op_load_lp (v := .pv (.str a0.fX)) rfl rfl rfl rfl Try_one_9 rfl rfl) ?_
      refine rgn hb6 (op_str rfl rfl rfl rfl rfl rfl) ?_
      refine rgn hb5 (op_pick_t rfl rfl hb6 rfl rfl rfl) ?_
      refine rpf hb5 ?_
      refine rmv ?_
      rcases ite_some hF with ⟨hb7, hF⟩ | ⟨hb7, hF⟩
      · refine rgo_t hb7 ?_
        refine rgo_t hb7 ?_
        refine rpt hb7 ?_
        refine rmv ?_
        iterate 2 (refine rgo_t rfl ?_)
        refine rpt rfl ?_
        refine rmv ?_
        iterate 2 (refine rgo_t rfl ?_)
        refine rpt rfl ?_
        refine ras ?_
        refine reg_nil ?_
        cases hF
        exact post_cut _ rfl (imps [0] ⟨by kernel_rfl, by kernel_rfl, by kernel_rfl, by kernel_rfl, trivial⟩ ⟨by kernel_rfl, trivial⟩)
      refine rgn hb7 (op_move rfl rfl rfl rfl) ?_
      refine rgn hb7 (op_int (k := .i64) (m := a0.fKind) (n := 3) rfl rfl rfl rfl rfl rfl) ?_
      refine rpf hb7 ?_
      refine rmv ?_
      rcases ite_some hF with ⟨hb8, hF⟩ | ⟨hb8, hF⟩
      · refine rgo_t hb8 ?_
        refine rgo_t hb8 ?_
        refine rpt hb8 ?_
        refine rmv ?_
        iterate 2 (refine rgo_t rfl ?_)
        refine rpt rfl ?_
        refine ras ?_
        refine reg_nil ?_
        cases hF
        exact post_cut _ rfl (imps [0] ⟨by kernel_rfl, by kernel_rfl, by kernel_rfl, by kernel_rfl, trivial⟩ ⟨by kernel_rfl, trivial⟩)
      refine rgn hb8 (op_move rfl rfl rfl rfl) ?_
      refine rgn hb8 (op_int (k := .i64) (m := a0.fKind) (n := 8) rfl rfl rfl rfl rfl rfl) ?_
      refine rpf hb8 ?_
      refine rmv ?_
      rcases ite_some hF with ⟨hb9, hF⟩ | ⟨hb9, hF⟩
      · refine rgo_t hb9 ?_
        refine rgo_t hb9 ?_
        refine rpt hb9 ?_
        refine ras ?_
        refine reg_nil ?_
        cases hF
        exact post_cut _ rfl (imps [0] ⟨by kernel_rfl, by kernel_rfl, by kernel_rfl, by kernel_rfl, trivial⟩ ⟨by kernel_rfl, trivial⟩)
      refine rgn hb9 (op_move rfl rfl rfl rfl) ?_
      refine rgn hb9 (op_int (k := .i64) (m := a0.fKind) (n := 9) rfl rfl rfl rfl rfl rfl) ?_
      refine rpf hb9 ?_
      refine ras ?_
      refine reg_nil ?_
      cases hF
      exact post_cut _ rfl (imps [0] ⟨by kernel_rfl, by kernel_rfl, by kernel_rfl, by kernel_rfl, trivial⟩ ⟨by kernel_rfl, trivial⟩)
    iterate 3 (refine rgo_f hb6 ?_)
    refine rgn hb5 (op_pick_f rfl rfl hb6 rfl rfl rfl) ?_
    refine rpf hb5 ?_
    refine rmv ?_
    refine rgn rfl (op_move rfl rfl rfl rfl) ?_
    refine rgn rfl (op_int (k := .i64) (m := a0.fKind) (n := 3) rfl rfl rfl rfl rfl rfl) ?_
    refine rpf rfl ?_
    refine rmv ?_
    rcases ite_some hF with ⟨hb10, hF⟩ | ⟨hb10, hF⟩
    · refine rgo_t hb10 ?_
      refine rgo_t hb10 ?_
      refine rpt hb10 ?_
      refine rmv ?_
      iterate 2 (refine rgo_t rfl ?_)
      refine rpt rfl ?_
      refine ras ?_
      refine reg_nil ?_
      cases hF
      exact post_cut _ rfl (imps [0] ⟨by kernel_rfl, by kernel_rfl, by kernel_rfl, by kernel_rfl, trivial⟩ ⟨by kernel_rfl, trivial⟩)
    refine rgn hb10 (op_move rfl rfl rfl rfl) ?_
    refine rgn hb10 (op_int (k := .i64) (m := a0.fKind) (n := 8) rfl rfl rfl rfl rfl rfl) ?_
    refine rpf hb10 ?_
    refine rmv ?_
    rcases ite_some hF with ⟨hb11, hF⟩ | ⟨hb11, hF⟩
    · refine rgo_t hb11 ?_
      refine rgo_t hb11 ?_
      refine rpt hb11 ?_
      refine ras ?_
      refine reg_nil ?_
      cases hF
      exact post_cut _ rfl (imps [0] ⟨by kernel_rfl, by kernel_rfl, by kernel_rfl, by kernel_rfl, trivial⟩ ⟨by kernel_rfl, trivial⟩)
    refine rgn hb11 (op_move rfl rfl rfl rfl) ?_
    refine rgn hb11 (op_int (k := .i64) (m := a0.fKind) (n := 9) rfl rfl rfl rfl rfl rfl) ?_
    refine rpf hb11 ?_
    refine ras ?_
    refine reg_nil ?_
    cases hF
    exact post_cut _ rfl (imps [0] ⟨by kernel_rfl, by kernel_rfl, by kernel_rfl, by kernel_rfl, trivial⟩ ⟨by kernel_rfl, trivial⟩)
  rintro _ rfl
  have hF := hK14
  clear hK14
  refine post_next ?_
  refine aw_seq ?_
  obtain ⟨x38, hF, hK40⟩ := bind_some hF
  refine aw_cut (fun s1 => s1 = ⟨115, [(1, some (.pv (.int .i64 a1))), (2, some (.lp 0 0)), (5, some (.pv (.int .i64 a0.fKind))), (6, some (.pv (.bool x12))), (7, some (.pv (.bool x38)))], [(0, some (.box 83 (bxv (eGStmt a0))))], 1, [], [], 0, []⟩) ?_ ?_
  · refine aw_region ?_
    refine rgp (op_field_lp rfl rfl Try_fld_83_2 rfl rfl) ?_
    refine rgp (op_load_lp (v := .pv (.str a0.fY)) rfl rfl rfl rfl Try_one_9 rfl rfl) ?_
    obtain ⟨y17, h18, hF⟩ := bind_some hF
    refine rgp (op_call 1 rfl (caps := []) (args := [.str a0.fY]) (rs := [.p (.bool y17)]) rfl rfl rfl Try_cal_89 (ref02_Name_ok h18) rfl rfl rfl) ?_
    refine rmv ?_
    rcases ite_some hF with ⟨hb19, hF⟩ | ⟨hb19, hF⟩
    · refine rgo_t hb19 ?_
      iterate 2 (refine rgo_t hb19 ?_)
      iterate 2 (refine rgu ?_)
      iterate 2 (refine rgo_t hb19 ?_)
      iterate 2 (refine rgu ?_)
      iterate 2 (refine rgo_t hb19 ?_)
      iterate 3 (refine rgu ?_)
      refine rgo_t hb19 ?_
      refine rpt hb19 ?_
      refine rmv ?_
      iterate 2 (refine rgo_t rfl ?_)
      refine rpt rfl ?_
      refine rmv ?_
      iterate 2 (refine rgo_t rfl ?_)
      refine rpt rfl ?_
      refine rmv ?_
      iterate 2 (refine rgo_t rfl ?_)
      refine rpt rfl ?_
      refine rmv ?_
      iterate 2 (refine rgo_t rfl ?_)
      refine rpt rfl ?_
      refine ras ?_
      refine reg_nil ?_
      cases hF
      exact post_cut _ rfl (imps [0] ⟨by kernel_rfl, by kernel_rfl, by kernel_rfl, by kernel_rfl, by kernel_rfl, trivial⟩ ⟨by kernel_rfl, trivial⟩)
    refine rgn hb19 (op_move rfl rfl rfl rfl) ?_
    refine rgn hb19 (op_int (k := .i64) (m := a0.fKind) (n := 2) rfl rfl rfl rfl rfl rfl) ?_
    refine rgn hb19 (op_move rfl rfl rfl rfl) ?_
    rcases ite_some hF with ⟨hb20, hF⟩ | ⟨hb20, hF⟩
    · refine rgo_t hb20 ?_
      refine rgo_t hb20 ?_
      refine rgn hb19 (op_pick_t rfl rfl hb20 rfl rfl rfl) ?_
      refine rgn hb19 (op_move rfl rfl rfl rfl) ?_
      iterate 2 (refine rgo_t rfl ?_)
      refine rgn hb19 (op_pick_t rfl rfl rfl rfl rfl rfl) ?_
      refine rgn hb19 (op_move rfl rfl rfl rfl) ?_
      refine rgn rfl (op_field_lp rfl rfl Try_fld_83_2 rfl rfl) ?_
      refine rgn rfl (op_load_lp (v := .pv (.str a0.fY)) rfl rfl rfl rfl Try_one_9 rfl rfl) ?_
      refine rgn rfl (op_str rfl rfl rfl rfl rfl rfl) ?_
      refine rgn hb19 (op_pick_t rfl rfl rfl rfl rfl rfl) ?_
      refine rpf hb19 ?_
      refine rmv ?_
      rcases ite_some hF with ⟨hb21, hF⟩ | ⟨hb21, hF⟩
      · refine rgo_t hb21 ?_
        refine rgo_t hb21 ?_
        refine rpt hb21 ?_
        refine rmv ?_
        iterate 2 (refine rgo_t rfl ?_)
        refine rpt rfl ?_
        refine rmv ?_
        iterate 2 (refine rgo_t rfl ?_)
        refine rpt rfl ?_
        refine rmv ?_
        iterate 2 (refine rgo_t rfl ?_)
        refine rpt rfl ?_
        refine ras ?_
        refine reg_nil ?_
        cases hF
        exact post_cut _ rfl (imps [0] ⟨by kernel_rfl, by kernel_rfl, by kernel_rfl, by kernel_rfl, by kernel_rfl, trivial⟩ ⟨by kernel_rfl, trivial⟩)
      refine rgn hb21 (op_move rfl rfl rfl rfl) ?_
      refine rgn hb21 (op_int (k := .i64) (m := a0.fKind) (n := 1) rfl rfl rfl rfl rfl rfl) ?_
      refine rpf hb21 ?_
      refine rmv ?_
      rcases ite_some hF with ⟨hb22, hF⟩ | ⟨hb22, hF⟩
      · refine rgo_t hb22 ?_
        refine rgo_t hb22 ?_
        refine rpt hb22 ?_
        refine rmv ?_
        iterate 2 (refine rgo_t rfl ?_)
        refine rpt rfl ?_
        refine rmv ?_
        iterate 2 (refine rgo_t rfl ?_)
        refine rpt rfl ?_
        refine ras ?_
        refine reg_nil ?_
        cases hF
        exact post_cut _ rfl (imps [0] ⟨by kernel_rfl, by kernel_rfl, by kernel_rfl, by kernel_rfl, by kernel_rfl, trivial⟩ ⟨by kernel_rfl, trivial⟩)
      refine rgn hb22 (op_move rfl rfl rfl rfl) ?_
      refine rgn hb22 (op_int (k := .i64) (m := a0.fKind) (n := 5) rfl rfl rfl rfl rfl rfl) ?_
      refine rpf hb22 ?_
      refine rmv ?_
      rcases ite_some hF with ⟨hb23, hF⟩ | ⟨hb23, hF⟩
      · refine rgo_t hb23 ?_
        refine rgo_t hb23 ?_
        refine rpt hb23 ?_
        refine rmv ?_
        iterate 2 (refine rgo_t rfl ?_)
        refine rpt rfl ?_
        refine ras ?_
        refine reg_nil ?_
        cases hF
        exact post_cut _ rfl (imps [0] ⟨by kernel_rfl, by kernel_rfl, by kernel_rfl, by kernel_rfl, by kernel_rfl, trivial⟩ ⟨by kernel_rfl, trivial⟩)
      refine rgn hb23 (op_move rfl rfl rfl rfl) ?_
      refine rgn hb23 (op_int (k := .i64) (m := a0.fKind) (n := 6) rfl rfl rfl rfl rfl rfl) ?_
      refine rpf hb23 ?_
      refine rmv ?_
      rcases ite_some hF with ⟨hb24, hF⟩ | ⟨hb24, hF⟩
      · refine rgo_t hb24 ?_
        refine rgo_t hb24 ?_
        refine rpt hb24 ?_
        refine ras ?_
        refine reg_nil ?_
        cases hF
        exact post_cut _ rfl (imps [0] ⟨by kernel_rfl, by kernel_rfl, by kernel_rfl, by kernel_rfl, by kernel_rfl, trivial⟩ ⟨by kernel_rfl, trivial⟩)
      refine rgn hb24 (op_move rfl rfl rfl rfl) ?_
      refine rgn hb24 (op_int (k := .i64) (m := a0.fKind) (n := 9) rfl rfl rfl rfl rfl rfl) ?_
      refine rpf hb24 ?_
      refine ras ?_
      refine reg_nil ?_
      cases hF
      exact post_cut _ rfl (imps [0] ⟨by kernel_rfl, by kernel_rfl, by kernel_rfl, by kernel_rfl, by kernel_rfl, trivial⟩ ⟨by kernel_rfl, trivial⟩)
    refine rgn hb20 (op_move rfl rfl rfl rfl) ?_
    refine rgn hb20 (op_int (k := .i64) (m := a0.fKind) (n := 3) rfl rfl rfl rfl rfl rfl) ?_
    refine rgn hb19 (op_pick_f rfl rfl hb20 rfl rfl rfl) ?_
    refine rgn hb19 (op_move rfl rfl rfl rfl) ?_
    rcases ite_some hF with ⟨hb25, hF⟩ | ⟨hb25, hF⟩
    · refine rgo_t hb25 ?_
      refine rgo_t hb25 ?_
      refine rgn hb19 (op_pick_t rfl rfl hb25 rfl rfl rfl) ?_
      refine rgn hb19 (op_move rfl rfl rfl rfl) ?_
      refine rgn rfl (op_field_lp rfl rfl Try_fld_83_2 rfl rfl) ?_
      refine rgn rfl (op_load_lp (v := .pv (.str a0.fY)) rfl rfl rfl rfl Try_one_9 rfl rfl) ?_
      refine rgn rfl (op_str rfl rfl rfl rfl rfl rfl) ?_
      refine rgn hb19 (op_pick_t rfl rfl rfl rfl rfl rfl) ?_
      refine rpf hb19 ?_
      refine rmv ?_
      rcases ite_some hF with ⟨hb26, hF⟩ | ⟨hb26, hF⟩
      · refine rgo_t hb26 ?_
        refine rgo_t hb26 ?_
        refine rpt hb26 ?_
        refine rmv ?_
        iterate 2 (refine rgo_t rfl ?_)
        refine rpt rfl ?_
        refine rmv ?_
        iterate 2 (refine rgo_t rfl ?_)
        refine rpt rfl ?_
        refine rmv ?_
        iterate 2 (refine rgo_t rfl ?_)
        refine rpt rfl ?_
        refine ras ?_
        refine reg_nil ?_
        cases hF
        exact post_cut _ rfl (imps [0] ⟨by kernel_rfl, by kernel_rfl, by kernel_rfl, by kernel_rfl, by kernel_rfl, trivial⟩ ⟨by kernel_rfl, trivial⟩)
      refine rgn hb26 (op_move rfl rfl rfl rfl) ?_
      refine rgn hb26 (op_int (k := .i64) (m := a0.fKind) (n := 1) rfl rfl rfl rfl rfl rfl) ?_
      refine rpf hb26 ?_
      refine rmv ?_
      rcases ite_some hF with ⟨hb27, hF⟩ | ⟨hb27, hF⟩
      · refine rgo_t hb27 ?_
        refine rgo_t hb27 ?_
        refine rpt hb27 ?_
        refine rmv ?_
        iterate 2 (refine rgo_t rfl ?_)
        refine rpt rfl ?_
        refine rmv ?_
        iterate 2 (refine rgo_t rfl ?_)
        refine rpt rfl ?_
        refine ras ?_
        refine reg_nil ?_
        cases hF
        exact post_cut _ rfl (imps [0] ⟨by kernel_rfl, by kernel_rfl, by kernel_rfl, by kernel_rfl, by kernel_rfl, trivial⟩ ⟨by kernel_rfl, trivial⟩)
      refine rgn hb27 (op_move rfl rfl rfl rfl) ?_
      refine rgn hb27 (op_int (k := .i64) (m := a0.fKind) (n := 5) rfl rfl rfl rfl rfl rfl) ?_
      refine rpf hb27 ?_
      refine rmv ?_
      rcases ite_some hF with ⟨hb28, hF⟩ | ⟨hb28, hF⟩
      · refine rgo_t hb28 ?_
        refine rgo_t hb28 ?_
        refine rpt hb28 ?_
        refine rmv ?_
        iterate 2 (refine rgo_t rfl ?_)
        refine rpt rfl ?_
        refine ras ?_
        refine reg_nil ?_
        cases hF
        exact post_cut _ rfl (imps [0] ⟨by kernel_rfl, by kernel_rfl, by kernel_rfl, by kernel_rfl, by kernel_rfl, trivial⟩ ⟨by kernel_rfl, trivial⟩)
      refine rgn hb28 (op_move rfl rfl rfl rfl) ?_
      refine rgn hb28 (op_int (k := .i64) (m := a0.fKind) (n := 6) rfl rfl rfl rfl rfl rfl) ?_
      refine rpf hb28 ?_
      refine rmv ?_
      rcases ite_some hF with ⟨hb29, hF⟩ | ⟨hb29, hF⟩
      · refine rgo_t hb29 ?_
        refine rgo_t hb29 ?_
        refine rpt hb29 ?_
        refine ras ?_
        refine reg_nil ?_
        cases hF
        exact post_cut _ rfl (imps [0] ⟨by kernel_rfl, by kernel_rfl, by kernel_rfl, by kernel_rfl, by kernel_rfl, trivial⟩ ⟨by kernel_rfl, trivial⟩)
      refine rgn hb29 (op_move rfl rfl rfl rfl) ?_
      refine rgn hb29 (op_int (k := .i64) (m := a0.fKind) (n := 9) rfl rfl rfl rfl rfl rfl) ?_
      refine rpf hb29 ?_
      refine ras ?_
      refine reg_nil ?_
      cases hF
      exact post_cut _ rfl (imps [0] ⟨by kernel_rfl, by kernel_rfl, by kernel_rfl, by kernel_rfl, by kernel_rfl, trivial⟩ ⟨by kernel_rfl, trivial⟩)
    refine rgn hb25 (op_move rfl rfl rfl rfl) ?_
    refine rgn hb25 (op_int (k := .i64) (m := a0.fKind) (n := 4) rfl rfl rfl rfl rfl rfl) ?_
    refine rgn hb19 (op_pick_f rfl rfl hb25 rfl rfl rfl) ?_
    refine rgn hb19 (op_move rfl rfl rfl rfl) ?_
    rcases ite_some hF with ⟨hb30, hF⟩ | ⟨hb30, hF⟩
    · refine rgn hb30 (op_field_lp rfl rfl Try_fld_83_2 rfl rfl) ?_
      refine rgn hb30 (op_load_lp (v := .pv (.str a0.fY)) rfl rfl rfl rfl Try_one_9 rfl rfl) ?_
      refine rgn hb30 (op_str rfl rfl rfl rfl rfl rfl) ?_
      refine rgn hb19 (op_pick_t rfl rfl hb30 rfl rfl rfl) ?_
      refine rpf hb19 ?_
      refine rmv ?_
      rcases ite_some hF with ⟨hb31, hF⟩ | ⟨hb31, hF⟩
      · refine rgo_t hb31 ?_
        refine rgo_t hb31 ?_
        refine rpt hb31 ?_
        refine rmv ?_
        iterate 2 (refine rgo_t rfl ?_)
        refine rpt rfl ?_
        refine rmv ?_
        iterate 2 (refine rgo_t rfl ?_)
        refine rpt rfl ?_
        refine rmv ?_
        iterate 2 (refine rgo_t rfl ?_)
        refine rpt rfl ?_
        refine ras ?_
        refine reg_nil ?_
        cases hF
        exact post_cut _ rfl (imps [0] ⟨by kernel_rfl, by kernel_rfl, by kernel_rfl, by kernel_rfl, by kernel_rfl, trivial⟩ ⟨by kernel_rfl, trivial⟩)
      refine rgn hb31 (op_move rfl rfl rfl rfl) ?_
      refine rgn hb31 (op_int (k := .i64) (m := a0.fKind) (n := 1) rfl rfl rfl rfl rfl rfl) ?_
      refine rpf hb31 ?_
      refine rmv ?_
      rcases ite_some hF with ⟨hb32, hF⟩ | ⟨hb32, hF⟩
      · refine rgo_t hb32 ?_
        refine rgo_t hb32 ?_
        refine rpt hb32 ?_
        refine rmv ?_
        iterate 2 (refine rgo_t rfl ?_)
        refine rpt rfl ?_
        refine rmv ?_
        iterate 2 (refine rgo_t rfl ?_)
        refine rpt rfl ?_
        refine ras ?_
        refine reg_nil ?_
        cases hF
        exact post_cut _ rfl (imps [0] ⟨by kernel_rfl, by kernel_rfl, by kernel_rfl, by kernel_rfl, by kernel_rfl, trivial⟩ ⟨by kernel_rfl, trivial⟩)
      refine rgn hb32 (op_move rfl rfl rfl rfl) ?_
      refine rgn hb32 (op_int (k := .i64) (m := a0.fKind) (n := 5) rfl rfl rfl rfl rfl rfl) ?_
      refine rpf hb32 ?_
      refine rmv ?_
      rcases ite_some hF with ⟨hb33, hF⟩ | ⟨hb33, hF⟩
      · refine rgo_t hb33 ?_
        refine rgo_t hb33 ?_
        refine rpt hb33 ?_
        refine rmv ?_
        iterate 2 (refine rgo_t rfl ?_)
        refine rpt rfl ?_
        refine ras ?_
        refine reg_nil ?_
        cases hF
        exact post_cut _ rfl (imps [0] ⟨by kernel_rfl, by kernel_rfl, by kernel_rfl, by kernel_rfl, by kernel_rfl, trivial⟩ ⟨by kernel_rfl, trivial⟩)
      refine rgn hb33 (op_move rfl rfl rfl rfl) ?_
      refine rgn hb33 (op_int (k := .i64) (m := a0.fKind) (n := 6) rfl rfl rfl rfl rfl rfl) ?_
      refine rpf hb33 ?_
      refine rmv ?_
      rcases ite_some hF with ⟨hb34, hF⟩ | ⟨hb34, hF⟩
      · refine rgo_t hb34 ?_
        refine rgo_t hb34 ?_
        refine rpt hb34 ?_
        refine ras ?_
        refine reg_nil ?_
        cases hF
        exact post_cut _ rfl (imps [0] ⟨by kernel_rfl, by kernel_rfl, by kernel_rfl, by kernel_rfl, by kernel_rfl, trivial⟩ ⟨by kernel_rfl, trivial⟩)
      refine rgn hb34 (op_move rfl rfl rfl rfl) ?_
      refine rgn hb34 (op_int (k := .i64) (m := a0.fKind) (n := 9) rfl rfl rfl rfl rfl rfl) ?_
      refine rpf hb34 ?_
      refine ras ?_
      refine reg_nil ?_
      cases hF
      exact post_cut _ rfl (imps [0] ⟨by kernel_rfl, by kernel_rfl, by kernel_rfl, by kernel_rfl, by kernel_rfl, trivial⟩ ⟨by kernel_rfl, trivial⟩)
    iterate 3 (refine rgo_f hb30 ?_)
    refine rgn hb19 (op_pick_f rfl rfl hb30 rfl rfl rfl) ?_
    refine rpf hb19 ?_
    refine rmv ?_
    refine rgn rfl (op_move rfl rfl rfl rfl) ?_
    refine rgn rfl (op_int (k := .i64) (m := a0.fKind) (n := 1) rfl rfl rfl rfl rfl rfl) ?_
    refine rpf rfl ?_
    refine rmv ?_
    rcases ite_some hF with ⟨hb35, hF⟩ | ⟨hb35, hF⟩
    · refine rgo_t hb35 ?_
      refine rgo_t hb35 ?_
      refine rpt hb35 ?_
      refine rmv ?_
      iterate 2 (refine rgo_t rfl ?_)
      refine rpt rfl ?_
      refine rmv ?_
      iterate 2 (refine rgo_t rfl ?_)
      refine rpt rfl ?_
      refine ras ?_
      refine reg_nil ?_
      cases hF
      exact post_cut _ rfl (imps [0] ⟨by kernel_rfl, by kernel_rfl, by kernel_rfl, by kernel_rfl, by kernel_rfl, trivial⟩ ⟨by kernel_rfl, trivial⟩)
    refine rgn hb35 (op_move rfl rfl rfl rfl) ?_
    refine rgn hb35 (op_int (k := .i64) (m := a0.fKind) (n := 5) rfl rfl rfl rfl rfl rfl) ?_
    refine rpf hb35 ?_
    refine rmv ?_
    rcases ite_some hF with ⟨hb36, hF⟩ | ⟨hb36, hF⟩
    · refine rgo_t hb36 ?_
      refine rgo_t hb36 ?_
      refine rpt hb36 ?_
      refine rmv ?_
      iterate 2 (refine rgo_t rfl ?_)
      refine rpt rfl ?_
      refine ras ?_
      refine reg_nil ?_
      cases hF
      exact post_cut _ rfl (imps [0] ⟨by kernel_rfl, by kernel_rfl, by kernel_rfl, by kernel_rfl, by kernel_rfl, trivial⟩ ⟨by kernel_rfl, trivial⟩)
    refine rgn hb36 (op_move rfl rfl rfl rfl) ?_
    refine rgn hb36 (op_int (k := .i64) (m := a0.fKind) (n := 6) rfl rfl rfl rfl rfl rfl) ?_
    refine rpf hb36 ?_
    refine rmv ?_
    rcases ite_some hF with ⟨hb37, hF⟩ | ⟨hb37, hF⟩
    · refine rgo_t hb37 ?_
      refine rgo_t hb37 ?_
      refine rpt hb37 ?_
      refine ras ?_
      refine reg_nil ?_
      cases hF
      exact post_cut _ rfl (imps [0] ⟨by kernel_rfl, by kernel_rfl, by kernel_rfl, by kernel_rfl, by kernel_rfl, trivial⟩ ⟨by kernel_rfl, trivial⟩)
    refine rgn hb37 (op_move rfl rfl rfl rfl) ?_
    refine rgn hb37 (op_int (k := .i64) (m := a0.fKind) (n := 9) rfl rfl rfl rfl rfl rfl) ?_
    refine rpf hb37 ?_
    refine ras ?_
    refine reg_nil ?_
    cases hF
    exact post_cut _ rfl (imps [0] ⟨by kernel_rfl, by kernel_rfl, by kernel_rfl, by kernel_rfl, by kernel_rfl, trivial⟩ ⟨by kernel_rfl, trivial⟩)
  rintro _ rfl
  have hF := hK40
  clear hK40
  refine post_next ?_
  refine aw_seq ?_
  obtain ⟨x48, hF, hK50⟩ := bind_some hF
  refine aw_cut (fun s1 => s1 = ⟨115, [(1, some (.pv (.int .i64 a1))), (2, some (.lp 0 0)), (5, some (.pv (.int .i64 a0.fKind))), (6, some (.pv (.bool x12))), (7, some (.pv (.bool x38))), (8, some (.pv (.bool x48)))], [(0, some (.box 83 (bxv (eGStmt a0))))], 1, [], [], 0, []⟩) ?_ ?_
  · refine aw_region ?_
    refine rgp (op_field_lp rfl rfl Try_fld_83_3 rfl rfl) ?_
    refine rgp (op_load_lp (v := .pv (.str a0.fName)) rfl rfl rfl rfl Try_one_9 rfl rfl) ?_
    obtain ⟨y43, h44, hF⟩ := bind_some hF
    refine rgp (op_call 1 rfl (caps := []) (args := [.str a0.fName]) (rs := [.p (.bool y43)]) rfl rfl rfl Try_cal_89 (ref02_Name_ok h44) rfl rfl rfl) ?_
    refine rmv ?_
    rcases ite_some hF with ⟨hb45, hF⟩ | ⟨hb45, hF⟩
    · refine rgo_t hb45 ?_
      iterate 2 (refine rgo_t hb45 ?_)
      iterate 2 (refine rgu ?_)
      iterate 2 (refine rgo_t hb45 ?_)
      iterate 2 (refine rgu ?_)
      refine rgo_t hb45 ?_
      refine rpt hb45 ?_
      refine ras ?_
      refine reg_nil ?_
      cases hF
      exact post_cut _ rfl (imps [0] ⟨by kernel_rfl, by kernel_rfl, by kernel_rfl, by kernel_rfl, by kernel_rfl, by kernel_rfl, trivial⟩ ⟨by kernel_rfl, trivial⟩)
    refine rgn hb45 (op_move rfl rfl rfl rfl) ?_
    refine rgn hb45 (op_int (k := .i64) (m := a0.fKind) (n := 2) rfl rfl rfl rfl rfl rfl) ?_
    refine rgn hb45 (op_move rfl rfl rfl rfl) ?_
    rcases ite_some hF with ⟨hb46, hF⟩ | ⟨hb46, hF⟩
    · refine rgn hb46 (op_move rfl rfl rfl rfl) ?_
      refine rgn hb46 (op_int (k := .i64) (m := a0.fKind) (n := 3) rfl rfl rfl rfl rfl rfl) ?_
      refine rgn hb45 (op_pick_t rfl rfl hb46 rfl rfl rfl) ?_
      refine rgn hb45 (op_move rfl rfl rfl rfl) ?_
      rcases ite_some hF with ⟨hb47, hF⟩ | ⟨hb47, hF⟩
      · refine rgn hb47 (op_move rfl rfl rfl rfl) ?_
        refine rgn hb47 (op_int (k := .i64) (m := a0.fKind) (n := 4) rfl rfl rfl rfl rfl rfl) ?_
        refine rgn hb45 (op_pick_t rfl rfl hb47 rfl rfl rfl) ?_
        refine rpf hb45 ?_
        refine ras ?_
        refine reg_nil ?_
        cases hF
        exact post_cut _ rfl (imps [0] ⟨by kernel_rfl, by kernel_rfl, by kernel_rfl, by kernel_rfl, by kernel_rfl, by kernel_rfl, trivial⟩ ⟨by kernel_rfl, trivial⟩)
      iterate 2 (refine rgo_f hb47 ?_)
      refine rgn hb45 (op_pick_f rfl rfl hb47 rfl rfl rfl) ?_
      refine rpf hb45 ?_
      refine ras ?_
      refine reg_nil ?_
      cases hF
      exact post_cut _ rfl (imps [0] ⟨by kernel_rfl, by kernel_rfl, by kernel_rfl, by kernel_rfl, by kernel_rfl, by kernel_rfl, trivial⟩ ⟨by kernel_rfl, trivial⟩)
    iterate 2 (refine rgo_f hb46 ?_)
    refine rgn hb45 (op_pick_f rfl rfl hb46 rfl rfl rfl) ?_
    refine rgn hb45 (op_move rfl rfl rfl rfl) ?_
    iterate 2 (refine rgo_f rfl ?_)
    refine rgn hb45 (op_pick_f rfl rfl rfl rfl rfl rfl) ?_
    refine rpf hb45 ?_
    refine ras ?_
    refine reg_nil ?_
    cases hF
    exact post_cut _ rfl (imps [0] ⟨by kernel_rfl, by kernel_rfl, by kernel_rfl, by kernel_rfl, by kernel_rfl, by kernel_rfl, trivial⟩ ⟨by kernel_rfl, trivial⟩)
  rintro _ rfl
  have hF := hK50
  clear hK50
  refine post_next ?_
  refine aw_seq ?_
  obtain ⟨x57, hF, hK59⟩ := bind_some hF
  refine aw_cut (fun s1 => s1 = ⟨115, [(6, some (.pv (.bool x12))), (7, some (.pv (.bool x38))), (8, some (.pv (.bool x48))), (9, some (.pv (.bool x57)))], [], 0, [], [], 0, []⟩) ?_ ?_
  · refine aw_region ?_
    refine rgp (op_field_lp rfl rfl Try_fld_83_4 rfl rfl) ?_
    refine rgp (op_field_lp rfl rfl Try_fld_29_0 rfl rfl) ?_
    refine rgp (op_load_lp (v := .pv (.int .i64 a0.fType.fKind)) rfl rfl rfl rfl Try_one_3 rfl rfl) ?_
    refine rgp (op_int (k := .i64) (m := a0.fType.fKind) (n := 2) rfl rfl rfl rfl rfl rfl) ?_
    refine rmv ?_
    rcases ite_some hF with ⟨hb51, hF⟩ | ⟨hb51, hF⟩
    · refine rgn hb51 (op_field_lp rfl rfl Try_fld_83_4 rfl rfl) ?_
      refine rgn hb51 (op_load_lp_agg (ps := eGType a0.fType) rfl rfl rfl rfl rfl rfl Try_agg_29 rfl rfl) ?_
      refine rgn hb51 (op_move rfl rfl rfl rfl) ?_
      obtain ⟨y52, h53, hF⟩ := bind_some hF
      refine rgn hb51 (op_call 1 rfl (caps := []) (args := [.agg (eGType a0.fType), .int .i64 a1]) (rs := [.p (.bool y52)]) rfl rfl rfl Try_cal_117 (ref05_Right_ok h53) rfl rfl rfl) ?_
      refine rpt hb51 ?_
      refine rmv ?_
      rcases ite_some hF with ⟨hb54, hF⟩ | ⟨hb54, hF⟩
      · refine rgo_t hb54 ?_
        iterate 2 (refine rgo_t hb54 ?_)
        iterate 2 (refine rgu ?_)
        refine rgo_t hb54 ?_
        refine rpt hb54 ?_
        refine ras ?_
        refine reg_nil ?_
        cases hF
        exact post_cut _ rfl (imps [] ⟨by kernel_rfl, by kernel_rfl, by kernel_rfl, by kernel_rfl, trivial⟩ trivial)
      refine rgn hb54 (op_move rfl rfl rfl rfl) ?_
      refine rgn hb54 (op_int (k := .i64) (m := a0.fKind) (n := 5) rfl rfl rfl rfl rfl rfl) ?_
      refine rgn hb54 (op_move rfl rfl rfl rfl) ?_
      rcases ite_some hF with ⟨hb55, hF⟩ | ⟨hb55, hF⟩
      · refine rgn hb55 (op_move rfl rfl rfl rfl) ?_
        refine rgn hb55 (op_int (k := .i64) (m := a0.fKind) (n := 6) rfl rfl rfl rfl rfl rfl) ?_
        refine rgn hb54 (op_pick_t rfl rfl hb55 rfl rfl rfl) ?_
        refine rpf hb54 ?_
        refine ras ?_
        refine reg_nil ?_
        cases hF
        exact post_cut _ rfl (imps [] ⟨by kernel_rfl, by kernel_rfl, by kernel_rfl, by kernel_rfl, trivial⟩ trivial)
      iterate 2 (refine rgo_f hb55 ?_)
      refine rgn hb54 (op_pick_f rfl rfl hb55 rfl rfl rfl) ?_
      refine rpf hb54 ?_
      refine ras ?_
      refine reg_nil ?_
      cases hF
      exact post_cut _ rfl (imps [] ⟨by kernel_rfl, by kernel_rfl, by kernel_rfl, by kernel_rfl, trivial⟩ trivial)
    iterate 4 (refine rgo_f hb51 ?_)
    refine rpf hb51 ?_
    refine rmv ?_
    refine rgn rfl (op_move rfl rfl rfl rfl) ?_
    refine rgn rfl (op_int (k := .i64) (m := a0.fKind) (n := 5) rfl rfl rfl rfl rfl rfl) ?_
    refine rgn rfl (op_move rfl rfl rfl rfl) ?_
    rcases ite_some hF with ⟨hb56, hF⟩ | ⟨hb56, hF⟩
    · refine rgn hb56 (op_move rfl rfl rfl rfl) ?_
      refine rgn hb56 (op_int (k := .i64) (m := a0.fKind) (n := 6) rfl rfl rfl rfl rfl rfl) ?_
      refine rgn rfl (op_pick_t rfl rfl hb56 rfl rfl rfl) ?_
      refine rpf rfl ?_
      refine ras ?_
      refine reg_nil ?_
      cases hF
      exact post_cut _ rfl (imps [] ⟨by kernel_rfl, by kernel_rfl, by kernel_rfl, by kernel_rfl, trivial⟩ trivial)
    iterate 2 (refine rgo_f hb56 ?_)
    refine rgn rfl (op_pick_f rfl rfl hb56 rfl rfl rfl) ?_
    refine rpf rfl ?_
    refine ras ?_
    refine reg_nil ?_
    cases hF
    exact post_cut _ rfl (imps [] ⟨by kernel_rfl, by kernel_rfl, by kernel_rfl, by kernel_rfl, trivial⟩ trivial)
  rintro _ rfl
  have hF := hK59
  clear hK59
  refine post_next ?_
  refine aw_seq ?_
  refine aw_region ?_
  iterate 2 (refine rmv ?_)
  rcases ite_some hF with ⟨hb60, hF⟩ | ⟨hb60, hF⟩
  · refine rgn hb60 (op_move rfl rfl rfl rfl) ?_
    refine rpt hb60 ?_
    refine rmv ?_
    rcases ite_some hF with ⟨hb61, hF⟩ | ⟨hb61, hF⟩
    · refine rgn hb61 (op_move rfl rfl rfl rfl) ?_
      refine rpt hb61 ?_
      refine rmv ?_
      rcases ite_some hF with ⟨hb62, hF⟩ | ⟨hb62, hF⟩
      · refine rgn hb62 (op_move rfl rfl rfl rfl) ?_
        refine rpt hb62 ?_
        refine ras ?_
        refine reg_nil ?_
        refine post_imp (s' := ⟨115, [(4, some (.pv (.bool x57)))], [], 0, [], [], 0, []⟩) (imps [] ⟨by kernel_rfl, trivial⟩ trivial) ?_
        refine post_next ?_
        refine aw_ret ?_
        obtain rfl := Option.some.inj hF
        exact prt
      refine rgo_f hb62 ?_
      refine rpf hb62 ?_
      refine ras ?_
      refine reg_nil ?_
      refine post_imp (s' := ⟨115, [(4, some (.pv (.bool false)))], [], 0, [], [], 0, []⟩) (imps [] ⟨by kernel_rfl, trivial⟩ trivial) ?_
      refine post_next ?_
      refine aw_ret ?_
      obtain rfl := Option.some.inj hF
      exact prt
    refine rgo_f hb61 ?_
    refine rpf hb61 ?_
    refine rmv ?_
    refine rgo_f rfl ?_
    refine rpf rfl ?_
    refine ras ?_
    refine reg_nil ?_
    refine post_imp (s' := ⟨115, [(4, some (.pv (.bool false)))], [], 0, [], [], 0, []⟩) (imps [] ⟨by kernel_rfl, trivial⟩ trivial) ?_
    refine post_next ?_
    refine aw_ret ?_
    obtain rfl := Option.some.inj hF
    exact prt
  refine rgo_f hb60 ?_
  refine rpf hb60 ?_
  refine rmv ?_
  refine rgo_f rfl ?_
  refine rpf rfl ?_
  refine rmv ?_
  refine rgo_f rfl ?_
  refine rpf rfl ?_
  refine ras ?_
  refine reg_nil ?_
  refine post_imp (s' := ⟨115, [(4, some (.pv (.bool false)))], [], 0, [], [], 0, []⟩) (imps [] ⟨by kernel_rfl, trivial⟩ trivial) ?_
  refine post_next ?_
  refine aw_ret ?_
  obtain rfl := Option.some.inj hF
  exact prt
theorem ref06_kids_ok {a0 : Int} {r : Int} (hF : ref06_kids a0 = some r) : Abs.Fn Try.prog 130 [.int .i64 a0] [.p (.int .i64 r)] := by
  unfold ref06_kids at hF
  refine fn_of_body (n := 19) Try.func130 rfl rfl rfl ?_
  intro w O
  refine aw_seq ?_
  refine aw_region ?_
  refine ras ?_
  refine reg_nil ?_
  refine post_imp (s' := ⟨19, [(0, some (.pv (.int .i64 a0)))], [], 0, [], [], 0, []⟩) (imps [] ⟨by kernel_rfl, trivial⟩ trivial) ?_
  refine post_next ?_
  iterate 2 (refine aw_seq ?_)
  obtain ⟨x3, hF, hK5⟩ := bind_some hF
  refine aw_cut (fun s1 => s1 = ⟨19, [(0, some (.pv (.int .i64 a0))), (12, some (.pv (.bool x3)))], [], 0, [], [], 0, []⟩) ?_ ?_
  · refine aw_region ?_
    refine rmv ?_
    refine rgp (op_int (k := .i64) (m := a0) (n := 6) rfl rfl rfl rfl rfl rfl) ?_
    refine rmv ?_
    rcases ite_some hF with ⟨hb1, hF⟩ | ⟨hb1, hF⟩
    · refine rgn hb1 (op_move rfl rfl rfl rfl) ?_
      refine rgn hb1 (op_int (k := .i64) (m := a0) (n := 11) rfl rfl rfl rfl rfl rfl) ?_
      refine rpt hb1 ?_
      refine rmv ?_
      rcases ite_some hF with ⟨hb2, hF⟩ | ⟨hb2, hF⟩
      · refine rgo_t hb2 ?_
        refine rgo_t hb2 ?_
        refine rpt hb2 ?_
        refine reg_nil ?_
        cases hF
        exact post_cut _ rfl (imps [] ⟨by kernel_rfl, by kernel_rfl, trivial⟩ trivial)
      refine rgn hb2 (op_move rfl rfl rfl rfl) ?_
      refine rgn hb2 (op_int (k := .i64) (m := a0) (n := 14) rfl rfl rfl rfl rfl rfl) ?_
      refine rpf hb2 ?_
      refine reg_nil ?_
      cases hF
      exact post_cut _ rfl (imps [] ⟨by kernel_rfl, by kernel_rfl, trivial⟩ trivial)
    iterate 2 (refine rgo_f hb1 ?_)
    refine rpf hb1 ?_
    refine rmv ?_
    refine rgn rfl (op_move rfl rfl rfl rfl) ?_
    refine rgn rfl (op_int (k := .i64) (m := a0) (n := 14) rfl rfl rfl rfl rfl rfl) ?_
    refine rpf rfl ?_
    refine reg_nil ?_
    cases hF
    exact post_cut _ rfl (imps [] ⟨by kernel_rfl, by kernel_rfl, trivial⟩ trivial)
  rintro _ rfl
  have hF := hK5
  clear hK5
  refine post_next ?_
  rcases ite_some hF with ⟨hb6, hF⟩ | ⟨hb6, hF⟩
  · refine aw_cond_t rfl hb6 ?_
    refine aw_seq ?_
    refine aw_region ?_
    refine ras ?_
    refine reg_nil ?_
    refine post_imp (s' := ⟨19, [(2, some (.pv (.int .i64 2)))], [], 0, [], [], 0, []⟩) (imps [] ⟨by kernel_rfl, trivial⟩ trivial) ?_
    refine post_next ?_
    refine aw_ret ?_
    refine post_then_ret ?_
    obtain rfl := Option.some.inj hF
    exact prt
  refine aw_cond_f rfl hb6 ?_
  refine aw_skip ?_
  refine post_next ?_
  iterate 2 (refine aw_seq ?_)
  obtain ⟨x8, hF, hK10⟩ := bind_some hF
  refine aw_cut (fun s1 => s1 = ⟨19, [(18, some (.pv (.bool x8)))], [], 0, [], [], 0, []⟩) ?_ ?_
  · refine aw_region ?_
    refine rmv ?_
    refine rgp (op_int (k := .i64) (m := a0) (n := 12) rfl rfl rfl rfl rfl rfl) ?_
    refine rmv ?_
    rcases ite_some hF with ⟨hb7, hF⟩ | ⟨hb7, hF⟩
    · refine rgo_t hb7 ?_
      refine rgo_t hb7 ?_
      refine rpt hb7 ?_
      refine reg_nil ?_
      cases hF
      exact post_cut _ rfl (imps [] ⟨by kernel_rfl, trivial⟩ trivial)
    refine rgn hb7 (op_move rfl rfl rfl rfl) ?_
    refine rgn hb7 (op_int (k := .i64) (m := a0) (n := 13) rfl rfl rfl rfl rfl rfl) ?_
    refine rpf hb7 ?_
    refine reg_nil ?_
    cases hF
    exact post_cut _ rfl (imps [] ⟨by kernel_rfl, trivial⟩ trivial)
  rintro _ rfl
  have hF := hK10
  clear hK10
  refine post_next ?_
  rcases ite_some hF with ⟨hb11, hF⟩ | ⟨hb11, hF⟩
  · refine aw_cond_t rfl hb11 ?_
    refine aw_seq ?_
    refine aw_region ?_
    refine ras ?_
    refine reg_nil ?_
    refine post_imp (s' := ⟨19, [(2, some (.pv (.int .i64 1)))], [], 0, [], [], 0, []⟩) (imps [] ⟨by kernel_rfl, trivial⟩ trivial) ?_
    refine post_next ?_
    refine aw_ret ?_
    refine post_then_ret ?_
    obtain rfl := Option.some.inj hF
    exact prt
  refine aw_cond_f rfl hb11 ?_
  refine aw_skip ?_
  refine post_next ?_
  refine aw_seq ?_
  refine aw_region ?_
  refine ras ?_
  refine reg_nil ?_
  refine post_imp (s' := ⟨19, [(2, some (.pv (.int .i64 0)))], [], 0, [], [], 0, []⟩) (imps [] ⟨by kernel_rfl, trivial⟩ trivial) ?_
  refine post_next ?_
  refine aw_ret ?_
  obtain rfl := Option.some.inj hF
  exact prt
end Go.Proofs.Ytahieoaggbmicaa
