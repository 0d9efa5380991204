/- A part of the proof that the law MethodFind gives true for every input. -/
import Derived.Test.YtahieoaggbmicaaMethodFindT
import Derived.Test.YtahieoaggbmicaaMethodFindX
import Derived.Test.YtahieoaggbmicaaMethodFindI
/- Each Go function computes its plain function. -/
namespace Go.Proofs.Ytahieoaggbmicaa
open Go.RowKit Go.Abs
set_option maxRecDepth 100000
set_option maxHeartbeats 4000000
theorem ref10_uniques_ok {a0 : GMethod} {r : Int} (hF : ref10_uniques a0 = some r) : Abs.Fn Try.prog 38 [.agg (eGMethod a0)] [.p (.int .i64 r)] := by
  unfold ref10_uniques at hF
  refine fn_of_body (n := 45) Try.func38 rfl rfl rfl ?_
  intro w O
  refine aw_seq ?_
  refine aw_region ?_
  refine reg_cons (guard_no rfl) (op_box 0 rfl rfl rfl rfl rfl rfl) ?_
  refine ras ?_
  refine reg_nil ?_
  refine post_imp (s' := ⟨45, [(1, some (.lp 0 0))], [(0, some (.box 33 (bxv (eGMethod a0))))], 1, [], [], 0, []⟩) (imps [0] ⟨by kernel_rfl, trivial⟩ ⟨by kernel_rfl, trivial⟩) ?_
  refine post_next ?_
  refine aw_seq ?_
  refine aw_region ?_
  refine ras ?_
  refine reg_nil ?_
  refine post_imp (s' := ⟨45, [(1, some (.lp 0 0)), (3, some (.pv (.int .i64 0)))], [(0, some (.box 33 (bxv (eGMethod a0))))], 1, [], [], 0, []⟩) (imps [0] ⟨by kernel_rfl, by kernel_rfl, trivial⟩ ⟨by kernel_rfl, trivial⟩) ?_
  refine post_next ?_
  iterate 2 (refine aw_seq ?_)
  refine aw_region ?_
  refine ras ?_
  refine reg_nil ?_
  refine post_imp (s' := ⟨45, [(1, some (.lp 0 0)), (3, some (.pv (.int .i64 0))), (4, some (.pv (.int .i64 0)))], [(0, some (.box 33 (bxv (eGMethod a0))))], 1, [], [], 0, []⟩) (imps [0] ⟨by kernel_rfl, by kernel_rfl, by kernel_rfl, trivial⟩ ⟨by kernel_rfl, trivial⟩) ?_
  refine post_next ?_
  obtain ⟨x34, hF, hK35⟩ := bind_some hF
  refine aw_for ((((a0.fParams.length : Int) : Int) - (0)).toNat + 1) (fun s1 => s1 = ⟨45, [(1, some (.lp 0 0)), (3, some (.pv (.int .i64 x34)))], [(0, some (.box 33 (bxv (eGMethod a0))))], 1, [], [], 0, []⟩) ?_ ?_
  · refine rnd_loop (α := Int × Int) (fun q => ⟨45, [(1, some (.lp 0 0)), (3, some (.pv (.int .i64 q.1))), (4, some (.pv (.int .i64 q.2)))], [(0, some (.box 33 (bxv (eGMethod a0))))], 1, [], [], 0, []⟩) (fun k q => ref10_uniques_L1 a0 k q.1 q.2 = some x34) (0, 0) (imps [0] ⟨by kernel_rfl, by kernel_rfl, by kernel_rfl, trivial⟩ ⟨by kernel_rfl, trivial⟩) hF (fun q h => by cases h) ?_
    clear hF
    rintro k ⟨x10, x11⟩ hF ih
    refine rnd_succ ?_
    iterate 2 (refine aw_seq ?_)
    refine aw_region ?_
    refine rmv ?_
    refine reg_cons (guard_no rfl) (op_field_lp rfl rfl Try_fld_33_3 rfl rfl) ?_
    refine reg_cons (guard_no rfl) (op_load_lp (v := .pv (.vs 13 (List.map eGVar a0.fParams))) rfl rfl rfl rfl Try_one_30 rfl rfl) ?_
    refine reg_cons (guard_no rfl) (op_len_vs (n := a0.fParams.length) rfl rfl (List.length_map ..) Try_slc_30 rfl rfl) ?_
    refine reg_cons (guard_no rfl) (op_int (k := .i64) (m := x11) (n := (a0.fParams.length : Int)) rfl rfl rfl rfl rfl rfl) ?_
    refine reg_nil ?_
    refine post_imp (s' := ⟨45, [(1, some (.lp 0 0)), (3, some (.pv (.int .i64 x10))), (4, some (.pv (.int .i64 x11))), (10, some (.pv (.bool (decide (x11 < (a0.fParams.length : Int))))))], [(0, some (.box 33 (bxv (eGMethod a0))))], 1, [], [], 0, []⟩) (imps [0] ⟨by kernel_rfl, by kernel_rfl, by kernel_rfl, by kernel_rfl, trivial⟩ ⟨by kernel_rfl, trivial⟩) ?_
    refine post_next ?_
    rcases ite_some hF with ⟨hb23, hF⟩ | ⟨hb23, hF⟩
    · refine aw_cond_t rfl hb23 ?_
      refine aw_skip ?_
      refine post_next ?_
      refine aw_seq ?_
      obtain ⟨x29, hF, hK31⟩ := bind_some hF
      refine aw_cut (fun s1 => s1 = ⟨45, [(1, some (.lp 0 0)), (3, some (.pv (.int .i64 x29))), (4, some (.pv (.int .i64 x11)))], [(0, some (.box 33 (bxv (eGMethod a0))))], 1, [], [], 0, []⟩) ?_ ?_
      · refine aw_block ?_
        refine aw_seq ?_
        refine aw_region ?_
        refine reg_cons (guard_no rfl) (op_field_lp rfl rfl Try_fld_33_3 rfl rfl) ?_
        refine reg_cons (guard_no rfl) (op_load_lp (v := .pv (.vs 13 (List.map eGVar a0.fParams))) rfl rfl rfl rfl Try_one_30 rfl rfl) ?_
        refine rmv ?_
        obtain ⟨y26, h27, hF⟩ := bind_some hF
        refine reg_cons (guard_no rfl) (op_index_vs (k := .i64) rfl rfl rfl (idx_map eGVar h27) Try_slc_30 rfl rfl) ?_
        refine reg_cons (guard_no rfl) (op_field_vp rfl rfl Try_fld_50_1 rfl rfl) ?_
        refine reg_cons (guard_no rfl) (op_field_vp rfl rfl Try_fld_29_3 rfl rfl) ?_
        refine reg_cons (guard_no rfl) (op_arr_vp (k := .i64) (m := 0) (n := 4) rfl rfl rfl Try_arr_27 rfl rfl rfl rfl) ?_
        refine reg_cons (guard_no rfl) (op_field_vp rfl rfl Try_fld_26_0 rfl rfl) ?_
        refine reg_cons (guard_no rfl) (op_load_vp (p := .int .i64 y26.fType.fOwn.a0.fKind) rfl rfl rfl Try_one_3 rfl rfl) ?_
        refine reg_cons (guard_no rfl) (op_int (k := .i64) (m := y26.fType.fOwn.a0.fKind) (n := 6) rfl rfl rfl rfl rfl rfl) ?_
        refine reg_nil ?_
        refine post_imp (s' := ⟨45, [(1, some (.lp 0 0)), (3, some (.pv (.int .i64 x10))), (4, some (.pv (.int .i64 x11))), (22, some (.pv (.bool (y26.fType.fOwn.a0.fKind == 6))))], [(0, some (.box 33 (bxv (eGMethod a0))))], 1, [], [], 0, []⟩) (imps [0] ⟨by kernel_rfl, by kernel_rfl, by kernel_rfl, by kernel_rfl, trivial⟩ ⟨by kernel_rfl, trivial⟩) ?_
        refine post_next ?_
        rcases ite_some hF with ⟨hb28, hF⟩ | ⟨hb28, hF⟩
        · refine aw_cond_t rfl hb28 ?_
          refine aw_region ?_
          refine rmv ?_
          refine reg_cons (guard_no rfl) (op_int (k := .i64) (m := x10) (n := 1) rfl rfl rfl rfl rfl rfl) ?_
          refine ras ?_
          refine reg_nil ?_
          refine post_imp (s' := ⟨45, [(1, some (.lp 0 0)), (3, some (.pv (.int .i64 (w_i64 (x10 + 1))))), (4, some (.pv (.int .i64 x11)))], [(0, some (.box 33 (bxv (eGMethod a0))))], 1, [], [], 0, []⟩) (imps [0] ⟨by kernel_rfl, by kernel_rfl, by kernel_rfl, trivial⟩ ⟨by kernel_rfl, trivial⟩) ?_
          refine post_block_normal ?_
          cases hF
          exact post_cut _ rfl (imps [0] ⟨by kernel_rfl, by kernel_rfl, by kernel_rfl, trivial⟩ ⟨by kernel_rfl, trivial⟩)
        refine aw_cond_f rfl hb28 ?_
        refine aw_skip ?_
        refine post_block_normal ?_
        cases hF
        exact post_cut _ rfl (imps [0] ⟨by kernel_rfl, by kernel_rfl, by kernel_rfl, trivial⟩ ⟨by kernel_rfl, trivial⟩)
      rintro _ rfl
      have hF := hK31
      clear hK31
      refine post_next ?_
      refine aw_region ?_
      refine rmv ?_
      refine reg_cons (guard_no rfl) (op_int (k := .i64) (m := x11) (n := 1) rfl rfl rfl rfl rfl rfl) ?_
      refine ras ?_
      refine reg_nil ?_
      refine post_round ?_
      exact rnd_back (ih (x29, w_i64 (x11 + 1)) hF) (imps [0] ⟨by kernel_rfl, by kernel_rfl, by kernel_rfl, trivial⟩ ⟨by kernel_rfl, trivial⟩)
    refine aw_cond_f rfl hb23 ?_
    refine aw_exit ?_
    iterate 2 (refine post_then_exit ?_)
    obtain rfl := Option.some.inj hF
    exact post_lp_break _ rfl (imps [0] ⟨by kernel_rfl, by kernel_rfl, trivial⟩ ⟨by kernel_rfl, trivial⟩)
  rintro _ rfl
  have hF := hK35
  clear hK35
  refine post_next ?_
  iterate 2 (refine aw_seq ?_)
  refine aw_region ?_
  refine ras ?_
  refine reg_nil ?_
  refine post_imp (s' := ⟨45, [(1, some (.lp 0 0)), (3, some (.pv (.int .i64 x34))), (5, some (.pv (.int .i64 0)))], [(0, some (.box 33 (bxv (eGMethod a0))))], 1, [], [], 0, []⟩) (imps [0] ⟨by kernel_rfl, by kernel_rfl, by kernel_rfl, trivial⟩ ⟨by kernel_rfl, trivial⟩) ?_
  refine post_next ?_
  obtain ⟨x69, hF, hK70⟩ := bind_some hF
  refine aw_for ((((a0.fLocals.length : Int) : Int) - (0)).toNat + 1) (fun s1 => s1 = ⟨45, [(3, some (.pv (.int .i64 x69)))], [], 0, [], [], 0, []⟩) ?_ ?_
  · refine rnd_loop (α := Int × Int) (fun q => ⟨45, [(1, some (.lp 0 0)), (3, some (.pv (.int .i64 q.1))), (5, some (.pv (.int .i64 q.2)))], [(0, some (.box 33 (bxv (eGMethod a0))))], 1, [], [], 0, []⟩) (fun k q => ref10_uniques_L2 a0 k q.1 q.2 = some x69) (x34, 0) (imps [0] ⟨by kernel_rfl, by kernel_rfl, by kernel_rfl, trivial⟩ ⟨by kernel_rfl, trivial⟩) hF (fun q h => by cases h) ?_
    clear hF
    rintro k ⟨x45, x46⟩ hF ih
    refine rnd_succ ?_
    iterate 2 (refine aw_seq ?_)
    refine aw_region ?_
    refine rmv ?_
    refine reg_cons (guard_no rfl) (op_field_lp rfl rfl Try_fld_33_4 rfl rfl) ?_
    refine reg_cons (guard_no rfl) (op_load_lp (v := .pv (.vs 13 (List.map eGVar a0.fLocals))) rfl rfl rfl rfl Try_one_30 rfl rfl) ?_
    refine reg_cons (guard_no rfl) (op_len_vs (n := a0.fLocals.length) rfl rfl (List.length_map ..) Try_slc_30 rfl rfl) ?_
    refine reg_cons (guard_no rfl) (op_int (k := .i64) (m := x46) (n := (a0.fLocals.length : Int)) rfl rfl rfl rfl rfl rfl) ?_
    refine reg_nil ?_
    refine post_imp (s' := ⟨45, [(1, some (.lp 0 0)), (3, some (.pv (.int .i64 x45))), (5, some (.pv (.int .i64 x46))), (29, some (.pv (.bool (decide (x46 < (a0.fLocals.length : Int))))))], [(0, some (.box 33 (bxv (eGMethod a0))))], 1, [], [], 0, []⟩) (imps [0] ⟨by kernel_rfl, by kernel_rfl, by kernel_rfl, by kernel_rfl, trivial⟩ ⟨by kernel_rfl, trivial⟩) ?_
    refine post_next ?_
    rcases ite_some hF with ⟨hb58, hF⟩ | ⟨hb58, hF⟩
    · refine aw_cond_t rfl hb58 ?_
      refine aw_skip ?_
      refine post_next ?_
      refine aw_seq ?_
      obtain ⟨x64, hF, hK66⟩ := bind_some hF
      refine aw_cut (fun s1 => s1 = ⟨45, [(1, some (.lp 0 0)), (3, some (.pv (.int .i64 x64))), (5, some (.pv (.int .i64 x46)))], [(0, some (.box 33 (bxv (eGMethod a0))))], 1, [], [], 0, []⟩) ?_ ?_
      · refine aw_block ?_
        refine aw_seq ?_
        refine aw_region ?_
        refine reg_cons (guard_no rfl) (op_field_lp rfl rfl Try_fld_33_4 rfl rfl) ?_
        refine reg_cons (guard_no rfl) (op_load_lp (v := .pv (.vs 13 (List.map eGVar a0.fLocals))) rfl rfl rfl rfl Try_one_30 rfl rfl) ?_
        refine rmv ?_
        obtain ⟨y61, h62, hF⟩ := bind_some hF
        refine reg_cons (guard_no rfl) (op_index_vs (k := .i64) rfl rfl rfl (idx_map eGVar h62) Try_slc_30 rfl rfl) ?_
        refine reg_cons (guard_no rfl) (op_field_vp rfl rfl Try_fld_50_1 rfl rfl) ?_
        refine reg_cons (guard_no rfl) (op_field_vp rfl rfl Try_fld_29_3 rfl rfl) ?_
        refine reg_cons (guard_no rfl) (op_arr_vp (k := .i64) (m := 0) (n := 4) rfl rfl rfl Try_arr_27 rfl rfl rfl rfl) ?_
        refine reg_cons (guard_no rfl) (op_field_vp rfl rfl Try_fld_26_0 rfl rfl) ?_
        refine reg_cons (guard_no rfl) (op_load_vp (p := .int .i64 y61.fType.fOwn.a0.fKind) rfl rfl rfl Try_one_3 rfl rfl) ?_
        refine reg_cons (guard_no rfl) (op_int (k := .i64) (m := y61.fType.fOwn.a0.fKind) (n := 6) rfl rfl rfl rfl rfl rfl) ?_
        refine reg_nil ?_
        refine post_imp (s' := ⟨45, [(1, some (.lp 0 0)), (3, some (.pv (.int .i64 x45))), (5, some (.pv (.int .i64 x46))), (41, some (.pv (.bool (y61.fType.fOwn.a0.fKind == 6))))], [(0, some (.box 33 (bxv (eGMethod a0))))], 1, [], [], 0, []⟩) (imps [0] ⟨by kernel_rfl, by kernel_rfl, by kernel_rfl, by kernel_rfl, trivial⟩ ⟨by kernel_rfl, trivial⟩) ?_
        refine post_next ?_
        rcases ite_some hF with ⟨hb63, hF⟩ | ⟨hb63, hF⟩
        · refine aw_cond_t rfl hb63 ?_
          refine aw_region ?_
          refine rmv ?_
          refine reg_cons (guard_no rfl) (op_int (k := .i64) (m := x45) (n := 1) rfl rfl rfl rfl rfl rfl) ?_
          refine ras ?_
          refine reg_nil ?_
          refine post_imp (s' := ⟨45, [(1, some (.lp 0 0)), (3, some (.pv (.int .i64 (w_i64 (x45 + 1))))), (5, some (.pv (.int .i64 x46)))], [(0, some (.box 33 (bxv (eGMethod a0))))], 1, [], [], 0, []⟩) (imps [0] ⟨by kernel_rfl, by kernel_rfl, by kernel_rfl, trivial⟩ ⟨by kernel_rfl, trivial⟩) ?_
          refine post_block_normal ?_
          cases hF
          exact post_cut _ rfl (imps [0] ⟨by kernel_rfl, by kernel_rfl, by kernel_rfl, trivial⟩ ⟨by kernel_rfl, trivial⟩)
        refine aw_cond_f rfl hb63 ?_
        refine aw_skip ?_
        refine post_block_normal ?_
        cases hF
        exact post_cut _ rfl (imps [0] ⟨by kernel_rfl, by kernel_rfl, by kernel_rfl, trivial⟩ ⟨by kernel_rfl, trivial⟩)
      rintro _ rfl
      have hF := hK66
      clear hK66
      refine post_next ?_
      refine aw_region ?_
      refine rmv ?_
      refine reg_cons (guard_no rfl) (op_int (k := .i64) (m := x46) (n := 1) rfl rfl rfl rfl rfl rfl) ?_
      refine ras ?_
      refine reg_nil ?_
      refine post_round ?_
      exact rnd_back (ih (x64, w_i64 (x46 + 1)) hF) (imps [0] ⟨by kernel_rfl, by kernel_rfl, by kernel_rfl, trivial⟩ ⟨by kernel_rfl, trivial⟩)
    refine aw_cond_f rfl hb58 ?_
    refine aw_exit ?_
    iterate 2 (refine post_then_exit ?_)
    obtain rfl := Option.some.inj hF
    exact post_lp_break _ rfl (imps [] ⟨by kernel_rfl, trivial⟩ trivial)
  rintro _ rfl
  have hF := hK70
  clear hK70
  refine post_next ?_
  refine aw_seq ?_
  refine aw_region ?_
  refine rmv ?_
  refine ras ?_
  refine reg_nil ?_
  refine post_imp (s' := ⟨45, [(2, some (.pv (.int .i64 x69)))], [], 0, [], [], 0, []⟩) (imps [] ⟨by kernel_rfl, trivial⟩ trivial) ?_
  refine post_next ?_
  refine aw_ret ?_
  obtain rfl := Option.some.inj hF
  exact post_ret rfl rfl (.cons _ _ _ _ _ (.tmp _ _ rfl) (.p _) .nil) (.inl rfl)
theorem ref10_kids_ring : ∀ n : Nat, (∀ (a0 : GExpr) (a1 : Int) (r : Bool), ref10_kids n a0 a1 = some r → Abs.Fn Try.prog 63 [.agg (eGExpr a0), .int .i64 a1] [.p (.bool r)]) := by
  intro n
  induction n with
  | zero => exact (fun _ _ _ h => by simp [ref10_kids] at h)
  | succ n ih =>
    have ref10_kids_ih := ih
    clear ih
    intro a0 a1 r hF
    unfold ref10_kids at hF
    revert hF ref10_kids_ih
    generalize ref10_kids n = ref10_kids_rec
    intro ref10_kids_ih hF
    refine fn_of_body (n := 29) Try.func63 rfl rfl rfl ?_
    intro w O
    refine aw_seq ?_
    refine aw_region ?_
    refine reg_cons (guard_no rfl) (op_box 0 rfl rfl rfl rfl rfl rfl) ?_
    refine ras ?_
    refine reg_nil ?_
    refine post_imp (s' := ⟨29, [(1, some (.pv (.int .i64 a1))), (2, some (.lp 0 0))], [(0, some (.box 81 (bxv (eGExpr a0))))], 1, [], [], 0, []⟩) (imps [0] ⟨by kernel_rfl, by kernel_rfl, trivial⟩ ⟨by kernel_rfl, trivial⟩) ?_
    refine post_next ?_
    iterate 2 (refine aw_seq ?_)
    obtain ⟨x2, hF, hK4⟩ := bind_some hF
    refine aw_cut (fun s1 => s1 = ⟨29, [(1, some (.pv (.int .i64 a1))), (2, some (.lp 0 0)), (13, some (.pv (.bool x2)))], [(0, some (.box 81 (bxv (eGExpr a0))))], 1, [], [], 0, []⟩) ?_ ?_
    · refine aw_region ?_
      refine rmv ?_
      refine reg_cons (guard_no rfl) (op_int (k := .i64) (m := a1) (n := 0) rfl rfl rfl rfl rfl rfl) ?_
      refine rmv ?_
      rcases ite_some hF with ⟨hb1, hF⟩ | ⟨hb1, hF⟩
      · refine rgo_t hb1 ?_
        iterate 3 (refine rgo_t hb1 ?_)
        refine rpt hb1 ?_
        refine reg_nil ?_
        cases hF
        exact post_cut _ rfl (imps [0] ⟨by kernel_rfl, by kernel_rfl, by kernel_rfl, trivial⟩ ⟨by kernel_rfl, trivial⟩)
      refine reg_cons (guard_on rfl rfl rfl rfl hb1) (op_field_lp rfl rfl Try_fld_81_3 rfl rfl) ?_
      refine reg_cons (guard_on rfl rfl rfl rfl hb1) (op_load_lp (v := .pv (.vs 4 (eLGExpr a0.fKids))) rfl rfl rfl rfl Try_one_79 rfl rfl) ?_
      refine reg_cons (guard_on rfl rfl rfl rfl hb1) (op_len_vs (n := a0.fKids.length) rfl rfl (lenR eLGExpr_map) Try_slc_79 rfl rfl) ?_
      refine reg_cons (guard_on rfl rfl rfl rfl hb1) (op_int (k := .i64) (m := (a0.fKids.length : Int)) (n := 4) rfl rfl rfl rfl rfl rfl) ?_
      refine rpf hb1 ?_
      refine reg_nil ?_
      cases hF
      exact post_cut _ rfl (imps [0] ⟨by kernel_rfl, by kernel_rfl, by kernel_rfl, trivial⟩ ⟨by kernel_rfl, trivial⟩)
    rintro _ rfl
    have hF := hK4
    clear hK4
    refine post_next ?_
    rcases ite_some hF with ⟨hb5, hF⟩ | ⟨hb5, hF⟩
    · refine aw_cond_t rfl hb5 ?_
      refine aw_seq ?_
      refine aw_region ?_
      refine ras ?_
      refine reg_nil ?_
      refine post_imp (s' := ⟨29, [(4, some (.pv (.bool true)))], [], 0, [], [], 0, []⟩) (imps [] ⟨by kernel_rfl, trivial⟩ trivial) ?_
      refine post_next ?_
      refine aw_ret ?_
      refine post_then_ret ?_
      obtain rfl := Option.some.inj hF
      exact post_ret rfl rfl (.cons _ _ _ _ _ (.tmp _ _ rfl) (.p _) .nil) (.inl rfl)
    refine aw_cond_f rfl hb5 ?_
    refine aw_skip ?_
    refine post_next ?_
    iterate 2 (refine aw_seq ?_)
    refine aw_region ?_
    refine ras ?_
    refine reg_nil ?_
    refine post_imp (s' := ⟨29, [(1, some (.pv (.int .i64 a1))), (2, some (.lp 0 0)), (5, some (.pv (.int .i64 0)))], [(0, some (.box 81 (bxv (eGExpr a0))))], 1, [], [], 0, []⟩) (imps [0] ⟨by kernel_rfl, by kernel_rfl, by kernel_rfl, trivial⟩ ⟨by kernel_rfl, trivial⟩) ?_
    refine post_next ?_
    obtain ⟨lr39, hF, hK40⟩ := bind_some hF
    refine aw_for ((((a0.fKids.length : Int) : Int) - (0)).toNat + 1) (fun s1 => ∃ q, lr39 = .next q ∧ s1 = ⟨29, [], [], 0, [], [], 0, []⟩) ?_ ?_
    · refine rnd_loop (α := Int) (fun q => ⟨29, [(1, some (.pv (.int .i64 a1))), (2, some (.lp 0 0)), (5, some (.pv (.int .i64 q)))], [(0, some (.box 81 (bxv (eGExpr a0))))], 1, [], [], 0, []⟩) (fun k q => ref10_kids_L1 a0 a1 ref10_kids_rec k q = some lr39) 0 (imps [0] ⟨by kernel_rfl, by kernel_rfl, by kernel_rfl, trivial⟩ ⟨by kernel_rfl, trivial⟩) hF (fun q h => by cases h) ?_
      clear hF
      rintro k x16 hF ih
      refine rnd_succ ?_
      iterate 2 (refine aw_seq ?_)
      refine aw_region ?_
      refine rmv ?_
      refine reg_cons (guard_no rfl) (op_field_lp rfl rfl Try_fld_81_3 rfl rfl) ?_
      refine reg_cons (guard_no rfl) (op_load_lp (v := .pv (.vs 4 (eLGExpr a0.fKids))) rfl rfl rfl rfl Try_one_79 rfl rfl) ?_
      refine reg_cons (guard_no rfl) (op_len_vs (n := a0.fKids.length) rfl rfl (lenR eLGExpr_map) Try_slc_79 rfl rfl) ?_
      refine reg_cons (guard_no rfl) (op_int (k := .i64) (m := x16) (n := (a0.fKids.length : Int)) rfl rfl rfl rfl rfl rfl) ?_
      refine reg_nil ?_
      refine post_imp (s' := ⟨29, [(1, some (.pv (.int .i64 a1))), (2, some (.lp 0 0)), (5, some (.pv (.int .i64 x16))), (18, some (.pv (.bool (decide (x16 < (a0.fKids.length : Int))))))], [(0, some (.box 81 (bxv (eGExpr a0))))], 1, [], [], 0, []⟩) (imps [0] ⟨by kernel_rfl, by kernel_rfl, by kernel_rfl, by kernel_rfl, trivial⟩ ⟨by kernel_rfl, trivial⟩) ?_
      refine post_next ?_
      rcases ite_some hF with ⟨hb28, hF⟩ | ⟨hb28, hF⟩
      · refine aw_cond_t rfl hb28 ?_
        refine aw_skip ?_
        refine post_next ?_
        refine aw_seq ?_
        refine aw_block ?_
        refine aw_seq ?_
        refine aw_region ?_
        refine reg_cons (guard_no rfl) (op_field_lp rfl rfl Try_fld_81_3 rfl rfl) ?_
        refine reg_cons (guard_no rfl) (op_load_lp (v := .pv (.vs 4 (eLGExpr a0.fKids))) rfl rfl rfl rfl Try_one_79 rfl rfl) ?_
        refine rmv ?_
        obtain ⟨y33, h34, hF⟩ := bind_some hF
        refine reg_cons (guard_no rfl) (op_index_vs (k := .i64) rfl rfl rfl (idxR eLGExpr_map h34) Try_slc_79 rfl rfl) ?_
        refine reg_cons (guard_no rfl) (op_load_vp_agg (ps := eGExpr y33) rfl rfl rfl rfl Try_agg_81 rfl rfl) ?_
        refine rmv ?_
        refine reg_cons (guard_no rfl) (op_int (k := .i64) (m := a1) (n := 1) rfl rfl rfl rfl rfl rfl) ?_
        obtain ⟨y35, h36, hF⟩ := bind_some hF
        refine reg_cons (guard_no rfl) (op_call 1 rfl (caps := []) (args := [.agg (eGExpr y33), .int .i64 (w_i64 (a1 - 1))]) (rs := [.p (.bool y35)]) rfl rfl rfl Try_cal_63 (ref10_kids_ih _ _ _ h36) rfl rfl rfl) ?_
        refine reg_nil ?_
        refine post_imp (s' := ⟨29, [(1, some (.pv (.int .i64 a1))), (2, some (.lp 0 0)), (5, some (.pv (.int .i64 x16))), (28, some (.pv (.bool y35)))], [(0, some (.box 81 (bxv (eGExpr a0))))], 1, [], [], 0, []⟩) (imps [0] ⟨by kernel_rfl, by kernel_rfl, by kernel_rfl, by kernel_rfl, trivial⟩ ⟨by kernel_rfl, trivial⟩) ?_
        refine post_next ?_
        rcases ite_some hF with ⟨hb37, hF⟩ | ⟨hb37, hF⟩
        · refine aw_cond_t rfl hb37 ?_
          refine aw_seq ?_
          refine aw_region ?_
          refine ras ?_
          refine reg_nil ?_
          refine post_imp (s' := ⟨29, [(4, some (.pv (.bool true)))], [], 0, [], [], 0, []⟩) (imps [] ⟨by kernel_rfl, trivial⟩ trivial) ?_
          refine post_next ?_
          refine aw_ret ?_
          refine post_block_ret ?_
          iterate 2 (refine post_then_ret ?_)
          refine post_lp_ret ?_
          obtain rfl := Option.some.inj hF
          have hF := elim_stop hK40
          refine post_then_ret ?_
          obtain rfl := Option.some.inj hF
          exact post_ret rfl rfl (.cons _ _ _ _ _ (.tmp _ _ rfl) (.p _) .nil) (.inl rfl)
        refine aw_cond_f rfl hb37 ?_
        refine aw_skip ?_
        refine post_block_normal ?_
        refine post_next ?_
        refine aw_region ?_
        refine rmv ?_
        refine reg_cons (guard_no rfl) (op_int (k := .i64) (m := x16) (n := 1) rfl rfl rfl rfl rfl rfl) ?_
        refine ras ?_
        refine reg_nil ?_
        refine post_round ?_
        exact rnd_back (ih (w_i64 (x16 + 1)) hF) (imps [0] ⟨by kernel_rfl, by kernel_rfl, by kernel_rfl, trivial⟩ ⟨by kernel_rfl, trivial⟩)
      refine aw_cond_f rfl hb28 ?_
      refine aw_exit ?_
      iterate 2 (refine post_then_exit ?_)
      obtain rfl := Option.some.inj hF
      exact post_lp_break _ ⟨_, rfl, rfl⟩ (imps [] trivial trivial)
    rintro _ ⟨⟨⟩, rfl, rfl⟩
    have hF := elim_next hK40
    clear hK40
    refine post_next ?_
    refine aw_seq ?_
    refine aw_region ?_
    refine ras ?_
    refine reg_nil ?_
    refine post_imp (s' := ⟨29, [(4, some (.pv (.bool false)))], [], 0, [], [], 0, []⟩) (imps [] ⟨by kernel_rfl, trivial⟩ trivial) ?_
    refine post_next ?_
    refine aw_ret ?_
    obtain rfl := Option.some.inj hF
    exact post_ret rfl rfl (.cons _ _ _ _ _ (.tmp _ _ rfl) (.p _) .nil) (.inl rfl)
theorem ref10_kids_ok {n : Nat} {a0 : GExpr} {a1 : Int} {r : Bool} (hF : ref10_kids n a0 a1 = some r) : Abs.Fn Try.prog 63 [.agg (eGExpr a0), .int .i64 a1] [.p (.bool r)] := (ref10_kids_ring n) _ _ _ hF

theorem ref10_much_ring : ∀ n : Nat, (∀ (a0 : GStmt) (a1 : Int) (r : Bool), ref10_much n a0 a1 = some r → Abs.Fn Try.prog 39 [.agg (eGStmt a0), .int .i64 a1] [.p (.bool r)]) := by
  intro n
  induction n with
  | zero => exact (fun _ _ _ h => by simp [ref10_much] at h)
  | succ n ih =>
    have ref10_much_ih := ih
    clear ih
    intro a0 a1 r hF
    unfold ref10_much at hF
    revert hF ref10_much_ih
    generalize ref10_much n = ref10_much_rec
    intro ref10_much_ih hF
    refine fn_of_body (n := 76) Try.func39 rfl rfl rfl ?_
    intro w O
    refine aw_seq ?_
    refine aw_region ?_
    refine reg_cons (guard_no rfl) (op_box 0 rfl rfl rfl rfl rfl rfl) ?_
    refine ras ?_
    refine reg_nil ?_
    refine post_imp (s' := ⟨76, [(1, some (.pv (.int .i64 a1))), (2, some (.lp 0 0))], [(0, some (.box 83 (bxv (eGStmt a0))))], 1, [], [], 0, []⟩) (imps [0] ⟨by kernel_rfl, by kernel_rfl, trivial⟩ ⟨by kernel_rfl, trivial⟩) ?_
    refine post_next ?_
    iterate 2 (refine aw_seq ?_)
    obtain ⟨x7, hF, hK9⟩ := bind_some hF
    refine aw_cut (fun s1 => s1 = ⟨76, [(1, some (.pv (.int .i64 a1))), (2, some (.lp 0 0)), (32, some (.pv (.bool x7)))], [(0, some (.box 83 (bxv (eGStmt a0))))], 1, [], [], 0, []⟩) ?_ ?_
    · refine aw_region ?_
      refine rmv ?_
      refine reg_cons (guard_no rfl) (op_int (k := .i64) (m := a1) (n := 0) rfl rfl rfl rfl rfl rfl) ?_
      refine rmv ?_
      rcases ite_some hF with ⟨hb1, hF⟩ | ⟨hb1, hF⟩
      · refine rgo_t hb1 ?_
        iterate 3 (refine rgo_t hb1 ?_)
        refine rpt hb1 ?_
        refine rmv ?_
        iterate 4 (refine rgo_t rfl ?_)
        refine rpt rfl ?_
        refine rmv ?_
        iterate 4 (refine rgo_t rfl ?_)
        refine rpt rfl ?_
        refine rmv ?_
        iterate 3 (refine rgo_t rfl ?_)
        refine rpt rfl ?_
        refine reg_nil ?_
        cases hF
        exact post_cut _ rfl (imps [0] ⟨by kernel_rfl, by kernel_rfl, by kernel_rfl, trivial⟩ ⟨by kernel_rfl, trivial⟩)
      refine reg_cons (guard_on rfl rfl rfl rfl hb1) (op_field_lp rfl rfl Try_fld_83_7 rfl rfl) ?_
      refine reg_cons (guard_on rfl rfl rfl rfl hb1) (op_load_lp (v := .pv (.vs 23 (eLGStmt a0.fBody))) rfl rfl rfl rfl Try_one_31 rfl rfl) ?_
      refine reg_cons (guard_on rfl rfl rfl rfl hb1) (op_len_vs (n := a0.fBody.length) rfl rfl (lenR eLGStmt_map) Try_slc_31 rfl rfl) ?_
      refine reg_cons (guard_on rfl rfl rfl rfl hb1) (op_int (k := .i64) (m := (a0.fBody.length : Int)) (n := 500) rfl rfl rfl rfl rfl rfl) ?_
      refine rpf hb1 ?_
      refine rmv ?_
      rcases ite_some hF with ⟨hb2, hF⟩ | ⟨hb2, hF⟩
      · refine rgo_t hb2 ?_
        iterate 3 (refine rgo_t hb2 ?_)
        refine rpt hb2 ?_
        refine rmv ?_
        iterate 4 (refine rgo_t rfl ?_)
        refine rpt rfl ?_
        refine rmv ?_
        iterate 3 (refine rgo_t rfl ?_)
        refine rpt rfl ?_
        refine reg_nil ?_
        cases hF
        exact post_cut _ rfl (imps [0] ⟨by kernel_rfl, by kernel_rfl, by kernel_rfl, trivial⟩ ⟨by kernel_rfl, trivial⟩)
      refine reg_cons (guard_on rfl rfl rfl rfl hb2) (op_field_lp rfl rfl Try_fld_83_8 rfl rfl) ?_
      refine reg_cons (guard_on rfl rfl rfl rfl hb2) (op_load_lp (v := .pv (.vs 23 (eLGStmt a0.fElse))) rfl rfl rfl rfl Try_one_31 rfl rfl) ?_
      refine reg_cons (guard_on rfl rfl rfl rfl hb2) (op_len_vs (n := a0.fElse.length) rfl rfl (lenR eLGStmt_map) Try_slc_31 rfl rfl) ?_
      refine reg_cons (guard_on rfl rfl rfl rfl hb2) (op_int (k := .i64) (m := (a0.fElse.length : Int)) (n := 500) rfl rfl rfl rfl rfl rfl) ?_
      refine rpf hb2 ?_
      refine rmv ?_
      rcases ite_some hF with ⟨hb3, hF⟩ | ⟨hb3, hF⟩
      · refine rgo_t hb3 ?_
        iterate 3 (refine rgo_t hb3 ?_)
        refine rpt hb3 ?_
        refine rmv ?_
        iterate 3 (refine rgo_t rfl ?_)
        refine rpt rfl ?_
        refine reg_nil ?_
        cases hF
        exact post_cut _ rfl (imps [0] ⟨by kernel_rfl, by kernel_rfl, by kernel_rfl, trivial⟩ ⟨by kernel_rfl, trivial⟩)
      refine reg_cons (guard_on rfl rfl rfl rfl hb3) (op_field_lp rfl rfl Try_fld_83_6 rfl rfl) ?_
      refine reg_cons (guard_on rfl rfl rfl rfl hb3) (op_load_lp (v := .pv (.vs 4 (eLGExpr a0.fArgs))) rfl rfl rfl rfl Try_one_79 rfl rfl) ?_
      refine reg_cons (guard_on rfl rfl rfl rfl hb3) (op_len_vs (n := a0.fArgs.length) rfl rfl (lenR eLGExpr_map) Try_slc_79 rfl rfl) ?_
      refine reg_cons (guard_on rfl rfl rfl rfl hb3) (op_int (k := .i64) (m := (a0.fArgs.length : Int)) (n := 20) rfl rfl rfl rfl rfl rfl) ?_
      refine rpf hb3 ?_
      refine rmv ?_
      rcases ite_some hF with ⟨hb4, hF⟩ | ⟨hb4, hF⟩
      · refine rgo_t hb4 ?_
        iterate 2 (refine rgo_t hb4 ?_)
        refine rpt hb4 ?_
        refine reg_nil ?_
        cases hF
        exact post_cut _ rfl (imps [0] ⟨by kernel_rfl, by kernel_rfl, by kernel_rfl, trivial⟩ ⟨by kernel_rfl, trivial⟩)
      refine reg_cons (guard_on rfl rfl rfl rfl hb4) (op_field_lp rfl rfl Try_fld_83_5 rfl rfl) ?_
      refine reg_cons (guard_on rfl rfl rfl rfl hb4) (op_load_lp_agg (ps := eGExpr a0.fE) rfl rfl rfl rfl rfl rfl Try_agg_81 rfl rfl) ?_
      obtain ⟨y5, h6, hF⟩ := bind_some hF
      refine reg_cons (guard_on rfl rfl rfl rfl hb4) (op_call 1 rfl (caps := []) (args := [.agg (eGExpr a0.fE), .int .i64 25]) (rs := [.p (.bool y5)]) rfl rfl rfl Try_cal_63 (ref10_kids_ok h6) rfl rfl rfl) ?_
      refine rpf hb4 ?_
      refine reg_nil ?_
      cases hF
      exact post_cut _ rfl (imps [0] ⟨by kernel_rfl, by kernel_rfl, by kernel_rfl, trivial⟩ ⟨by kernel_rfl, trivial⟩)
    rintro _ rfl
    have hF := hK9
    clear hK9
    refine post_next ?_
    rcases ite_some hF with ⟨hb10, hF⟩ | ⟨hb10, hF⟩
    · refine aw_cond_t rfl hb10 ?_
      refine aw_seq ?_
      refine aw_region ?_
      refine ras ?_
      refine reg_nil ?_
      refine post_imp (s' := ⟨76, [(4, some (.pv (.bool true)))], [], 0, [], [], 0, []⟩) (imps [] ⟨by kernel_rfl, trivial⟩ trivial) ?_
      refine post_next ?_
      refine aw_ret ?_
      refine post_then_ret ?_
      obtain rfl := Option.some.inj hF
      exact post_ret rfl rfl (.cons _ _ _ _ _ (.tmp _ _ rfl) (.p _) .nil) (.inl rfl)
    refine aw_cond_f rfl hb10 ?_
    refine aw_skip ?_
    refine post_next ?_
    iterate 2 (refine aw_seq ?_)
    refine aw_region ?_
    refine ras ?_
    refine reg_nil ?_
    refine post_imp (s' := ⟨76, [(1, some (.pv (.int .i64 a1))), (2, some (.lp 0 0)), (5, some (.pv (.int .i64 0)))], [(0, some (.box 83 (bxv (eGStmt a0))))], 1, [], [], 0, []⟩) (imps [0] ⟨by kernel_rfl, by kernel_rfl, by kernel_rfl, trivial⟩ ⟨by kernel_rfl, trivial⟩) ?_
    refine post_next ?_
    obtain ⟨lr44, hF, hK45⟩ := bind_some hF
    refine aw_for ((((a0.fArgs.length : Int) : Int) - (0)).toNat + 1) (fun s1 => ∃ q, lr44 = .next q ∧ s1 = ⟨76, [(1, some (.pv (.int .i64 a1))), (2, some (.lp 0 0))], [(0, some (.box 83 (bxv (eGStmt a0))))], 1, [], [], 0, []⟩) ?_ ?_
    · refine rnd_loop (α := Int) (fun q => ⟨76, [(1, some (.pv (.int .i64 a1))), (2, some (.lp 0 0)), (5, some (.pv (.int .i64 q)))], [(0, some (.box 83 (bxv (eGStmt a0))))], 1, [], [], 0, []⟩) (fun k q => ref10_much_L1 a0 k q = some lr44) 0 (imps [0] ⟨by kernel_rfl, by kernel_rfl, by kernel_rfl, trivial⟩ ⟨by kernel_rfl, trivial⟩) hF (fun q h => by cases h) ?_
      clear hF
      rintro k x21 hF ih
      refine rnd_succ ?_
      iterate 2 (refine aw_seq ?_)
      refine aw_region ?_
      refine rmv ?_
      refine reg_cons (guard_no rfl) (op_field_lp rfl rfl Try_fld_83_6 rfl rfl) ?_
      refine reg_cons (guard_no rfl) (op_load_lp (v := .pv (.vs 4 (eLGExpr a0.fArgs))) rfl rfl rfl rfl Try_one_79 rfl rfl) ?_
      refine reg_cons (guard_no rfl) (op_len_vs (n := a0.fArgs.length) rfl rfl (lenR eLGExpr_map) Try_slc_79 rfl rfl) ?_
      refine reg_cons (guard_no rfl) (op_int (k := .i64) (m := x21) (n := (a0.fArgs.length : Int)) rfl rfl rfl rfl rfl rfl) ?_
      refine reg_nil ?_
      refine post_imp (s' := ⟨76, [(1, some (.pv (.int .i64 a1))), (2, some (.lp 0 0)), (5, some (.pv (.int .i64 x21))), (37, some (.pv (.bool (decide (x21 < (a0.fArgs.length : Int))))))], [(0, some (.box 83 (bxv (eGStmt a0))))], 1, [], [], 0, []⟩) (imps [0] ⟨by kernel_rfl, by kernel_rfl, by kernel_rfl, by kernel_rfl, trivial⟩ ⟨by kernel_rfl, trivial⟩) ?_
      refine post_next ?_
      rcases ite_some hF with ⟨hb33, hF⟩ | ⟨hb33, hF⟩
      · refine aw_cond_t rfl hb33 ?_
        refine aw_skip ?_
        refine post_next ?_
        refine aw_seq ?_
        refine aw_block ?_
        refine aw_seq ?_
        refine aw_region ?_
        refine reg_cons (guard_no rfl) (op_field_lp rfl rfl Try_fld_83_6 rfl rfl) ?_
        refine reg_cons (guard_no rfl) (op_load_lp (v := .pv (.vs 4 (eLGExpr a0.fArgs))) rfl rfl rfl rfl Try_one_79 rfl rfl) ?_
        refine rmv ?_
        obtain ⟨y38, h39, hF⟩ := bind_some hF
        refine reg_cons (guard_no rfl) (op_index_vs (k := .i64) rfl rfl rfl (idxR eLGExpr_map h39) Try_slc_79 rfl rfl) ?_
        refine reg_cons (guard_no rfl) (op_load_vp_agg (ps := eGExpr y38) rfl rfl rfl rfl Try_agg_81 rfl rfl) ?_
        obtain ⟨y40, h41, hF⟩ := bind_some hF
        refine reg_cons (guard_no rfl) (op_call 1 rfl (caps := []) (args := [.agg (eGExpr y38), .int .i64 25]) (rs := [.p (.bool y40)]) rfl rfl rfl Try_cal_63 (ref10_kids_ok h41) rfl rfl rfl) ?_
        refine reg_nil ?_
        refine post_imp (s' := ⟨76, [(1, some (.pv (.int .i64 a1))), (2, some (.lp 0 0)), (5, some (.pv (.int .i64 x21))), (45, some (.pv (.bool y40)))], [(0, some (.box 83 (bxv (eGStmt a0))))], 1, [], [], 0, []⟩) (imps [0] ⟨by kernel_rfl, by kernel_rfl, by kernel_rfl, by kernel_rfl, trivial⟩ ⟨by kernel_rfl, trivial⟩) ?_
        refine post_next ?_
        rcases ite_some hF with ⟨hb42, hF⟩ | ⟨hb42, hF⟩
        · refine aw_cond_t rfl hb42 ?_
          refine aw_seq ?_
          refine aw_region ?_
          refine ras ?_
          refine reg_nil ?_
          refine post_imp (s' := ⟨76, [(4, some (.pv (.bool true)))], [], 0, [], [], 0, []⟩) (imps [] ⟨by kernel_rfl, trivial⟩ trivial) ?_
          refine post_next ?_
          refine aw_ret ?_
          refine post_block_ret ?_
          iterate 2 (refine post_then_ret ?_)
          refine post_lp_ret ?_
          obtain rfl := Option.some.inj hF
          have hF := elim_stop hK45
          refine post_then_ret ?_
          obtain rfl := Option.some.inj hF
          exact post_ret rfl rfl (.cons _ _ _ _ _ (.tmp _ _ rfl) (.p _) .nil) (.inl rfl)
        refine aw_cond_f rfl hb42 ?_
        refine aw_skip ?_
        refine post_block_normal ?_
        refine post_next ?_
        refine aw_region ?_
        refine rmv ?_
        refine reg_cons (guard_no rfl) (op_int (k := .i64) (m := x21) (n := 1) rfl rfl rfl rfl rfl rfl) ?_
        refine ras ?_
        refine reg_nil ?_
        refine post_round ?_
        exact rnd_back (ih (w_i64 (x21 + 1)) hF) (imps [0] ⟨by kernel_rfl, by kernel_rfl, by kernel_rfl, trivial⟩ ⟨by kernel_rfl, trivial⟩)
      refine aw_cond_f rfl hb33 ?_
      refine aw_exit ?_
      iterate 2 (refine post_then_exit ?_)
      obtain rfl := Option.some.inj hF
      exact post_lp_break _ ⟨_, rfl, rfl⟩ (imps [0] ⟨by kernel_rfl, by kernel_rfl, trivial⟩ ⟨by kernel_rfl, trivial⟩)
    rintro _ ⟨⟨⟩, rfl, rfl⟩
    have hF := elim_next hK45
    clear hK45
    refine post_next ?_
    iterate 2 (refine aw_seq ?_)
    refine aw_region ?_
    refine ras ?_
    refine reg_nil ?_
    refine post_imp (s' := ⟨76, [(1, some (.pv (.int .i64 a1))), (2, some (.lp 0 0)), (6, some (.pv (.int .i64 0)))], [(0, some (.box 83 (bxv (eGStmt a0))))], 1, [], [], 0, []⟩) (imps [0] ⟨by kernel_rfl, by kernel_rfl, by kernel_rfl, trivial⟩ ⟨by kernel_rfl, trivial⟩) ?_
    refine post_next ?_
    obtain ⟨lr79, hF, hK80⟩ := bind_some hF
    refine aw_for ((((a0.fBody.length : Int) : Int) - (0)).toNat + 1) (fun s1 => ∃ q, lr79 = .next q ∧ s1 = ⟨76, [(1, some (.pv (.int .i64 a1))), (2, some (.lp 0 0))], [(0, some (.box 83 (bxv (eGStmt a0))))], 1, [], [], 0, []⟩) ?_ ?_
    · refine rnd_loop (α := Int) (fun q => ⟨76, [(1, some (.pv (.int .i64 a1))), (2, some (.lp 0 0)), (6, some (.pv (.int .i64 q)))], [(0, some (.box 83 (bxv (eGStmt a0))))], 1, [], [], 0, []⟩) (fun k q => ref10_much_L2 a0 a1 ref10_much_rec k q = some lr79) 0 (imps [0] ⟨by kernel_rfl, by kernel_rfl, by kernel_rfl, trivial⟩ ⟨by kernel_rfl, trivial⟩) hF (fun q h => by cases h) ?_
      clear hF
      rintro k x56 hF ih
      refine rnd_succ ?_
      iterate 2 (refine aw_seq ?_)
      refine aw_region ?_
      refine rmv ?_
      refine reg_cons (guard_no rfl) (op_field_lp rfl rfl Try_fld_83_7 rfl rfl) ?_
      refine reg_cons (guard_no rfl) (op_load_lp (v := .pv (.vs 23 (eLGStmt a0.fBody))) rfl rfl rfl rfl Try_one_31 rfl rfl) ?_
      refine reg_cons (guard_no rfl) (op_len_vs (n := a0.fBody.length) rfl rfl (lenR eLGStmt_map) Try_slc_31 rfl rfl) ?_
      refine reg_cons (guard_no rfl) (op_int (k := .i64) (m := x56) (n := (a0.fBody.length : Int)) rfl rfl rfl rfl rfl rfl) ?_
      refine reg_nil ?_
      refine post_imp (s' := ⟨76, [(1, some (.pv (.int .i64 a1))), (2, some (.lp 0 0)), (6, some (.pv (.int .i64 x56))), (50, some (.pv (.bool (decide (x56 < (a0.fBody.length : Int))))))], [(0, some (.box 83 (bxv (eGStmt a0))))], 1, [], [], 0, []⟩) (imps [0] ⟨by kernel_rfl, by kernel_rfl, by kernel_rfl, by kernel_rfl, trivial⟩ ⟨by kernel_rfl, trivial⟩) ?_
      refine post_next ?_
      rcases ite_some hF with ⟨hb68, hF⟩ | ⟨hb68, hF⟩
      · refine aw_cond_t rfl hb68 ?_
        refine aw_skip ?_
        refine post_next ?_
        refine aw_seq ?_
        refine aw_block ?_
        refine aw_seq ?_
        refine aw_region ?_
        refine reg_cons (guard_no rfl) (op_field_lp rfl rfl Try_fld_83_7 rfl rfl) ?_
        refine reg_cons (guard_no rfl) (op_load_lp (v := .pv (.vs 23 (eLGStmt a0.fBody))) rfl rfl rfl rfl Try_one_31 rfl rfl) ?_
        refine rmv ?_
        obtain ⟨y73, h74, hF⟩ := bind_some hF
        refine reg_cons (guard_no rfl) (op_index_vs (k := .i64) rfl rfl rfl (idxR eLGStmt_map h74) Try_slc_31 rfl rfl) ?_
        refine reg_cons (guard_no rfl) (op_load_vp_agg (ps := eGStmt y73) rfl rfl rfl rfl Try_agg_83 rfl rfl) ?_
        refine rmv ?_
        refine reg_cons (guard_no rfl) (op_int (k := .i64) (m := a1) (n := 1) rfl rfl rfl rfl rfl rfl) ?_
        obtain ⟨y75, h76, hF⟩ := bind_some hF
        refine reg_cons (guard_no rfl) (op_call 1 rfl (caps := []) (args := [.agg (eGStmt y73), .int .i64 (w_i64 (a1 - 1))]) (rs := [.p (.bool y75)]) rfl rfl rfl Try_cal_39 (ref10_much_ih _ _ _ h76) rfl rfl rfl) ?_
        refine reg_nil ?_
        refine post_imp (s' := ⟨76, [(1, some (.pv (.int .i64 a1))), (2, some (.lp 0 0)), (6, some (.pv (.int .i64 x56))), (60, some (.pv (.bool y75)))], [(0, some (.box 83 (bxv (eGStmt a0))))], 1, [], [], 0, []⟩) (imps [0] ⟨by kernel_rfl, by kernel_rfl, by kernel_rfl, by kernel_rfl, trivial⟩ ⟨by kernel_rfl, trivial⟩) ?_
        refine post_next ?_
        rcases ite_some hF with ⟨hb77, hF⟩ | ⟨hb77, hF⟩
        · refine aw_cond_t rfl hb77 ?_
          refine aw_seq ?_
          refine aw_region ?_
          refine ras ?_
          refine reg_nil ?_
          refine post_imp (s' := ⟨76, [(4, some (.pv (.bool true)))], [], 0, [], [], 0, []⟩) (imps [] ⟨by kernel_rfl, trivial⟩ trivial) ?_
          refine post_next ?_
          refine aw_ret ?_
          refine post_block_ret ?_
          iterate 2 (refine post_then_ret ?_)
          refine post_lp_ret ?_
          obtain rfl := Option.some.inj hF
          have hF := elim_stop hK80
          refine post_then_ret ?_
          obtain rfl := Option.some.inj hF
          exact post_ret rfl rfl (.cons _ _ _ _ _ (.tmp _ _ rfl) (.p _) .nil) (.inl rfl)
        refine aw_cond_f rfl hb77 ?_
        refine aw_skip ?_
        refine post_block_normal ?_
        refine post_next ?_
        refine aw_region ?_
        refine rmv ?_
        refine reg_cons (guard_no rfl) (op_int (k := .i64) (m := x56) (n := 1) rfl rfl rfl rfl rfl rfl) ?_
        refine ras ?_
        refine reg_nil ?_
        refine post_round ?_
        exact rnd_back (ih (w_i64 (x56 + 1)) hF) (imps [0] ⟨by kernel_rfl, by kernel_rfl, by kernel_rfl, trivial⟩ ⟨by kernel_rfl, trivial⟩)
      refine aw_cond_f rfl hb68 ?_
      refine aw_exit ?_
      iterate 2 (refine post_then_exit ?_)
      obtain rfl := Option.some.inj hF
      exact post_lp_break _ ⟨_, rfl, rfl⟩ (imps [0] ⟨by kernel_rfl, by kernel_rfl, trivial⟩ ⟨by kernel_rfl, trivial⟩)
    rintro _ ⟨⟨⟩, rfl, rfl⟩
    have hF := elim_next hK80
    clear hK80
    refine post_next ?_
    iterate 2 (refine aw_seq ?_)
    refine aw_region ?_
    refine ras ?_
    refine reg_nil ?_
    refine post_imp (s' := ⟨76, [(1, some (.pv (.int .i64 a1))), (2, some (.lp 0 0)), (7, some (.pv (.int .i64 0)))], [(0, some (.box 83 (bxv (eGStmt a0))))], 1, [], [], 0, []⟩) (imps [0] ⟨by kernel_rfl, by kernel_rfl, by kernel_rfl, trivial⟩ ⟨by kernel_rfl, trivial⟩) ?_
    refine post_next ?_
    obtain ⟨lr114, hF, hK115⟩ := bind_some hF
    refine aw_for ((((a0.fElse.length : Int) : Int) - (0)).toNat + 1) (fun s1 => ∃ q, lr114 = .next q ∧ s1 = ⟨76, [], [], 0, [], [], 0, []⟩) ?_ ?_
    · refine rnd_loop (α := Int) (fun q => ⟨76, [(1, some (.pv (.int .i64 a1))), (2, some (.lp 0 0)), (7, some (.pv (.int .i64 q)))], [(0, some (.box 83 (bxv (eGStmt a0))))], 1, [], [], 0, []⟩) (fun k q => ref10_much_L3 a0 a1 ref10_much_rec k q = some lr114) 0 (imps [0] ⟨by kernel_rfl, by kernel_rfl, by kernel_rfl, trivial⟩ ⟨by kernel_rfl, trivial⟩) hF (fun q h => by cases h) ?_
      clear hF
      rintro k x91 hF ih
      refine rnd_succ ?_
      iterate 2 (refine aw_seq ?_)
      refine aw_region ?_
      refine rmv ?_
      refine reg_cons (guard_no rfl) (op_field_lp rfl rfl Try_fld_83_8 rfl rfl) ?_
      refine reg_cons (guard_no rfl) (op_load_lp (v := .pv (.vs 23 (eLGStmt a0.fElse))) rfl rfl rfl rfl Try_one_31 rfl rfl) ?_
      refine reg_cons (guard_no rfl) (op_len_vs (n := a0.fElse.length) rfl rfl (lenR eLGStmt_map) Try_slc_31 rfl rfl) ?_
      refine reg_cons (guard_no rfl) (op_int (k := .i64) (m := x91) (n := (a0.fElse.length : Int)) rfl rfl rfl rfl rfl rfl) ?_
      refine reg_nil ?_
      refine post_imp (s' := ⟨76, [(1, some (.pv (.int .i64 a1))), (2, some (.lp 0 0)), (7, some (.pv (.int .i64 x91))), (65, some (.pv (.bool (decide (x91 < (a0.fElse.length : Int))))))], [(0, some (.box 83 (bxv (eGStmt a0))))], 1, [], [], 0, []⟩) (imps [0] ⟨by kernel_rfl, by kernel_rfl, by kernel_rfl, by kernel_rfl, trivial⟩ ⟨by kernel_rfl, trivial⟩) ?_
      refine post_next ?_
      rcases ite_some hF with ⟨hb103, hF⟩ | ⟨hb103, hF⟩
      · refine aw_cond_t rfl hb103 ?_
        refine aw_skip ?_
        refine post_next ?_
        refine aw_seq ?_
        refine aw_block ?_
        refine aw_seq ?_
        refine aw_region ?_
        refine reg_cons (guard_no rfl) (op_field_lp rfl rfl Try_fld_83_8 rfl rfl) ?_
        refine reg_cons (guard_no rfl) (op_load_lp (v := .pv (.vs 23 (eLGStmt a0.fElse))) rfl rfl rfl rfl Try_one_31 rfl rfl) ?_
        refine rmv ?_
        obtain ⟨y108, h109, hF⟩ := bind_some hF
        refine reg_cons (guard_no rfl) (op_index_vs (k := .i64) rfl rfl rfl (idxR eLGStmt_map h109) Try_slc_31 rfl rfl) ?_
        refine reg_cons (guard_no rfl) (op_load_vp_agg (ps := eGStmt y108) rfl rfl rfl rfl Try_agg_83 rfl rfl) ?_
        refine rmv ?_
        refine reg_cons (guard_no rfl) (op_int (k := .i64) (m := a1) (n := 1) rfl rfl rfl rfl rfl rfl) ?_
        obtain ⟨y110, h111, hF⟩ := bind_some hF
        refine reg_cons (guard_no rfl) (op_call 1 rfl (caps := []) (args := [.agg (eGStmt y108), .int .i64 (w_i64 (a1 - 1))]) (rs := [.p (.bool y110)]) rfl rfl rfl Try_cal_39 (ref10_much_ih _ _ _ h111) rfl rfl rfl) ?_
        refine reg_nil ?_
        refine post_imp (s' := ⟨76, [(1, some (.pv (.int .i64 a1))), (2, some (.lp 0 0)), (7, some (.pv (.int .i64 x91))), (75, some (.pv (.bool y110)))], [(0, some (.box 83 (bxv (eGStmt a0))))], 1, [], [], 0, []⟩) (imps [0] ⟨by kernel_rfl, by kernel_rfl, by kernel_rfl, by kernel_rfl, trivial⟩ ⟨by kernel_rfl, trivial⟩) ?_
        refine post_next ?_
        rcases ite_some hF with ⟨hb112, hF⟩ | ⟨hb112, hF⟩
        · refine aw_cond_t rfl hb112 ?_
          refine aw_seq ?_
          refine aw_region ?_
          refine ras ?_
          refine reg_nil ?_
          refine post_imp (s' := ⟨76, [(4, some (.pv (.bool true)))], [], 0, [], [], 0, []⟩) (imps [] ⟨by kernel_rfl, trivial⟩ trivial) ?_
          refine post_next ?_
          refine aw_ret ?_
          refine post_block_ret ?_
          iterate 2 (refine post_then_ret ?_)
          refine post_lp_ret ?_
          obtain rfl := Option.some.inj hF
          have hF := elim_stop hK115
          refine post_then_ret ?_
          obtain rfl := Option.some.inj hF
          exact post_ret rfl rfl (.cons _ _ _ _ _ (.tmp _ _ rfl) (.p _) .nil) (.inl rfl)
        refine aw_cond_f rfl hb112 ?_
        refine aw_skip ?_
        refine post_block_normal ?_
        refine post_next ?_
        refine aw_region ?_
        refine rmv ?_
        refine reg_cons (guard_no rfl) (op_int (k := .i64) (m := x91) (n := 1) rfl rfl rfl rfl rfl rfl) ?_
        refine ras ?_
        refine reg_nil ?_
        refine post_round ?_
        exact rnd_back (ih (w_i64 (x91 + 1)) hF) (imps [0] ⟨by kernel_rfl, by kernel_rfl, by kernel_rfl, trivial⟩ ⟨by kernel_rfl, trivial⟩)
      refine aw_cond_f rfl hb103 ?_
      refine aw_exit ?_
      iterate 2 (refine post_then_exit ?_)
      obtain rfl := Option.some.inj hF
      exact post_lp_break _ ⟨_, rfl, rfl⟩ (imps [] trivial trivial)
    rintro _ ⟨⟨⟩, rfl, rfl⟩
    have hF := elim_next hK115
    clear hK115
    refine post_next ?_
    refine aw_seq ?_
    refine aw_region ?_
    refine ras ?_
    refine reg_nil ?_
    refine post_imp (s' := ⟨76, [(4, some (.pv (.bool false)))], [], 0, [], [], 0, []⟩) (imps [] ⟨by kernel_rfl, trivial⟩ trivial) ?_
    refine post_next ?_
    refine aw_ret ?_
    obtain rfl := Option.some.inj hF
    exact post_ret rfl rfl (.cons _ _ _ _ _ (.tmp _ _ rfl) (.p _) .nil) (.inl rfl)
theorem ref10_much_ok {n : Nat} {a0 : GStmt} {a1 : Int} {r : Bool} (hF : ref10_much n a0 a1 = some r) : Abs.Fn Try.prog 39 [.agg (eGStmt a0), .int .i64 a1] [.p (.bool r)] := (ref10_much_ring n) _ _ _ hF

theorem ref08_Size_ring : ∀ n : Nat, (∀ (a0 : GStmt) (r : Int), ref08_Size n a0 = some r → Abs.Fn Try.prog 40 [.agg (eGStmt a0)] [.p (.int .i64 r)]) := by
  intro n
  induction n with
  | zero => exact (fun _ _ h => by simp [ref08_Size] at h)
  | succ n ih =>
    have ref08_Size_ih := ih
    clear ih
    intro a0 r hF
    unfold ref08_Size at hF
    revert hF ref08_Size_ih
    generalize ref08_Size n = ref08_Size_rec
    intro ref08_Size_ih hF
    refine fn_of_body (n := 37) Try.func40 rfl rfl rfl ?_
    intro w O
    refine aw_seq ?_
    refine aw_region ?_
    refine reg_cons (guard_no rfl) (op_box 0 rfl rfl rfl rfl rfl rfl) ?_
    refine ras ?_
    refine reg_nil ?_
    refine post_imp (s' := ⟨37, [(1, some (.lp 0 0))], [(0, some (.box 83 (bxv (eGStmt a0))))], 1, [], [], 0, []⟩) (imps [0] ⟨by kernel_rfl, trivial⟩ ⟨by kernel_rfl, trivial⟩) ?_
    refine post_next ?_
    refine aw_seq ?_
    refine aw_region ?_
    refine ras ?_
    refine reg_nil ?_
    refine post_imp (s' := ⟨37, [(1, some (.lp 0 0)), (3, some (.pv (.int .i64 1)))], [(0, some (.box 83 (bxv (eGStmt a0))))], 1, [], [], 0, []⟩) (imps [0] ⟨by kernel_rfl, by kernel_rfl, trivial⟩ ⟨by kernel_rfl, trivial⟩) ?_
    refine post_next ?_
    iterate 2 (refine aw_seq ?_)
    refine aw_region ?_
    refine ras ?_
    refine reg_nil ?_
    refine post_imp (s' := ⟨37, [(1, some (.lp 0 0)), (3, some (.pv (.int .i64 1))), (4, some (.pv (.int .i64 0)))], [(0, some (.box 83 (bxv (eGStmt a0))))], 1, [], [], 0, []⟩) (imps [0] ⟨by kernel_rfl, by kernel_rfl, by kernel_rfl, trivial⟩ ⟨by kernel_rfl, trivial⟩) ?_
    refine post_next ?_
    obtain ⟨x34, hF, hK35⟩ := bind_some hF
    refine aw_for ((((a0.fBody.length : Int) : Int) - (0)).toNat + 1) (fun s1 => s1 = ⟨37, [(1, some (.lp 0 0)), (3, some (.pv (.int .i64 x34)))], [(0, some (.box 83 (bxv (eGStmt a0))))], 1, [], [], 0, []⟩) ?_ ?_
    · refine rnd_loop (α := Int × Int) (fun q => ⟨37, [(1, some (.lp 0 0)), (3, some (.pv (.int .i64 q.1))), (4, some (.pv (.int .i64 q.2)))], [(0, some (.box 83 (bxv (eGStmt a0))))], 1, [], [], 0, []⟩) (fun k q => ref08_Size_L1 a0 ref08_Size_rec k q.1 q.2 = some x34) (1, 0) (imps [0] ⟨by kernel_rfl, by kernel_rfl, by kernel_rfl, trivial⟩ ⟨by kernel_rfl, trivial⟩) hF (fun q h => by cases h) ?_
      clear hF
      rintro k ⟨x10, x11⟩ hF ih
      refine rnd_succ ?_
      iterate 2 (refine aw_seq ?_)
      refine aw_region ?_
      refine rmv ?_
      refine reg_cons (guard_no rfl) (op_field_lp rfl rfl Try_fld_83_7 rfl rfl) ?_
      refine reg_cons (guard_no rfl) (op_load_lp (v := .pv (.vs 23 (eLGStmt a0.fBody))) rfl rfl rfl rfl Try_one_31 rfl rfl) ?_
      refine reg_cons (guard_no rfl) (op_len_vs (n := a0.fBody.length) rfl rfl (lenR eLGStmt_map) Try_slc_31 rfl rfl) ?_
      refine reg_cons (guard_no rfl) (op_int (k := .i64) (m := x11) (n := (a0.fBody.length : Int)) rfl rfl rfl rfl rfl rfl) ?_
      refine reg_nil ?_
      refine post_imp (s' := ⟨37, [(1, some (.lp 0 0)), (3, some (.pv (.int .i64 x10))), (4, some (.pv (.int .i64 x11))), (10, some (.pv (.bool (decide (x11 < (a0.fBody.length : Int))))))], [(0, some (.box 83 (bxv (eGStmt a0))))], 1, [], [], 0, []⟩) (imps [0] ⟨by kernel_rfl, by kernel_rfl, by kernel_rfl, by kernel_rfl, trivial⟩ ⟨by kernel_rfl, trivial⟩) ?_
      refine post_next ?_
      rcases ite_some hF with ⟨hb23, hF⟩ | ⟨hb23, hF⟩
      · refine aw_cond_t rfl hb23 ?_
        refine aw_skip ?_
        refine post_next ?_
        refine aw_seq ?_
        refine aw_block ?_
        refine aw_region ?_
        refine rmv ?_
        refine reg_cons (guard_no rfl) (op_field_lp rfl rfl Try_fld_83_7 rfl rfl) ?_
        refine reg_cons (guard_no rfl) (op_load_lp (v := .pv (.vs 23 (eLGStmt a0.fBody))) rfl rfl rfl rfl Try_one_31 rfl rfl) ?_
        refine rmv ?_
        obtain ⟨y28, h29, hF⟩ := bind_some hF
        refine reg_cons (guard_no rfl) (op_index_vs (k := .i64) rfl rfl rfl (idxR eLGStmt_map h29) Try_slc_31 rfl rfl) ?_
        refine reg_cons (guard_no rfl) (op_load_vp_agg (ps := eGStmt y28) rfl rfl rfl rfl Try_agg_83 rfl rfl) ?_
        obtain ⟨y30, h31, hF⟩ := bind_some hF
        refine reg_cons (guard_no rfl) (op_call 1 rfl (caps := []) (args := [.agg (eGStmt y28)]) (rs := [.p (.int .i64 y30)]) rfl rfl rfl Try_cal_40 (ref08_Size_ih _ _ h31) rfl rfl rfl) ?_
        refine reg_cons (guard_no rfl) (op_int (k := .i64) (m := x10) (n := y30) rfl rfl rfl rfl rfl rfl) ?_
        refine ras ?_
        refine reg_nil ?_
        refine post_imp (s' := ⟨37, [(1, some (.lp 0 0)), (3, some (.pv (.int .i64 (w_i64 (x10 + y30))))), (4, some (.pv (.int .i64 x11)))], [(0, some (.box 83 (bxv (eGStmt a0))))], 1, [], [], 0, []⟩) (imps [0] ⟨by kernel_rfl, by kernel_rfl, by kernel_rfl, trivial⟩ ⟨by kernel_rfl, trivial⟩) ?_
        refine post_block_normal ?_
        refine post_next ?_
        refine aw_region ?_
        refine rmv ?_
        refine reg_cons (guard_no rfl) (op_int (k := .i64) (m := x11) (n := 1) rfl rfl rfl rfl rfl rfl) ?_
        refine ras ?_
        refine reg_nil ?_
        refine post_round ?_
        exact rnd_back (ih (w_i64 (x10 + y30), w_i64 (x11 + 1)) hF) (imps [0] ⟨by kernel_rfl, by kernel_rfl, by kernel_rfl, trivial⟩ ⟨by kernel_rfl, trivial⟩)
      refine aw_cond_f rfl hb23 ?_
      refine aw_exit ?_
      iterate 2 (refine post_then_exit ?_)
      obtain rfl := Option.some.inj hF
      exact post_lp_break _ rfl (imps [0] ⟨by kernel_rfl, by kernel_rfl, trivial⟩ ⟨by kernel_rfl, trivial⟩)
    rintro _ rfl
    have hF := hK35
    clear hK35
    refine post_next ?_
    iterate 2 (refine aw_seq ?_)
    refine aw_region ?_
    refine ras ?_
    refine reg_nil ?_
    refine post_imp (s' := ⟨37, [(1, some (.lp 0 0)), (3, some (.pv (.int .i64 x34))), (5, some (.pv (.int .i64 0)))], [(0, some (.box 83 (bxv (eGStmt a0))))], 1, [], [], 0, []⟩) (imps [0] ⟨by kernel_rfl, by kernel_rfl, by kernel_rfl, trivial⟩ ⟨by kernel_rfl, trivial⟩) ?_
    refine post_next ?_
    obtain ⟨x69, hF, hK70⟩ := bind_some hF
    refine aw_for ((((a0.fElse.length : Int) : Int) - (0)).toNat + 1) (fun s1 => s1 = ⟨37, [(3, some (.pv (.int .i64 x69)))], [], 0, [], [], 0, []⟩) ?_ ?_
    · refine rnd_loop (α := Int × Int) (fun q => ⟨37, [(1, some (.lp 0 0)), (3, some (.pv (.int .i64 q.1))), (5, some (.pv (.int .i64 q.2)))], [(0, some (.box 83 (bxv (eGStmt a0))))], 1, [], [], 0, []⟩) (fun k q => ref08_Size_L2 a0 ref08_Size_rec k q.1 q.2 = some x69) (x34, 0) (imps [0] ⟨by kernel_rfl, by kernel_rfl, by kernel_rfl, trivial⟩ ⟨by kernel_rfl, trivial⟩) hF (fun q h => by cases h) ?_
      clear hF
      rintro k ⟨x45, x46⟩ hF ih
      refine rnd_succ ?_
      iterate 2 (refine aw_seq ?_)
      refine aw_region ?_
      refine rmv ?_
      refine reg_cons (guard_no rfl) (op_field_lp rfl rfl Try_fld_83_8 rfl rfl) ?_
      refine reg_cons (guard_no rfl) (op_load_lp (v := .pv (.vs 23 (eLGStmt a0.fElse))) rfl rfl rfl rfl Try_one_31 rfl rfl) ?_
      refine reg_cons (guard_no rfl) (op_len_vs (n := a0.fElse.length) rfl rfl (lenR eLGStmt_map) Try_slc_31 rfl rfl) ?_
      refine reg_cons (guard_no rfl) (op_int (k := .i64) (m := x46) (n := (a0.fElse.length : Int)) rfl rfl rfl rfl rfl rfl) ?_
      refine reg_nil ?_
      refine post_imp (s' := ⟨37, [(1, some (.lp 0 0)), (3, some (.pv (.int .i64 x45))), (5, some (.pv (.int .i64 x46))), (25, some (.pv (.bool (decide (x46 < (a0.fElse.length : Int))))))], [(0, some (.box 83 (bxv (eGStmt a0))))], 1, [], [], 0, []⟩) (imps [0] ⟨by kernel_rfl, by kernel_rfl, by kernel_rfl, by kernel_rfl, trivial⟩ ⟨by kernel_rfl, trivial⟩) ?_
      refine post_next ?_
      rcases ite_some hF with ⟨hb58, hF⟩ | ⟨hb58, hF⟩
      · refine aw_cond_t rfl hb58 ?_
        refine aw_skip ?_
        refine post_next ?_
        refine aw_seq ?_
        refine aw_block ?_
        refine aw_region ?_
        refine rmv ?_
        refine reg_cons (guard_no rfl) (op_field_lp rfl rfl Try_fld_83_8 rfl rfl) ?_
        refine reg_cons (guard_no rfl) (op_load_lp (v := .pv (.vs 23 (eLGStmt a0.fElse))) rfl rfl rfl rfl Try_one_31 rfl rfl) ?_
        refine rmv ?_
        obtain ⟨y63, h64, hF⟩ := bind_some hF
        refine reg_cons (guard_no rfl) (op_index_vs (k := .i64) rfl rfl rfl (idxR eLGStmt_map h64) Try_slc_31 rfl rfl) ?_
        refine reg_cons (guard_no rfl) (op_load_vp_agg (ps := eGStmt y63) rfl rfl rfl rfl Try_agg_83 rfl rfl) ?_
        obtain ⟨y65, h66, hF⟩ := bind_some hF
        refine reg_cons (guard_no rfl) (op_call 1 rfl (caps := []) (args := [.agg (eGStmt y63)]) (rs := [.p (.int .i64 y65)]) rfl rfl rfl Try_cal_40 (ref08_Size_ih _ _ h66) rfl rfl rfl) ?_
        refine reg_cons (guard_no rfl) (op_int (k := .i64) (m := x45) (n := y65) rfl rfl rfl rfl rfl rfl) ?_
        refine ras ?_
        refine reg_nil ?_
        refine post_imp (s' := ⟨37, [(1, some (.lp 0 0)), (3, some (.pv (.int .i64 (w_i64 (x45 + y65))))), (5, some (.pv (.int .i64 x46)))], [(0, some (.box 83 (bxv (eGStmt a0))))], 1, [], [], 0, []⟩) (imps [0] ⟨by kernel_rfl, by kernel_rfl, by kernel_rfl, trivial⟩ ⟨by kernel_rfl, trivial⟩) ?_
        refine post_block_normal ?_
        refine post_next ?_
        refine aw_region ?_
        refine rmv ?_
        refine reg_cons (guard_no rfl) (op_int (k := .i64) (m := x46) (n := 1) rfl rfl rfl rfl rfl rfl) ?_
        refine ras ?_
        refine reg_nil ?_
        refine post_round ?_
        exact rnd_back (ih (w_i64 (x45 + y65), w_i64 (x46 + 1)) hF) (imps [0] ⟨by kernel_rfl, by kernel_rfl, by kernel_rfl, trivial⟩ ⟨by kernel_rfl, trivial⟩)
      refine aw_cond_f rfl hb58 ?_
      refine aw_exit ?_
      iterate 2 (refine post_then_exit ?_)
      obtain rfl := Option.some.inj hF
      exact post_lp_break _ rfl (imps [] ⟨by kernel_rfl, trivial⟩ trivial)
    rintro _ rfl
    have hF := hK70
    clear hK70
    refine post_next ?_
    refine aw_seq ?_
    refine aw_region ?_
    refine rmv ?_
    refine ras ?_
    refine reg_nil ?_
    refine post_imp (s' := ⟨37, [(2, some (.pv (.int .i64 x69)))], [], 0, [], [], 0, []⟩) (imps [] ⟨by kernel_rfl, trivial⟩ trivial) ?_
    refine post_next ?_
    refine aw_ret ?_
    obtain rfl := Option.some.inj hF
    exact post_ret rfl rfl (.cons _ _ _ _ _ (.tmp _ _ rfl) (.p _) .nil) (.inl rfl)
theorem ref08_Size_ok {n : Nat} {a0 : GStmt} {r : Int} (hF : ref08_Size n a0 = some r) : Abs.Fn Try.prog 40 [.agg (eGStmt a0)] [.p (.int .i64 r)] := (ref08_Size_ring n) _ _ hF

theorem ref10_Heavy_ok {a0 : List GClass} {r : Bool} (hF : ref10_Heavy a0 = some r) : Abs.Fn Try.prog 10 [.vs 7 (List.map eGClass a0)] [.p (.bool r)] := by
  unfold ref10_Heavy at hF
  refine fn_of_body (n := 106) Try.func10 rfl rfl rfl ?_
  intro w O
  refine aw_seq ?_
  refine aw_region ?_
  refine ras ?_
  refine reg_nil ?_
  refine post_imp (s' := ⟨106, [(0, some (.pv (.vs 7 (List.map eGClass a0))))], [], 0, [], [], 0, []⟩) (imps [] ⟨by kernel_rfl, trivial⟩ trivial) ?_
  refine post_next ?_
  refine aw_seq ?_
  refine aw_region ?_
  refine ras ?_
  refine reg_nil ?_
  refine post_imp (s' := ⟨106, [(0, some (.pv (.vs 7 (List.map eGClass a0)))), (3, some (.pv (.int .i64 0)))], [], 0, [], [], 0, []⟩) (imps [] ⟨by kernel_rfl, by kernel_rfl, trivial⟩ trivial) ?_
  refine post_next ?_
  iterate 2 (refine aw_seq ?_)
  refine aw_region ?_
  refine ras ?_
  refine reg_nil ?_
  refine post_imp (s' := ⟨106, [(0, some (.pv (.vs 7 (List.map eGClass a0)))), (3, some (.pv (.int .i64 0))), (4, some (.pv (.int .i64 0)))], [], 0, [], [], 0, []⟩) (imps [] ⟨by kernel_rfl, by kernel_rfl, by kernel_rfl, trivial⟩ trivial) ?_
  refine post_next ?_
  obtain ⟨lr767, hF, hK768⟩ := bind_some hF
  refine aw_for ((((a0.length : Int) : Int) - (0)).toNat + 1) (fun s1 => ∃ q, lr767 = .next q ∧ s1 = ⟨106, [(3, some (.pv (.int .i64 q)))], [], 0, [], [], 0, []⟩) ?_ ?_
  · refine rnd_loop (α := Int × Int) (fun q => ⟨106, [(0, some (.pv (.vs 7 (List.map eGClass a0)))), (3, some (.pv (.int .i64 q.1))), (4, some (.pv (.int .i64 q.2)))], [], 0, [], [], 0, []⟩) (fun k q => ref10_Heavy_L1 a0 k q.1 q.2 = some lr767) (0, 0) (imps [] ⟨by kernel_rfl, by kernel_rfl, by kernel_rfl, trivial⟩ trivial) hF (fun q h => by cases h) ?_
    clear hF
    rintro k ⟨x254, x255⟩ hF ih
    refine rnd_succ ?_
    iterate 2 (refine aw_seq ?_)
    refine aw_region ?_
    iterate 2 (refine rmv ?_)
    refine reg_cons (guard_no rfl) (op_len_vs (n := a0.length) rfl rfl (List.length_map ..) Try_slc_22 rfl rfl) ?_
    refine reg_cons (guard_no rfl) (op_int (k := .i64) (m := x255) (n := (a0.length : Int)) rfl rfl rfl rfl rfl rfl) ?_
    refine reg_nil ?_
    refine post_imp (s' := ⟨106, [(0, some (.pv (.vs 7 (List.map eGClass a0)))), (3, some (.pv (.int .i64 x254))), (4, some (.pv (.int .i64 x255))), (12, some (.pv (.bool (decide (x255 < (a0.length : Int))))))], [], 0, [], [], 0, []⟩) (imps [] ⟨by kernel_rfl, by kernel_rfl, by kernel_rfl, by kernel_rfl, trivial⟩ trivial) ?_
    refine post_next ?_
    rcases ite_some hF with ⟨hb511, hF⟩ | ⟨hb511, hF⟩
    · refine aw_cond_t rfl hb511 ?_
      refine aw_skip ?_
      refine post_next ?_
      refine aw_seq ?_
      refine aw_block ?_
      refine aw_seq ?_
      refine aw_region ?_
      iterate 2 (refine rmv ?_)
      obtain ⟨y514, h515, hF⟩ := bind_some hF
      refine reg_cons (guard_no rfl) (op_index_vs (k := .i64) rfl rfl rfl (idx_map eGClass h515) Try_slc_22 rfl rfl) ?_
      refine reg_cons (guard_no rfl) (op_load_vp_agg (ps := eGClass y514) rfl rfl rfl rfl Try_agg_56 rfl rfl) ?_
      refine reg_cons (guard_no rfl) (op_alloc 0 rfl (ps := (eGClass zGClass)) rfl Try_zer_56 (by exact ⟨rfl, trivial, rfl, trivial, trivial, trivial, rfl, trivial⟩) rfl rfl) ?_
      refine reg_cons (guard_no rfl) (op_store_lp (n := 7) rfl rfl rfl rfl rfl (or_agg Try_agg_56) (by rw [Try_non_56]; rfl) rfl rfl rfl) ?_
      refine reg_nil ?_
      refine post_imp (s' := ⟨106, [(0, some (.pv (.vs 7 (List.map eGClass a0)))), (3, some (.pv (.int .i64 x254))), (4, some (.pv (.int .i64 x255))), (5, some (.lp 0 0))], [(0, some (.box 56 (bxv (eGClass y514))))], 1, [], [], 0, []⟩) (imps [0] ⟨by kernel_rfl, by kernel_rfl, by kernel_rfl, by kernel_rfl, trivial⟩ ⟨by kernel_rfl, trivial⟩) ?_
      refine post_next ?_
      iterate 2 (refine aw_seq ?_)
      obtain ⟨x520, hF, hK522⟩ := bind_some hF
      refine aw_cut (fun s1 => s1 = ⟨106, [(0, some (.pv (.vs 7 (List.map eGClass a0)))), (3, some (.pv (.int .i64 x254))), (4, some (.pv (.int .i64 x255))), (5, some (.lp 0 0)), (45, some (.pv (.bool x520)))], [(0, some (.box 56 (bxv (eGClass y514))))], 1, [], [], 0, []⟩) ?_ ?_
      · refine aw_region ?_
        refine rmv ?_
        refine reg_cons (guard_no rfl) (op_len_vs (n := a0.length) rfl rfl (List.length_map ..) Try_slc_22 rfl rfl) ?_
        refine reg_cons (guard_no rfl) (op_int (k := .i64) (m := (a0.length : Int)) (n := 30) rfl rfl rfl rfl rfl rfl) ?_
        refine rmv ?_
        rcases ite_some hF with ⟨hb516, hF⟩ | ⟨hb516, hF⟩
        · refine rgo_t hb516 ?_
          iterate 3 (refine rgo_t hb516 ?_)
          refine rpt hb516 ?_
          refine rmv ?_
          iterate 4 (refine rgo_t rfl ?_)
          refine rpt rfl ?_
          refine rmv ?_
          iterate 4 (refine rgo_t rfl ?_)
          refine rpt rfl ?_
          refine rmv ?_
          iterate 4 (refine rgo_t rfl ?_)
          refine rpt rfl ?_
          refine reg_nil ?_
          cases hF
          exact post_cut _ rfl (imps [0] ⟨by kernel_rfl, by kernel_rfl, by kernel_rfl, by kernel_rfl, by kernel_rfl, trivial⟩ ⟨by kernel_rfl, trivial⟩)
        refine reg_cons (guard_on rfl rfl rfl rfl hb516) (op_field_lp rfl rfl Try_fld_56_1 rfl rfl) ?_
        refine reg_cons (guard_on rfl rfl rfl rfl hb516) (op_load_lp (v := .pv (.vs 1 (List.map eS y514.fParams))) rfl rfl rfl rfl Try_one_52 rfl rfl) ?_
        refine reg_cons (guard_on rfl rfl rfl rfl hb516) (op_len_vs (n := y514.fParams.length) rfl rfl (List.length_map ..) Try_slc_52 rfl rfl) ?_
        refine reg_cons (guard_on rfl rfl rfl rfl hb516) (op_int (k := .i64) (m := (y514.fParams.length : Int)) (n := 20) rfl rfl rfl rfl rfl rfl) ?_
        refine rpf hb516 ?_
        refine rmv ?_
        rcases ite_some hF with ⟨hb517, hF⟩ | ⟨hb517, hF⟩
        · refine rgo_t hb517 ?_
          iterate 3 (refine rgo_t hb517 ?_)
          refine rpt hb517 ?_
          refine rmv ?_
          iterate 4 (refine rgo_t rfl ?_)
          refine rpt rfl ?_
          refine rmv ?_
          iterate 4 (refine rgo_t rfl ?_)
          refine rpt rfl ?_
          refine reg_nil ?_
          cases hF
          exact post_cut _ rfl (imps [0] ⟨by kernel_rfl, by kernel_rfl, by kernel_rfl, by kernel_rfl, by kernel_rfl, trivial⟩ ⟨by kernel_rfl, trivial⟩)
        refine reg_cons (guard_on rfl rfl rfl rfl hb517) (op_field_lp rfl rfl Try_fld_56_3 rfl rfl) ?_
        refine reg_cons (guard_on rfl rfl rfl rfl hb517) (op_load_lp (v := .pv (.vs 2 (List.map eGOwner y514.fAbove))) rfl rfl rfl rfl Try_one_53 rfl rfl) ?_
        refine reg_cons (guard_on rfl rfl rfl rfl hb517) (op_len_vs (n := y514.fAbove.length) rfl rfl (List.length_map ..) Try_slc_53 rfl rfl) ?_
        refine reg_cons (guard_on rfl rfl rfl rfl hb517) (op_int (k := .i64) (m := (y514.fAbove.length : Int)) (n := 20) rfl rfl rfl rfl rfl rfl) ?_
        refine rpf hb517 ?_
        refine rmv ?_
        rcases ite_some hF with ⟨hb518, hF⟩ | ⟨hb518, hF⟩
        · refine rgo_t hb518 ?_
          iterate 3 (refine rgo_t hb518 ?_)
          refine rpt hb518 ?_
          refine rmv ?_
          iterate 4 (refine rgo_t rfl ?_)
          refine rpt rfl ?_
          refine reg_nil ?_
          cases hF
          exact post_cut _ rfl (imps [0] ⟨by kernel_rfl, by kernel_rfl, by kernel_rfl, by kernel_rfl, by kernel_rfl, trivial⟩ ⟨by kernel_rfl, trivial⟩)
        refine reg_cons (guard_on rfl rfl rfl rfl hb518) (op_field_lp rfl rfl Try_fld_56_4 rfl rfl) ?_
        refine reg_cons (guard_on rfl rfl rfl rfl hb518) (op_load_lp (v := .pv (.vs 13 (List.map eGVar y514.fFields))) rfl rfl rfl rfl Try_one_30 rfl rfl) ?_
        refine reg_cons (guard_on rfl rfl rfl rfl hb518) (op_len_vs (n := y514.fFields.length) rfl rfl (List.length_map ..) Try_slc_30 rfl rfl) ?_
        refine reg_cons (guard_on rfl rfl rfl rfl hb518) (op_int (k := .i64) (m := (y514.fFields.length : Int)) (n := 40) rfl rfl rfl rfl rfl rfl) ?_
        refine rpf hb518 ?_
        refine rmv ?_
        rcases ite_some hF with ⟨hb519, hF⟩ | ⟨hb519, hF⟩
        · refine rgo_t hb519 ?_
          iterate 3 (refine rgo_t hb519 ?_)
          refine rpt hb519 ?_
          refine reg_nil ?_
          cases hF
          exact post_cut _ rfl (imps [0] ⟨by kernel_rfl, by kernel_rfl, by kernel_rfl, by kernel_rfl, by kernel_rfl, trivial⟩ ⟨by kernel_rfl, trivial⟩)
        refine reg_cons (guard_on rfl rfl rfl rfl hb519) (op_field_lp rfl rfl Try_fld_56_5 rfl rfl) ?_
        refine reg_cons (guard_on rfl rfl rfl rfl hb519) (op_load_lp (v := .pv (.vs 17 (List.map eGMethod y514.fMethods))) rfl rfl rfl rfl Try_one_54 rfl rfl) ?_
        refine reg_cons (guard_on rfl rfl rfl rfl hb519) (op_len_vs (n := y514.fMethods.length) rfl rfl (List.length_map ..) Try_slc_54 rfl rfl) ?_
        refine reg_cons (guard_on rfl rfl rfl rfl hb519) (op_int (k := .i64) (m := (y514.fMethods.length : Int)) (n := 40) rfl rfl rfl rfl rfl rfl) ?_
        refine rpf hb519 ?_
        refine reg_nil ?_
        cases hF
        exact post_cut _ rfl (imps [0] ⟨by kernel_rfl, by kernel_rfl, by kernel_rfl, by kernel_rfl, by kernel_rfl, trivial⟩ ⟨by kernel_rfl, trivial⟩)
      rintro _ rfl
      have hF := hK522
      clear hK522
      refine post_next ?_
      rcases ite_some hF with ⟨hb523, hF⟩ | ⟨hb523, hF⟩
      · refine aw_cond_t rfl hb523 ?_
        refine aw_seq ?_
        refine aw_region ?_
        refine ras ?_
        refine reg_nil ?_
        refine post_imp (s' := ⟨106, [(2, some (.pv (.bool true)))], [], 0, [], [], 0, []⟩) (imps [] ⟨by kernel_rfl, trivial⟩ trivial) ?_
        refine post_next ?_
        refine aw_ret ?_
        refine post_then_ret ?_
        refine post_block_ret ?_
        iterate 2 (refine post_then_ret ?_)
        refine post_lp_ret ?_
        obtain rfl := Option.some.inj hF
        have hF := elim_stop hK768
        refine post_then_ret ?_
        obtain rfl := Option.some.inj hF
        exact post_ret rfl rfl (.cons _ _ _ _ _ (.tmp _ _ rfl) (.p _) .nil) (.inl rfl)
      refine aw_cond_f rfl hb523 ?_
      refine aw_skip ?_
      refine post_next ?_
      refine aw_seq ?_
      refine aw_region ?_
      refine ras ?_
      refine reg_nil ?_
      refine post_imp (s' := ⟨106, [(0, some (.pv (.vs 7 (List.map eGClass a0)))), (3, some (.pv (.int .i64 x254))), (4, some (.pv (.int .i64 x255))), (5, some (.lp 0 0)), (6, some (.pv (.int .i64 0)))], [(0, some (.box 56 (bxv (eGClass y514))))], 1, [], [], 0, []⟩) (imps [0] ⟨by kernel_rfl, by kernel_rfl, by kernel_rfl, by kernel_rfl, by kernel_rfl, trivial⟩ ⟨by kernel_rfl, trivial⟩) ?_
      refine post_next ?_
      obtain ⟨lr762, hF, hK763⟩ := bind_some hF
      refine aw_for ((((y514.fMethods.length : Int) : Int) - (0)).toNat + 1) (fun s1 => ∃ q, lr762 = .next q ∧ s1 = ⟨106, [(0, some (.pv (.vs 7 (List.map eGClass a0)))), (3, some (.pv (.int .i64 q))), (4, some (.pv (.int .i64 x255)))], [], 0, [], [], 0, []⟩) ?_ ?_
      · refine rnd_loop (α := Int × Int) (fun q => ⟨106, [(0, some (.pv (.vs 7 (List.map eGClass a0)))), (3, some (.pv (.int .i64 q.1))), (4, some (.pv (.int .i64 x255))), (5, some (.lp 0 0)), (6, some (.pv (.int .i64 q.2)))], [(0, some (.box 56 (bxv (eGClass y514))))], 1, [], [], 0, []⟩) (fun k q => ref10_Heavy_L2 y514 k q.1 q.2 = some lr762) (x254, 0) (imps [0] ⟨by kernel_rfl, by kernel_rfl, by kernel_rfl, by kernel_rfl, by kernel_rfl, trivial⟩ ⟨by kernel_rfl, trivial⟩) hF (fun q h => by cases h) ?_
        clear hF
        rintro k ⟨x601, x602⟩ hF ih
        refine rnd_succ ?_
        iterate 2 (refine aw_seq ?_)
        refine aw_region ?_
        refine rmv ?_
        refine reg_cons (guard_no rfl) (op_field_lp rfl rfl Try_fld_56_5 rfl rfl) ?_
        refine reg_cons (guard_no rfl) (op_load_lp (v := .pv (.vs 17 (List.map eGMethod y514.fMethods))) rfl rfl rfl rfl Try_one_54 rfl rfl) ?_
        refine reg_cons (guard_no rfl) (op_len_vs (n := y514.fMethods.length) rfl rfl (List.length_map ..) Try_slc_54 rfl rfl) ?_
        refine reg_cons (guard_no rfl) (op_int (k := .i64) (m := x602) (n := (y514.fMethods.length : Int)) rfl rfl rfl rfl rfl rfl) ?_
        refine reg_nil ?_
        refine post_imp (s' := ⟨106, [(0, some (.pv (.vs 7 (List.map eGClass a0)))), (3, some (.pv (.int .i64 x601))), (4, some (.pv (.int .i64 x255))), (5, some (.lp 0 0)), (6, some (.pv (.int .i64 x602))), (50, some (.pv (.bool (decide (x602 < (y514.fMethods.length : Int))))))], [(0, some (.box 56 (bxv (eGClass y514))))], 1, [], [], 0, []⟩) (imps [0] ⟨by kernel_rfl, by kernel_rfl, by kernel_rfl, by kernel_rfl, by kernel_rfl, by kernel_rfl, trivial⟩ ⟨by kernel_rfl, trivial⟩) ?_
        refine post_next ?_
        rcases ite_some hF with ⟨hb682, hF⟩ | ⟨hb682, hF⟩
        · refine aw_cond_t rfl hb682 ?_
          refine aw_skip ?_
          refine post_next ?_
          refine aw_seq ?_
          refine aw_block ?_
          refine aw_seq ?_
          refine aw_region ?_
          refine reg_cons (guard_no rfl) (op_field_lp rfl rfl Try_fld_56_5 rfl rfl) ?_
          refine reg_cons (guard_no rfl) (op_load_lp (v := .pv (.vs 17 (List.map eGMethod y514.fMethods))) rfl rfl rfl rfl Try_one_54 rfl rfl) ?_
          refine rmv ?_
          obtain ⟨y685, h686, hF⟩ := bind_some hF
          refine reg_cons (guard_no rfl) (op_index_vs (k := .i64) rfl rfl rfl (idx_map eGMethod h686) Try_slc_54 rfl rfl) ?_
          refine reg_cons (guard_no rfl) (op_load_vp_agg (ps := eGMethod y685) rfl rfl rfl rfl Try_agg_33 rfl rfl) ?_
          refine reg_cons (guard_no rfl) (op_alloc 1 rfl (ps := (eGMethod zGMethod)) rfl Try_zer_33 (by exact ⟨rfl, rfl, rfl, rfl, rfl, rfl, rfl, rfl, rfl, rfl, rfl, rfl, rfl, trivial, trivial, trivial, rfl, trivial⟩) rfl rfl) ?_
          refine reg_cons (guard_no rfl) (op_store_lp (n := 17) rfl rfl rfl rfl rfl (or_agg Try_agg_33) (by rw [Try_non_33]; rfl) rfl rfl rfl) ?_
          refine reg_nil ?_
          refine post_imp (s' := ⟨106, [(0, some (.pv (.vs 7 (List.map eGClass a0)))), (3, some (.pv (.int .i64 x601))), (4, some (.pv (.int .i64 x255))), (5, some (.lp 0 0)), (6, some (.pv (.int .i64 x602))), (7, some (.lp 1 0))], [(0, some (.box 56 (bxv (eGClass y514)))), (1, some (.box 33 (bxv (eGMethod y685))))], 2, [], [], 0, []⟩) (imps [0, 1] ⟨by kernel_rfl, by kernel_rfl, by kernel_rfl, by kernel_rfl, by kernel_rfl, by kernel_rfl, trivial⟩ ⟨by kernel_rfl, by kernel_rfl, trivial⟩) ?_
          refine post_next ?_
          iterate 2 (refine aw_seq ?_)
          obtain ⟨x692, hF, hK694⟩ := bind_some hF
          refine aw_cut (fun s1 => s1 = ⟨106, [(0, some (.pv (.vs 7 (List.map eGClass a0)))), (3, some (.pv (.int .i64 x601))), (4, some (.pv (.int .i64 x255))), (5, some (.lp 0 0)), (6, some (.pv (.int .i64 x602))), (7, some (.lp 1 0)), (78, some (.pv (.bool x692)))], [(0, some (.box 56 (bxv (eGClass y514)))), (1, some (.box 33 (bxv (eGMethod y685))))], 2, [], [], 0, []⟩) ?_ ?_
          · refine aw_region ?_
            refine reg_cons (guard_no rfl) (op_field_lp rfl rfl Try_fld_33_3 rfl rfl) ?_
            refine reg_cons (guard_no rfl) (op_load_lp (v := .pv (.vs 13 (List.map eGVar y685.fParams))) rfl rfl rfl rfl Try_one_30 rfl rfl) ?_
            refine reg_cons (guard_no rfl) (op_len_vs (n := y685.fParams.length) rfl rfl (List.length_map ..) Try_slc_30 rfl rfl) ?_
            refine reg_cons (guard_no rfl) (op_int (k := .i64) (m := (y685.fParams.length : Int)) (n := 40) rfl rfl rfl rfl rfl rfl) ?_
            refine rmv ?_
            rcases ite_some hF with ⟨hb687, hF⟩ | ⟨hb687, hF⟩
            · refine rgo_t hb687 ?_
              iterate 3 (refine rgo_t hb687 ?_)
              refine rpt hb687 ?_
              refine rmv ?_
              iterate 4 (refine rgo_t rfl ?_)
              refine rpt rfl ?_
              refine rmv ?_
              iterate 3 (refine rgo_t rfl ?_)
              refine rpt rfl ?_
              refine reg_nil ?_
              cases hF
              exact post_cut _ rfl (imps [0, 1] ⟨by kernel_rfl, by kernel_rfl, by kernel_rfl, by kernel_rfl, by kernel_rfl, by kernel_rfl, by kernel_rfl, trivial⟩ ⟨by kernel_rfl, by kernel_rfl, trivial⟩)
            refine reg_cons (guard_on rfl rfl rfl rfl hb687) (op_field_lp rfl rfl Try_fld_33_4 rfl rfl) ?_
            refine reg_cons (guard_on rfl rfl rfl rfl hb687) (op_load_lp (v := .pv (.vs 13 (List.map eGVar y685.fLocals))) rfl rfl rfl rfl Try_one_30 rfl rfl) ?_
            refine reg_cons (guard_on rfl rfl rfl rfl hb687) (op_len_vs (n := y685.fLocals.length) rfl rfl (List.length_map ..) Try_slc_30 rfl rfl) ?_
            refine reg_cons (guard_on rfl rfl rfl rfl hb687) (op_int (k := .i64) (m := (y685.fLocals.length : Int)) (n := 40) rfl rfl rfl rfl rfl rfl) ?_
            refine rpf hb687 ?_
            refine rmv ?_
            rcases ite_some hF with ⟨hb688, hF⟩ | ⟨hb688, hF⟩
            · refine rgo_t hb688 ?_
              iterate 3 (refine rgo_t hb688 ?_)
              refine rpt hb688 ?_
              refine rmv ?_
              iterate 3 (refine rgo_t rfl ?_)
              refine rpt rfl ?_
              refine reg_nil ?_
              cases hF
              exact post_cut _ rfl (imps [0, 1] ⟨by kernel_rfl, by kernel_rfl, by kernel_rfl, by kernel_rfl, by kernel_rfl, by kernel_rfl, by kernel_rfl, trivial⟩ ⟨by kernel_rfl, by kernel_rfl, trivial⟩)
            refine reg_cons (guard_on rfl rfl rfl rfl hb688) (op_field_lp rfl rfl Try_fld_33_5 rfl rfl) ?_
            refine reg_cons (guard_on rfl rfl rfl rfl hb688) (op_load_lp (v := .pv (.vs 23 (eLGStmt y685.fBody))) rfl rfl rfl rfl Try_one_31 rfl rfl) ?_
            refine reg_cons (guard_on rfl rfl rfl rfl hb688) (op_len_vs (n := y685.fBody.length) rfl rfl (lenR eLGStmt_map) Try_slc_31 rfl rfl) ?_
            refine reg_cons (guard_on rfl rfl rfl rfl hb688) (op_int (k := .i64) (m := (y685.fBody.length : Int)) (n := 500) rfl rfl rfl rfl rfl rfl) ?_
            refine rpf hb688 ?_
            refine rmv ?_
            rcases ite_some hF with ⟨hb689, hF⟩ | ⟨hb689, hF⟩
            · refine rgo_t hb689 ?_
              iterate 2 (refine rgo_t hb689 ?_)
              refine rpt hb689 ?_
              refine reg_nil ?_
              cases hF
              exact post_cut _ rfl (imps [0, 1] ⟨by kernel_rfl, by kernel_rfl, by kernel_rfl, by kernel_rfl, by kernel_rfl, by kernel_rfl, by kernel_rfl, trivial⟩ ⟨by kernel_rfl, by kernel_rfl, trivial⟩)
            refine reg_cons (guard_on rfl rfl rfl rfl hb689) (op_load_lp_agg (ps := eGMethod y685) rfl rfl rfl rfl rfl rfl Try_agg_33 rfl rfl) ?_
            obtain ⟨y690, h691, hF⟩ := bind_some hF
            refine reg_cons (guard_on rfl rfl rfl rfl hb689) (op_call 2 rfl (caps := []) (args := [.agg (eGMethod y685)]) (rs := [.p (.int .i64 y690)]) rfl rfl rfl Try_cal_38 (ref10_uniques_ok h691) rfl rfl rfl) ?_
            refine reg_cons (guard_on rfl rfl rfl rfl hb689) (op_int (k := .i64) (m := y690) (n := 8) rfl rfl rfl rfl rfl rfl) ?_
            refine rpf hb689 ?_
            refine reg_nil ?_
            cases hF
            exact post_cut _ rfl (imps [0, 1] ⟨by kernel_rfl, by kernel_rfl, by kernel_rfl, by kernel_rfl, by kernel_rfl, by kernel_rfl, by kernel_rfl, trivial⟩ ⟨by kernel_rfl, by kernel_rfl, trivial⟩)
          rintro _ rfl
          have hF := hK694
          clear hK694
          refine post_next ?_
          rcases ite_some hF with ⟨hb695, hF⟩ | ⟨hb695, hF⟩
          · refine aw_cond_t rfl hb695 ?_
            refine aw_seq ?_
            refine aw_region ?_
            refine ras ?_
            refine reg_nil ?_
            refine post_imp (s' := ⟨106, [(2, some (.pv (.bool true)))], [], 0, [], [], 0, []⟩) (imps [] ⟨by kernel_rfl, trivial⟩ trivial) ?_
            refine post_next ?_
            refine aw_ret ?_
            refine post_then_ret ?_
            refine post_block_ret ?_
            iterate 2 (refine post_then_ret ?_)
            refine post_lp_ret ?_
            obtain rfl := Option.some.inj hF
            have hF := elim_stop hK763
            refine post_block_ret ?_
            iterate 2 (refine post_then_ret ?_)
            refine post_lp_ret ?_
            obtain rfl := Option.some.inj hF
            have hF := elim_stop hK768
            refine post_then_ret ?_
            obtain rfl := Option.some.inj hF
            exact post_ret rfl rfl (.cons _ _ _ _ _ (.tmp _ _ rfl) (.p _) .nil) (.inl rfl)
          refine aw_cond_f rfl hb695 ?_
          refine aw_skip ?_
          refine post_next ?_
          refine aw_seq ?_
          refine aw_region ?_
          refine ras ?_
          refine reg_nil ?_
          refine post_imp (s' := ⟨106, [(0, some (.pv (.vs 7 (List.map eGClass a0)))), (3, some (.pv (.int .i64 x601))), (4, some (.pv (.int .i64 x255))), (5, some (.lp 0 0)), (6, some (.pv (.int .i64 x602))), (7, some (.lp 1 0)), (8, some (.pv (.int .i64 0)))], [(0, some (.box 56 (bxv (eGClass y514)))), (1, some (.box 33 (bxv (eGMethod y685))))], 2, [], [], 0, []⟩) (imps [0, 1] ⟨by kernel_rfl, by kernel_rfl, by kernel_rfl, by kernel_rfl, by kernel_rfl, by kernel_rfl, by kernel_rfl, trivial⟩ ⟨by kernel_rfl, by kernel_rfl, trivial⟩) ?_
          refine post_next ?_
          obtain ⟨lr757, hF, hK758⟩ := bind_some hF
          refine aw_for ((((y685.fBody.length : Int) : Int) - (0)).toNat + 1) (fun s1 => ∃ q, lr757 = .next q ∧ s1 = ⟨106, [(0, some (.pv (.vs 7 (List.map eGClass a0)))), (3, some (.pv (.int .i64 q))), (4, some (.pv (.int .i64 x255))), (5, some (.lp 0 0)), (6, some (.pv (.int .i64 x602)))], [(0, some (.box 56 (bxv (eGClass y514))))], 1, [], [], 0, []⟩) ?_ ?_
          · refine rnd_loop (α := Int × Int) (fun q => ⟨106, [(0, some (.pv (.vs 7 (List.map eGClass a0)))), (3, some (.pv (.int .i64 q.1))), (4, some (.pv (.int .i64 x255))), (5, some (.lp 0 0)), (6, some (.pv (.int .i64 x602))), (7, some (.lp 1 0)), (8, some (.pv (.int .i64 q.2)))], [(0, some (.box 56 (bxv (eGClass y514)))), (1, some (.box 33 (bxv (eGMethod y685))))], 2, [], [], 0, []⟩) (fun k q => ref10_Heavy_L3 y685 k q.1 q.2 = some lr757) (x601, 0) (imps [0, 1] ⟨by kernel_rfl, by kernel_rfl, by kernel_rfl, by kernel_rfl, by kernel_rfl, by kernel_rfl, by kernel_rfl, trivial⟩ ⟨by kernel_rfl, by kernel_rfl, trivial⟩) hF (fun q h => by cases h) ?_
            clear hF
            rintro k ⟨x714, x715⟩ hF ih
            refine rnd_succ ?_
            iterate 2 (refine aw_seq ?_)
            refine aw_region ?_
            refine rmv ?_
            refine reg_cons (guard_no rfl) (op_field_lp rfl rfl Try_fld_33_5 rfl rfl) ?_
            refine reg_cons (guard_no rfl) (op_load_lp (v := .pv (.vs 23 (eLGStmt y685.fBody))) rfl rfl rfl rfl Try_one_31 rfl rfl) ?_
            refine reg_cons (guard_no rfl) (op_len_vs (n := y685.fBody.length) rfl rfl (lenR eLGStmt_map) Try_slc_31 rfl rfl) ?_
            refine reg_cons (guard_no rfl) (op_int (k := .i64) (m := x715) (n := (y685.fBody.length : Int)) rfl rfl rfl rfl rfl rfl) ?_
            refine reg_nil ?_
            refine post_imp (s' := ⟨106, [(0, some (.pv (.vs 7 (List.map eGClass a0)))), (3, some (.pv (.int .i64 x714))), (4, some (.pv (.int .i64 x255))), (5, some (.lp 0 0)), (6, some (.pv (.int .i64 x602))), (7, some (.lp 1 0)), (8, some (.pv (.int .i64 x715))), (83, some (.pv (.bool (decide (x715 < (y685.fBody.length : Int))))))], [(0, some (.box 56 (bxv (eGClass y514)))), (1, some (.box 33 (bxv (eGMethod y685))))], 2, [], [], 0, []⟩) (imps [0, 1] ⟨by kernel_rfl, by kernel_rfl, by kernel_rfl, by kernel_rfl, by kernel_rfl, by kernel_rfl, by kernel_rfl, by kernel_rfl, trivial⟩ ⟨by kernel_rfl, by kernel_rfl, trivial⟩) ?_
            refine post_next ?_
            rcases ite_some hF with ⟨hb736, hF⟩ | ⟨hb736, hF⟩
            · refine aw_cond_t rfl hb736 ?_
              refine aw_skip ?_
              refine post_next ?_
              refine aw_seq ?_
              refine aw_block ?_
              iterate 2 (refine aw_seq ?_)
              obtain ⟨x742, hF, hK744⟩ := bind_some hF
              refine aw_cut (fun s1 => s1 = ⟨106, [(0, some (.pv (.vs 7 (List.map eGClass a0)))), (3, some (.pv (.int .i64 x714))), (4, some (.pv (.int .i64 x255))), (5, some (.lp 0 0)), (6, some (.pv (.int .i64 x602))), (7, some (.lp 1 0)), (8, some (.pv (.int .i64 x715))), (95, some (.pv (.bool x742)))], [(0, some (.box 56 (bxv (eGClass y514)))), (1, some (.box 33 (bxv (eGMethod y685))))], 2, [], [], 0, []⟩) ?_ ?_
              · refine aw_region ?_
                refine rmv ?_
                refine reg_cons (guard_no rfl) (op_int (k := .i64) (m := x714) (n := 500) rfl rfl rfl rfl rfl rfl) ?_
                refine rmv ?_
                rcases ite_some hF with ⟨hb737, hF⟩ | ⟨hb737, hF⟩
                · refine rgo_t hb737 ?_
                  iterate 5 (refine rgo_t hb737 ?_)
                  refine rpt hb737 ?_
                  refine reg_nil ?_
                  cases hF
                  exact post_cut _ rfl (imps [0, 1] ⟨by kernel_rfl, by kernel_rfl, by kernel_rfl, by kernel_rfl, by kernel_rfl, by kernel_rfl, by kernel_rfl, by kernel_rfl, trivial⟩ ⟨by kernel_rfl, by kernel_rfl, trivial⟩)
                refine reg_cons (guard_on rfl rfl rfl rfl hb737) (op_field_lp rfl rfl Try_fld_33_5 rfl rfl) ?_
                refine reg_cons (guard_on rfl rfl rfl rfl hb737) (op_load_lp (v := .pv (.vs 23 (eLGStmt y685.fBody))) rfl rfl rfl rfl Try_one_31 rfl rfl) ?_
                refine reg_cons (guard_on rfl rfl rfl rfl hb737) (op_move rfl rfl rfl rfl) ?_
                obtain ⟨y738, h739, hF⟩ := bind_some hF
                refine reg_cons (guard_on rfl rfl rfl rfl hb737) (op_index_vs (k := .i64) rfl rfl rfl (idxR eLGStmt_map h739) Try_slc_31 rfl rfl) ?_
                refine reg_cons (guard_on rfl rfl rfl rfl hb737) (op_load_vp_agg (ps := eGStmt y738) rfl rfl rfl rfl Try_agg_83 rfl rfl) ?_
                obtain ⟨y740, h741, hF⟩ := bind_some hF
                refine reg_cons (guard_on rfl rfl rfl rfl hb737) (op_call 2 rfl (caps := []) (args := [.agg (eGStmt y738), .int .i64 25]) (rs := [.p (.bool y740)]) rfl rfl rfl Try_cal_39 (ref10_much_ok h741) rfl rfl rfl) ?_
                refine rpf hb737 ?_
                refine reg_nil ?_
                cases hF
                exact post_cut _ rfl (imps [0, 1] ⟨by kernel_rfl, by kernel_rfl, by kernel_rfl, by kernel_rfl, by kernel_rfl, by kernel_rfl, by kernel_rfl, by kernel_rfl, trivial⟩ ⟨by kernel_rfl, by kernel_rfl, trivial⟩)
              rintro _ rfl
              have hF := hK744
              clear hK744
              refine post_next ?_
              rcases ite_some hF with ⟨hb745, hF⟩ | ⟨hb745, hF⟩
              · refine aw_cond_t rfl hb745 ?_
                refine aw_seq ?_
                refine aw_region ?_
                refine ras ?_
                refine reg_nil ?_
                refine post_imp (s' := ⟨106, [(2, some (.pv (.bool true)))], [], 0, [], [], 0, []⟩) (imps [] ⟨by kernel_rfl, trivial⟩ trivial) ?_
                refine post_next ?_
                refine aw_ret ?_
                refine post_then_ret ?_
                refine post_block_ret ?_
                iterate 2 (refine post_then_ret ?_)
                refine post_lp_ret ?_
                obtain rfl := Option.some.inj hF
                have hF := elim_stop hK758
                refine post_block_ret ?_
                iterate 2 (refine post_then_ret ?_)
                refine post_lp_ret ?_
                obtain rfl := Option.some.inj hF
                have hF := elim_stop hK763
                refine post_block_ret ?_
                iterate 2 (refine post_then_ret ?_)
                refine post_lp_ret ?_
                obtain rfl := Option.some.inj hF
                have hF := elim_stop hK768
                refine post_then_ret ?_
                obtain rfl := Option.some.inj hF
                exact post_ret rfl rfl (.cons _ _ _ _ _ (.tmp _ _ rfl) (.p _) .nil) (.inl rfl)
              refine aw_cond_f rfl hb745 ?_
              refine aw_skip ?_
              refine post_next ?_
              refine aw_region ?_
              refine rmv ?_
              refine reg_cons (guard_no rfl) (op_field_lp rfl rfl Try_fld_33_5 rfl rfl) ?_
              refine reg_cons (guard_no rfl) (op_load_lp (v := .pv (.vs 23 (eLGStmt y685.fBody))) rfl rfl rfl rfl Try_one_31 rfl rfl) ?_
              refine rmv ?_
              obtain ⟨y750, h751, hF⟩ := bind_some hF
              refine reg_cons (guard_no rfl) (op_index_vs (k := .i64) rfl rfl rfl (idxR eLGStmt_map h751) Try_slc_31 rfl rfl) ?_
              refine reg_cons (guard_no rfl) (op_load_vp_agg (ps := eGStmt y750) rfl rfl rfl rfl Try_agg_83 rfl rfl) ?_
              obtain ⟨y752, h753, hF⟩ := bind_some hF
              refine reg_cons (guard_no rfl) (op_call 2 rfl (caps := []) (args := [.agg (eGStmt y750)]) (rs := [.p (.int .i64 y752)]) rfl rfl rfl Try_cal_40 (ref08_Size_ok h753) rfl rfl rfl) ?_
              refine reg_cons (guard_no rfl) (op_int (k := .i64) (m := x714) (n := y752) rfl rfl rfl rfl rfl rfl) ?_
              refine ras ?_
              refine reg_nil ?_
              refine post_imp (s' := ⟨106, [(0, some (.pv (.vs 7 (List.map eGClass a0)))), (3, some (.pv (.int .i64 (w_i64 (x714 + y752))))), (4, some (.pv (.int .i64 x255))), (5, some (.lp 0 0)), (6, some (.pv (.int .i64 x602))), (7, some (.lp 1 0)), (8, some (.pv (.int .i64 x715)))], [(0, some (.box 56 (bxv (eGClass y514)))), (1, some (.box 33 (bxv (eGMethod y685))))], 2, [], [], 0, []⟩) (imps [0, 1] ⟨by kernel_rfl, by kernel_rfl, by kernel_rfl, by kernel_rfl, by kernel_rfl, by kernel_rfl, by kernel_rfl, trivial⟩ ⟨by kernel_rfl, by kernel_rfl, trivial⟩) ?_
              refine post_block_normal ?_
              refine post_next ?_
              refine aw_region ?_
              refine rmv ?_
              refine reg_cons (guard_no rfl) (op_int (k := .i64) (m := x715) (n := 1) rfl rfl rfl rfl rfl rfl) ?_
              refine ras ?_
              refine reg_nil ?_
              refine post_round ?_
              exact rnd_back (ih (w_i64 (x714 + y752), w_i64 (x715 + 1)) hF) (imps [0, 1] ⟨by kernel_rfl, by kernel_rfl, by kernel_rfl, by kernel_rfl, by kernel_rfl, by kernel_rfl, by kernel_rfl, trivial⟩ ⟨by kernel_rfl, by kernel_rfl, trivial⟩)
            refine aw_cond_f rfl hb736 ?_
            refine aw_exit ?_
            iterate 2 (refine post_then_exit ?_)
            obtain rfl := Option.some.inj hF
            exact post_lp_break _ ⟨_, rfl, rfl⟩ (imps [0] ⟨by kernel_rfl, by kernel_rfl, by kernel_rfl, by kernel_rfl, by kernel_rfl, trivial⟩ ⟨by kernel_rfl, trivial⟩)
          rintro _ ⟨x756, rfl, rfl⟩
          have hF := elim_next hK758
          clear hK758
          refine post_block_normal ?_
          refine post_next ?_
          refine aw_region ?_
          refine rmv ?_
          refine reg_cons (guard_no rfl) (op_int (k := .i64) (m := x602) (n := 1) rfl rfl rfl rfl rfl rfl) ?_
          refine ras ?_
          refine reg_nil ?_
          refine post_round ?_
          exact rnd_back (ih (x756, w_i64 (x602 + 1)) hF) (imps [0] ⟨by kernel_rfl, by kernel_rfl, by kernel_rfl, by kernel_rfl, by kernel_rfl, trivial⟩ ⟨by kernel_rfl, trivial⟩)
        refine aw_cond_f rfl hb682 ?_
        refine aw_exit ?_
        iterate 2 (refine post_then_exit ?_)
        obtain rfl := Option.some.inj hF
        exact post_lp_break _ ⟨_, rfl, rfl⟩ (imps [] ⟨by kernel_rfl, by kernel_rfl, by kernel_rfl, trivial⟩ trivial)
      rintro _ ⟨x761, rfl, rfl⟩
      have hF := elim_next hK763
      clear hK763
      refine post_block_normal ?_
      refine post_next ?_
      refine aw_region ?_
      refine rmv ?_
      refine reg_cons (guard_no rfl) (op_int (k := .i64) (m := x255) (n := 1) rfl rfl rfl rfl rfl rfl) ?_
      refine ras ?_
      refine reg_nil ?_
      refine post_round ?_
      exact rnd_back (ih (x761, w_i64 (x255 + 1)) hF) (imps [] ⟨by kernel_rfl, by kernel_rfl, by kernel_rfl, trivial⟩ trivial)
    refine aw_cond_f rfl hb511 ?_
    refine aw_exit ?_
    iterate 2 (refine post_then_exit ?_)
    obtain rfl := Option.some.inj hF
    exact post_lp_break _ ⟨_, rfl, rfl⟩ (imps [] ⟨by kernel_rfl, trivial⟩ trivial)
  rintro _ ⟨x766, rfl, rfl⟩
  have hF := elim_next hK768
  clear hK768
  refine post_next ?_
  refine aw_seq ?_
  refine aw_region ?_
  refine rmv ?_
  refine reg_cons (guard_no rfl) (op_int (k := .i64) (m := x766) (n := 500) rfl rfl rfl rfl rfl rfl) ?_
  refine ras ?_
  refine reg_nil ?_
  refine post_imp (s' := ⟨106, [(2, some (.pv (.bool (decide (x766 > 500)))))], [], 0, [], [], 0, []⟩) (imps [] ⟨by kernel_rfl, trivial⟩ trivial) ?_
  refine post_next ?_
  refine aw_ret ?_
  obtain rfl := Option.some.inj hF
  exact post_ret rfl rfl (.cons _ _ _ _ _ (.tmp _ _ rfl) (.p _) .nil) (.inl rfl)
theorem above_up_ok {a0 : List GClass} {a1 : List UInt8} {r : (List GClass) × (List UInt8)} (hF : above_up a0 a1 = some r) : Abs.Fn Try.prog 66 [.vs 7 (List.map eGClass a0), .str a1] [.clo 85 [.vp ((eL 7 eGClass) r.1)] 9 [.str r.2] []] := by
  unfold above_up at hF
  refine fn_of_body (n := 6) Try.func66 rfl rfl rfl ?_
  intro w O
  refine aw_seq ?_
  refine aw_region ?_
  refine reg_cons (guard_no rfl) (op_box 0 rfl rfl rfl rfl rfl rfl) ?_
  refine reg_cons (guard_no rfl) (op_box 1 rfl rfl rfl rfl rfl rfl) ?_
  refine ras ?_
  refine reg_nil ?_
  refine post_imp (s' := ⟨6, [(2, some (.lp 0 0)), (3, some (.lp 1 0))], [(0, some (.box 22 [.pv (.vs 7 (List.map eGClass a0))])), (1, some (.box 9 [.pv (.str a1)]))], 2, [], [], 0, []⟩) (imps [0, 1] ⟨by kernel_rfl, by kernel_rfl, trivial⟩ ⟨by kernel_rfl, by kernel_rfl, trivial⟩) ?_
  refine post_next ?_
  refine aw_seq ?_
  refine aw_region ?_
  refine reg_cons (guard_no rfl) (op_makeFunc rfl rfl rfl rfl) ?_
  refine ras ?_
  refine reg_nil ?_
  refine post_imp (s' := ⟨6, [(4, some (.fn 85 [.lp 0 0, .lp 1 0]))], [(0, some (.box 22 [.pv (.vs 7 (List.map eGClass a0))])), (1, some (.box 9 [.pv (.str a1)]))], 2, [], [], 0, []⟩) (imps [0, 1] ⟨by kernel_rfl, trivial⟩ ⟨by kernel_rfl, by kernel_rfl, trivial⟩) ?_
  refine post_next ?_
  refine aw_ret ?_
  refine post_imp (imp_freeze_cap 4 0 [.pv (.vp ((eL 7 eGClass) a0)), .lp 1 0] rfl rfl rfl rfl ⟨.inr ⟨rfl, rfl⟩, .inl rfl, trivial⟩) ?_
  obtain rfl := Option.some.inj hF
  exact post_ret rfl rfl (.cons _ _ _ _ _ (.tmp _ _ rfl) (.clo 85 [.vp ((eL 7 eGClass) a0)] [] 1 9 [.str a1] rfl nolent3) .nil) (.inl rfl)
theorem slices_IndexFunc_api_Class_ok {a0 : List GClass} {q1 : GClass → Option Bool} {r : Int} {q1_f : Nat} {q1_c : List PV} (q1_b : callB Try.prog q1_f = true) (q1_h : ∀ (x0 : GClass) (r : Bool), q1 x0 = some r → Abs.Fn Try.prog q1_f ([.agg (eGClass x0)] ++ q1_c) [.p (.bool r)]) (hF : slices_IndexFunc_api_Class a0 q1 = some r) : Abs.Fn Try.prog 100 [.vs 7 (List.map eGClass a0), .fn q1_f q1_c] [.p (.int .i64 r)] := by
  unfold slices_IndexFunc_api_Class at hF
  refine fn_of_body (n := 19) Try.func100 rfl rfl rfl ?_
  intro w O
  refine aw_seq ?_
  refine aw_region ?_
  refine ras ?_
  refine reg_nil ?_
  refine post_imp (s' := ⟨19, [(0, some (.pv (.vs 7 (List.map eGClass a0)))), (1, some (.pv (.fn q1_f q1_c)))], [], 0, [], [], 0, []⟩) (imps [] ⟨by kernel_rfl, by kernel_rfl, trivial⟩ trivial) ?_
  refine post_next ?_
  iterate 2 (refine aw_seq ?_)
  refine aw_region ?_
  refine rmv ?_
  refine reg_cons (guard_no rfl) (op_len_vs (n := a0.length) rfl rfl (List.length_map ..) Try_slc_22 rfl rfl) ?_
  refine rmv ?_
  refine reg_nil ?_
  refine post_imp (s' := ⟨19, [(0, some (.pv (.vs 7 (List.map eGClass a0)))), (1, some (.pv (.fn q1_f q1_c))), (7, some (.pv (.int .i64 (a0.length : Int)))), (8, some (.pv (.int .i64 0)))], [], 0, [], [], 0, []⟩) (imps [] ⟨by kernel_rfl, by kernel_rfl, by kernel_rfl, by kernel_rfl, trivial⟩ trivial) ?_
  refine post_next ?_
  obtain ⟨lr34, hF, hK35⟩ := bind_some hF
  refine aw_for ((((a0.length : Int) : Int) - (0)).toNat + 1) (fun s1 => ∃ q, lr34 = .next q ∧ s1 = ⟨19, [], [], 0, [], [], 0, []⟩) ?_ ?_
  · refine rnd_loop (α := Int) (fun q => ⟨19, [(0, some (.pv (.vs 7 (List.map eGClass a0)))), (1, some (.pv (.fn q1_f q1_c))), (7, some (.pv (.int .i64 (a0.length : Int)))), (8, some (.pv (.int .i64 q)))], [], 0, [], [], 0, []⟩) (fun k q => slices_IndexFunc_api_Class_L1 a0 q1 k q = some lr34) 0 (imps [] ⟨by kernel_rfl, by kernel_rfl, by kernel_rfl, by kernel_rfl, trivial⟩ trivial) hF (fun q h => by cases h) ?_
    clear hF
    rintro k x11 hF ih
    refine rnd_succ ?_
    refine aw_seq ?_
    refine aw_region ?_
    refine reg_cons (guard_no rfl) (op_int (k := .i64) (m := x11) (n := (a0.length : Int)) rfl rfl rfl rfl rfl rfl) ?_
    refine reg_nil ?_
    refine post_imp (s' := ⟨19, [(0, some (.pv (.vs 7 (List.map eGClass a0)))), (1, some (.pv (.fn q1_f q1_c))), (7, some (.pv (.int .i64 (a0.length : Int)))), (8, some (.pv (.int .i64 x11))), (9, some (.pv (.bool (decide (x11 < (a0.length : Int))))))], [], 0, [], [], 0, []⟩) (imps [] ⟨by kernel_rfl, by kernel_rfl, by kernel_rfl, by kernel_rfl, by kernel_rfl, trivial⟩ trivial) ?_
    refine post_next ?_
    refine aw_seq ?_
    rcases ite_some hF with ⟨hb23, hF⟩ | ⟨hb23, hF⟩
    · refine aw_cond_t rfl hb23 ?_
      refine aw_skip ?_
      refine post_next ?_
      refine aw_seq ?_
      refine aw_block ?_
      refine aw_seq ?_
      refine aw_region ?_
      refine rmv ?_
      refine ras ?_
      refine reg_nil ?_
      refine post_imp (s' := ⟨19, [(0, some (.pv (.vs 7 (List.map eGClass a0)))), (1, some (.pv (.fn q1_f q1_c))), (5, some (.pv (.int .i64 x11))), (7, some (.pv (.int .i64 (a0.length : Int)))), (8, some (.pv (.int .i64 x11)))], [], 0, [], [], 0, []⟩) (imps [] ⟨by kernel_rfl, by kernel_rfl, by kernel_rfl, by kernel_rfl, by kernel_rfl, trivial⟩ trivial) ?_
      refine post_next ?_
      refine aw_seq ?_
      refine aw_region ?_
      iterate 3 (refine rmv ?_)
      obtain ⟨y28, h29, hF⟩ := bind_some hF
      refine reg_cons (guard_no rfl) (op_index_vs (k := .i64) rfl rfl rfl (idx_map eGClass h29) Try_slc_22 rfl rfl) ?_
      refine reg_cons (guard_no rfl) (op_load_vp_agg (ps := eGClass y28) rfl rfl rfl rfl Try_agg_56 rfl rfl) ?_
      obtain ⟨y30, h31, hF⟩ := bind_some hF
      refine reg_cons (guard_no rfl) (op_call 0 rfl (caps := q1_c) (args := [.agg (eGClass y28)]) (rs := [.p (.bool y30)]) rfl rfl rfl q1_b (q1_h y28 _ h31) rfl rfl rfl) ?_
      refine reg_nil ?_
      refine post_imp (s' := ⟨19, [(0, some (.pv (.vs 7 (List.map eGClass a0)))), (1, some (.pv (.fn q1_f q1_c))), (5, some (.pv (.int .i64 x11))), (7, some (.pv (.int .i64 (a0.length : Int)))), (8, some (.pv (.int .i64 x11))), (16, some (.pv (.bool y30)))], [], 0, [], [], 0, []⟩) (imps [] ⟨by kernel_rfl, by kernel_rfl, by kernel_rfl, by kernel_rfl, by kernel_rfl, by kernel_rfl, trivial⟩ trivial) ?_
      refine post_next ?_
      rcases ite_some hF with ⟨hb32, hF⟩ | ⟨hb32, hF⟩
      · refine aw_cond_t rfl hb32 ?_
        refine aw_seq ?_
        refine aw_region ?_
        refine rmv ?_
        refine ras ?_
        refine reg_nil ?_
        refine post_imp (s' := ⟨19, [(4, some (.pv (.int .i64 x11)))], [], 0, [], [], 0, []⟩) (imps [] ⟨by kernel_rfl, trivial⟩ trivial) ?_
        refine post_next ?_
        refine aw_ret ?_
        refine post_block_ret ?_
        iterate 2 (refine post_then_ret ?_)
        refine post_lp_ret ?_
        obtain rfl := Option.some.inj hF
        have hF := elim_stop hK35
        refine post_then_ret ?_
        obtain rfl := Option.some.inj hF
        exact post_ret rfl rfl (.cons _ _ _ _ _ (.tmp _ _ rfl) (.p _) .nil) (.inl rfl)
      refine aw_cond_f rfl hb32 ?_
      refine aw_skip ?_
      refine post_block_normal ?_
      refine post_next ?_
      refine aw_region ?_
      refine reg_cons (guard_no rfl) (op_int (k := .i64) (m := x11) (n := 1) rfl rfl rfl rfl rfl rfl) ?_
      refine rmv ?_
      refine reg_nil ?_
      refine post_round ?_
      exact rnd_back (ih (w_i64 (x11 + 1)) hF) (imps [] ⟨by kernel_rfl, by kernel_rfl, by kernel_rfl, by kernel_rfl, trivial⟩ trivial)
    refine aw_cond_f rfl hb23 ?_
    refine aw_exit ?_
    iterate 2 (refine post_then_exit ?_)
    obtain rfl := Option.some.inj hF
    exact post_lp_break _ ⟨_, rfl, rfl⟩ (imps [] trivial trivial)
  rintro _ ⟨⟨⟩, rfl, rfl⟩
  have hF := elim_next hK35
  clear hK35
  refine post_next ?_
  refine aw_seq ?_
  refine aw_region ?_
  refine ras ?_
  refine reg_nil ?_
  refine post_imp (s' := ⟨19, [(4, some (.pv (.int .i64 (-1))))], [], 0, [], [], 0, []⟩) (imps [] ⟨by kernel_rfl, trivial⟩ trivial) ?_
  refine post_next ?_
  refine aw_ret ?_
  obtain rfl := Option.some.inj hF
  exact post_ret rfl rfl (.cons _ _ _ _ _ (.tmp _ _ rfl) (.p _) .nil) (.inl rfl)
theorem table_Find_1_ok {a0 : GClass} {c0 : List UInt8} {r : Bool} (hF : table_Find_1 a0 c0 = some r) : Abs.Fn Try.prog 101 [.agg (eGClass a0), .vp (eS c0)] [.p (.bool r)] := by
  unfold table_Find_1 at hF
  refine fn_of_body (n := 8) Try.func101 rfl rfl rfl ?_
  intro w O
  refine aw_seq ?_
  refine aw_region ?_
  refine reg_cons (guard_no rfl) (op_box 0 rfl rfl rfl rfl rfl rfl) ?_
  refine ras ?_
  refine reg_nil ?_
  refine post_imp (s' := ⟨8, [(1, some (.pv (.vp (eS c0)))), (2, some (.lp 0 0))], [(0, some (.box 56 (bxv (eGClass a0))))], 1, [], [], 0, []⟩) (imps [0] ⟨by kernel_rfl, by kernel_rfl, trivial⟩ ⟨by kernel_rfl, trivial⟩) ?_
  refine post_next ?_
  refine aw_seq ?_
  refine aw_region ?_
  refine reg_cons (guard_no rfl) (op_field_lp rfl rfl Try_fld_56_0 rfl rfl) ?_
  refine reg_cons (guard_no rfl) (op_load_lp (v := .pv (.str a0.fName)) rfl rfl rfl rfl Try_one_9 rfl rfl) ?_
  refine reg_cons (guard_no rfl) (op_load_vp (p := .str c0) rfl rfl rfl Try_one_9 rfl rfl) ?_
  refine reg_cons (guard_no rfl) (op_str rfl rfl rfl rfl rfl rfl) ?_
  refine ras ?_
  refine reg_nil ?_
  refine post_imp (s' := ⟨8, [(3, some (.pv (.bool (a0.fName == c0))))], [], 0, [], [], 0, []⟩) (imps [] ⟨by kernel_rfl, trivial⟩ trivial) ?_
  refine post_next ?_
  refine aw_ret ?_
  obtain rfl := Option.some.inj hF
  exact post_ret rfl rfl (.cons _ _ _ _ _ (.tmp _ _ rfl) (.p _) .nil) (.inl rfl)
theorem table_Find_ok {a0 : List GClass} {a1 : List UInt8} {r : Int} (hF : table_Find a0 a1 = some r) : Abs.Fn Try.prog 86 [.vs 7 (List.map eGClass a0), .str a1] [.p (.int .i64 r)] := by
  unfold table_Find at hF
  refine fn_of_body (n := 8) Try.func86 rfl rfl rfl ?_
  intro w O
  refine aw_seq ?_
  refine aw_region ?_
  refine reg_cons (guard_no rfl) (op_box 0 rfl rfl rfl rfl rfl rfl) ?_
  refine ras ?_
  refine reg_nil ?_
  refine post_imp (s' := ⟨8, [(0, some (.pv (.vs 7 (List.map eGClass a0)))), (3, some (.lp 0 0))], [(0, some (.box 9 [.pv (.str a1)]))], 1, [], [], 0, []⟩) (imps [0] ⟨by kernel_rfl, by kernel_rfl, trivial⟩ ⟨by kernel_rfl, trivial⟩) ?_
  refine post_next ?_
  refine aw_seq ?_
  refine aw_region ?_
  refine rmv ?_
  refine reg_cons (guard_no rfl) (op_makeFunc rfl rfl rfl rfl) ?_
  obtain ⟨y2, h3, hF⟩ := bind_some hF
  refine reg_cons (guard_no rfl) (op_callB 1 rfl (caps := []) (args := [.vs 7 (List.map eGClass a0), .fn 101 [.vp (eS a1)]]) [(0, some (.box 9 [.pv (.str a1)]))] rfl rfl rfl (FzH.spec ⟨rfl, trivial⟩) rfl rfl Try_cal_100 (slices_IndexFunc_api_Class_ok (q1_f := 101) (q1_c := [.vp (eS a1)]) (q1_b := Try_cal_101) (q1_h := fun _ r h => (table_Find_1_ok h)) h3) rfl rfl rfl) ?_
  refine ras ?_
  refine reg_nil ?_
  refine post_imp (s' := ⟨8, [(4, some (.pv (.int .i64 y2)))], [], 0, [], [], 0, []⟩) (imps [] ⟨by kernel_rfl, trivial⟩ trivial) ?_
  refine post_next ?_
  refine aw_ret ?_
  obtain rfl := Option.some.inj hF
  exact post_ret rfl rfl (.cons _ _ _ _ _ (.tmp _ _ rfl) (.p _) .nil) (.inl rfl)
theorem above_up_1_it {rows : List (Int)} {sp : Nat} {c0 : List GClass} {c1 : List UInt8} (hF : above_up_1 rows sp c0 c1 = some (min (sp + 1) rows.length)) : It Try.prog 85 1 [.vp ((eL 7 eGClass) c0)] (some (9, [.str c1])) [] (rows.map (fun z : Int => ([.int .i64 z] : List PV))) sp := by
  unfold above_up_1 at hF
  refine it_of_body (n := 29) Try.func85 rfl rfl rfl ?_
  intro l c hcx
  refine aw_seq ?_
  refine aw_region ?_
  refine reg_cons (guard_no rfl) (op_load_vp (p := .vs 7 (List.map eGClass c0)) rfl rfl rfl Try_one_22 rfl rfl) ?_
  refine reg_cons (guard_no rfl) (op_len_vs (n := c0.length) rfl rfl (List.length_map ..) Try_slc_22 rfl rfl) ?_
  refine reg_cons (guard_no rfl) (op_int (k := .i64) (m := (c0.length : Int)) (n := 1) rfl rfl rfl rfl rfl rfl) ?_
  refine rmv ?_
  refine reg_nil ?_
  refine post_imp (s' := ⟨29, [(0, some (.pv (.yld l))), (1, some (.pv (.vp ((eL 7 eGClass) c0)))), (2, some (.lp 0 0)), (7, some (.pv (.int .i64 (w_i64 ((c0.length : Int) + 1))))), (8, some (.pv (.int .i64 0)))], [(0, some (.box 9 [.pv (.str c1)]))], 1, [], [], 0, []⟩) (imps [0] ⟨by kernel_rfl, by kernel_rfl, by kernel_rfl, by kernel_rfl, by kernel_rfl, trivial⟩ ⟨by kernel_rfl, trivial⟩) ?_
  refine post_next ?_
  obtain ⟨lr65, hF, hK66⟩ := bind_some hF
  refine aw_for ((((w_i64 ((c0.length : Int) + 1)) : Int) - (0)).toNat + 1) (fun s1 => ∃ q, lr65 = .next q ∧ s1 = ⟨29, [], [], 0, [], [], q, []⟩) ?_ ?_
  · refine rnd_loop (α := Nat × (List UInt8) × Int) (fun q => ⟨29, [(0, some (.pv (.yld l))), (1, some (.pv (.vp ((eL 7 eGClass) c0)))), (2, some (.lp 0 0)), (7, some (.pv (.int .i64 (w_i64 ((c0.length : Int) + 1))))), (8, some (.pv (.int .i64 q.2.2)))], [(0, some (.box 9 [.pv (.str q.2.1)]))], 1, [], [], q.1, []⟩) (fun k q => above_up_1_L1 c0 sp rows k q.1 q.2.1 q.2.2 = some lr65) (0, c1, 0) (imps [0] ⟨by kernel_rfl, by kernel_rfl, by kernel_rfl, by kernel_rfl, by kernel_rfl, trivial⟩ ⟨by kernel_rfl, trivial⟩) hF (fun q h => by cases h) ?_
    clear hF
    rintro k ⟨x19, x20, x21⟩ hF ih
    refine rnd_succ ?_
    refine aw_seq ?_
    refine aw_region ?_
    refine reg_cons (guard_no rfl) (op_int (k := .i64) (m := x21) (n := w_i64 ((c0.length : Int) + 1)) rfl rfl rfl rfl rfl rfl) ?_
    refine reg_nil ?_
    refine post_imp (s' := ⟨29, [(0, some (.pv (.yld l))), (1, some (.pv (.vp ((eL 7 eGClass) c0)))), (2, some (.lp 0 0)), (7, some (.pv (.int .i64 (w_i64 ((c0.length : Int) + 1))))), (8, some (.pv (.int .i64 x21))), (9, some (.pv (.bool (decide (x21 < (w_i64 ((c0.length : Int) + 1)))))))], [(0, some (.box 9 [.pv (.str x20)]))], 1, [], [], x19, []⟩) (imps [0] ⟨by kernel_rfl, by kernel_rfl, by kernel_rfl, by kernel_rfl, by kernel_rfl, by kernel_rfl, trivial⟩ ⟨by kernel_rfl, trivial⟩) ?_
    refine post_next ?_
    refine aw_seq ?_
    rcases ite_some hF with ⟨hb43, hF⟩ | ⟨hb43, hF⟩
    · refine aw_cond_t rfl hb43 ?_
      refine aw_skip ?_
      refine post_next ?_
      refine aw_seq ?_
      refine aw_block ?_
      refine aw_seq ?_
      refine aw_region ?_
      refine reg_cons (guard_no rfl) (op_load_vp (p := .vs 7 (List.map eGClass c0)) rfl rfl rfl Try_one_22 rfl rfl) ?_
      refine reg_cons (guard_no rfl) (op_load_lp (v := .pv (.str x20)) rfl rfl rfl rfl Try_one_9 rfl rfl) ?_
      obtain ⟨y46, h47, hF⟩ := bind_some hF
      refine reg_cons (guard_no rfl) (op_call 1 rfl (caps := []) (args := [.vs 7 (List.map eGClass c0), .str x20]) (rs := [.p (.int .i64 y46)]) rfl rfl rfl Try_cal_86 (table_Find_ok h47) rfl rfl rfl) ?_
      refine ras ?_
      refine reg_nil ?_
      refine post_imp (s' := ⟨29, [(0, some (.pv (.yld l))), (1, some (.pv (.vp ((eL 7 eGClass) c0)))), (2, some (.lp 0 0)), (4, some (.pv (.int .i64 y46))), (7, some (.pv (.int .i64 (w_i64 ((c0.length : Int) + 1))))), (8, some (.pv (.int .i64 x21)))], [(0, some (.box 9 [.pv (.str x20)]))], 1, [], [], x19, []⟩) (imps [0] ⟨by kernel_rfl, by kernel_rfl, by kernel_rfl, by kernel_rfl, by kernel_rfl, by kernel_rfl, trivial⟩ ⟨by kernel_rfl, trivial⟩) ?_
      refine post_next ?_
      iterate 2 (refine aw_seq ?_)
      obtain ⟨p53, hF, hK54⟩ := bind_some hF
      obtain ⟨x51, x52⟩ := p53
      refine aw_cut (fun s1 => s1 = ⟨29, [(0, some (.pv (.yld l))), (1, some (.pv (.vp ((eL 7 eGClass) c0)))), (2, some (.lp 0 0)), (4, some (.pv (.int .i64 y46))), (7, some (.pv (.int .i64 (w_i64 ((c0.length : Int) + 1))))), (8, some (.pv (.int .i64 x21))), (20, some (.pv (.bool x52)))], [(0, some (.box 9 [.pv (.str x20)]))], 1, [], [], x51, []⟩) ?_ ?_
      · refine aw_region ?_
        refine rmv ?_
        refine reg_cons (guard_no rfl) (op_int (k := .i64) (m := y46) (n := 0) rfl rfl rfl rfl rfl rfl) ?_
        refine rmv ?_
        rcases ite_some hF with ⟨hb48, hF⟩ | ⟨hb48, hF⟩
        · refine rgo_t hb48 ?_
          iterate 3 (refine rgo_t hb48 ?_)
          refine rpt hb48 ?_
          refine reg_nil ?_
          cases hF
          exact post_cut _ rfl (imps [0] ⟨by kernel_rfl, by kernel_rfl, by kernel_rfl, by kernel_rfl, by kernel_rfl, by kernel_rfl, by kernel_rfl, trivial⟩ ⟨by kernel_rfl, trivial⟩)
        iterate 2 (refine reg_cons (guard_on rfl rfl rfl rfl hb48) (op_move rfl rfl rfl rfl) ?_)
        obtain ⟨u49, h50, hF⟩ := bind_some hF
        refine reg_cons (guard_on rfl rfl rfl rfl hb48) (op_yield (row := (fun z : Int => ([.int .i64 z] : List PV)) y46) hcx rfl rfl rfl rfl (yck_row (fun z : Int => ([.int .i64 z] : List PV)) h50) (yck_spec h50).2 rfl rfl) ?_
        refine reg_cons (guard_on rfl rfl rfl rfl hb48) (op_not rfl rfl rfl rfl) ?_
        refine rpf hb48 ?_
        refine reg_nil ?_
        cases hF
        exact post_cut _ rfl (imps [0] ⟨by kernel_rfl, by kernel_rfl, by kernel_rfl, by kernel_rfl, by kernel_rfl, by kernel_rfl, by kernel_rfl, trivial⟩ ⟨by kernel_rfl, trivial⟩)
      rintro _ rfl
      have hF := hK54
      clear hK54
      refine post_next ?_
      rcases ite_some hF with ⟨hb55, hF⟩ | ⟨hb55, hF⟩
      · refine aw_cond_t rfl hb55 ?_
        refine aw_ret ?_
        refine post_then_ret ?_
        refine post_block_ret ?_
        iterate 2 (refine post_then_ret ?_)
        refine post_lp_ret ?_
        obtain rfl := Option.some.inj hF
        have hF := elim_stop hK66
        exact post_it (it_len hF) rfl (.inl rfl)
      refine aw_cond_f rfl hb55 ?_
      refine aw_skip ?_
      refine post_next ?_
      refine aw_seq ?_
      refine aw_region ?_
      refine reg_cons (guard_no rfl) (op_load_vp (p := .vs 7 (List.map eGClass c0)) rfl rfl rfl Try_one_22 rfl rfl) ?_
      refine rmv ?_
      obtain ⟨y58, h59, hF⟩ := bind_some hF
      refine reg_cons (guard_no rfl) (op_index_vs (k := .i64) rfl rfl rfl (idx_map eGClass h59) Try_slc_22 rfl rfl) ?_
      refine reg_cons (guard_no rfl) (op_field_vp rfl rfl Try_fld_56_2 rfl rfl) ?_
      refine reg_cons (guard_no rfl) (op_load_vp (p := .str y58.fSuper) rfl rfl rfl Try_one_9 rfl rfl) ?_
      refine reg_cons (guard_no rfl) (op_store_lp (n := 1) rfl rfl rfl rfl rfl (or_one Try_one_9) (by rw [Try_one_9]; rfl) rfl rfl rfl) ?_
      refine reg_nil ?_
      refine post_imp (s' := ⟨29, [(0, some (.pv (.yld l))), (1, some (.pv (.vp ((eL 7 eGClass) c0)))), (2, some (.lp 0 0)), (7, some (.pv (.int .i64 (w_i64 ((c0.length : Int) + 1))))), (8, some (.pv (.int .i64 x21)))], [(0, some (.box 9 [.pv (.str y58.fSuper)]))], 1, [], [], x51, []⟩) (imps [0] ⟨by kernel_rfl, by kernel_rfl, by kernel_rfl, by kernel_rfl, by kernel_rfl, trivial⟩ ⟨by kernel_rfl, trivial⟩) ?_
      refine post_next ?_
      refine aw_seq ?_
      refine aw_region ?_
      refine reg_cons (guard_no rfl) (op_load_lp (v := .pv (.str y58.fSuper)) rfl rfl rfl rfl Try_one_9 rfl rfl) ?_
      refine reg_cons (guard_no rfl) (op_str rfl rfl rfl rfl rfl rfl) ?_
      refine reg_nil ?_
      refine post_imp (s' := ⟨29, [(0, some (.pv (.yld l))), (1, some (.pv (.vp ((eL 7 eGClass) c0)))), (2, some (.lp 0 0)), (7, some (.pv (.int .i64 (w_i64 ((c0.length : Int) + 1))))), (8, some (.pv (.int .i64 x21))), (27, some (.pv (.bool (y58.fSuper == []))))], [(0, some (.box 9 [.pv (.str y58.fSuper)]))], 1, [], [], x51, []⟩) (imps [0] ⟨by kernel_rfl, by kernel_rfl, by kernel_rfl, by kernel_rfl, by kernel_rfl, by kernel_rfl, trivial⟩ ⟨by kernel_rfl, trivial⟩) ?_
      refine post_next ?_
      rcases ite_some hF with ⟨hb60, hF⟩ | ⟨hb60, hF⟩
      · refine aw_cond_t rfl hb60 ?_
        refine aw_ret ?_
        refine post_block_ret ?_
        iterate 2 (refine post_then_ret ?_)
        refine post_lp_ret ?_
        obtain rfl := Option.some.inj hF
        have hF := elim_stop hK66
        exact post_it (it_len hF) rfl (.inl rfl)
      refine aw_cond_f rfl hb60 ?_
      refine aw_skip ?_
      refine post_block_normal ?_
      refine post_next ?_
      refine aw_region ?_
      refine reg_cons (guard_no rfl) (op_int (k := .i64) (m := x21) (n := 1) rfl rfl rfl rfl rfl rfl) ?_
      refine rmv ?_
      refine reg_nil ?_
      refine post_round ?_
      exact rnd_back (ih (x51, y58.fSuper, w_i64 (x21 + 1)) hF) (imps [0] ⟨by kernel_rfl, by kernel_rfl, by kernel_rfl, by kernel_rfl, by kernel_rfl, trivial⟩ ⟨by kernel_rfl, trivial⟩)
    refine aw_cond_f rfl hb43 ?_
    refine aw_exit ?_
    iterate 2 (refine post_then_exit ?_)
    obtain rfl := Option.some.inj hF
    exact post_lp_break _ ⟨_, rfl, rfl⟩ (imps [] trivial trivial)
  rintro _ ⟨x64, rfl, rfl⟩
  have hF := elim_next hK66
  clear hK66
  exact post_it (it_len hF) rfl (.inr rfl)

theorem slices_Index_int_ok {a0 : List Int} {a1 : Int} {r : Int} (hF : slices_Index_int a0 a1 = some r) : Abs.Fn Try.prog 87 [.vs 1 (List.map eI a0), .int .i64 a1] [.p (.int .i64 r)] := by
  unfold slices_Index_int at hF
  refine fn_of_body (n := 19) Try.func87 rfl rfl rfl ?_
  intro w O
  refine aw_seq ?_
  refine aw_region ?_
  refine ras ?_
  refine reg_nil ?_
  refine post_imp (s' := ⟨19, [(0, some (.pv (.vs 1 (List.map eI a0)))), (1, some (.pv (.int .i64 a1)))], [], 0, [], [], 0, []⟩) (imps [] ⟨by kernel_rfl, by kernel_rfl, trivial⟩ trivial) ?_
  refine post_next ?_
  iterate 2 (refine aw_seq ?_)
  refine aw_region ?_
  refine rmv ?_
  refine reg_cons (guard_no rfl) (op_len_vs (n := a0.length) rfl rfl (List.length_map ..) Try_slc_86 rfl rfl) ?_
  refine rmv ?_
  refine reg_nil ?_
  refine post_imp (s' := ⟨19, [(0, some (.pv (.vs 1 (List.map eI a0)))), (1, some (.pv (.int .i64 a1))), (7, some (.pv (.int .i64 (a0.length : Int)))), (8, some (.pv (.int .i64 0)))], [], 0, [], [], 0, []⟩) (imps [] ⟨by kernel_rfl, by kernel_rfl, by kernel_rfl, by kernel_rfl, trivial⟩ trivial) ?_
  refine post_next ?_
  obtain ⟨lr22, hF, hK23⟩ := bind_some hF
  refine aw_for ((((a0.length : Int) : Int) - (0)).toNat + 1) (fun s1 => ∃ q, lr22 = .next q ∧ s1 = ⟨19, [], [], 0, [], [], 0, []⟩) ?_ ?_
  · refine rnd_loop (α := Int) (fun q => ⟨19, [(0, some (.pv (.vs 1 (List.map eI a0)))), (1, some (.pv (.int .i64 a1))), (7, some (.pv (.int .i64 (a0.length : Int)))), (8, some (.pv (.int .i64 q)))], [], 0, [], [], 0, []⟩) (fun k q => slices_Index_int_L1 a0 a1 k q = some lr22) 0 (imps [] ⟨by kernel_rfl, by kernel_rfl, by kernel_rfl, by kernel_rfl, trivial⟩ trivial) hF (fun q h => by cases h) ?_
    clear hF
    rintro k x7 hF ih
    refine rnd_succ ?_
    refine aw_seq ?_
    refine aw_region ?_
    refine reg_cons (guard_no rfl) (op_int (k := .i64) (m := x7) (n := (a0.length : Int)) rfl rfl rfl rfl rfl rfl) ?_
    refine reg_nil ?_
    refine post_imp (s' := ⟨19, [(0, some (.pv (.vs 1 (List.map eI a0)))), (1, some (.pv (.int .i64 a1))), (7, some (.pv (.int .i64 (a0.length : Int)))), (8, some (.pv (.int .i64 x7))), (9, some (.pv (.bool (decide (x7 < (a0.length : Int))))))], [], 0, [], [], 0, []⟩) (imps [] ⟨by kernel_rfl, by kernel_rfl, by kernel_rfl, by kernel_rfl, by kernel_rfl, trivial⟩ trivial) ?_
    refine post_next ?_
    refine aw_seq ?_
    rcases ite_some hF with ⟨hb15, hF⟩ | ⟨hb15, hF⟩
    · refine aw_cond_t rfl hb15 ?_
      refine aw_skip ?_
      refine post_next ?_
      refine aw_seq ?_
      refine aw_block ?_
      refine aw_seq ?_
      refine aw_region ?_
      refine rmv ?_
      refine ras ?_
      refine reg_nil ?_
      refine post_imp (s' := ⟨19, [(0, some (.pv (.vs 1 (List.map eI a0)))), (1, some (.pv (.int .i64 a1))), (5, some (.pv (.int .i64 x7))), (7, some (.pv (.int .i64 (a0.length : Int)))), (8, some (.pv (.int .i64 x7)))], [], 0, [], [], 0, []⟩) (imps [] ⟨by kernel_rfl, by kernel_rfl, by kernel_rfl, by kernel_rfl, by kernel_rfl, trivial⟩ trivial) ?_
      refine post_next ?_
      refine aw_seq ?_
      refine aw_region ?_
      iterate 3 (refine rmv ?_)
      obtain ⟨y18, h19, hF⟩ := bind_some hF
      refine reg_cons (guard_no rfl) (op_index_vs (k := .i64) rfl rfl rfl (idx_map eI h19) Try_slc_86 rfl rfl) ?_
      refine reg_cons (guard_no rfl) (op_load_vp (p := .int .i64 y18) rfl rfl rfl Try_one_3 rfl rfl) ?_
      refine reg_cons (guard_no rfl) (op_int (k := .i64) (m := a1) (n := y18) rfl rfl rfl rfl rfl rfl) ?_
      refine reg_nil ?_
      refine post_imp (s' := ⟨19, [(0, some (.pv (.vs 1 (List.map eI a0)))), (1, some (.pv (.int .i64 a1))), (5, some (.pv (.int .i64 x7))), (7, some (.pv (.int .i64 (a0.length : Int)))), (8, some (.pv (.int .i64 x7))), (16, some (.pv (.bool (a1 == y18))))], [], 0, [], [], 0, []⟩) (imps [] ⟨by kernel_rfl, by kernel_rfl, by kernel_rfl, by kernel_rfl, by kernel_rfl, by kernel_rfl, trivial⟩ trivial) ?_
      refine post_next ?_
      rcases ite_some hF with ⟨hb20, hF⟩ | ⟨hb20, hF⟩
      · refine aw_cond_t rfl hb20 ?_
        refine aw_seq ?_
        refine aw_region ?_
        refine rmv ?_
        refine ras ?_
        refine reg_nil ?_
        refine post_imp (s' := ⟨19, [(4, some (.pv (.int .i64 x7)))], [], 0, [], [], 0, []⟩) (imps [] ⟨by kernel_rfl, trivial⟩ trivial) ?_
        refine post_next ?_
        refine aw_ret ?_
        refine post_block_ret ?_
        iterate 2 (refine post_then_ret ?_)
        refine post_lp_ret ?_
        obtain rfl := Option.some.inj hF
        have hF := elim_stop hK23
        refine post_then_ret ?_
        obtain rfl := Option.some.inj hF
        exact post_ret rfl rfl (.cons _ _ _ _ _ (.tmp _ _ rfl) (.p _) .nil) (.inl rfl)
      refine aw_cond_f rfl hb20 ?_
      refine aw_skip ?_
      refine post_block_normal ?_
      refine post_next ?_
      refine aw_region ?_
      refine reg_cons (guard_no rfl) (op_int (k := .i64) (m := x7) (n := 1) rfl rfl rfl rfl rfl rfl) ?_
      refine rmv ?_
      refine reg_nil ?_
      refine post_round ?_
      exact rnd_back (ih (w_i64 (x7 + 1)) hF) (imps [] ⟨by kernel_rfl, by kernel_rfl, by kernel_rfl, by kernel_rfl, trivial⟩ trivial)
    refine aw_cond_f rfl hb15 ?_
    refine aw_exit ?_
    iterate 2 (refine post_then_exit ?_)
    obtain rfl := Option.some.inj hF
    exact post_lp_break _ ⟨_, rfl, rfl⟩ (imps [] trivial trivial)
  rintro _ ⟨⟨⟩, rfl, rfl⟩
  have hF := elim_next hK23
  clear hK23
  refine post_next ?_
  refine aw_seq ?_
  refine aw_region ?_
  refine ras ?_
  refine reg_nil ?_
  refine post_imp (s' := ⟨19, [(4, some (.pv (.int .i64 (-1))))], [], 0, [], [], 0, []⟩) (imps [] ⟨by kernel_rfl, trivial⟩ trivial) ?_
  refine post_next ?_
  refine aw_ret ?_
  obtain rfl := Option.some.inj hF
  exact post_ret rfl rfl (.cons _ _ _ _ _ (.tmp _ _ rfl) (.p _) .nil) (.inl rfl)
theorem slices_Contains_int_ok {a0 : List Int} {a1 : Int} {r : Bool} (hF : slices_Contains_int a0 a1 = some r) : Abs.Fn Try.prog 67 [.vs 1 (List.map eI a0), .int .i64 a1] [.p (.bool r)] := by
  unfold slices_Contains_int at hF
  refine fn_of_body (n := 9) Try.func67 rfl rfl rfl ?_
  intro w O
  refine aw_seq ?_
  refine aw_region ?_
  refine ras ?_
  refine reg_nil ?_
  refine post_imp (s' := ⟨9, [(0, some (.pv (.vs 1 (List.map eI a0)))), (1, some (.pv (.int .i64 a1)))], [], 0, [], [], 0, []⟩) (imps [] ⟨by kernel_rfl, by kernel_rfl, trivial⟩ trivial) ?_
  refine post_next ?_
  refine aw_seq ?_
  refine aw_region ?_
  iterate 2 (refine rmv ?_)
  obtain ⟨y1, h2, hF⟩ := bind_some hF
  refine reg_cons (guard_no rfl) (op_call 0 rfl (caps := []) (args := [.vs 1 (List.map eI a0), .int .i64 a1]) (rs := [.p (.int .i64 y1)]) rfl rfl rfl Try_cal_87 (slices_Index_int_ok h2) rfl rfl rfl) ?_
  refine reg_cons (guard_no rfl) (op_int (k := .i64) (m := y1) (n := 0) rfl rfl rfl rfl rfl rfl) ?_
  refine ras ?_
  refine reg_nil ?_
  refine post_imp (s' := ⟨9, [(4, some (.pv (.bool (decide (y1 ≥ 0)))))], [], 0, [], [], 0, []⟩) (imps [] ⟨by kernel_rfl, trivial⟩ trivial) ?_
  refine post_next ?_
  refine aw_ret ?_
  obtain rfl := Option.some.inj hF
  exact post_ret rfl rfl (.cons _ _ _ _ _ (.tmp _ _ rfl) (.p _) .nil) (.inl rfl)
theorem above_Chain_ok {a0 : List GClass} {a1 : List UInt8} {r : (List Int)} (hF : above_Chain a0 a1 = some r) : Abs.Fn Try.prog 42 [.vs 7 (List.map eGClass a0), .str a1] [.own 3 1 (List.map eI r)] := by
  unfold above_Chain at hF
  refine fn_of_body (n := 19) Try.func42 rfl rfl rfl ?_
  intro w O
  refine aw_seq ?_
  refine aw_region ?_
  refine ras ?_
  refine reg_nil ?_
  refine post_imp (s' := ⟨19, [(0, some (.pv (.vs 7 (List.map eGClass a0)))), (1, some (.pv (.str a1)))], [], 0, [], [], 0, []⟩) (imps [] ⟨by kernel_rfl, by kernel_rfl, trivial⟩ trivial) ?_
  refine post_next ?_
  refine aw_seq ?_
  refine aw_region ?_
  refine reg_cons (guard_no rfl) (op_alloc 0 rfl (ps := [.nils]) rfl Try_zer_86 (by exact ⟨rfl, trivial⟩) rfl rfl) ?_
  refine reg_imp (imp_nil_box 0 0 86 3 1 1 rfl rfl rfl) ?_
  refine reg_nil ?_
  refine post_imp (s' := ⟨19, [(0, some (.pv (.vs 7 (List.map eGClass a0)))), (1, some (.pv (.str a1))), (5, some (.lp 0 0))], [(0, some (.box 86 [.ls 1])), (1, some (.row 3 1 (List.map eI [])))], 2, [], [], 0, []⟩) (imps [0, 1] ⟨by kernel_rfl, by kernel_rfl, by kernel_rfl, trivial⟩ ⟨by kernel_rfl, by kernel_rfl, trivial⟩) ?_
  refine post_next ?_
  iterate 2 (refine aw_seq ?_)
  refine aw_region ?_
  iterate 2 (refine rmv ?_)
  obtain ⟨y3, h4, hF⟩ := bind_some hF
  refine reg_cons (guard_no rfl) (op_call 2 rfl (caps := []) (args := [.vs 7 (List.map eGClass a0), .str a1]) (rs := [.clo 85 [.vp ((eL 7 eGClass) y3.1)] 9 [.str y3.2] []]) rfl rfl rfl Try_cal_66 (above_up_ok h4) rfl rfl rfl) ?_
  refine reg_nil ?_
  refine post_imp (s' := ⟨19, [(5, some (.lp 0 0)), (9, some (.fn 85 [.pv (.vp ((eL 7 eGClass) y3.1)), .lp 2 0]))], [(0, some (.box 86 [.ls 1])), (1, some (.row 3 1 (List.map eI []))), (2, some (.box 9 [.pv (.str y3.2)]))], 3, [], [], 0, []⟩) (imps [0, 1, 2] ⟨by kernel_rfl, by kernel_rfl, trivial⟩ ⟨by kernel_rfl, by kernel_rfl, by kernel_rfl, trivial⟩) ?_
  refine post_next ?_
  refine aw_block ?_
  refine aw_imp (s' := ⟨19, [(5, some (.lp 0 0)), (9, some (.fn 85 [.pv (.vp ((eL 7 eGClass) y3.1)), .lp 2 0]))], [(0, some (.box 86 [.ls 1])), (1, some (.row 3 1 (List.map eI []))), (2, some (.box 9 [.pv (.str y3.2)]))], 3, [], [], 0, []⟩) (imps [0, 1, 2] ⟨by kernel_rfl, by kernel_rfl, trivial⟩ ⟨by kernel_rfl, by kernel_rfl, by kernel_rfl, trivial⟩) ?_
  obtain ⟨rows33, hR34, hF⟩ := bind_some hF
  obtain ⟨lr35, hL36, hF⟩ := bind_some hF
  refine aw_rangeFunc (X := Int) (Q := (List Int)) (E := (List Int)) (pre := [.vp ((eL 7 eGClass) y3.1)]) (bx := (some (9, [.str y3.2]))) (post := []) (kt := [5]) (psl := [10]) (some 2) (fun z : Int => ([.int .i64 z] : List PV)) rows33 above_Chain_B1 [] lr35 hL36 (fun q => ⟨19, [(5, some (.lp 0 0))], [(0, some (.box 86 [.ls 1])), (1, some (.row 3 1 (List.map eI q)))], 3, [], [], 0, []⟩) (fun z => ((.exit 0), ⟨19, [(5, some (.lp 0 0))], [(0, some (.box 86 [.ls 1])), (1, some (.row 3 1 (List.map eI z)))], 2, [], [], 0, []⟩)) ⟨_, _, rfl, rfl, rfl⟩ Try_cal_85 (fun sp => above_up_1_it (itR_up_ok hR34 sp)) (fun _ => rfl) rfl rfl (by decide) rfl (fun x q => ⟨19, [(5, some (.lp 0 0)), (6, some (.pv (.int .i64 x))), (10, some (.pv (.int .i64 x)))], [(0, some (.box 86 [.ls 1])), (1, some (.row 3 1 (List.map eI q)))], 3, [], [], 0, [5]⟩) (fun q => ⟨rfl, rfl, rfl, rfl⟩) (fun z => ⟨rfl, rfl, rfl, rfl⟩) (fun z => rfl) rfl rfl ⟨rfl, trivial⟩ ⟨⟨rfl, rfl, rfl⟩, ⟨rfl, rfl, rfl⟩, trivial⟩ ?_ ?_ ?_ ?_
  · rintro l37 c38 x23 x13 hc39
    refine aw_region ?_
    refine ras ?_
    refine reg_nil ?_
    exact post_cut1 (imps [0, 1, 2] ⟨by kernel_rfl, by kernel_rfl, by kernel_rfl, trivial⟩ ⟨by kernel_rfl, by kernel_rfl, trivial⟩)
  · rintro l37 c38 x23 x13 r40 hc39 hF
    refine aw_block ?_
    iterate 2 (refine aw_seq ?_)
    refine aw_region ?_
    refine reg_cons (guard_no rfl) (op_load_lp (v := .ls 1) rfl rfl rfl rfl Try_one_86 rfl rfl) ?_
    refine rmv ?_
    obtain ⟨y26, h27, hF⟩ := bind_some hF
    refine reg_cons (guard_no rfl) (op_callB 3 rfl (caps := []) (args := [.vs 1 (List.map eI x13), .int .i64 x23]) [(1, some (.row 3 1 (List.map eI x13)))] rfl rfl rfl (FzH.spec ⟨rfl, trivial⟩) rfl rfl Try_cal_67 (slices_Contains_int_ok h27) rfl rfl rfl) ?_
    refine reg_nil ?_
    refine post_imp (s' := ⟨19, [(5, some (.lp 0 0)), (6, some (.pv (.int .i64 x23))), (13, some (.pv (.bool y26)))], [(0, some (.box 86 [.ls 1])), (1, some (.row 3 1 (List.map eI x13)))], 2, [], [], 0, [5]⟩) (imps [0, 1] ⟨by kernel_rfl, by kernel_rfl, by kernel_rfl, trivial⟩ ⟨by kernel_rfl, by kernel_rfl, trivial⟩) ?_
    refine post_next ?_
    rcases ite_some hF with ⟨hb28, hF⟩ | ⟨hb28, hF⟩
    · refine aw_cond_t rfl hb28 ?_
      refine aw_exit ?_
      refine post_then_exit ?_
      refine post_block_other rfl ?_
      obtain rfl := Option.some.inj hF
      exact post_rnd_exit x13 rfl rfl (imps [0, 1] ⟨by kernel_rfl, trivial⟩ ⟨by kernel_rfl, by kernel_rfl, trivial⟩)
    refine aw_cond_f rfl hb28 ?_
    refine aw_skip ?_
    refine post_next ?_
    refine aw_region ?_
    refine reg_cons (guard_no rfl) (op_load_lp (v := .ls 1) rfl rfl rfl rfl Try_one_86 rfl rfl) ?_
    refine rmv ?_
    refine reg_cons (guard_no rfl) (op_lit (rows := List.map eI ([x23] : List Int)) (zs := [.int .i64 0]) rfl rfl Try_slc_86 Try_zer_3 (by exact ⟨rfl, trivial⟩) rfl rfl rfl rfl rfl rfl rfl rfl) ?_
    obtain ⟨u29, h30, hF⟩ := bind_some hF
    refine reg_cons (guard_no rfl) (op_append 2 rfl rfl rfl rfl rfl Try_slc_86 Try_elm_3 Try_zer_3 rfl rfl rfl (room_map (f := eI) (g := eI) h30) (List.map_append (f := eI) (l₁ := x13) (l₂ := [x23])).symm rfl rfl) ?_
    refine reg_cons (guard_no rfl) (op_store_lp (n := 1) rfl rfl rfl rfl rfl (or_one Try_one_86) (by rw [Try_one_86]; rfl) rfl rfl rfl) ?_
    refine reg_nil ?_
    refine post_imp (s' := ⟨19, [(5, some (.lp 0 0))], [(0, some (.box 86 [.ls 1])), (1, some (.row 3 1 (List.map eI (x13 ++ [x23]))))], 2, [], [], 0, [5]⟩) (imps [0, 2] ⟨by kernel_rfl, trivial⟩ ⟨by kernel_rfl, by kernel_rfl, trivial⟩) ?_
    refine post_block_normal ?_
    obtain rfl := Option.some.inj hF
    exact post_rnd (x13 ++ [x23]) rfl (imps [0, 1, 1000000] ⟨by kernel_rfl, trivial⟩ ⟨by kernel_rfl, by kernel_rfl, trivial⟩)
  · rintro x13 rfl
    have hF := elim_next hF
    refine post_block_normal ?_
    refine post_next ?_
    refine aw_seq ?_
    refine aw_region ?_
    refine reg_cons (guard_no rfl) (op_load_lp (v := .ls 1) rfl rfl rfl rfl Try_one_86 rfl rfl) ?_
    refine ras ?_
    refine reg_nil ?_
    refine post_imp (s' := ⟨19, [(4, some (.ls 0))], [(0, some (.row 3 1 (List.map eI x13)))], 1, [], [], 0, []⟩) (imps [1] ⟨by kernel_rfl, trivial⟩ ⟨by kernel_rfl, trivial⟩) ?_
    refine post_next ?_
    refine aw_ret ?_
    obtain rfl := Option.some.inj hF
    exact post_ret rfl rfl (.cons _ _ _ _ _ (.tmp _ _ rfl) (.own _ _ _ _ rfl nolent3) .nil) (.inl rfl)
  rintro x32 rfl
  have hF := elim_stop hF
  show Post _ _ (.exit 0) _
  refine post_block_exit ?_
  refine post_next ?_
  refine aw_seq ?_
  refine aw_region ?_
  refine reg_cons (guard_no rfl) (op_load_lp (v := .ls 1) rfl rfl rfl rfl Try_one_86 rfl rfl) ?_
  refine ras ?_
  refine reg_nil ?_
  refine post_imp (s' := ⟨19, [(4, some (.ls 0))], [(0, some (.row 3 1 (List.map eI x32)))], 1, [], [], 0, []⟩) (imps [1] ⟨by kernel_rfl, trivial⟩ ⟨by kernel_rfl, trivial⟩) ?_
  refine post_next ?_
  refine aw_ret ?_
  obtain rfl := Option.some.inj hF
  exact post_ret rfl rfl (.cons _ _ _ _ _ (.tmp _ _ rfl) (.own _ _ _ _ rfl nolent3) .nil) (.inl rfl)
theorem method_first_1_w_ok {a0 : Gheld_method} {b0 : List UInt8} {b1 : List GClass} {b2 : GFound_method} {b3 : Bool} {r : Bool × GFound_method × Bool} (hF : method_first_1_w a0 b0 b1 b2 b3 = some r) : Abs.FnW Try.prog 65 [.pv (.agg (eGheld_method a0)), .lp 0 0, .lp 1 0, .lp 2 0, .lp 3 0] [(0, some (.box 9 [.pv (.str b0)])), (1, some (.box 22 [.pv (.vs 7 (List.map eGClass b1))])), (2, some (.box 35 (bxv (eGFound_method b2)))), (3, some (.box 4 [.pv (.bool b3)]))] 4 [(0, 0), (1, 1), (2, 2), (3, 3)] [.pv (.bool r.1)] [(0, some (.box 9 [.pv (.str b0)])), (1, some (.box 22 [.pv (.vs 7 (List.map eGClass b1))])), (2, some (.box 35 (bxv (eGFound_method r.2.1)))), (3, some (.box 4 [.pv (.bool r.2.2)]))] 4 := by
  unfold method_first_1_w at hF
  refine fnW_of_body (n := 24) (m := 4) [1, 2, 3, 4] Try.func65 rfl rfl rfl ?_
  intro c w O θ hcx
  refine aw_seq ?_
  refine aw_region ?_
  refine reg_cons (guard_no rfl) (op_box 4 rfl rfl rfl rfl rfl rfl) ?_
  refine ras ?_
  refine reg_nil ?_
  refine post_imp (s' := ⟨24, [(1, some (.lp 0 0)), (2, some (.lp 1 0)), (3, some (.lp 2 0)), (4, some (.lp 3 0)), (5, some (.lp 4 0))], [(0, some (.box 9 [.pv (.str b0)])), (1, some (.box 22 [.pv (.vs 7 (List.map eGClass b1))])), (2, some (.box 35 (bxv (eGFound_method b2)))), (3, some (.box 4 [.pv (.bool b3)])), (4, some (.box 112 (bxv (eGheld_method a0))))], 5, [], [], 0, [1, 2, 3, 4]⟩) (imps [0, 1, 2, 3, 4] ⟨by kernel_rfl, by kernel_rfl, by kernel_rfl, by kernel_rfl, by kernel_rfl, trivial⟩ ⟨by kernel_rfl, by kernel_rfl, by kernel_rfl, by kernel_rfl, by kernel_rfl, trivial⟩) ?_
  refine post_next ?_
  iterate 2 (refine aw_seq ?_)
  refine aw_region ?_
  refine reg_cons (guard_no rfl) (op_field_lp rfl rfl Try_fld_112_0 rfl rfl) ?_
  refine reg_cons (guard_no rfl) (op_field_lp rfl rfl Try_fld_33_0 rfl rfl) ?_
  refine reg_cons (guard_no rfl) (op_load_lp (v := .pv (.str a0.fMethod.fName)) rfl rfl rfl rfl Try_one_9 rfl rfl) ?_
  refine reg_cons (guard_no rfl) (op_load_lp (v := .pv (.str b0)) rfl rfl rfl rfl Try_one_9 rfl rfl) ?_
  refine reg_cons (guard_no rfl) (op_str rfl rfl rfl rfl rfl rfl) ?_
  refine reg_nil ?_
  refine post_imp (s' := ⟨24, [(1, some (.lp 0 0)), (2, some (.lp 1 0)), (3, some (.lp 2 0)), (4, some (.lp 3 0)), (5, some (.lp 4 0)), (11, some (.pv (.bool (a0.fMethod.fName == b0))))], [(0, some (.box 9 [.pv (.str b0)])), (1, some (.box 22 [.pv (.vs 7 (List.map eGClass b1))])), (2, some (.box 35 (bxv (eGFound_method b2)))), (3, some (.box 4 [.pv (.bool b3)])), (4, some (.box 112 (bxv (eGheld_method a0))))], 5, [], [], 0, [1, 2, 3, 4]⟩) (imps [0, 1, 2, 3, 4] ⟨by kernel_rfl, by kernel_rfl, by kernel_rfl, by kernel_rfl, by kernel_rfl, by kernel_rfl, trivial⟩ ⟨by kernel_rfl, by kernel_rfl, by kernel_rfl, by kernel_rfl, by kernel_rfl, trivial⟩) ?_
  refine post_next ?_
  rcases ite_some hF with ⟨hb1, hF⟩ | ⟨hb1, hF⟩
  · refine aw_cond_t rfl hb1 ?_
    refine dr_start ⟨_, _, _⟩ rfl ?_
    refine dr_cons { need := [(2, .lp 1 0)], hneed := [(1, .box 22 [.pv (.vs 7 (List.map eGClass b1))])], dst := some 12, val := some (.pv (.vs 7 (List.map eGClass b1))) } (fun m h => step_on (guard_no rfl) (op_load_lp (v := .pv (.vs 7 (List.map eGClass b1))) rfl h.1.1 h.2.1.1 rfl Try_one_22 rfl rfl) rfl) ⟨⟨rfl, trivial⟩, ⟨rfl, trivial⟩, trivial⟩ ?_
    refine dr_cons { need := [(5, .lp 4 0)], dst := some 13, val := some (.lp 4 17) } (fun m h => step_on (guard_no rfl) (op_field_lp rfl h.1.1 Try_fld_112_1 rfl rfl) rfl) ⟨⟨rfl, trivial⟩, trivial, trivial⟩ ?_
    refine dr_cons { need := [(13, .lp 4 17)], hneed := [(4, .box 112 (bxv (eGheld_method a0)))], dst := some 14, val := some (.pv (.int .i64 a0.fclass)) } (fun m h => step_on (guard_no rfl) (op_load_lp (v := .pv (.int .i64 a0.fclass)) rfl h.1.1 h.2.1.1 rfl Try_one_3 rfl rfl) rfl) ⟨⟨rfl, trivial⟩, ⟨rfl, trivial⟩, trivial⟩ ?_
    obtain ⟨y2, h3, hF⟩ := bind_some hF
    refine dr_cons { need := [(12, .pv (.vs 7 (List.map eGClass b1))), (14, .pv (.int .i64 a0.fclass))], dst := some 15, val := some (.pv (.vp (eGClass y2))) } (fun m h => step_on (guard_no rfl) (op_index_vs (k := .i64) rfl h.1.1 h.1.2.1 (idx_map eGClass h3) Try_slc_22 rfl rfl) rfl) ⟨⟨rfl, rfl, trivial⟩, trivial, trivial⟩ ?_
    refine dr_cons { need := [(15, .pv (.vp (eGClass y2)))], dst := some 16, val := some (.pv (.vp (List.drop 0 (eGClass y2)))) } (fun m h => step_on (guard_no rfl) (op_field_vp rfl h.1.1 Try_fld_56_0 rfl rfl) rfl) ⟨⟨rfl, trivial⟩, trivial, trivial⟩ ?_
    refine dr_cons { need := [(16, .pv (.vp (List.drop 0 (eGClass y2))))], dst := some 17, val := some (.pv (.str y2.fName)) } (fun m h => step_on (guard_no rfl) (op_load_vp (p := .str y2.fName) rfl h.1.1 rfl Try_one_9 rfl rfl) rfl) ⟨⟨rfl, trivial⟩, trivial, trivial⟩ ?_
    refine dr_cons { need := [(5, .lp 4 0)], dst := some 18, val := some (.lp 4 0) } (fun m h => step_on (guard_no rfl) (op_field_lp rfl h.1.1 Try_fld_112_0 rfl rfl) rfl) ⟨⟨rfl, trivial⟩, trivial, trivial⟩ ?_
    refine dr_cons { need := [(18, .lp 4 0)], hneed := [(4, .box 112 (bxv (eGheld_method a0)))], dst := some 19, val := some (.pv (.agg (eGMethod a0.fMethod))) } (fun m h => step_on (guard_no rfl) (op_load_lp_agg (ps := eGMethod a0.fMethod) rfl h.1.1 h.2.1.1 rfl rfl rfl Try_agg_33 rfl rfl) rfl) ⟨⟨rfl, trivial⟩, ⟨rfl, trivial⟩, trivial⟩ ?_
    refine dr_cons { need := [(3, .lp 2 0)], hneed := [(2, .box 35 (bxv (eGFound_method b2)))], upd := [(2, some (.box 35 (bxv (eGFound_method zGFound_method))))] } (fun m h => step_on (guard_no rfl) (op_store_zc (n := 18) (ps := (eGFound_method zGFound_method)) rfl h.1.1 (by exact ⟨rfl, rfl, rfl, rfl, rfl, rfl, rfl, rfl, rfl, rfl, rfl, rfl, rfl, rfl, trivial, trivial, trivial, rfl, trivial⟩) h.2.1.1 (or_agg Try_agg_35) (by rw [Try_non_35]; rfl) rfl rfl rfl) rfl) ⟨⟨rfl, trivial⟩, ⟨rfl, trivial⟩, trivial⟩ ?_
    refine dr_cons { need := [(3, .lp 2 0)], dst := some 20, val := some (.lp 2 0) } (fun m h => step_on (guard_no rfl) (op_field_lp rfl h.1.1 Try_fld_35_0 rfl rfl) rfl) ⟨⟨rfl, trivial⟩, trivial, trivial⟩ ?_
    refine dr_cons { need := [(20, .lp 2 0), (17, .pv (.str y2.fName))], hneed := [(2, .box 35 (bxv (eGFound_method zGFound_method)))], upd := [(2, some (.box 35 (bxv (eGFound_method ({ zGFound_method with fClass := y2.fName } : GFound_method)))))] } (fun m h => step_on (guard_no rfl) (op_store_lp (n := 1) rfl h.1.1 h.1.2.1 rfl h.2.1.1 (or_one Try_one_9) (by rw [Try_one_9]; rfl) rfl rfl rfl) rfl) ⟨⟨rfl, rfl, trivial⟩, ⟨rfl, trivial⟩, trivial⟩ ?_
    refine dr_cons { need := [(3, .lp 2 0)], dst := some 21, val := some (.lp 2 1) } (fun m h => step_on (guard_no rfl) (op_field_lp rfl h.1.1 Try_fld_35_1 rfl rfl) rfl) ⟨⟨rfl, trivial⟩, trivial, trivial⟩ ?_
    refine dr_cons { need := [(21, .lp 2 1), (19, .pv (.agg (eGMethod a0.fMethod)))], hneed := [(2, .box 35 (bxv (eGFound_method ({ zGFound_method with fClass := y2.fName } : GFound_method))))], upd := [(2, some (.box 35 (bxv (eGFound_method ({ ({ zGFound_method with fClass := y2.fName } : GFound_method) with fMethod := a0.fMethod } : GFound_method)))))] } (fun m h => step_on (guard_no rfl) (op_store_lp (n := 17) rfl h.1.1 h.1.2.1 rfl h.2.1.1 (or_agg Try_agg_33) (by rw [Try_non_33]; rfl) rfl rfl rfl) rfl) ⟨⟨rfl, rfl, trivial⟩, ⟨rfl, trivial⟩, trivial⟩ ?_
    refine dr_cons { need := [(4, .lp 3 0)], hneed := [(3, .box 4 [.pv (.bool b3)])], upd := [(3, some (.box 4 [.pv (.bool true)]))] } (fun m h => step_on (guard_no rfl) (op_store_lp (n := 1) rfl h.1.1 rfl rfl h.2.1.1 (or_one Try_one_4) (by rw [Try_one_4]; rfl) rfl rfl rfl) rfl) ⟨⟨rfl, trivial⟩, ⟨rfl, trivial⟩, trivial⟩ ?_
    refine dr_nil Try_mixed rfl (by kernel_rfl) ?_
    refine post_imp (s' := ⟨24, [(1, some (.lp 0 0)), (2, some (.lp 1 0)), (3, some (.lp 2 0)), (4, some (.lp 3 0))], [(0, some (.box 9 [.pv (.str b0)])), (1, some (.box 22 [.pv (.vs 7 (List.map eGClass b1))])), (2, some (.box 35 (bxv (eGFound_method ({ ({ zGFound_method with fClass := y2.fName } : GFound_method) with fMethod := a0.fMethod } : GFound_method))))), (3, some (.box 4 [.pv (.bool true)]))], 4, [], [], 0, [1, 2, 3, 4]⟩) (imps [0, 1, 2, 3] ⟨by kernel_rfl, by kernel_rfl, by kernel_rfl, by kernel_rfl, trivial⟩ ⟨by kernel_rfl, by kernel_rfl, by kernel_rfl, by kernel_rfl, trivial⟩) ?_
    refine post_next ?_
    refine aw_seq ?_
    refine aw_region ?_
    refine reg_cons (guard_no rfl) (op_load_lp (v := .pv (.bool true)) rfl rfl rfl rfl Try_one_4 rfl rfl) ?_
    refine reg_cons (guard_no rfl) (op_not rfl rfl rfl rfl) ?_
    refine ras ?_
    refine reg_nil ?_
    refine post_imp (s' := ⟨24, [(1, some (.lp 0 0)), (2, some (.lp 1 0)), (3, some (.lp 2 0)), (4, some (.lp 3 0)), (6, some (.pv (.bool (!true))))], [(0, some (.box 9 [.pv (.str b0)])), (1, some (.box 22 [.pv (.vs 7 (List.map eGClass b1))])), (2, some (.box 35 (bxv (eGFound_method ({ ({ zGFound_method with fClass := y2.fName } : GFound_method) with fMethod := a0.fMethod } : GFound_method))))), (3, some (.box 4 [.pv (.bool true)]))], 4, [], [], 0, [1, 2, 3, 4]⟩) (imps [0, 1, 2, 3] ⟨by kernel_rfl, by kernel_rfl, by kernel_rfl, by kernel_rfl, by kernel_rfl, trivial⟩ ⟨by kernel_rfl, by kernel_rfl, by kernel_rfl, by kernel_rfl, trivial⟩) ?_
    refine post_next ?_
    refine aw_ret ?_
    refine post_imp (s' := ⟨24, [(1, some (.lp 0 0)), (2, some (.lp 1 0)), (3, some (.lp 2 0)), (4, some (.lp 3 0)), (6, some (.pv (.bool (!true))))], [(0, some (.box 9 [.pv (.str b0)])), (1, some (.box 22 [.pv (.vs 7 (List.map eGClass b1))])), (2, some (.box 35 (bxv (eGFound_method ({ ({ zGFound_method with fClass := y2.fName } : GFound_method) with fMethod := a0.fMethod } : GFound_method))))), (3, some (.box 4 [.pv (.bool true)]))], 4, [], [], 0, [1, 2, 3, 4]⟩) (imps [0, 1, 2, 3] ⟨by kernel_rfl, by kernel_rfl, by kernel_rfl, by kernel_rfl, by kernel_rfl, trivial⟩ ⟨by kernel_rfl, by kernel_rfl, by kernel_rfl, by kernel_rfl, trivial⟩) ?_
    obtain rfl := Option.some.inj hF
    exact post_retW hcx rfl (.cons _ _ _ _ (.tmp _ _ rfl) .nil) rfl (.inl rfl)
  refine aw_cond_f rfl hb1 ?_
  refine aw_skip ?_
  refine post_next ?_
  refine aw_seq ?_
  refine aw_region ?_
  refine reg_cons (guard_no rfl) (op_load_lp (v := .pv (.bool b3)) rfl rfl rfl rfl Try_one_4 rfl rfl) ?_
  refine reg_cons (guard_no rfl) (op_not rfl rfl rfl rfl) ?_
  refine ras ?_
  refine reg_nil ?_
  refine post_imp (s' := ⟨24, [(1, some (.lp 0 0)), (2, some (.lp 1 0)), (3, some (.lp 2 0)), (4, some (.lp 3 0)), (6, some (.pv (.bool (!b3))))], [(0, some (.box 9 [.pv (.str b0)])), (1, some (.box 22 [.pv (.vs 7 (List.map eGClass b1))])), (2, some (.box 35 (bxv (eGFound_method b2)))), (3, some (.box 4 [.pv (.bool b3)]))], 4, [], [], 0, [1, 2, 3, 4]⟩) (imps [0, 1, 2, 3] ⟨by kernel_rfl, by kernel_rfl, by kernel_rfl, by kernel_rfl, by kernel_rfl, trivial⟩ ⟨by kernel_rfl, by kernel_rfl, by kernel_rfl, by kernel_rfl, trivial⟩) ?_
  refine post_next ?_
  refine aw_ret ?_
  refine post_imp (s' := ⟨24, [(1, some (.lp 0 0)), (2, some (.lp 1 0)), (3, some (.lp 2 0)), (4, some (.lp 3 0)), (6, some (.pv (.bool (!b3))))], [(0, some (.box 9 [.pv (.str b0)])), (1, some (.box 22 [.pv (.vs 7 (List.map eGClass b1))])), (2, some (.box 35 (bxv (eGFound_method b2)))), (3, some (.box 4 [.pv (.bool b3)]))], 4, [], [], 0, [1, 2, 3, 4]⟩) (imps [0, 1, 2, 3] ⟨by kernel_rfl, by kernel_rfl, by kernel_rfl, by kernel_rfl, by kernel_rfl, trivial⟩ ⟨by kernel_rfl, by kernel_rfl, by kernel_rfl, by kernel_rfl, trivial⟩) ?_
  obtain rfl := Option.some.inj hF
  exact post_retW hcx rfl (.cons _ _ _ _ (.tmp _ _ rfl) .nil) rfl (.inl rfl)
theorem method_walk_w_ok {a0 : List GClass} {a1 : List Int} {b0 : List UInt8} {b1 : List GClass} {b2 : GFound_method} {b3 : Bool} {r : GFound_method × Bool} (hF : method_walk_w a0 a1 b0 b1 b2 b3 = some r) : Abs.FnW Try.prog 64 [.pv (.vs 7 (List.map eGClass a0)), .pv (.vs 1 (List.map eI a1)), .fn 65 [.lp 0 0, .lp 1 0, .lp 2 0, .lp 3 0]] [(0, some (.box 9 [.pv (.str b0)])), (1, some (.box 22 [.pv (.vs 7 (List.map eGClass b1))])), (2, some (.box 35 (bxv (eGFound_method b2)))), (3, some (.box 4 [.pv (.bool b3)]))] 4 [(0, 0), (1, 1), (2, 2), (3, 3)] [] [(0, some (.box 9 [.pv (.str b0)])), (1, some (.box 22 [.pv (.vs 7 (List.map eGClass b1))])), (2, some (.box 35 (bxv (eGFound_method r.1)))), (3, some (.box 4 [.pv (.bool r.2)]))] 4 := by
  unfold method_walk_w at hF
  refine fnW_of_body (n := 34) (m := 4) [2] Try.func64 rfl rfl rfl ?_
  intro c w O θ hcx
  refine aw_seq ?_
  refine aw_region ?_
  refine rmv ?_
  refine reg_cons (guard_no rfl) (op_len_vs (n := a1.length) rfl rfl (List.length_map ..) Try_slc_86 rfl rfl) ?_
  refine rmv ?_
  refine reg_nil ?_
  refine post_imp (s' := ⟨34, [(0, some (.pv (.vs 7 (List.map eGClass a0)))), (2, some (.fn 65 [.lp 0 0, .lp 1 0, .lp 2 0, .lp 3 0])), (10, some (.pv (.vs 1 (List.map eI a1)))), (11, some (.pv (.int .i64 (a1.length : Int)))), (12, some (.pv (.int .i64 0)))], [(0, some (.box 9 [.pv (.str b0)])), (1, some (.box 22 [.pv (.vs 7 (List.map eGClass b1))])), (2, some (.box 35 (bxv (eGFound_method b2)))), (3, some (.box 4 [.pv (.bool b3)]))], 4, [], [], 0, [2]⟩) (imps [0, 1, 2, 3] ⟨by kernel_rfl, by kernel_rfl, by kernel_rfl, by kernel_rfl, by kernel_rfl, trivial⟩ ⟨by kernel_rfl, by kernel_rfl, by kernel_rfl, by kernel_rfl, trivial⟩) ?_
  refine post_next ?_
  obtain ⟨lr168, hF, hK169⟩ := bind_some hF
  refine aw_for ((((a1.length : Int) : Int) - (0)).toNat + 1) (fun s1 => ∃ q, lr168 = .next q ∧ s1 = ⟨34, [(2, some (.fn 65 [.lp 0 0, .lp 1 0, .lp 2 0, .lp 3 0]))], [(0, some (.box 9 [.pv (.str b0)])), (1, some (.box 22 [.pv (.vs 7 (List.map eGClass b1))])), (2, some (.box 35 (bxv (eGFound_method q.1)))), (3, some (.box 4 [.pv (.bool q.2)]))], 4, [], [], 0, [2]⟩) ?_ ?_
  · refine rnd_loop (α := GFound_method × Bool × Int) (fun q => ⟨34, [(0, some (.pv (.vs 7 (List.map eGClass a0)))), (2, some (.fn 65 [.lp 0 0, .lp 1 0, .lp 2 0, .lp 3 0])), (10, some (.pv (.vs 1 (List.map eI a1)))), (11, some (.pv (.int .i64 (a1.length : Int)))), (12, some (.pv (.int .i64 q.2.2)))], [(0, some (.box 9 [.pv (.str b0)])), (1, some (.box 22 [.pv (.vs 7 (List.map eGClass b1))])), (2, some (.box 35 (bxv (eGFound_method q.1)))), (3, some (.box 4 [.pv (.bool q.2.1)]))], 4, [], [], 0, [2]⟩) (fun k q => method_walk_w_L1 a0 a1 b0 b1 k q.1 q.2.1 q.2.2 = some lr168) (b2, b3, 0) (imps [0, 1, 2, 3] ⟨by kernel_rfl, by kernel_rfl, by kernel_rfl, by kernel_rfl, by kernel_rfl, trivial⟩ ⟨by kernel_rfl, by kernel_rfl, by kernel_rfl, by kernel_rfl, trivial⟩) hF (fun q h => by cases h) ?_
    clear hF
    rintro k ⟨x53, x54, x55⟩ hF ih
    refine rnd_succ ?_
    refine aw_seq ?_
    refine aw_region ?_
    refine reg_cons (guard_no rfl) (op_int (k := .i64) (m := x55) (n := (a1.length : Int)) rfl rfl rfl rfl rfl rfl) ?_
    refine reg_nil ?_
    refine post_imp (s' := ⟨34, [(0, some (.pv (.vs 7 (List.map eGClass a0)))), (2, some (.fn 65 [.lp 0 0, .lp 1 0, .lp 2 0, .lp 3 0])), (10, some (.pv (.vs 1 (List.map eI a1)))), (11, some (.pv (.int .i64 (a1.length : Int)))), (12, some (.pv (.int .i64 x55))), (13, some (.pv (.bool (decide (x55 < (a1.length : Int))))))], [(0, some (.box 9 [.pv (.str b0)])), (1, some (.box 22 [.pv (.vs 7 (List.map eGClass b1))])), (2, some (.box 35 (bxv (eGFound_method x53)))), (3, some (.box 4 [.pv (.bool x54)]))], 4, [], [], 0, [2]⟩) (imps [0, 1, 2, 3] ⟨by kernel_rfl, by kernel_rfl, by kernel_rfl, by kernel_rfl, by kernel_rfl, by kernel_rfl, trivial⟩ ⟨by kernel_rfl, by kernel_rfl, by kernel_rfl, by kernel_rfl, trivial⟩) ?_
    refine post_next ?_
    refine aw_seq ?_
    rcases ite_some hF with ⟨hb111, hF⟩ | ⟨hb111, hF⟩
    · refine aw_cond_t rfl hb111 ?_
      refine aw_skip ?_
      refine post_next ?_
      refine aw_seq ?_
      refine aw_block ?_
      refine aw_seq ?_
      refine aw_region ?_
      obtain ⟨y114, h115, hF⟩ := bind_some hF
      refine reg_cons (guard_no rfl) (op_index_vs (k := .i64) rfl rfl rfl (idx_map eI h115) Try_slc_86 rfl rfl) ?_
      refine reg_cons (guard_no rfl) (op_load_vp (p := .int .i64 y114) rfl rfl rfl Try_one_3 rfl rfl) ?_
      refine ras ?_
      refine reg_nil ?_
      refine post_imp (s' := ⟨34, [(0, some (.pv (.vs 7 (List.map eGClass a0)))), (2, some (.fn 65 [.lp 0 0, .lp 1 0, .lp 2 0, .lp 3 0])), (7, some (.pv (.int .i64 y114))), (10, some (.pv (.vs 1 (List.map eI a1)))), (11, some (.pv (.int .i64 (a1.length : Int)))), (12, some (.pv (.int .i64 x55)))], [(0, some (.box 9 [.pv (.str b0)])), (1, some (.box 22 [.pv (.vs 7 (List.map eGClass b1))])), (2, some (.box 35 (bxv (eGFound_method x53)))), (3, some (.box 4 [.pv (.bool x54)]))], 4, [], [], 0, [2]⟩) (imps [0, 1, 2, 3] ⟨by kernel_rfl, by kernel_rfl, by kernel_rfl, by kernel_rfl, by kernel_rfl, by kernel_rfl, trivial⟩ ⟨by kernel_rfl, by kernel_rfl, by kernel_rfl, by kernel_rfl, trivial⟩) ?_
      refine post_next ?_
      refine aw_seq ?_
      refine aw_region ?_
      iterate 2 (refine rmv ?_)
      obtain ⟨y118, h119, hF⟩ := bind_some hF
      refine reg_cons (guard_no rfl) (op_index_vs (k := .i64) rfl rfl rfl (idx_map eGClass h119) Try_slc_22 rfl rfl) ?_
      refine reg_cons (guard_no rfl) (op_field_vp rfl rfl Try_fld_56_5 rfl rfl) ?_
      refine reg_cons (guard_no rfl) (op_load_vp (p := .vs 17 (List.map eGMethod y118.fMethods)) rfl rfl rfl Try_one_54 rfl rfl) ?_
      refine reg_cons (guard_no rfl) (op_len_vs (n := y118.fMethods.length) rfl rfl (List.length_map ..) Try_slc_54 rfl rfl) ?_
      refine rmv ?_
      refine reg_nil ?_
      refine post_imp (s' := ⟨34, [(0, some (.pv (.vs 7 (List.map eGClass a0)))), (2, some (.fn 65 [.lp 0 0, .lp 1 0, .lp 2 0, .lp 3 0])), (7, some (.pv (.int .i64 y114))), (10, some (.pv (.vs 1 (List.map eI a1)))), (11, some (.pv (.int .i64 (a1.length : Int)))), (12, some (.pv (.int .i64 x55))), (20, some (.pv (.vs 17 (List.map eGMethod y118.fMethods)))), (21, some (.pv (.int .i64 (y118.fMethods.length : Int)))), (22, some (.pv (.int .i64 0)))], [(0, some (.box 9 [.pv (.str b0)])), (1, some (.box 22 [.pv (.vs 7 (List.map eGClass b1))])), (2, some (.box 35 (bxv (eGFound_method x53)))), (3, some (.box 4 [.pv (.bool x54)]))], 4, [], [], 0, [2]⟩) (imps [0, 1, 2, 3] ⟨by kernel_rfl, by kernel_rfl, by kernel_rfl, by kernel_rfl, by kernel_rfl, by kernel_rfl, by kernel_rfl, by kernel_rfl, by kernel_rfl, trivial⟩ ⟨by kernel_rfl, by kernel_rfl, by kernel_rfl, by kernel_rfl, trivial⟩) ?_
      refine post_next ?_
      obtain ⟨lr161, hF, hK162⟩ := bind_some hF
      refine aw_for ((((y118.fMethods.length : Int) : Int) - (0)).toNat + 1) (fun s1 => ∃ q, lr161 = .next q ∧ s1 = ⟨34, [(0, some (.pv (.vs 7 (List.map eGClass a0)))), (2, some (.fn 65 [.lp 0 0, .lp 1 0, .lp 2 0, .lp 3 0])), (10, some (.pv (.vs 1 (List.map eI a1)))), (11, some (.pv (.int .i64 (a1.length : Int)))), (12, some (.pv (.int .i64 x55)))], [(0, some (.box 9 [.pv (.str b0)])), (1, some (.box 22 [.pv (.vs 7 (List.map eGClass b1))])), (2, some (.box 35 (bxv (eGFound_method q.1)))), (3, some (.box 4 [.pv (.bool q.2)]))], 4, [], [], 0, [2]⟩) ?_ ?_
      · refine rnd_loop (α := GFound_method × Bool × Int) (fun q => ⟨34, [(0, some (.pv (.vs 7 (List.map eGClass a0)))), (2, some (.fn 65 [.lp 0 0, .lp 1 0, .lp 2 0, .lp 3 0])), (7, some (.pv (.int .i64 y114))), (10, some (.pv (.vs 1 (List.map eI a1)))), (11, some (.pv (.int .i64 (a1.length : Int)))), (12, some (.pv (.int .i64 x55))), (20, some (.pv (.vs 17 (List.map eGMethod y118.fMethods)))), (21, some (.pv (.int .i64 (y118.fMethods.length : Int)))), (22, some (.pv (.int .i64 q.2.2)))], [(0, some (.box 9 [.pv (.str b0)])), (1, some (.box 22 [.pv (.vs 7 (List.map eGClass b1))])), (2, some (.box 35 (bxv (eGFound_method q.1)))), (3, some (.box 4 [.pv (.bool q.2.1)]))], 4, [], [], 0, [2]⟩) (fun k q => method_walk_w_L2 b0 b1 y114 y118 k q.1 q.2.1 q.2.2 = some lr161) (x53, x54, 0) (imps [0, 1, 2, 3] ⟨by kernel_rfl, by kernel_rfl, by kernel_rfl, by kernel_rfl, by kernel_rfl, by kernel_rfl, by kernel_rfl, by kernel_rfl, by kernel_rfl, trivial⟩ ⟨by kernel_rfl, by kernel_rfl, by kernel_rfl, by kernel_rfl, trivial⟩) hF (fun q h => by cases h) ?_
        clear hF
        rintro k ⟨x130, x131, x132⟩ hF ih
        refine rnd_succ ?_
        refine aw_seq ?_
        refine aw_region ?_
        refine reg_cons (guard_no rfl) (op_int (k := .i64) (m := x132) (n := (y118.fMethods.length : Int)) rfl rfl rfl rfl rfl rfl) ?_
        refine reg_nil ?_
        refine post_imp (s' := ⟨34, [(0, some (.pv (.vs 7 (List.map eGClass a0)))), (2, some (.fn 65 [.lp 0 0, .lp 1 0, .lp 2 0, .lp 3 0])), (7, some (.pv (.int .i64 y114))), (10, some (.pv (.vs 1 (List.map eI a1)))), (11, some (.pv (.int .i64 (a1.length : Int)))), (12, some (.pv (.int .i64 x55))), (20, some (.pv (.vs 17 (List.map eGMethod y118.fMethods)))), (21, some (.pv (.int .i64 (y118.fMethods.length : Int)))), (22, some (.pv (.int .i64 x132))), (23, some (.pv (.bool (decide (x132 < (y118.fMethods.length : Int))))))], [(0, some (.box 9 [.pv (.str b0)])), (1, some (.box 22 [.pv (.vs 7 (List.map eGClass b1))])), (2, some (.box 35 (bxv (eGFound_method x130)))), (3, some (.box 4 [.pv (.bool x131)]))], 4, [], [], 0, [2]⟩) (imps [0, 1, 2, 3] ⟨by kernel_rfl, by kernel_rfl, by kernel_rfl, by kernel_rfl, by kernel_rfl, by kernel_rfl, by kernel_rfl, by kernel_rfl, by kernel_rfl, by kernel_rfl, trivial⟩ ⟨by kernel_rfl, by kernel_rfl, by kernel_rfl, by kernel_rfl, trivial⟩) ?_
        refine post_next ?_
        refine aw_seq ?_
        rcases ite_some hF with ⟨hb146, hF⟩ | ⟨hb146, hF⟩
        · refine aw_cond_t rfl hb146 ?_
          refine aw_skip ?_
          refine post_next ?_
          refine aw_seq ?_
          refine aw_block ?_
          refine aw_seq ?_
          refine aw_region ?_
          obtain ⟨y149, h150, hF⟩ := bind_some hF
          refine reg_cons (guard_no rfl) (op_index_vs (k := .i64) rfl rfl rfl (idx_map eGMethod h150) Try_slc_54 rfl rfl) ?_
          refine reg_cons (guard_no rfl) (op_load_vp_agg (ps := eGMethod y149) rfl rfl rfl rfl Try_agg_33 rfl rfl) ?_
          refine reg_cons (guard_no rfl) (op_alloc 4 rfl (ps := (eGMethod zGMethod)) rfl Try_zer_33 (by exact ⟨rfl, rfl, rfl, rfl, rfl, rfl, rfl, rfl, rfl, rfl, rfl, rfl, rfl, trivial, trivial, trivial, rfl, trivial⟩) rfl rfl) ?_
          refine reg_cons (guard_no rfl) (op_store_lp (n := 17) rfl rfl rfl rfl rfl (or_agg Try_agg_33) (by rw [Try_non_33]; rfl) rfl rfl rfl) ?_
          refine reg_nil ?_
          refine post_imp (s' := ⟨34, [(0, some (.pv (.vs 7 (List.map eGClass a0)))), (2, some (.fn 65 [.lp 0 0, .lp 1 0, .lp 2 0, .lp 3 0])), (7, some (.pv (.int .i64 y114))), (9, some (.lp 4 0)), (10, some (.pv (.vs 1 (List.map eI a1)))), (11, some (.pv (.int .i64 (a1.length : Int)))), (12, some (.pv (.int .i64 x55))), (20, some (.pv (.vs 17 (List.map eGMethod y118.fMethods)))), (21, some (.pv (.int .i64 (y118.fMethods.length : Int)))), (22, some (.pv (.int .i64 x132)))], [(0, some (.box 9 [.pv (.str b0)])), (1, some (.box 22 [.pv (.vs 7 (List.map eGClass b1))])), (2, some (.box 35 (bxv (eGFound_method x130)))), (3, some (.box 4 [.pv (.bool x131)])), (4, some (.box 33 (bxv (eGMethod y149))))], 5, [], [], 0, [2]⟩) (imps [0, 1, 2, 3, 4] ⟨by kernel_rfl, by kernel_rfl, by kernel_rfl, by kernel_rfl, by kernel_rfl, by kernel_rfl, by kernel_rfl, by kernel_rfl, by kernel_rfl, by kernel_rfl, trivial⟩ ⟨by kernel_rfl, by kernel_rfl, by kernel_rfl, by kernel_rfl, by kernel_rfl, trivial⟩) ?_
          refine post_next ?_
          refine aw_seq ?_
          refine aw_region ?_
          refine rmv ?_
          refine reg_cons (guard_no rfl) (op_load_lp_agg (ps := eGMethod y149) rfl rfl rfl rfl rfl rfl Try_agg_33 rfl rfl) ?_
          refine rmv ?_
          refine reg_cons (guard_no rfl) (op_build (zs := (eGheld_method zGheld_method)) (r := eGheld_method ({ fMethod := y149, fclass := y114 } : Gheld_method)) rfl Try_zer_112 (by exact ⟨rfl, rfl, rfl, rfl, rfl, rfl, rfl, rfl, rfl, rfl, rfl, rfl, rfl, trivial, trivial, trivial, rfl, rfl, trivial⟩) Try_plc_112 rfl rfl rfl rfl) ?_
          obtain ⟨y153, h154, hF⟩ := bind_some hF
          refine reg_cons (guard_no rfl) (op_callW (args := [.pv (.agg (eGheld_method ({ fMethod := y149, fclass := y114 } : Gheld_method))), .lp 0 0, .lp 1 0, .lp 2 0, .lp 3 0]) [0, 1, 2, 3] [0, 1, 2, 3] [] 5 rfl rfl rfl rfl rfl Try_cal_65 (method_first_1_w_ok h154) rfl (by decide) ⟨rfl, rfl, rfl, rfl, trivial⟩ rfl (by decide) ⟨.inl rfl, .inl rfl, .inl rfl, .inl rfl, trivial⟩ (by kernel_rfl) (by kernel_rfl) rfl rfl rfl rfl) ?_
          refine reg_cons (guard_no rfl) (op_not rfl rfl rfl rfl) ?_
          refine reg_nil ?_
          refine post_imp (s' := ⟨34, [(0, some (.pv (.vs 7 (List.map eGClass a0)))), (2, some (.fn 65 [.lp 0 0, .lp 1 0, .lp 2 0, .lp 3 0])), (7, some (.pv (.int .i64 y114))), (10, some (.pv (.vs 1 (List.map eI a1)))), (11, some (.pv (.int .i64 (a1.length : Int)))), (12, some (.pv (.int .i64 x55))), (20, some (.pv (.vs 17 (List.map eGMethod y118.fMethods)))), (21, some (.pv (.int .i64 (y118.fMethods.length : Int)))), (22, some (.pv (.int .i64 x132))), (31, some (.pv (.bool (!y153.1))))], [(0, some (.box 9 [.pv (.str b0)])), (1, some (.box 22 [.pv (.vs 7 (List.map eGClass b1))])), (2, some (.box 35 (bxv (eGFound_method y153.2.1)))), (3, some (.box 4 [.pv (.bool y153.2.2)]))], 4, [], [], 0, [2]⟩) (imps [0, 1, 2, 3] ⟨by kernel_rfl, by kernel_rfl, by kernel_rfl, by kernel_rfl, by kernel_rfl, by kernel_rfl, by kernel_rfl, by kernel_rfl, by kernel_rfl, by kernel_rfl, trivial⟩ ⟨by kernel_rfl, by kernel_rfl, by kernel_rfl, by kernel_rfl, trivial⟩) ?_
          refine post_next ?_
          rcases ite_some hF with ⟨hb155, hF⟩ | ⟨hb155, hF⟩
          · refine aw_cond_t rfl hb155 ?_
            refine aw_ret ?_
            refine post_block_ret ?_
            iterate 2 (refine post_then_ret ?_)
            refine post_lp_ret ?_
            obtain rfl := Option.some.inj hF
            have hF := elim_stop hK162
            refine post_block_ret ?_
            iterate 2 (refine post_then_ret ?_)
            refine post_lp_ret ?_
            obtain rfl := Option.some.inj hF
            have hF := elim_stop hK169
            refine post_imp (s' := ⟨34, [(2, some (.fn 65 [.lp 0 0, .lp 1 0, .lp 2 0, .lp 3 0]))], [(0, some (.box 9 [.pv (.str b0)])), (1, some (.box 22 [.pv (.vs 7 (List.map eGClass b1))])), (2, some (.box 35 (bxv (eGFound_method y153.2.1)))), (3, some (.box 4 [.pv (.bool y153.2.2)]))], 4, [], [], 0, [2]⟩) (imps [0, 1, 2, 3] ⟨by kernel_rfl, trivial⟩ ⟨by kernel_rfl, by kernel_rfl, by kernel_rfl, by kernel_rfl, trivial⟩) ?_
            obtain rfl := Option.some.inj hF
            exact post_retW hcx rfl .nil rfl (.inl rfl)
          refine aw_cond_f rfl hb155 ?_
          refine aw_skip ?_
          refine post_block_normal ?_
          refine post_next ?_
          refine aw_region ?_
          refine reg_cons (guard_no rfl) (op_int (k := .i64) (m := x132) (n := 1) rfl rfl rfl rfl rfl rfl) ?_
          refine rmv ?_
          refine reg_nil ?_
          refine post_round ?_
          exact rnd_back (ih (y153.2.1, y153.2.2, w_i64 (x132 + 1)) hF) (imps [0, 1, 2, 3] ⟨by kernel_rfl, by kernel_rfl, by kernel_rfl, by kernel_rfl, by kernel_rfl, by kernel_rfl, by kernel_rfl, by kernel_rfl, by kernel_rfl, trivial⟩ ⟨by kernel_rfl, by kernel_rfl, by kernel_rfl, by kernel_rfl, trivial⟩)
        refine aw_cond_f rfl hb146 ?_
        refine aw_exit ?_
        iterate 2 (refine post_then_exit ?_)
        obtain rfl := Option.some.inj hF
        exact post_lp_break _ ⟨_, rfl, rfl⟩ (imps [0, 1, 2, 3] ⟨by kernel_rfl, by kernel_rfl, by kernel_rfl, by kernel_rfl, by kernel_rfl, trivial⟩ ⟨by kernel_rfl, by kernel_rfl, by kernel_rfl, by kernel_rfl, trivial⟩)
      rintro _ ⟨⟨x159, x160⟩, rfl, rfl⟩
      have hF := elim_next hK162
      clear hK162
      refine post_block_normal ?_
      refine post_next ?_
      refine aw_region ?_
      refine reg_cons (guard_no rfl) (op_int (k := .i64) (m := x55) (n := 1) rfl rfl rfl rfl rfl rfl) ?_
      refine rmv ?_
      refine reg_nil ?_
      refine post_round ?_
      exact rnd_back (ih (x159, x160, w_i64 (x55 + 1)) hF) (imps [0, 1, 2, 3] ⟨by kernel_rfl, by kernel_rfl, by kernel_rfl, by kernel_rfl, by kernel_rfl, trivial⟩ ⟨by kernel_rfl, by kernel_rfl, by kernel_rfl, by kernel_rfl, trivial⟩)
    refine aw_cond_f rfl hb111 ?_
    refine aw_exit ?_
    iterate 2 (refine post_then_exit ?_)
    obtain rfl := Option.some.inj hF
    exact post_lp_break _ ⟨_, rfl, rfl⟩ (imps [0, 1, 2, 3] ⟨by kernel_rfl, trivial⟩ ⟨by kernel_rfl, by kernel_rfl, by kernel_rfl, by kernel_rfl, trivial⟩)
  rintro _ ⟨⟨x166, x167⟩, rfl, rfl⟩
  have hF := elim_next hK169
  clear hK169
  refine post_imp (s' := ⟨34, [(2, some (.fn 65 [.lp 0 0, .lp 1 0, .lp 2 0, .lp 3 0]))], [(0, some (.box 9 [.pv (.str b0)])), (1, some (.box 22 [.pv (.vs 7 (List.map eGClass b1))])), (2, some (.box 35 (bxv (eGFound_method x166)))), (3, some (.box 4 [.pv (.bool x167)]))], 4, [], [], 0, [2]⟩) (imps [0, 1, 2, 3] ⟨by kernel_rfl, trivial⟩ ⟨by kernel_rfl, by kernel_rfl, by kernel_rfl, by kernel_rfl, trivial⟩) ?_
  obtain rfl := Option.some.inj hF
  exact post_retW hcx rfl .nil rfl (.inr rfl)
theorem method_first_ok {a0 : List GClass} {a1 : List Int} {a2 : List UInt8} {r : GFound_method × Bool} (hF : method_first a0 a1 a2 = some r) : Abs.Fn Try.prog 41 [.vs 7 (List.map eGClass a0), .vs 1 (List.map eI a1), .str a2] [.p (.agg (eGFound_method r.1)), .p (.bool r.2)] := by
  unfold method_first at hF
  refine fn_of_body (n := 17) Try.func41 rfl rfl rfl ?_
  intro w O
  refine aw_seq ?_
  refine aw_region ?_
  refine reg_cons (guard_no rfl) (op_box 0 rfl rfl rfl rfl rfl rfl) ?_
  refine reg_cons (guard_no rfl) (op_box 1 rfl rfl rfl rfl rfl rfl) ?_
  refine reg_cons (guard_no rfl) (op_alloc 2 rfl (ps := (eGFound_method zGFound_method)) rfl Try_zer_35 (by exact ⟨rfl, rfl, rfl, rfl, rfl, rfl, rfl, rfl, rfl, rfl, rfl, rfl, rfl, rfl, trivial, trivial, trivial, rfl, trivial⟩) rfl rfl) ?_
  refine ras ?_
  refine reg_nil ?_
  refine post_imp (s' := ⟨17, [(1, some (.pv (.vs 1 (List.map eI a1)))), (3, some (.lp 0 0)), (5, some (.lp 1 0)), (6, some (.lp 2 0))], [(0, some (.box 22 [.pv (.vs 7 (List.map eGClass a0))])), (1, some (.box 9 [.pv (.str a2)])), (2, some (.box 35 (bxv (eGFound_method zGFound_method))))], 3, [], [], 0, []⟩) (imps [0, 1, 2] ⟨by kernel_rfl, by kernel_rfl, by kernel_rfl, by kernel_rfl, trivial⟩ ⟨by kernel_rfl, by kernel_rfl, by kernel_rfl, trivial⟩) ?_
  refine post_next ?_
  refine aw_seq ?_
  refine aw_region ?_
  refine reg_cons (guard_no rfl) (op_build (zs := (eGFound_method zGFound_method)) (r := eGFound_method ({ fClass := [], fMethod := zGMethod } : GFound_method)) rfl Try_zer_35 (by exact ⟨rfl, rfl, rfl, rfl, rfl, rfl, rfl, rfl, rfl, rfl, rfl, rfl, rfl, rfl, trivial, trivial, trivial, rfl, trivial⟩) Try_plc_35 rfl rfl rfl rfl) ?_
  refine reg_cons (guard_no rfl) (op_alloc 3 rfl (ps := (eGFound_method zGFound_method)) rfl Try_zer_35 (by exact ⟨rfl, rfl, rfl, rfl, rfl, rfl, rfl, rfl, rfl, rfl, rfl, rfl, rfl, rfl, trivial, trivial, trivial, rfl, trivial⟩) rfl rfl) ?_
  refine reg_cons (guard_no rfl) (op_alloc 4 rfl (ps := [.bool false]) rfl Try_zer_4 (by exact ⟨rfl, trivial⟩) rfl rfl) ?_
  refine reg_cons (guard_no rfl) (op_store_lp (n := 18) rfl rfl rfl rfl rfl (or_agg Try_agg_35) (by rw [Try_non_35]; rfl) rfl rfl rfl) ?_
  refine reg_cons (guard_no rfl) (op_store_lp (n := 1) rfl rfl rfl rfl rfl (or_one Try_one_4) (by rw [Try_one_4]; rfl) rfl rfl rfl) ?_
  refine reg_nil ?_
  refine post_imp (s' := ⟨17, [(1, some (.pv (.vs 1 (List.map eI a1)))), (3, some (.lp 0 0)), (5, some (.lp 1 0)), (6, some (.lp 2 0)), (8, some (.lp 3 0)), (9, some (.lp 4 0))], [(0, some (.box 22 [.pv (.vs 7 (List.map eGClass a0))])), (1, some (.box 9 [.pv (.str a2)])), (2, some (.box 35 (bxv (eGFound_method zGFound_method)))), (3, some (.box 35 (bxv (eGFound_method ({ fClass := [], fMethod := zGMethod } : GFound_method))))), (4, some (.box 4 [.pv (.bool false)]))], 5, [], [], 0, []⟩) (imps [0, 1, 2, 3, 4] ⟨by kernel_rfl, by kernel_rfl, by kernel_rfl, by kernel_rfl, by kernel_rfl, by kernel_rfl, trivial⟩ ⟨by kernel_rfl, by kernel_rfl, by kernel_rfl, by kernel_rfl, by kernel_rfl, trivial⟩) ?_
  refine post_next ?_
  refine aw_seq ?_
  refine aw_region ?_
  refine reg_cons (guard_no rfl) (op_load_lp (v := .pv (.vs 7 (List.map eGClass a0))) rfl rfl rfl rfl Try_one_22 rfl rfl) ?_
  refine rmv ?_
  refine reg_cons (guard_no rfl) (op_makeFunc rfl rfl rfl rfl) ?_
  obtain ⟨y3, h4, hF⟩ := bind_some hF
  refine reg_cons (guard_no rfl) (op_callW (args := [.pv (.vs 7 (List.map eGClass a0)), .pv (.vs 1 (List.map eI a1)), .fn 65 [.lp 0 0, .lp 1 0, .lp 2 0, .lp 3 0]]) [1, 0, 3, 4] [1, 0, 3, 4] [] 5 rfl rfl rfl rfl rfl Try_cal_64 (method_walk_w_ok h4) rfl (by decide) ⟨rfl, rfl, rfl, rfl, trivial⟩ rfl (by decide) ⟨.inl rfl, .inl rfl, .inl rfl, .inl rfl, trivial⟩ (by kernel_rfl) (by kernel_rfl) rfl rfl rfl rfl) ?_
  refine reg_nil ?_
  refine post_imp (s' := ⟨17, [(6, some (.lp 0 0)), (8, some (.lp 1 0)), (9, some (.lp 2 0))], [(0, some (.box 35 (bxv (eGFound_method zGFound_method)))), (1, some (.box 35 (bxv (eGFound_method y3.1)))), (2, some (.box 4 [.pv (.bool y3.2)]))], 3, [], [], 0, []⟩) (imps [2, 3, 4] ⟨by kernel_rfl, by kernel_rfl, by kernel_rfl, trivial⟩ ⟨by kernel_rfl, by kernel_rfl, by kernel_rfl, trivial⟩) ?_
  refine post_next ?_
  refine aw_seq ?_
  refine dr_start ⟨_, _, _⟩ rfl ?_
  refine dr_cons { need := [(8, .lp 1 0)], hneed := [(1, .box 35 (bxv (eGFound_method y3.1)))], dst := some 15, val := some (.pv (.agg (eGFound_method y3.1))) } (fun m h => step_on (guard_no rfl) (op_load_lp_agg (ps := eGFound_method y3.1) rfl h.1.1 h.2.1.1 rfl rfl rfl Try_agg_35 rfl rfl) rfl) ⟨⟨rfl, trivial⟩, ⟨rfl, trivial⟩, trivial⟩ ?_
  refine dr_cons { need := [(9, .lp 2 0)], hneed := [(2, .box 4 [.pv (.bool y3.2)])], dst := some 16, val := some (.pv (.bool y3.2)) } (fun m h => step_on (guard_no rfl) (op_load_lp (v := .pv (.bool y3.2)) rfl h.1.1 h.2.1.1 rfl Try_one_4 rfl rfl) rfl) ⟨⟨rfl, trivial⟩, ⟨rfl, trivial⟩, trivial⟩ ?_
  refine dr_cons { need := [(6, .lp 0 0), (15, .pv (.agg (eGFound_method y3.1)))], hneed := [(0, .box 35 (bxv (eGFound_method zGFound_method)))], upd := [(0, some (.box 35 (bxv (eGFound_method y3.1))))] } (fun m h => step_on (guard_no rfl) (op_store_lp (n := 18) rfl h.1.1 h.1.2.1 rfl h.2.1.1 (or_agg Try_agg_35) (by rw [Try_non_35]; rfl) rfl rfl rfl) rfl) ⟨⟨rfl, rfl, trivial⟩, ⟨rfl, trivial⟩, trivial⟩ ?_
  refine dr_cons { need := [(16, .pv (.bool y3.2))], dst := some 7, val := some (.pv (.bool y3.2)) } (fun m h => step_on (guard_no rfl) (op_assign rfl h.1.1 rfl rfl) rfl) ⟨⟨rfl, trivial⟩, trivial, trivial⟩ ?_
  refine dr_nil Try_mixed rfl (by kernel_rfl) ?_
  refine post_imp (s' := ⟨17, [(6, some (.lp 0 0)), (7, some (.pv (.bool y3.2)))], [(0, some (.box 35 (bxv (eGFound_method y3.1))))], 1, [], [], 0, []⟩) (imps [0] ⟨by kernel_rfl, by kernel_rfl, trivial⟩ ⟨by kernel_rfl, trivial⟩) ?_
  refine post_next ?_
  refine aw_ret ?_
  obtain rfl := Option.some.inj hF
  exact post_ret rfl rfl (.cons _ _ _ _ _ (.agg _ _ _ _ _ 18 _ _ rfl rfl Try_agg_35 rfl rfl rfl) (.p _) (.cons _ _ _ _ _ (.tmp _ _ rfl) (.p _) .nil)) (.inl rfl)
theorem method_Over_ok {a0 : List GClass} {a1 : List UInt8} {a2 : List UInt8} {r : GFound_method × Bool} (hF : method_Over a0 a1 a2 = some r) : Abs.Fn Try.prog 14 [.vs 7 (List.map eGClass a0), .str a1, .str a2] [.p (.agg (eGFound_method r.1)), .p (.bool r.2)] := by
  unfold method_Over at hF
  refine fn_of_body (n := 22) Try.func14 rfl rfl rfl ?_
  intro w O
  refine aw_seq ?_
  refine aw_region ?_
  refine reg_cons (guard_no rfl) (op_alloc 0 rfl (ps := (eGFound_method zGFound_method)) rfl Try_zer_35 (by exact ⟨rfl, rfl, rfl, rfl, rfl, rfl, rfl, rfl, rfl, rfl, rfl, rfl, rfl, rfl, trivial, trivial, trivial, rfl, trivial⟩) rfl rfl) ?_
  refine ras ?_
  refine reg_nil ?_
  refine post_imp (s' := ⟨22, [(0, some (.pv (.vs 7 (List.map eGClass a0)))), (1, some (.pv (.str a1))), (2, some (.pv (.str a2))), (6, some (.lp 0 0))], [(0, some (.box 35 (bxv (eGFound_method zGFound_method))))], 1, [], [], 0, []⟩) (imps [0] ⟨by kernel_rfl, by kernel_rfl, by kernel_rfl, by kernel_rfl, trivial⟩ ⟨by kernel_rfl, trivial⟩) ?_
  refine post_next ?_
  refine aw_seq ?_
  refine aw_region ?_
  iterate 2 (refine rmv ?_)
  obtain ⟨y3, h4, hF⟩ := bind_some hF
  refine reg_cons (guard_no rfl) (op_call 1 rfl (caps := []) (args := [.vs 7 (List.map eGClass a0), .str a1]) (rs := [.p (.vs 1 (List.map eI y3))]) rfl rfl rfl Try_cal_42 (Fn.frozen (above_Chain_ok h4)) rfl rfl rfl) ?_
  refine ras ?_
  refine reg_nil ?_
  refine post_imp (s' := ⟨22, [(0, some (.pv (.vs 7 (List.map eGClass a0)))), (2, some (.pv (.str a2))), (6, some (.lp 0 0)), (8, some (.pv (.vs 1 (List.map eI y3))))], [(0, some (.box 35 (bxv (eGFound_method zGFound_method))))], 1, [], [], 0, []⟩) (imps [0] ⟨by kernel_rfl, by kernel_rfl, by kernel_rfl, by kernel_rfl, trivial⟩ ⟨by kernel_rfl, trivial⟩) ?_
  refine post_next ?_
  refine aw_seq ?_
  refine aw_region ?_
  iterate 3 (refine rmv ?_)
  refine reg_cons (guard_no rfl) (op_len_vs (n := y3.length) rfl rfl (List.length_map ..) Try_slc_86 rfl rfl) ?_
  refine reg_cons (guard_no rfl) (op_min2 rfl rfl rfl rfl rfl) ?_
  obtain ⟨y5, h6, hF⟩ := bind_some hF
  refine reg_cons (guard_no rfl) (op_slice_vs (nl := (some (if (y3.length : Int) < 1 then (y3.length : Int) else 1))) (nh := none) (nm := none) rfl rfl rfl rfl rfl (.inl rfl) Try_slc_86 (cut_map (nl := (some (if (y3.length : Int) < 1 then (y3.length : Int) else 1))) (nh := none) eI h6) rfl rfl) ?_
  refine rmv ?_
  obtain ⟨y7, h8, hF⟩ := bind_some hF
  refine reg_cons (guard_no rfl) (op_call 1 rfl (caps := []) (args := [.vs 7 (List.map eGClass a0), .vs 1 (List.map eI y5), .str a2]) (rs := [.p (.agg (eGFound_method y7.1)), .p (.bool y7.2)]) rfl rfl rfl Try_cal_41 (method_first_ok h8) rfl rfl rfl) ?_
  iterate 2 (refine reg_cons (guard_no rfl) (op_extract rfl rfl rfl rfl rfl) ?_)
  refine reg_cons (guard_no rfl) (op_store_lp (n := 18) rfl rfl rfl rfl rfl (or_agg Try_agg_35) (by rw [Try_non_35]; rfl) rfl rfl rfl) ?_
  refine ras ?_
  refine reg_nil ?_
  refine post_imp (s' := ⟨22, [(6, some (.lp 0 0)), (7, some (.pv (.bool y7.2)))], [(0, some (.box 35 (bxv (eGFound_method y7.1))))], 1, [], [], 0, []⟩) (imps [0] ⟨by kernel_rfl, by kernel_rfl, trivial⟩ ⟨by kernel_rfl, trivial⟩) ?_
  refine post_next ?_
  refine aw_ret ?_
  obtain rfl := Option.some.inj hF
  exact post_ret rfl rfl (.cons _ _ _ _ _ (.agg _ _ _ _ _ 18 _ _ rfl rfl Try_agg_35 rfl rfl rfl) (.p _) (.cons _ _ _ _ _ (.tmp _ _ rfl) (.p _) .nil)) (.inl rfl)
theorem kind_Unique_ok {a0 : GType} {r : Bool} (hF : kind_Unique a0 = some r) : Abs.Fn Try.prog 52 [.agg (eGType a0)] [.p (.bool r)] := by
  unfold kind_Unique at hF
  refine fn_of_body (n := 13) Try.func52 rfl rfl rfl ?_
  intro w O
  refine aw_seq ?_
  refine aw_region ?_
  refine reg_cons (guard_no rfl) (op_box 0 rfl rfl rfl rfl rfl rfl) ?_
  refine ras ?_
  refine reg_nil ?_
  refine post_imp (s' := ⟨13, [(1, some (.lp 0 0))], [(0, some (.box 29 (bxv (eGType a0))))], 1, [], [], 0, []⟩) (imps [0] ⟨by kernel_rfl, trivial⟩ ⟨by kernel_rfl, trivial⟩) ?_
  refine post_next ?_
  refine aw_seq ?_
  refine aw_region ?_
  refine reg_cons (guard_no rfl) (op_field_lp rfl rfl Try_fld_29_0 rfl rfl) ?_
  refine reg_cons (guard_no rfl) (op_load_lp (v := .pv (.int .i64 a0.fKind)) rfl rfl rfl rfl Try_one_3 rfl rfl) ?_
  refine reg_cons (guard_no rfl) (op_int (k := .i64) (m := a0.fKind) (n := 2) rfl rfl rfl rfl rfl rfl) ?_
  refine rmv ?_
  rcases ite_some hF with ⟨hb1, hF⟩ | ⟨hb1, hF⟩
  · refine reg_cons (guard_on rfl rfl rfl rfl hb1) (op_field_lp rfl rfl Try_fld_29_3 rfl rfl) ?_
    refine reg_cons (guard_on rfl rfl rfl rfl hb1) (op_arr_lp (k := .i64) (m := 0) (n := 4) rfl rfl rfl Try_arr_27 rfl rfl rfl rfl) ?_
    refine reg_cons (guard_on rfl rfl rfl rfl hb1) (op_field_lp rfl rfl Try_fld_26_0 rfl rfl) ?_
    refine reg_cons (guard_on rfl rfl rfl rfl hb1) (op_load_lp (v := .pv (.int .i64 a0.fOwn.a0.fKind)) rfl rfl rfl rfl Try_one_3 rfl rfl) ?_
    refine reg_cons (guard_on rfl rfl rfl rfl hb1) (op_int (k := .i64) (m := a0.fOwn.a0.fKind) (n := 6) rfl rfl rfl rfl rfl rfl) ?_
    refine rpt hb1 ?_
    refine ras ?_
    refine reg_nil ?_
    refine post_imp (s' := ⟨13, [(2, some (.pv (.bool (a0.fOwn.a0.fKind == 6))))], [], 0, [], [], 0, []⟩) (imps [] ⟨by kernel_rfl, trivial⟩ trivial) ?_
    refine post_next ?_
    refine aw_ret ?_
    obtain rfl := Option.some.inj hF
    exact post_ret rfl rfl (.cons _ _ _ _ _ (.tmp _ _ rfl) (.p _) .nil) (.inl rfl)
  iterate 5 (refine rgo_f hb1 ?_)
  refine rpf hb1 ?_
  refine ras ?_
  refine reg_nil ?_
  refine post_imp (s' := ⟨13, [(2, some (.pv (.bool false)))], [], 0, [], [], 0, []⟩) (imps [] ⟨by kernel_rfl, trivial⟩ trivial) ?_
  refine post_next ?_
  refine aw_ret ?_
  obtain rfl := Option.some.inj hF
  exact post_ret rfl rfl (.cons _ _ _ _ _ (.tmp _ _ rfl) (.p _) .nil) (.inl rfl)
theorem method_Alike_ok {a0 : GType} {a1 : GType} {r : Bool} (hF : method_Alike a0 a1 = some r) : Abs.Fn Try.prog 21 [.agg (eGType a0), .agg (eGType a1)] [.p (.bool r)] := by
  unfold method_Alike at hF
  refine fn_of_body (n := 30) Try.func21 rfl rfl rfl ?_
  intro w O
  refine aw_seq ?_
  refine aw_region ?_
  refine reg_cons (guard_no rfl) (op_box 0 rfl rfl rfl rfl rfl rfl) ?_
  refine reg_cons (guard_no rfl) (op_box 1 rfl rfl rfl rfl rfl rfl) ?_
  refine ras ?_
  refine reg_nil ?_
  refine post_imp (s' := ⟨30, [(2, some (.lp 0 0)), (3, some (.lp 1 0))], [(0, some (.box 29 (bxv (eGType a0)))), (1, some (.box 29 (bxv (eGType a1))))], 2, [], [], 0, []⟩) (imps [0, 1] ⟨by kernel_rfl, by kernel_rfl, trivial⟩ ⟨by kernel_rfl, by kernel_rfl, trivial⟩) ?_
  refine post_next ?_
  iterate 2 (refine aw_seq ?_)
  obtain ⟨x2, hF, hK4⟩ := bind_some hF
  refine aw_cut (fun s1 => s1 = ⟨30, [(2, some (.lp 0 0)), (3, some (.lp 1 0)), (12, some (.pv (.bool x2)))], [(0, some (.box 29 (bxv (eGType a0)))), (1, some (.box 29 (bxv (eGType a1))))], 2, [], [], 0, []⟩) ?_ ?_
  · refine aw_region ?_
    refine reg_cons (guard_no rfl) (op_field_lp rfl rfl Try_fld_29_0 rfl rfl) ?_
    refine reg_cons (guard_no rfl) (op_load_lp (v := .pv (.int .i64 a0.fKind)) rfl rfl rfl rfl Try_one_3 rfl rfl) ?_
    refine reg_cons (guard_no rfl) (op_int (k := .i64) (m := a0.fKind) (n := 2) rfl rfl rfl rfl rfl rfl) ?_
    refine rmv ?_
    rcases ite_some hF with ⟨hb1, hF⟩ | ⟨hb1, hF⟩
    · refine rgo_t hb1 ?_
      iterate 2 (refine rgo_t hb1 ?_)
      refine rpt hb1 ?_
      refine reg_nil ?_
      cases hF
      exact post_cut _ rfl (imps [0, 1] ⟨by kernel_rfl, by kernel_rfl, by kernel_rfl, trivial⟩ ⟨by kernel_rfl, by kernel_rfl, trivial⟩)
    refine reg_cons (guard_on rfl rfl rfl rfl hb1) (op_field_lp rfl rfl Try_fld_29_0 rfl rfl) ?_
    refine reg_cons (guard_on rfl rfl rfl rfl hb1) (op_load_lp (v := .pv (.int .i64 a1.fKind)) rfl rfl rfl rfl Try_one_3 rfl rfl) ?_
    refine reg_cons (guard_on rfl rfl rfl rfl hb1) (op_int (k := .i64) (m := a1.fKind) (n := 2) rfl rfl rfl rfl rfl rfl) ?_
    refine rpf hb1 ?_
    refine reg_nil ?_
    cases hF
    exact post_cut _ rfl (imps [0, 1] ⟨by kernel_rfl, by kernel_rfl, by kernel_rfl, trivial⟩ ⟨by kernel_rfl, by kernel_rfl, trivial⟩)
  rintro _ rfl
  have hF := hK4
  clear hK4
  refine post_next ?_
  rcases ite_some hF with ⟨hb5, hF⟩ | ⟨hb5, hF⟩
  · refine aw_cond_t rfl hb5 ?_
    refine aw_seq ?_
    refine aw_region ?_
    refine reg_cons (guard_no rfl) (op_field_lp rfl rfl Try_fld_29_0 rfl rfl) ?_
    refine reg_cons (guard_no rfl) (op_load_lp (v := .pv (.int .i64 a0.fKind)) rfl rfl rfl rfl Try_one_3 rfl rfl) ?_
    refine reg_cons (guard_no rfl) (op_field_lp rfl rfl Try_fld_29_0 rfl rfl) ?_
    refine reg_cons (guard_no rfl) (op_load_lp (v := .pv (.int .i64 a1.fKind)) rfl rfl rfl rfl Try_one_3 rfl rfl) ?_
    refine reg_cons (guard_no rfl) (op_int (k := .i64) (m := a0.fKind) (n := a1.fKind) rfl rfl rfl rfl rfl rfl) ?_
    refine ras ?_
    refine reg_nil ?_
    refine post_imp (s' := ⟨30, [(4, some (.pv (.bool (a0.fKind == a1.fKind))))], [], 0, [], [], 0, []⟩) (imps [] ⟨by kernel_rfl, trivial⟩ trivial) ?_
    refine post_next ?_
    refine aw_ret ?_
    refine post_then_ret ?_
    obtain rfl := Option.some.inj hF
    exact post_ret rfl rfl (.cons _ _ _ _ _ (.tmp _ _ rfl) (.p _) .nil) (.inl rfl)
  refine aw_cond_f rfl hb5 ?_
  refine aw_skip ?_
  refine post_next ?_
  refine aw_seq ?_
  refine dr_start ⟨_, _, _⟩ rfl ?_
  refine dr_cons { need := [(2, .lp 0 0)], dst := some 18, val := some (.lp 0 1) } (fun m h => step_on (guard_no rfl) (op_field_lp rfl h.1.1 Try_fld_29_1 rfl rfl) rfl) ⟨⟨rfl, trivial⟩, trivial, trivial⟩ ?_
  refine dr_cons { need := [(18, .lp 0 1)], hneed := [(0, .box 29 (bxv (eGType a0)))], dst := some 19, val := some (.pv (.str a0.fClass)) } (fun m h => step_on (guard_no rfl) (op_load_lp (v := .pv (.str a0.fClass)) rfl h.1.1 h.2.1.1 rfl Try_one_9 rfl rfl) rfl) ⟨⟨rfl, trivial⟩, ⟨rfl, trivial⟩, trivial⟩ ?_
  refine dr_cons { need := [(3, .lp 1 0)], dst := some 20, val := some (.lp 1 1) } (fun m h => step_on (guard_no rfl) (op_field_lp rfl h.1.1 Try_fld_29_1 rfl rfl) rfl) ⟨⟨rfl, trivial⟩, trivial, trivial⟩ ?_
  refine dr_cons { need := [(20, .lp 1 1)], hneed := [(1, .box 29 (bxv (eGType a1)))], dst := some 21, val := some (.pv (.str a1.fClass)) } (fun m h => step_on (guard_no rfl) (op_load_lp (v := .pv (.str a1.fClass)) rfl h.1.1 h.2.1.1 rfl Try_one_9 rfl rfl) rfl) ⟨⟨rfl, trivial⟩, ⟨rfl, trivial⟩, trivial⟩ ?_
  refine dr_cons { need := [(19, .pv (.str a0.fClass)), (21, .pv (.str a1.fClass))], dst := some 22, val := some (.pv (.bool (a0.fClass == a1.fClass))) } (fun m h => step_on (guard_no rfl) (op_str rfl h.1.1 h.1.2.1 rfl rfl rfl) rfl) ⟨⟨rfl, rfl, trivial⟩, trivial, trivial⟩ ?_
  refine drm ?_
  rcases ite_some hF with ⟨hb6, hF⟩ | ⟨hb6, hF⟩
  · refine dr_cons { need := [(23, .pv (.bool (a0.fClass == a1.fClass))), (2, .lp 0 0)], hneed := [(0, .box 29 (bxv (eGType a0)))], dst := some 24, val := some (.pv (.agg (eGType a0))) } (fun m h => step_on (guard_on rfl rfl rfl h.1.1 hb6) (op_load_lp_agg (ps := eGType a0) rfl h.1.2.1 h.2.1.1 rfl rfl rfl Try_agg_29 rfl rfl) rfl) ⟨⟨rfl, rfl, trivial⟩, ⟨rfl, trivial⟩, trivial⟩ ?_
    obtain ⟨y7, h8, hF⟩ := bind_some hF
    refine dr_cons { need := [(23, .pv (.bool (a0.fClass == a1.fClass))), (24, .pv (.agg (eGType a0)))], dst := some 25, val := some (.pv (.bool y7)) } (fun m h => step_on (guard_on rfl rfl rfl h.1.1 hb6) (op_call 2 rfl (caps := []) (args := [.agg (eGType a0)]) (rs := [.p (.bool y7)]) rfl rfl (evl_cons h.1.2.1 evl_nil) Try_cal_52 (kind_Unique_ok h8) rfl rfl rfl) rfl) ⟨⟨rfl, rfl, trivial⟩, trivial, trivial⟩ ?_
    refine dr_cons { need := [(23, .pv (.bool (a0.fClass == a1.fClass))), (3, .lp 1 0)], hneed := [(1, .box 29 (bxv (eGType a1)))], dst := some 26, val := some (.pv (.agg (eGType a1))) } (fun m h => step_on (guard_on rfl rfl rfl h.1.1 hb6) (op_load_lp_agg (ps := eGType a1) rfl h.1.2.1 h.2.1.1 rfl rfl rfl Try_agg_29 rfl rfl) rfl) ⟨⟨rfl, rfl, trivial⟩, ⟨rfl, trivial⟩, trivial⟩ ?_
    obtain ⟨y9, h10, hF⟩ := bind_some hF
    refine dr_cons { need := [(23, .pv (.bool (a0.fClass == a1.fClass))), (26, .pv (.agg (eGType a1)))], dst := some 27, val := some (.pv (.bool y9)) } (fun m h => step_on (guard_on rfl rfl rfl h.1.1 hb6) (op_call 2 rfl (caps := []) (args := [.agg (eGType a1)]) (rs := [.p (.bool y9)]) rfl rfl (evl_cons h.1.2.1 evl_nil) Try_cal_52 (kind_Unique_ok h10) rfl rfl rfl) rfl) ⟨⟨rfl, rfl, trivial⟩, trivial, trivial⟩ ?_
    refine dr_cons { need := [(23, .pv (.bool (a0.fClass == a1.fClass))), (25, .pv (.bool y7)), (27, .pv (.bool y9))], dst := some 28, val := some (.pv (.bool (y7 == y9))) } (fun m h => step_on (guard_on rfl rfl rfl h.1.1 hb6) (op_eqBool_eql rfl h.1.2.1 h.1.2.2.1 Try_und_4 rfl rfl) rfl) ⟨⟨rfl, rfl, rfl, trivial⟩, trivial, trivial⟩ ?_
    refine dr_cons { need := [(23, .pv (.bool (a0.fClass == a1.fClass))), (28, .pv (.bool (y7 == y9)))], dst := some 29, val := some (.pv (.bool (y7 == y9))) } (fun m h => step_on (guard_no rfl) (op_pick_t rfl h.1.1 hb6 h.1.2.1 rfl rfl) rfl) ⟨⟨rfl, rfl, trivial⟩, trivial, trivial⟩ ?_
    refine dr_cons { need := [(29, .pv (.bool (y7 == y9)))], dst := some 4, val := some (.pv (.bool (y7 == y9))) } (fun m h => step_on (guard_no rfl) (op_assign rfl h.1.1 rfl rfl) rfl) ⟨⟨rfl, trivial⟩, trivial, trivial⟩ ?_
    refine dr_nil Try_mixed rfl (by kernel_rfl) ?_
    refine post_imp (s' := ⟨30, [(4, some (.pv (.bool (y7 == y9))))], [], 0, [], [], 0, []⟩) (imps [] ⟨by kernel_rfl, trivial⟩ trivial) ?_
    refine post_next ?_
    refine aw_ret ?_
    obtain rfl := Option.some.inj hF
    exact post_ret rfl rfl (.cons _ _ _ _ _ (.tmp _ _ rfl) (.p _) .nil) (.inl rfl)
  iterate 5 (refine dro_f hb6 ?_)
  refine drpf hb6 ?_
  refine dr_cons { need := [(29, .pv (.bool false))], dst := some 4, val := some (.pv (.bool false)) } (fun m h => step_on (guard_no rfl) (op_assign rfl h.1.1 rfl rfl) rfl) ⟨⟨rfl, trivial⟩, trivial, trivial⟩ ?_
  refine dr_nil Try_mixed rfl (by kernel_rfl) ?_
  refine post_imp (s' := ⟨30, [(4, some (.pv (.bool false)))], [], 0, [], [], 0, []⟩) (imps [] ⟨by kernel_rfl, trivial⟩ trivial) ?_
  refine post_next ?_
  refine aw_ret ?_
  obtain rfl := Option.some.inj hF
  exact post_ret rfl rfl (.cons _ _ _ _ _ (.tmp _ _ rfl) (.p _) .nil) (.inl rfl)
theorem slices_EqualFunc_api_Var_ok {a0 : List GVar} {a1 : List GVar} {q2 : GVar → GVar → Option Bool} {r : Bool} {q2_f : Nat} {q2_c : List PV} (q2_b : callB Try.prog q2_f = true) (q2_h : ∀ (x0 : GVar) (x1 : GVar) (r : Bool), q2 x0 x1 = some r → Abs.Fn Try.prog q2_f ([.agg (eGVar x0), .agg (eGVar x1)] ++ q2_c) [.p (.bool r)]) (hF : slices_EqualFunc_api_Var a0 a1 q2 = some r) : Abs.Fn Try.prog 76 [.vs 13 (List.map eGVar a0), .vs 13 (List.map eGVar a1), .fn q2_f q2_c] [.p (.bool r)] := by
  unfold slices_EqualFunc_api_Var at hF
  refine fn_of_body (n := 32) Try.func76 rfl rfl rfl ?_
  intro w O
  refine aw_seq ?_
  refine aw_region ?_
  refine ras ?_
  refine reg_nil ?_
  refine post_imp (s' := ⟨32, [(0, some (.pv (.vs 13 (List.map eGVar a0)))), (1, some (.pv (.vs 13 (List.map eGVar a1)))), (2, some (.pv (.fn q2_f q2_c)))], [], 0, [], [], 0, []⟩) (imps [] ⟨by kernel_rfl, by kernel_rfl, by kernel_rfl, trivial⟩ trivial) ?_
  refine post_next ?_
  iterate 2 (refine aw_seq ?_)
  refine aw_region ?_
  refine rmv ?_
  refine reg_cons (guard_no rfl) (op_len_vs (n := a0.length) rfl rfl (List.length_map ..) Try_slc_30 rfl rfl) ?_
  refine rmv ?_
  refine reg_cons (guard_no rfl) (op_len_vs (n := a1.length) rfl rfl (List.length_map ..) Try_slc_30 rfl rfl) ?_
  refine reg_cons (guard_no rfl) (op_int (k := .i64) (m := (a0.length : Int)) (n := (a1.length : Int)) rfl rfl rfl rfl rfl rfl) ?_
  refine reg_nil ?_
  refine post_imp (s' := ⟨32, [(0, some (.pv (.vs 13 (List.map eGVar a0)))), (1, some (.pv (.vs 13 (List.map eGVar a1)))), (2, some (.pv (.fn q2_f q2_c))), (14, some (.pv (.bool ((a0.length : Int) != (a1.length : Int)))))], [], 0, [], [], 0, []⟩) (imps [] ⟨by kernel_rfl, by kernel_rfl, by kernel_rfl, by kernel_rfl, trivial⟩ trivial) ?_
  refine post_next ?_
  rcases ite_some hF with ⟨hb1, hF⟩ | ⟨hb1, hF⟩
  · refine aw_cond_t rfl hb1 ?_
    refine aw_seq ?_
    refine aw_region ?_
    refine ras ?_
    refine reg_nil ?_
    refine post_imp (s' := ⟨32, [(6, some (.pv (.bool false)))], [], 0, [], [], 0, []⟩) (imps [] ⟨by kernel_rfl, trivial⟩ trivial) ?_
    refine post_next ?_
    refine aw_ret ?_
    refine post_then_ret ?_
    obtain rfl := Option.some.inj hF
    exact post_ret rfl rfl (.cons _ _ _ _ _ (.tmp _ _ rfl) (.p _) .nil) (.inl rfl)
  refine aw_cond_f rfl hb1 ?_
  refine aw_skip ?_
  refine post_next ?_
  iterate 2 (refine aw_seq ?_)
  refine aw_region ?_
  refine rmv ?_
  refine reg_cons (guard_no rfl) (op_len_vs (n := a0.length) rfl rfl (List.length_map ..) Try_slc_30 rfl rfl) ?_
  refine rmv ?_
  refine reg_nil ?_
  refine post_imp (s' := ⟨32, [(1, some (.pv (.vs 13 (List.map eGVar a1)))), (2, some (.pv (.fn q2_f q2_c))), (15, some (.pv (.vs 13 (List.map eGVar a0)))), (16, some (.pv (.int .i64 (a0.length : Int)))), (17, some (.pv (.int .i64 0)))], [], 0, [], [], 0, []⟩) (imps [] ⟨by kernel_rfl, by kernel_rfl, by kernel_rfl, by kernel_rfl, by kernel_rfl, trivial⟩ trivial) ?_
  refine post_next ?_
  obtain ⟨lr47, hF, hK48⟩ := bind_some hF
  refine aw_for ((((a0.length : Int) : Int) - (0)).toNat + 1) (fun s1 => ∃ q, lr47 = .next q ∧ s1 = ⟨32, [], [], 0, [], [], 0, []⟩) ?_ ?_
  · refine rnd_loop (α := Int) (fun q => ⟨32, [(1, some (.pv (.vs 13 (List.map eGVar a1)))), (2, some (.pv (.fn q2_f q2_c))), (15, some (.pv (.vs 13 (List.map eGVar a0)))), (16, some (.pv (.int .i64 (a0.length : Int)))), (17, some (.pv (.int .i64 q)))], [], 0, [], [], 0, []⟩) (fun k q => slices_EqualFunc_api_Var_L1 a0 a1 q2 k q = some lr47) 0 (imps [] ⟨by kernel_rfl, by kernel_rfl, by kernel_rfl, by kernel_rfl, by kernel_rfl, trivial⟩ trivial) hF (fun q h => by cases h) ?_
    clear hF
    rintro k x16 hF ih
    refine rnd_succ ?_
    refine aw_seq ?_
    refine aw_region ?_
    refine reg_cons (guard_no rfl) (op_int (k := .i64) (m := x16) (n := (a0.length : Int)) rfl rfl rfl rfl rfl rfl) ?_
    refine reg_nil ?_
    refine post_imp (s' := ⟨32, [(1, some (.pv (.vs 13 (List.map eGVar a1)))), (2, some (.pv (.fn q2_f q2_c))), (15, some (.pv (.vs 13 (List.map eGVar a0)))), (16, some (.pv (.int .i64 (a0.length : Int)))), (17, some (.pv (.int .i64 x16))), (18, some (.pv (.bool (decide (x16 < (a0.length : Int))))))], [], 0, [], [], 0, []⟩) (imps [] ⟨by kernel_rfl, by kernel_rfl, by kernel_rfl, by kernel_rfl, by kernel_rfl, by kernel_rfl, trivial⟩ trivial) ?_
    refine post_next ?_
    refine aw_seq ?_
    rcases ite_some hF with ⟨hb32, hF⟩ | ⟨hb32, hF⟩
    · refine aw_cond_t rfl hb32 ?_
      refine aw_skip ?_
      refine post_next ?_
      refine aw_seq ?_
      refine aw_block ?_
      refine aw_seq ?_
      refine aw_region ?_
      refine rmv ?_
      obtain ⟨y35, h36, hF⟩ := bind_some hF
      refine reg_cons (guard_no rfl) (op_index_vs (k := .i64) rfl rfl rfl (idx_map eGVar h36) Try_slc_30 rfl rfl) ?_
      refine reg_cons (guard_no rfl) (op_load_vp_agg (ps := eGVar y35) rfl rfl rfl rfl Try_agg_50 rfl rfl) ?_
      refine reg_cons (guard_no rfl) (op_alloc 0 rfl (ps := (eGVar zGVar)) rfl Try_zer_50 (by exact ⟨rfl, rfl, rfl, rfl, rfl, rfl, rfl, rfl, rfl, rfl, rfl, rfl, rfl, trivial⟩) rfl rfl) ?_
      refine ras ?_
      refine reg_cons (guard_no rfl) (op_store_lp (n := 13) rfl rfl rfl rfl rfl (or_agg Try_agg_50) (by rw [Try_non_50]; rfl) rfl rfl rfl) ?_
      refine reg_nil ?_
      refine post_imp (s' := ⟨32, [(1, some (.pv (.vs 13 (List.map eGVar a1)))), (2, some (.pv (.fn q2_f q2_c))), (7, some (.pv (.int .i64 x16))), (8, some (.lp 0 0)), (15, some (.pv (.vs 13 (List.map eGVar a0)))), (16, some (.pv (.int .i64 (a0.length : Int)))), (17, some (.pv (.int .i64 x16)))], [(0, some (.box 50 (bxv (eGVar y35))))], 1, [], [], 0, []⟩) (imps [0] ⟨by kernel_rfl, by kernel_rfl, by kernel_rfl, by kernel_rfl, by kernel_rfl, by kernel_rfl, by kernel_rfl, trivial⟩ ⟨by kernel_rfl, trivial⟩) ?_
      refine post_next ?_
      refine aw_seq ?_
      refine aw_region ?_
      iterate 2 (refine rmv ?_)
      obtain ⟨y39, h40, hF⟩ := bind_some hF
      refine reg_cons (guard_no rfl) (op_index_vs (k := .i64) rfl rfl rfl (idx_map eGVar h40) Try_slc_30 rfl rfl) ?_
      refine reg_cons (guard_no rfl) (op_load_vp_agg (ps := eGVar y39) rfl rfl rfl rfl Try_agg_50 rfl rfl) ?_
      refine reg_cons (guard_no rfl) (op_alloc 1 rfl (ps := (eGVar zGVar)) rfl Try_zer_50 (by exact ⟨rfl, rfl, rfl, rfl, rfl, rfl, rfl, rfl, rfl, rfl, rfl, rfl, rfl, trivial⟩) rfl rfl) ?_
      refine reg_cons (guard_no rfl) (op_store_lp (n := 13) rfl rfl rfl rfl rfl (or_agg Try_agg_50) (by rw [Try_non_50]; rfl) rfl rfl rfl) ?_
      refine reg_nil ?_
      refine post_imp (s' := ⟨32, [(1, some (.pv (.vs 13 (List.map eGVar a1)))), (2, some (.pv (.fn q2_f q2_c))), (8, some (.lp 0 0)), (9, some (.lp 1 0)), (15, some (.pv (.vs 13 (List.map eGVar a0)))), (16, some (.pv (.int .i64 (a0.length : Int)))), (17, some (.pv (.int .i64 x16)))], [(0, some (.box 50 (bxv (eGVar y35)))), (1, some (.box 50 (bxv (eGVar y39))))], 2, [], [], 0, []⟩) (imps [0, 1] ⟨by kernel_rfl, by kernel_rfl, by kernel_rfl, by kernel_rfl, by kernel_rfl, by kernel_rfl, by kernel_rfl, trivial⟩ ⟨by kernel_rfl, by kernel_rfl, trivial⟩) ?_
      refine post_next ?_
      refine aw_seq ?_
      refine aw_region ?_
      refine rmv ?_
      refine reg_cons (guard_no rfl) (op_load_lp_agg (ps := eGVar y35) rfl rfl rfl rfl rfl rfl Try_agg_50 rfl rfl) ?_
      refine reg_cons (guard_no rfl) (op_load_lp_agg (ps := eGVar y39) rfl rfl rfl rfl rfl rfl Try_agg_50 rfl rfl) ?_
      obtain ⟨y43, h44, hF⟩ := bind_some hF
      refine reg_cons (guard_no rfl) (op_call 2 rfl (caps := q2_c) (args := [.agg (eGVar y35), .agg (eGVar y39)]) (rs := [.p (.bool y43)]) rfl rfl rfl q2_b (q2_h y35 y39 _ h44) rfl rfl rfl) ?_
      refine reg_cons (guard_no rfl) (op_not rfl rfl rfl rfl) ?_
      refine reg_nil ?_
      refine post_imp (s' := ⟨32, [(1, some (.pv (.vs 13 (List.map eGVar a1)))), (2, some (.pv (.fn q2_f q2_c))), (15, some (.pv (.vs 13 (List.map eGVar a0)))), (16, some (.pv (.int .i64 (a0.length : Int)))), (17, some (.pv (.int .i64 x16))), (30, some (.pv (.bool (!y43))))], [], 0, [], [], 0, []⟩) (imps [] ⟨by kernel_rfl, by kernel_rfl, by kernel_rfl, by kernel_rfl, by kernel_rfl, by kernel_rfl, trivial⟩ trivial) ?_
      refine post_next ?_
      rcases ite_some hF with ⟨hb45, hF⟩ | ⟨hb45, hF⟩
      · refine aw_cond_t rfl hb45 ?_
        refine aw_seq ?_
        refine aw_region ?_
        refine ras ?_
        refine reg_nil ?_
        refine post_imp (s' := ⟨32, [(6, some (.pv (.bool false)))], [], 0, [], [], 0, []⟩) (imps [] ⟨by kernel_rfl, trivial⟩ trivial) ?_
        refine post_next ?_
        refine aw_ret ?_
        refine post_block_ret ?_
        iterate 2 (refine post_then_ret ?_)
        refine post_lp_ret ?_
        obtain rfl := Option.some.inj hF
        have hF := elim_stop hK48
        refine post_then_ret ?_
        obtain rfl := Option.some.inj hF
        exact post_ret rfl rfl (.cons _ _ _ _ _ (.tmp _ _ rfl) (.p _) .nil) (.inl rfl)
      refine aw_cond_f rfl hb45 ?_
      refine aw_skip ?_
      refine post_block_normal ?_
      refine post_next ?_
      refine aw_region ?_
      refine reg_cons (guard_no rfl) (op_int (k := .i64) (m := x16) (n := 1) rfl rfl rfl rfl rfl rfl) ?_
      refine rmv ?_
      refine reg_nil ?_
      refine post_round ?_
      exact rnd_back (ih (w_i64 (x16 + 1)) hF) (imps [] ⟨by kernel_rfl, by kernel_rfl, by kernel_rfl, by kernel_rfl, by kernel_rfl, trivial⟩ trivial)
    refine aw_cond_f rfl hb32 ?_
    refine aw_exit ?_
    iterate 2 (refine post_then_exit ?_)
    obtain rfl := Option.some.inj hF
    exact post_lp_break _ ⟨_, rfl, rfl⟩ (imps [] trivial trivial)
  rintro _ ⟨⟨⟩, rfl, rfl⟩
  have hF := elim_next hK48
  clear hK48
  refine post_next ?_
  refine aw_seq ?_
  refine aw_region ?_
  refine ras ?_
  refine reg_nil ?_
  refine post_imp (s' := ⟨32, [(6, some (.pv (.bool true)))], [], 0, [], [], 0, []⟩) (imps [] ⟨by kernel_rfl, trivial⟩ trivial) ?_
  refine post_next ?_
  refine aw_ret ?_
  obtain rfl := Option.some.inj hF
  exact post_ret rfl rfl (.cons _ _ _ _ _ (.tmp _ _ rfl) (.p _) .nil) (.inl rfl)
theorem method_fits_1_ok {a0 : GVar} {a1 : GVar} {r : Bool} (hF : method_fits_1 a0 a1 = some r) : Abs.Fn Try.prog 77 [.agg (eGVar a0), .agg (eGVar a1)] [.p (.bool r)] := by
  unfold method_fits_1 at hF
  refine fn_of_body (n := 10) Try.func77 rfl rfl rfl ?_
  intro w O
  refine aw_seq ?_
  refine aw_region ?_
  refine reg_cons (guard_no rfl) (op_box 0 rfl rfl rfl rfl rfl rfl) ?_
  refine reg_cons (guard_no rfl) (op_box 1 rfl rfl rfl rfl rfl rfl) ?_
  refine ras ?_
  refine reg_nil ?_
  refine post_imp (s' := ⟨10, [(2, some (.lp 0 0)), (3, some (.lp 1 0))], [(0, some (.box 50 (bxv (eGVar a0)))), (1, some (.box 50 (bxv (eGVar a1))))], 2, [], [], 0, []⟩) (imps [0, 1] ⟨by kernel_rfl, by kernel_rfl, trivial⟩ ⟨by kernel_rfl, by kernel_rfl, trivial⟩) ?_
  refine post_next ?_
  refine aw_seq ?_
  refine aw_region ?_
  refine reg_cons (guard_no rfl) (op_field_lp rfl rfl Try_fld_50_1 rfl rfl) ?_
  refine reg_cons (guard_no rfl) (op_load_lp_agg (ps := eGType a0.fType) rfl rfl rfl rfl rfl rfl Try_agg_29 rfl rfl) ?_
  refine reg_cons (guard_no rfl) (op_field_lp rfl rfl Try_fld_50_1 rfl rfl) ?_
  refine reg_cons (guard_no rfl) (op_load_lp_agg (ps := eGType a1.fType) rfl rfl rfl rfl rfl rfl Try_agg_29 rfl rfl) ?_
  obtain ⟨y1, h2, hF⟩ := bind_some hF
  refine reg_cons (guard_no rfl) (op_call 2 rfl (caps := []) (args := [.agg (eGType a0.fType), .agg (eGType a1.fType)]) (rs := [.p (.bool y1)]) rfl rfl rfl Try_cal_21 (method_Alike_ok h2) rfl rfl rfl) ?_
  refine ras ?_
  refine reg_nil ?_
  refine post_imp (s' := ⟨10, [(4, some (.pv (.bool y1)))], [], 0, [], [], 0, []⟩) (imps [] ⟨by kernel_rfl, trivial⟩ trivial) ?_
  refine post_next ?_
  refine aw_ret ?_
  obtain rfl := Option.some.inj hF
  exact post_ret rfl rfl (.cons _ _ _ _ _ (.tmp _ _ rfl) (.p _) .nil) (.inl rfl)
theorem method_fits_ok {a0 : GMethod} {a1 : GMethod} {r : Bool} (hF : method_fits a0 a1 = some r) : Abs.Fn Try.prog 51 [.agg (eGMethod a0), .agg (eGMethod a1)] [.p (.bool r)] := by
  unfold method_fits at hF
  refine fn_of_body (n := 26) Try.func51 rfl rfl rfl ?_
  intro w O
  refine aw_seq ?_
  refine aw_region ?_
  refine reg_cons (guard_no rfl) (op_box 0 rfl rfl rfl rfl rfl rfl) ?_
  refine reg_cons (guard_no rfl) (op_box 1 rfl rfl rfl rfl rfl rfl) ?_
  refine ras ?_
  refine reg_nil ?_
  refine post_imp (s' := ⟨26, [(2, some (.lp 0 0)), (3, some (.lp 1 0))], [(0, some (.box 33 (bxv (eGMethod a0)))), (1, some (.box 33 (bxv (eGMethod a1))))], 2, [], [], 0, []⟩) (imps [0, 1] ⟨by kernel_rfl, by kernel_rfl, trivial⟩ ⟨by kernel_rfl, by kernel_rfl, trivial⟩) ?_
  refine post_next ?_
  refine aw_seq ?_
  refine aw_region ?_
  refine reg_cons (guard_no rfl) (op_field_lp rfl rfl Try_fld_33_1 rfl rfl) ?_
  refine reg_cons (guard_no rfl) (op_load_lp (v := .pv (.bool a0.fPure)) rfl rfl rfl rfl Try_one_4 rfl rfl) ?_
  refine rmv ?_
  rcases ite_some hF with ⟨hb1, hF⟩ | ⟨hb1, hF⟩
  · refine rgo_t hb1 ?_
    iterate 2 (refine rgo_t hb1 ?_)
    refine rpt hb1 ?_
    refine rmv ?_
    refine reg_cons (guard_on rfl rfl rfl rfl rfl) (op_field_lp rfl rfl Try_fld_33_2 rfl rfl) ?_
    refine reg_cons (guard_on rfl rfl rfl rfl rfl) (op_load_lp_agg (ps := eGType a0.fRet) rfl rfl rfl rfl rfl rfl Try_agg_29 rfl rfl) ?_
    refine reg_cons (guard_on rfl rfl rfl rfl rfl) (op_field_lp rfl rfl Try_fld_33_2 rfl rfl) ?_
    refine reg_cons (guard_on rfl rfl rfl rfl rfl) (op_load_lp_agg (ps := eGType a1.fRet) rfl rfl rfl rfl rfl rfl Try_agg_29 rfl rfl) ?_
    obtain ⟨y2, h3, hF⟩ := bind_some hF
    refine reg_cons (guard_on rfl rfl rfl rfl rfl) (op_call 2 rfl (caps := []) (args := [.agg (eGType a0.fRet), .agg (eGType a1.fRet)]) (rs := [.p (.bool y2)]) rfl rfl rfl Try_cal_21 (method_Alike_ok h3) rfl rfl rfl) ?_
    refine rpt rfl ?_
    refine rmv ?_
    rcases ite_some hF with ⟨hb4, hF⟩ | ⟨hb4, hF⟩
    · refine reg_cons (guard_on rfl rfl rfl rfl hb4) (op_field_lp rfl rfl Try_fld_33_3 rfl rfl) ?_
      refine reg_cons (guard_on rfl rfl rfl rfl hb4) (op_load_lp (v := .pv (.vs 13 (List.map eGVar a0.fParams))) rfl rfl rfl rfl Try_one_30 rfl rfl) ?_
      refine reg_cons (guard_on rfl rfl rfl rfl hb4) (op_field_lp rfl rfl Try_fld_33_3 rfl rfl) ?_
      refine reg_cons (guard_on rfl rfl rfl rfl hb4) (op_load_lp (v := .pv (.vs 13 (List.map eGVar a1.fParams))) rfl rfl rfl rfl Try_one_30 rfl rfl) ?_
      obtain ⟨y7, h8, hF⟩ := bind_some hF
      refine reg_cons (guard_on rfl rfl rfl rfl hb4) (op_call 2 rfl (caps := []) (args := [.vs 13 (List.map eGVar a0.fParams), .vs 13 (List.map eGVar a1.fParams), .fn 77 []]) (rs := [.p (.bool y7)]) rfl rfl rfl Try_cal_76 (slices_EqualFunc_api_Var_ok (q2_f := 77) (q2_c := []) (q2_b := Try_cal_77) (q2_h := fun _ _ r h => (method_fits_1_ok h)) h8) rfl rfl rfl) ?_
      refine rpt hb4 ?_
      refine ras ?_
      refine reg_nil ?_
      refine post_imp (s' := ⟨26, [(4, some (.pv (.bool y7)))], [], 0, [], [], 0, []⟩) (imps [] ⟨by kernel_rfl, trivial⟩ trivial) ?_
      refine post_next ?_
      refine aw_ret ?_
      obtain rfl := Option.some.inj hF
      exact post_ret rfl rfl (.cons _ _ _ _ _ (.tmp _ _ rfl) (.p _) .nil) (.inl rfl)
    iterate 5 (refine rgo_f hb4 ?_)
    refine rpf hb4 ?_
    refine ras ?_
    refine reg_nil ?_
    refine post_imp (s' := ⟨26, [(4, some (.pv (.bool false)))], [], 0, [], [], 0, []⟩) (imps [] ⟨by kernel_rfl, trivial⟩ trivial) ?_
    refine post_next ?_
    refine aw_ret ?_
    obtain rfl := Option.some.inj hF
    exact post_ret rfl rfl (.cons _ _ _ _ _ (.tmp _ _ rfl) (.p _) .nil) (.inl rfl)
  refine reg_cons (guard_on rfl rfl rfl rfl hb1) (op_field_lp rfl rfl Try_fld_33_1 rfl rfl) ?_
  refine reg_cons (guard_on rfl rfl rfl rfl hb1) (op_load_lp (v := .pv (.bool a1.fPure)) rfl rfl rfl rfl Try_one_4 rfl rfl) ?_
  refine reg_cons (guard_on rfl rfl rfl rfl hb1) (op_not rfl rfl rfl rfl) ?_
  refine rpf hb1 ?_
  refine rmv ?_
  rcases ite_some hF with ⟨hb9, hF⟩ | ⟨hb9, hF⟩
  · refine reg_cons (guard_on rfl rfl rfl rfl hb9) (op_field_lp rfl rfl Try_fld_33_2 rfl rfl) ?_
    refine reg_cons (guard_on rfl rfl rfl rfl hb9) (op_load_lp_agg (ps := eGType a0.fRet) rfl rfl rfl rfl rfl rfl Try_agg_29 rfl rfl) ?_
    refine reg_cons (guard_on rfl rfl rfl rfl hb9) (op_field_lp rfl rfl Try_fld_33_2 rfl rfl) ?_
    refine reg_cons (guard_on rfl rfl rfl rfl hb9) (op_load_lp_agg (ps := eGType a1.fRet) rfl rfl rfl rfl rfl rfl Try_agg_29 rfl rfl) ?_
    obtain ⟨y10, h11, hF⟩ := bind_some hF
    refine reg_cons (guard_on rfl rfl rfl rfl hb9) (op_call 2 rfl (caps := []) (args := [.agg (eGType a0.fRet), .agg (eGType a1.fRet)]) (rs := [.p (.bool y10)]) rfl rfl rfl Try_cal_21 (method_Alike_ok h11) rfl rfl rfl) ?_
    refine rpt hb9 ?_
    refine rmv ?_
    rcases ite_some hF with ⟨hb12, hF⟩ | ⟨hb12, hF⟩
    · refine reg_cons (guard_on rfl rfl rfl rfl hb12) (op_field_lp rfl rfl Try_fld_33_3 rfl rfl) ?_
      refine reg_cons (guard_on rfl rfl rfl rfl hb12) (op_load_lp (v := .pv (.vs 13 (List.map eGVar a0.fParams))) rfl rfl rfl rfl Try_one_30 rfl rfl) ?_
      refine reg_cons (guard_on rfl rfl rfl rfl hb12) (op_field_lp rfl rfl Try_fld_33_3 rfl rfl) ?_
      refine reg_cons (guard_on rfl rfl rfl rfl hb12) (op_load_lp (v := .pv (.vs 13 (List.map eGVar a1.fParams))) rfl rfl rfl rfl Try_one_30 rfl rfl) ?_
      obtain ⟨y15, h16, hF⟩ := bind_some hF
      refine reg_cons (guard_on rfl rfl rfl rfl hb12) (op_call 2 rfl (caps := []) (args := [.vs 13 (List.map eGVar a0.fParams), .vs 13 (List.map eGVar a1.fParams), .fn 77 []]) (rs := [.p (.bool y15)]) rfl rfl rfl Try_cal_76 (slices_EqualFunc_api_Var_ok (q2_f := 77) (q2_c := []) (q2_b := Try_cal_77) (q2_h := fun _ _ r h => (method_fits_1_ok h)) h16) rfl rfl rfl) ?_
      refine rpt hb12 ?_
      refine ras ?_
      refine reg_nil ?_
      refine post_imp (s' := ⟨26, [(4, some (.pv (.bool y15)))], [], 0, [], [], 0, []⟩) (imps [] ⟨by kernel_rfl, trivial⟩ trivial) ?_
      refine post_next ?_
      refine aw_ret ?_
      obtain rfl := Option.some.inj hF
      exact post_ret rfl rfl (.cons _ _ _ _ _ (.tmp _ _ rfl) (.p _) .nil) (.inl rfl)
    iterate 5 (refine rgo_f hb12 ?_)
    refine rpf hb12 ?_
    refine ras ?_
    refine reg_nil ?_
    refine post_imp (s' := ⟨26, [(4, some (.pv (.bool false)))], [], 0, [], [], 0, []⟩) (imps [] ⟨by kernel_rfl, trivial⟩ trivial) ?_
    refine post_next ?_
    refine aw_ret ?_
    obtain rfl := Option.some.inj hF
    exact post_ret rfl rfl (.cons _ _ _ _ _ (.tmp _ _ rfl) (.p _) .nil) (.inl rfl)
  iterate 5 (refine rgo_f hb9 ?_)
  refine rpf hb9 ?_
  refine rmv ?_
  iterate 5 (refine rgo_f rfl ?_)
  refine rpf rfl ?_
  refine ras ?_
  refine reg_nil ?_
  refine post_imp (s' := ⟨26, [(4, some (.pv (.bool false)))], [], 0, [], [], 0, []⟩) (imps [] ⟨by kernel_rfl, trivial⟩ trivial) ?_
  refine post_next ?_
  refine aw_ret ?_
  obtain rfl := Option.some.inj hF
  exact post_ret rfl rfl (.cons _ _ _ _ _ (.tmp _ _ rfl) (.p _) .nil) (.inl rfl)
theorem method_Check_ok {a0 : List GClass} {r : GFault} (hF : method_Check a0 = some r) : Abs.Fn Try.prog 19 [.vs 7 (List.map eGClass a0)] [.p (.agg (eGFault r))] := by
  unfold method_Check at hF
  refine fn_of_body (n := 45) Try.func19 rfl rfl rfl ?_
  intro w O
  refine aw_seq ?_
  refine aw_region ?_
  refine reg_cons (guard_no rfl) (op_alloc 0 rfl (ps := (eGFault zGFault)) rfl Try_zer_46 (by exact ⟨rfl, rfl, trivial⟩) rfl rfl) ?_
  refine reg_nil ?_
  refine post_imp (s' := ⟨45, [(0, some (.pv (.vs 7 (List.map eGClass a0)))), (2, some (.lp 0 0))], [(0, some (.box 46 (bxv (eGFault zGFault))))], 1, [], [], 0, []⟩) (imps [0] ⟨by kernel_rfl, by kernel_rfl, trivial⟩ ⟨by kernel_rfl, trivial⟩) ?_
  refine post_next ?_
  iterate 2 (refine aw_seq ?_)
  refine aw_region ?_
  refine rmv ?_
  refine reg_cons (guard_no rfl) (op_len_vs (n := a0.length) rfl rfl (List.length_map ..) Try_slc_22 rfl rfl) ?_
  refine rmv ?_
  refine reg_nil ?_
  refine post_imp (s' := ⟨45, [(0, some (.pv (.vs 7 (List.map eGClass a0)))), (2, some (.lp 0 0)), (9, some (.pv (.vs 7 (List.map eGClass a0)))), (10, some (.pv (.int .i64 (a0.length : Int)))), (11, some (.pv (.int .i64 0)))], [(0, some (.box 46 (bxv (eGFault zGFault))))], 1, [], [], 0, []⟩) (imps [0] ⟨by kernel_rfl, by kernel_rfl, by kernel_rfl, by kernel_rfl, by kernel_rfl, trivial⟩ ⟨by kernel_rfl, trivial⟩) ?_
  refine post_next ?_
  obtain ⟨lr178, hF, hK179⟩ := bind_some hF
  refine aw_for ((((a0.length : Int) : Int) - (0)).toNat + 1) (fun s1 => ∃ q, lr178 = .next q ∧ s1 = ⟨45, [(2, some (.lp 0 0))], [(0, some (.box 46 (bxv (eGFault zGFault))))], 1, [], [], 0, []⟩) ?_ ?_
  · refine rnd_loop (α := Int) (fun q => ⟨45, [(0, some (.pv (.vs 7 (List.map eGClass a0)))), (2, some (.lp 0 0)), (9, some (.pv (.vs 7 (List.map eGClass a0)))), (10, some (.pv (.int .i64 (a0.length : Int)))), (11, some (.pv (.int .i64 q)))], [(0, some (.box 46 (bxv (eGFault zGFault))))], 1, [], [], 0, []⟩) (fun k q => method_Check_L1 a0 k q = some lr178) 0 (imps [0] ⟨by kernel_rfl, by kernel_rfl, by kernel_rfl, by kernel_rfl, by kernel_rfl, trivial⟩ ⟨by kernel_rfl, trivial⟩) hF (fun q h => by cases h) ?_
    clear hF
    rintro k x59 hF ih
    refine rnd_succ ?_
    refine aw_seq ?_
    refine aw_region ?_
    refine reg_cons (guard_no rfl) (op_int (k := .i64) (m := x59) (n := (a0.length : Int)) rfl rfl rfl rfl rfl rfl) ?_
    refine reg_nil ?_
    refine post_imp (s' := ⟨45, [(0, some (.pv (.vs 7 (List.map eGClass a0)))), (2, some (.lp 0 0)), (9, some (.pv (.vs 7 (List.map eGClass a0)))), (10, some (.pv (.int .i64 (a0.length : Int)))), (11, some (.pv (.int .i64 x59))), (12, some (.pv (.bool (decide (x59 < (a0.length : Int))))))], [(0, some (.box 46 (bxv (eGFault zGFault))))], 1, [], [], 0, []⟩) (imps [0] ⟨by kernel_rfl, by kernel_rfl, by kernel_rfl, by kernel_rfl, by kernel_rfl, by kernel_rfl, trivial⟩ ⟨by kernel_rfl, trivial⟩) ?_
    refine post_next ?_
    refine aw_seq ?_
    rcases ite_some hF with ⟨hb119, hF⟩ | ⟨hb119, hF⟩
    · refine aw_cond_t rfl hb119 ?_
      refine aw_skip ?_
      refine post_next ?_
      refine aw_seq ?_
      refine aw_block ?_
      refine aw_seq ?_
      refine aw_region ?_
      obtain ⟨y122, h123, hF⟩ := bind_some hF
      refine reg_cons (guard_no rfl) (op_index_vs (k := .i64) rfl rfl rfl (idx_map eGClass h123) Try_slc_22 rfl rfl) ?_
      refine reg_cons (guard_no rfl) (op_load_vp_agg (ps := eGClass y122) rfl rfl rfl rfl Try_agg_56 rfl rfl) ?_
      refine reg_cons (guard_no rfl) (op_alloc 1 rfl (ps := (eGClass zGClass)) rfl Try_zer_56 (by exact ⟨rfl, trivial, rfl, trivial, trivial, trivial, rfl, trivial⟩) rfl rfl) ?_
      refine reg_cons (guard_no rfl) (op_store_lp (n := 7) rfl rfl rfl rfl rfl (or_agg Try_agg_56) (by rw [Try_non_56]; rfl) rfl rfl rfl) ?_
      refine reg_nil ?_
      refine post_imp (s' := ⟨45, [(0, some (.pv (.vs 7 (List.map eGClass a0)))), (2, some (.lp 0 0)), (4, some (.lp 1 0)), (9, some (.pv (.vs 7 (List.map eGClass a0)))), (10, some (.pv (.int .i64 (a0.length : Int)))), (11, some (.pv (.int .i64 x59)))], [(0, some (.box 46 (bxv (eGFault zGFault)))), (1, some (.box 56 (bxv (eGClass y122))))], 2, [], [], 0, []⟩) (imps [0, 1] ⟨by kernel_rfl, by kernel_rfl, by kernel_rfl, by kernel_rfl, by kernel_rfl, by kernel_rfl, trivial⟩ ⟨by kernel_rfl, by kernel_rfl, trivial⟩) ?_
      refine post_next ?_
      refine aw_seq ?_
      refine aw_region ?_
      refine reg_cons (guard_no rfl) (op_field_lp rfl rfl Try_fld_56_5 rfl rfl) ?_
      refine reg_cons (guard_no rfl) (op_load_lp (v := .pv (.vs 17 (List.map eGMethod y122.fMethods))) rfl rfl rfl rfl Try_one_54 rfl rfl) ?_
      refine reg_cons (guard_no rfl) (op_len_vs (n := y122.fMethods.length) rfl rfl (List.length_map ..) Try_slc_54 rfl rfl) ?_
      refine rmv ?_
      refine reg_nil ?_
      refine post_imp (s' := ⟨45, [(0, some (.pv (.vs 7 (List.map eGClass a0)))), (2, some (.lp 0 0)), (4, some (.lp 1 0)), (9, some (.pv (.vs 7 (List.map eGClass a0)))), (10, some (.pv (.int .i64 (a0.length : Int)))), (11, some (.pv (.int .i64 x59))), (16, some (.pv (.vs 17 (List.map eGMethod y122.fMethods)))), (17, some (.pv (.int .i64 (y122.fMethods.length : Int)))), (18, some (.pv (.int .i64 0)))], [(0, some (.box 46 (bxv (eGFault zGFault)))), (1, some (.box 56 (bxv (eGClass y122))))], 2, [], [], 0, []⟩) (imps [0, 1] ⟨by kernel_rfl, by kernel_rfl, by kernel_rfl, by kernel_rfl, by kernel_rfl, by kernel_rfl, by kernel_rfl, by kernel_rfl, by kernel_rfl, trivial⟩ ⟨by kernel_rfl, by kernel_rfl, trivial⟩) ?_
      refine post_next ?_
      obtain ⟨lr175, hF, hK176⟩ := bind_some hF
      refine aw_for ((((y122.fMethods.length : Int) : Int) - (0)).toNat + 1) (fun s1 => ∃ q, lr175 = .next q ∧ s1 = ⟨45, [(0, some (.pv (.vs 7 (List.map eGClass a0)))), (2, some (.lp 0 0)), (9, some (.pv (.vs 7 (List.map eGClass a0)))), (10, some (.pv (.int .i64 (a0.length : Int)))), (11, some (.pv (.int .i64 x59)))], [(0, some (.box 46 (bxv (eGFault zGFault))))], 1, [], [], 0, []⟩) ?_ ?_
      · refine rnd_loop (α := Int) (fun q => ⟨45, [(0, some (.pv (.vs 7 (List.map eGClass a0)))), (2, some (.lp 0 0)), (4, some (.lp 1 0)), (9, some (.pv (.vs 7 (List.map eGClass a0)))), (10, some (.pv (.int .i64 (a0.length : Int)))), (11, some (.pv (.int .i64 x59))), (16, some (.pv (.vs 17 (List.map eGMethod y122.fMethods)))), (17, some (.pv (.int .i64 (y122.fMethods.length : Int)))), (18, some (.pv (.int .i64 q)))], [(0, some (.box 46 (bxv (eGFault zGFault)))), (1, some (.box 56 (bxv (eGClass y122))))], 2, [], [], 0, []⟩) (fun k q => method_Check_L2 a0 y122 k q = some lr175) 0 (imps [0, 1] ⟨by kernel_rfl, by kernel_rfl, by kernel_rfl, by kernel_rfl, by kernel_rfl, by kernel_rfl, by kernel_rfl, by kernel_rfl, by kernel_rfl, trivial⟩ ⟨by kernel_rfl, by kernel_rfl, trivial⟩) hF (fun q h => by cases h) ?_
        clear hF
        rintro k x140 hF ih
        refine rnd_succ ?_
        refine aw_seq ?_
        refine aw_region ?_
        refine reg_cons (guard_no rfl) (op_int (k := .i64) (m := x140) (n := (y122.fMethods.length : Int)) rfl rfl rfl rfl rfl rfl) ?_
        refine reg_nil ?_
        refine post_imp (s' := ⟨45, [(0, some (.pv (.vs 7 (List.map eGClass a0)))), (2, some (.lp 0 0)), (4, some (.lp 1 0)), (9, some (.pv (.vs 7 (List.map eGClass a0)))), (10, some (.pv (.int .i64 (a0.length : Int)))), (11, some (.pv (.int .i64 x59))), (16, some (.pv (.vs 17 (List.map eGMethod y122.fMethods)))), (17, some (.pv (.int .i64 (y122.fMethods.length : Int)))), (18, some (.pv (.int .i64 x140))), (19, some (.pv (.bool (decide (x140 < (y122.fMethods.length : Int))))))], [(0, some (.box 46 (bxv (eGFault zGFault)))), (1, some (.box 56 (bxv (eGClass y122))))], 2, [], [], 0, []⟩) (imps [0, 1] ⟨by kernel_rfl, by kernel_rfl, by kernel_rfl, by kernel_rfl, by kernel_rfl, by kernel_rfl, by kernel_rfl, by kernel_rfl, by kernel_rfl, by kernel_rfl, trivial⟩ ⟨by kernel_rfl, by kernel_rfl, trivial⟩) ?_
        refine post_next ?_
        refine aw_seq ?_
        rcases ite_some hF with ⟨hb158, hF⟩ | ⟨hb158, hF⟩
        · refine aw_cond_t rfl hb158 ?_
          refine aw_skip ?_
          refine post_next ?_
          refine aw_seq ?_
          refine aw_block ?_
          refine aw_seq ?_
          refine aw_region ?_
          obtain ⟨y161, h162, hF⟩ := bind_some hF
          refine reg_cons (guard_no rfl) (op_index_vs (k := .i64) rfl rfl rfl (idx_map eGMethod h162) Try_slc_54 rfl rfl) ?_
          refine reg_cons (guard_no rfl) (op_load_vp_agg (ps := eGMethod y161) rfl rfl rfl rfl Try_agg_33 rfl rfl) ?_
          refine reg_cons (guard_no rfl) (op_alloc 2 rfl (ps := (eGMethod zGMethod)) rfl Try_zer_33 (by exact ⟨rfl, rfl, rfl, rfl, rfl, rfl, rfl, rfl, rfl, rfl, rfl, rfl, rfl, trivial, trivial, trivial, rfl, trivial⟩) rfl rfl) ?_
          refine reg_cons (guard_no rfl) (op_store_lp (n := 17) rfl rfl rfl rfl rfl (or_agg Try_agg_33) (by rw [Try_non_33]; rfl) rfl rfl rfl) ?_
          refine reg_nil ?_
          refine post_imp (s' := ⟨45, [(0, some (.pv (.vs 7 (List.map eGClass a0)))), (2, some (.lp 0 0)), (4, some (.lp 1 0)), (6, some (.lp 2 0)), (9, some (.pv (.vs 7 (List.map eGClass a0)))), (10, some (.pv (.int .i64 (a0.length : Int)))), (11, some (.pv (.int .i64 x59))), (16, some (.pv (.vs 17 (List.map eGMethod y122.fMethods)))), (17, some (.pv (.int .i64 (y122.fMethods.length : Int)))), (18, some (.pv (.int .i64 x140)))], [(0, some (.box 46 (bxv (eGFault zGFault)))), (1, some (.box 56 (bxv (eGClass y122)))), (2, some (.box 33 (bxv (eGMethod y161))))], 3, [], [], 0, []⟩) (imps [0, 1, 2] ⟨by kernel_rfl, by kernel_rfl, by kernel_rfl, by kernel_rfl, by kernel_rfl, by kernel_rfl, by kernel_rfl, by kernel_rfl, by kernel_rfl, by kernel_rfl, trivial⟩ ⟨by kernel_rfl, by kernel_rfl, by kernel_rfl, trivial⟩) ?_
          refine post_next ?_
          refine aw_seq ?_
          refine aw_region ?_
          refine rmv ?_
          refine reg_cons (guard_no rfl) (op_field_lp rfl rfl Try_fld_56_0 rfl rfl) ?_
          refine reg_cons (guard_no rfl) (op_load_lp (v := .pv (.str y122.fName)) rfl rfl rfl rfl Try_one_9 rfl rfl) ?_
          refine reg_cons (guard_no rfl) (op_field_lp rfl rfl Try_fld_33_0 rfl rfl) ?_
          refine reg_cons (guard_no rfl) (op_load_lp (v := .pv (.str y161.fName)) rfl rfl rfl rfl Try_one_9 rfl rfl) ?_
          obtain ⟨y165, h166, hF⟩ := bind_some hF
          refine reg_cons (guard_no rfl) (op_call 3 rfl (caps := []) (args := [.vs 7 (List.map eGClass a0), .str y122.fName, .str y161.fName]) (rs := [.p (.agg (eGFound_method y165.1)), .p (.bool y165.2)]) rfl rfl rfl Try_cal_14 (method_Over_ok h166) rfl rfl rfl) ?_
          refine rmv ?_
          iterate 2 (refine reg_cons (guard_no rfl) (op_extract rfl rfl rfl rfl rfl) ?_)
          refine reg_cons (guard_no rfl) (op_alloc 3 rfl (ps := (eGFound_method zGFound_method)) rfl Try_zer_35 (by exact ⟨rfl, rfl, rfl, rfl, rfl, rfl, rfl, rfl, rfl, rfl, rfl, rfl, rfl, rfl, trivial, trivial, trivial, rfl, trivial⟩) rfl rfl) ?_
          refine reg_cons (guard_no rfl) (op_store_lp (n := 18) rfl rfl rfl rfl rfl (or_agg Try_agg_35) (by rw [Try_non_35]; rfl) rfl rfl rfl) ?_
          refine ras ?_
          refine reg_nil ?_
          refine post_imp (s' := ⟨45, [(0, some (.pv (.vs 7 (List.map eGClass a0)))), (2, some (.lp 0 0)), (4, some (.lp 1 0)), (6, some (.lp 2 0)), (7, some (.lp 3 0)), (8, some (.pv (.bool y165.2))), (9, some (.pv (.vs 7 (List.map eGClass a0)))), (10, some (.pv (.int .i64 (a0.length : Int)))), (11, some (.pv (.int .i64 x59))), (16, some (.pv (.vs 17 (List.map eGMethod y122.fMethods)))), (17, some (.pv (.int .i64 (y122.fMethods.length : Int)))), (18, some (.pv (.int .i64 x140)))], [(0, some (.box 46 (bxv (eGFault zGFault)))), (1, some (.box 56 (bxv (eGClass y122)))), (2, some (.box 33 (bxv (eGMethod y161)))), (3, some (.box 35 (bxv (eGFound_method y165.1))))], 4, [], [], 0, []⟩) (imps [0, 1, 2, 3] ⟨by kernel_rfl, by kernel_rfl, by kernel_rfl, by kernel_rfl, by kernel_rfl, by kernel_rfl, by kernel_rfl, by kernel_rfl, by kernel_rfl, by kernel_rfl, by kernel_rfl, by kernel_rfl, trivial⟩ ⟨by kernel_rfl, by kernel_rfl, by kernel_rfl, by kernel_rfl, trivial⟩) ?_
          refine post_next ?_
          refine aw_seq ?_
          obtain ⟨x170, hF, hK172⟩ := bind_some hF
          refine aw_cut (fun s1 => s1 = ⟨45, [(0, some (.pv (.vs 7 (List.map eGClass a0)))), (2, some (.lp 0 0)), (4, some (.lp 1 0)), (6, some (.lp 2 0)), (9, some (.pv (.vs 7 (List.map eGClass a0)))), (10, some (.pv (.int .i64 (a0.length : Int)))), (11, some (.pv (.int .i64 x59))), (16, some (.pv (.vs 17 (List.map eGMethod y122.fMethods)))), (17, some (.pv (.int .i64 (y122.fMethods.length : Int)))), (18, some (.pv (.int .i64 x140))), (38, some (.pv (.bool x170)))], [(0, some (.box 46 (bxv (eGFault zGFault)))), (1, some (.box 56 (bxv (eGClass y122)))), (2, some (.box 33 (bxv (eGMethod y161))))], 3, [], [], 0, []⟩) ?_ ?_
          · refine aw_region ?_
            iterate 2 (refine rmv ?_)
            rcases ite_some hF with ⟨hb167, hF⟩ | ⟨hb167, hF⟩
            · refine reg_cons (guard_on rfl rfl rfl rfl hb167) (op_load_lp_agg (ps := eGMethod y161) rfl rfl rfl rfl rfl rfl Try_agg_33 rfl rfl) ?_
              refine reg_cons (guard_on rfl rfl rfl rfl hb167) (op_field_lp rfl rfl Try_fld_35_1 rfl rfl) ?_
              refine reg_cons (guard_on rfl rfl rfl rfl hb167) (op_load_lp_agg (ps := eGMethod y165.1.fMethod) rfl rfl rfl rfl rfl rfl Try_agg_33 rfl rfl) ?_
              obtain ⟨y168, h169, hF⟩ := bind_some hF
              refine reg_cons (guard_on rfl rfl rfl rfl hb167) (op_call 4 rfl (caps := []) (args := [.agg (eGMethod y161), .agg (eGMethod y165.1.fMethod)]) (rs := [.p (.bool y168)]) rfl rfl rfl Try_cal_51 (method_fits_ok h169) rfl rfl rfl) ?_
              refine reg_cons (guard_on rfl rfl rfl rfl hb167) (op_not rfl rfl rfl rfl) ?_
              refine rpt hb167 ?_
              refine reg_nil ?_
              cases hF
              exact post_cut _ rfl (imps [0, 1, 2] ⟨by kernel_rfl, by kernel_rfl, by kernel_rfl, by kernel_rfl, by kernel_rfl, by kernel_rfl, by kernel_rfl, by kernel_rfl, by kernel_rfl, by kernel_rfl, by kernel_rfl, trivial⟩ ⟨by kernel_rfl, by kernel_rfl, by kernel_rfl, trivial⟩)
            iterate 5 (refine rgo_f hb167 ?_)
            refine rpf hb167 ?_
            refine reg_nil ?_
            cases hF
            exact post_cut _ rfl (imps [0, 1, 2] ⟨by kernel_rfl, by kernel_rfl, by kernel_rfl, by kernel_rfl, by kernel_rfl, by kernel_rfl, by kernel_rfl, by kernel_rfl, by kernel_rfl, by kernel_rfl, by kernel_rfl, trivial⟩ ⟨by kernel_rfl, by kernel_rfl, by kernel_rfl, trivial⟩)
          rintro _ rfl
          have hF := hK172
          clear hK172
          refine post_next ?_
          rcases ite_some hF with ⟨hb173, hF⟩ | ⟨hb173, hF⟩
          · refine aw_cond_t rfl hb173 ?_
            refine aw_seq ?_
            refine aw_region ?_
            refine reg_cons (guard_no rfl) (op_field_lp rfl rfl Try_fld_33_6 rfl rfl) ?_
            refine reg_cons (guard_no rfl) (op_load_lp (v := .pv (.int .i64 y161.fAt)) rfl rfl rfl rfl Try_one_3 rfl rfl) ?_
            refine reg_cons (guard_no rfl) (op_build (zs := (eGFault zGFault)) (r := eGFault ({ fErr := 17, fAt := y161.fAt } : GFault)) rfl Try_zer_46 (by exact ⟨rfl, rfl, trivial⟩) Try_plc_46 rfl rfl rfl rfl) ?_
            refine reg_cons (guard_no rfl) (op_store_lp (n := 2) rfl rfl rfl rfl rfl (or_agg Try_agg_46) (by rw [Try_non_46]; rfl) rfl rfl rfl) ?_
            refine reg_nil ?_
            refine post_imp (s' := ⟨45, [(2, some (.lp 0 0))], [(0, some (.box 46 (bxv (eGFault ({ fErr := 17, fAt := y161.fAt } : GFault)))))], 1, [], [], 0, []⟩) (imps [0] ⟨by kernel_rfl, trivial⟩ ⟨by kernel_rfl, trivial⟩) ?_
            refine post_next ?_
            refine aw_ret ?_
            refine post_block_ret ?_
            iterate 2 (refine post_then_ret ?_)
            refine post_lp_ret ?_
            obtain rfl := Option.some.inj hF
            have hF := elim_stop hK176
            refine post_block_ret ?_
            iterate 2 (refine post_then_ret ?_)
            refine post_lp_ret ?_
            obtain rfl := Option.some.inj hF
            have hF := elim_stop hK179
            refine post_then_ret ?_
            obtain rfl := Option.some.inj hF
            exact post_ret rfl rfl (.cons _ _ _ _ _ (.agg _ _ _ _ _ 2 _ _ rfl rfl Try_agg_46 rfl rfl rfl) (.p _) .nil) (.inl rfl)
          refine aw_cond_f rfl hb173 ?_
          refine aw_skip ?_
          refine post_block_normal ?_
          refine post_next ?_
          refine aw_region ?_
          refine reg_cons (guard_no rfl) (op_int (k := .i64) (m := x140) (n := 1) rfl rfl rfl rfl rfl rfl) ?_
          refine rmv ?_
          refine reg_nil ?_
          refine post_round ?_
          exact rnd_back (ih (w_i64 (x140 + 1)) hF) (imps [0, 1] ⟨by kernel_rfl, by kernel_rfl, by kernel_rfl, by kernel_rfl, by kernel_rfl, by kernel_rfl, by kernel_rfl, by kernel_rfl, by kernel_rfl, trivial⟩ ⟨by kernel_rfl, by kernel_rfl, trivial⟩)
        refine aw_cond_f rfl hb158 ?_
        refine aw_exit ?_
        iterate 2 (refine post_then_exit ?_)
        obtain rfl := Option.some.inj hF
        exact post_lp_break _ ⟨_, rfl, rfl⟩ (imps [0] ⟨by kernel_rfl, by kernel_rfl, by kernel_rfl, by kernel_rfl, by kernel_rfl, trivial⟩ ⟨by kernel_rfl, trivial⟩)
      rintro _ ⟨⟨⟩, rfl, rfl⟩
      have hF := elim_next hK176
      clear hK176
      refine post_block_normal ?_
      refine post_next ?_
      refine aw_region ?_
      refine reg_cons (guard_no rfl) (op_int (k := .i64) (m := x59) (n := 1) rfl rfl rfl rfl rfl rfl) ?_
      refine rmv ?_
      refine reg_nil ?_
      refine post_round ?_
      exact rnd_back (ih (w_i64 (x59 + 1)) hF) (imps [0] ⟨by kernel_rfl, by kernel_rfl, by kernel_rfl, by kernel_rfl, by kernel_rfl, trivial⟩ ⟨by kernel_rfl, trivial⟩)
    refine aw_cond_f rfl hb119 ?_
    refine aw_exit ?_
    iterate 2 (refine post_then_exit ?_)
    obtain rfl := Option.some.inj hF
    exact post_lp_break _ ⟨_, rfl, rfl⟩ (imps [0] ⟨by kernel_rfl, trivial⟩ ⟨by kernel_rfl, trivial⟩)
  rintro _ ⟨⟨⟩, rfl, rfl⟩
  have hF := elim_next hK179
  clear hK179
  refine post_next ?_
  refine aw_seq ?_
  refine aw_region ?_
  refine reg_cons (guard_no rfl) (op_build (zs := (eGFault zGFault)) (r := eGFault ({ fErr := 0, fAt := 0 } : GFault)) rfl Try_zer_46 (by exact ⟨rfl, rfl, trivial⟩) Try_plc_46 rfl rfl rfl rfl) ?_
  refine reg_cons (guard_no rfl) (op_store_lp (n := 2) rfl rfl rfl rfl rfl (or_agg Try_agg_46) (by rw [Try_non_46]; rfl) rfl rfl rfl) ?_
  refine reg_nil ?_
  refine post_imp (s' := ⟨45, [(2, some (.lp 0 0))], [(0, some (.box 46 (bxv (eGFault ({ fErr := 0, fAt := 0 } : GFault)))))], 1, [], [], 0, []⟩) (imps [0] ⟨by kernel_rfl, trivial⟩ ⟨by kernel_rfl, trivial⟩) ?_
  refine post_next ?_
  refine aw_ret ?_
  obtain rfl := Option.some.inj hF
  exact post_ret rfl rfl (.cons _ _ _ _ _ (.agg _ _ _ _ _ 2 _ _ rfl rfl Try_agg_46 rfl rfl rfl) (.p _) .nil) (.inl rfl)
theorem law17_awake_ok  {r : Bool} (hF : law17_awake = some r) : Abs.Fn Try.prog 11 [] [.p (.bool r)] := by
  unfold law17_awake at hF
  refine fn_of_body (n := 23) Try.func11 rfl rfl rfl ?_
  intro w O
  refine aw_seq ?_
  refine aw_region ?_
  refine ras ?_
  refine reg_nil ?_
  refine post_imp (s' := ⟨23, [], [], 0, [], [], 0, []⟩) (imps [] trivial trivial) ?_
  refine post_next ?_
  refine aw_seq ?_
  refine aw_region ?_
  refine reg_cons (guard_no rfl) (op_build (zs := (eGType zGType)) (r := eGType ({ fKind := 1, fClass := [], fN := 0, fOwn := (⟨zGOwner, zGOwner, zGOwner, zGOwner⟩ : A4 GOwner) } : GType)) rfl Try_zer_29 (by exact ⟨rfl, rfl, rfl, rfl, rfl, rfl, rfl, rfl, rfl, rfl, rfl, trivial⟩) Try_plc_29 rfl rfl rfl rfl) ?_
  refine reg_cons (guard_no rfl) (op_build (zs := (eGVar zGVar)) (r := eGVar ({ fName := [120], fType := ({ fKind := 1, fClass := [], fN := 0, fOwn := (⟨zGOwner, zGOwner, zGOwner, zGOwner⟩ : A4 GOwner) } : GType), fAt := 0 } : GVar)) rfl Try_zer_50 (by exact ⟨rfl, rfl, rfl, rfl, rfl, rfl, rfl, rfl, rfl, rfl, rfl, rfl, rfl, trivial⟩) Try_plc_50 rfl rfl rfl rfl) ?_
  refine reg_cons (guard_no rfl) (op_lit (rows := List.map eGVar ([({ fName := [120], fType := ({ fKind := 1, fClass := [], fN := 0, fOwn := (⟨zGOwner, zGOwner, zGOwner, zGOwner⟩ : A4 GOwner) } : GType), fAt := 0 } : GVar)] : List GVar)) (zs := (eGVar zGVar)) rfl rfl Try_slc_30 Try_zer_50 (by exact ⟨rfl, rfl, rfl, rfl, rfl, rfl, rfl, rfl, rfl, rfl, rfl, rfl, rfl, trivial⟩) rfl rfl rfl rfl rfl rfl rfl rfl) ?_
  refine reg_cons (guard_no rfl) (op_build (zs := (eGMethod zGMethod)) (r := eGMethod ({ fName := [109], fPure := false, fRet := zGType, fParams := [({ fName := [120], fType := ({ fKind := 1, fClass := [], fN := 0, fOwn := (⟨zGOwner, zGOwner, zGOwner, zGOwner⟩ : A4 GOwner) } : GType), fAt := 0 } : GVar)], fLocals := [], fBody := [], fAt := 0 } : GMethod)) rfl Try_zer_33 (by exact ⟨rfl, rfl, rfl, rfl, rfl, rfl, rfl, rfl, rfl, rfl, rfl, rfl, rfl, trivial, trivial, trivial, rfl, trivial⟩) Try_plc_33 rfl rfl rfl rfl) ?_
  refine reg_cons (guard_no rfl) (op_lit (rows := List.map eGMethod ([({ fName := [109], fPure := false, fRet := zGType, fParams := [({ fName := [120], fType := ({ fKind := 1, fClass := [], fN := 0, fOwn := (⟨zGOwner, zGOwner, zGOwner, zGOwner⟩ : A4 GOwner) } : GType), fAt := 0 } : GVar)], fLocals := [], fBody := [], fAt := 0 } : GMethod)] : List GMethod)) (zs := (eGMethod zGMethod)) rfl rfl Try_slc_54 Try_zer_33 (by exact ⟨rfl, rfl, rfl, rfl, rfl, rfl, rfl, rfl, rfl, rfl, rfl, rfl, rfl, trivial, trivial, trivial, rfl, trivial⟩) rfl rfl rfl rfl rfl rfl rfl rfl) ?_
  refine reg_cons (guard_no rfl) (op_build (zs := (eGClass zGClass)) (r := eGClass ({ fName := [65], fParams := [], fSuper := [], fAbove := [], fFields := [], fMethods := [({ fName := [109], fPure := false, fRet := zGType, fParams := [({ fName := [120], fType := ({ fKind := 1, fClass := [], fN := 0, fOwn := (⟨zGOwner, zGOwner, zGOwner, zGOwner⟩ : A4 GOwner) } : GType), fAt := 0 } : GVar)], fLocals := [], fBody := [], fAt := 0 } : GMethod)], fAt := 0 } : GClass)) rfl Try_zer_56 (by exact ⟨rfl, trivial, rfl, trivial, trivial, trivial, rfl, trivial⟩) Try_plc_56 rfl rfl rfl rfl) ?_
  refine reg_cons (guard_no rfl) (op_build (zs := (eGMethod zGMethod)) (r := eGMethod ({ fName := [109], fPure := false, fRet := zGType, fParams := [], fLocals := [], fBody := [], fAt := 40 } : GMethod)) rfl Try_zer_33 (by exact ⟨rfl, rfl, rfl, rfl, rfl, rfl, rfl, rfl, rfl, rfl, rfl, rfl, rfl, trivial, trivial, trivial, rfl, trivial⟩) Try_plc_33 rfl rfl rfl rfl) ?_
  refine reg_cons (guard_no rfl) (op_lit (rows := List.map eGMethod ([({ fName := [109], fPure := false, fRet := zGType, fParams := [], fLocals := [], fBody := [], fAt := 40 } : GMethod)] : List GMethod)) (zs := (eGMethod zGMethod)) rfl rfl Try_slc_54 Try_zer_33 (by exact ⟨rfl, rfl, rfl, rfl, rfl, rfl, rfl, rfl, rfl, rfl, rfl, rfl, rfl, trivial, trivial, trivial, rfl, trivial⟩) rfl rfl rfl rfl rfl rfl rfl rfl) ?_
  refine reg_cons (guard_no rfl) (op_build (zs := (eGClass zGClass)) (r := eGClass ({ fName := [66], fParams := [], fSuper := [65], fAbove := [], fFields := [], fMethods := [({ fName := [109], fPure := false, fRet := zGType, fParams := [], fLocals := [], fBody := [], fAt := 40 } : GMethod)], fAt := 0 } : GClass)) rfl Try_zer_56 (by exact ⟨rfl, trivial, rfl, trivial, trivial, trivial, rfl, trivial⟩) Try_plc_56 rfl rfl rfl rfl) ?_
  refine reg_cons (guard_no rfl) (op_lit (rows := List.map eGClass ([({ fName := [65], fParams := [], fSuper := [], fAbove := [], fFields := [], fMethods := [({ fName := [109], fPure := false, fRet := zGType, fParams := [({ fName := [120], fType := ({ fKind := 1, fClass := [], fN := 0, fOwn := (⟨zGOwner, zGOwner, zGOwner, zGOwner⟩ : A4 GOwner) } : GType), fAt := 0 } : GVar)], fLocals := [], fBody := [], fAt := 0 } : GMethod)], fAt := 0 } : GClass), ({ fName := [66], fParams := [], fSuper := [65], fAbove := [], fFields := [], fMethods := [({ fName := [109], fPure := false, fRet := zGType, fParams := [], fLocals := [], fBody := [], fAt := 40 } : GMethod)], fAt := 0 } : GClass)] : List GClass)) (zs := (eGClass zGClass)) rfl rfl Try_slc_22 Try_zer_56 (by exact ⟨rfl, trivial, rfl, trivial, trivial, trivial, rfl, trivial⟩) rfl rfl rfl rfl rfl rfl rfl rfl) ?_
  refine ras ?_
  refine reg_nil ?_
  refine post_imp (s' := ⟨23, [(1, some (.pv (.vs 7 (List.map eGClass [({ fName := [65], fParams := [], fSuper := [], fAbove := [], fFields := [], fMethods := [({ fName := [109], fPure := false, fRet := zGType, fParams := [({ fName := [120], fType := ({ fKind := 1, fClass := [], fN := 0, fOwn := (⟨zGOwner, zGOwner, zGOwner, zGOwner⟩ : A4 GOwner) } : GType), fAt := 0 } : GVar)], fLocals := [], fBody := [], fAt := 0 } : GMethod)], fAt := 0 } : GClass), ({ fName := [66], fParams := [], fSuper := [65], fAbove := [], fFields := [], fMethods := [({ fName := [109], fPure := false, fRet := zGType, fParams := [], fLocals := [], fBody := [], fAt := 40 } : GMethod)], fAt := 0 } : GClass)]))))], [], 0, [], [], 0, []⟩) (imps [] ⟨by kernel_rfl, trivial⟩ trivial) ?_
  refine post_next ?_
  refine aw_seq ?_
  refine aw_region ?_
  refine rmv ?_
  obtain ⟨y1, h2, hF⟩ := bind_some hF
  refine reg_cons (guard_no rfl) (op_call 0 rfl (caps := []) (args := [.vs 7 (List.map eGClass [({ fName := [65], fParams := [], fSuper := [], fAbove := [], fFields := [], fMethods := [({ fName := [109], fPure := false, fRet := zGType, fParams := [({ fName := [120], fType := ({ fKind := 1, fClass := [], fN := 0, fOwn := (⟨zGOwner, zGOwner, zGOwner, zGOwner⟩ : A4 GOwner) } : GType), fAt := 0 } : GVar)], fLocals := [], fBody := [], fAt := 0 } : GMethod)], fAt := 0 } : GClass), ({ fName := [66], fParams := [], fSuper := [65], fAbove := [], fFields := [], fMethods := [({ fName := [109], fPure := false, fRet := zGType, fParams := [], fLocals := [], fBody := [], fAt := 40 } : GMethod)], fAt := 0 } : GClass)])]) (rs := [.p (.agg (eGFault y1))]) rfl rfl rfl Try_cal_19 (method_Check_ok h2) rfl rfl rfl) ?_
  refine reg_cons (guard_no rfl) (op_build (zs := (eGFault zGFault)) (r := eGFault ({ fErr := 17, fAt := 40 } : GFault)) rfl Try_zer_46 (by exact ⟨rfl, rfl, trivial⟩) Try_plc_46 rfl rfl rfl rfl) ?_
  refine reg_cons (guard_no rfl) (op_eqAgg_eql (r := bGFault y1 ({ fErr := 17, fAt := 40 } : GFault)) rfl rfl rfl Try_eqt_46 rfl rfl rfl rfl rfl) ?_
  refine rmv ?_
  rcases ite_some hF with ⟨hb3, hF⟩ | ⟨hb3, hF⟩
  · refine reg_cons (guard_on rfl rfl rfl rfl hb3) (op_move rfl rfl rfl rfl) ?_
    obtain ⟨y4, h5, hF⟩ := bind_some hF
    refine reg_cons (guard_on rfl rfl rfl rfl hb3) (op_slice_vs (nl := none) (nh := (some 1)) (nm := none) rfl rfl rfl rfl rfl (.inl rfl) Try_slc_22 (cut_map (nl := none) (nh := (some 1)) eGClass h5) rfl rfl) ?_
    obtain ⟨y6, h7, hF⟩ := bind_some hF
    refine reg_cons (guard_on rfl rfl rfl rfl hb3) (op_call 0 rfl (caps := []) (args := [.vs 7 (List.map eGClass y4)]) (rs := [.p (.agg (eGFault y6))]) rfl rfl rfl Try_cal_19 (method_Check_ok h7) rfl rfl rfl) ?_
    refine reg_cons (guard_on rfl rfl rfl rfl hb3) (op_build (zs := (eGFault zGFault)) (r := eGFault ({ fErr := 0, fAt := 0 } : GFault)) rfl Try_zer_46 (by exact ⟨rfl, rfl, trivial⟩) Try_plc_46 rfl rfl rfl rfl) ?_
    refine reg_cons (guard_on rfl rfl rfl rfl hb3) (op_eqAgg_eql (r := bGFault y6 ({ fErr := 0, fAt := 0 } : GFault)) rfl rfl rfl Try_eqt_46 rfl rfl rfl rfl rfl) ?_
    refine rpt hb3 ?_
    refine ras ?_
    refine reg_nil ?_
    refine post_imp (s' := ⟨23, [(0, some (.pv (.bool (bGFault y6 ({ fErr := 0, fAt := 0 } : GFault)))))], [], 0, [], [], 0, []⟩) (imps [] ⟨by kernel_rfl, trivial⟩ trivial) ?_
    refine post_next ?_
    refine aw_ret ?_
    obtain rfl := Option.some.inj hF
    exact post_ret rfl rfl (.cons _ _ _ _ _ (.tmp _ _ rfl) (.p _) .nil) (.inl rfl)
  iterate 5 (refine rgo_f hb3 ?_)
  refine rpf hb3 ?_
  refine ras ?_
  refine reg_nil ?_
  refine post_imp (s' := ⟨23, [(0, some (.pv (.bool false)))], [], 0, [], [], 0, []⟩) (imps [] ⟨by kernel_rfl, trivial⟩ trivial) ?_
  refine post_next ?_
  refine aw_ret ?_
  obtain rfl := Option.some.inj hF
  exact post_ret rfl rfl (.cons _ _ _ _ _ (.tmp _ _ rfl) (.p _) .nil) (.inl rfl)
theorem method_Find_ok {a0 : List GClass} {a1 : List UInt8} {a2 : List UInt8} {r : GFound_method × Bool} (hF : method_Find a0 a1 a2 = some r) : Abs.Fn Try.prog 12 [.vs 7 (List.map eGClass a0), .str a1, .str a2] [.p (.agg (eGFound_method r.1)), .p (.bool r.2)] := by
  unfold method_Find at hF
  refine fn_of_body (n := 16) Try.func12 rfl rfl rfl ?_
  intro w O
  refine aw_seq ?_
  refine aw_region ?_
  refine reg_cons (guard_no rfl) (op_alloc 0 rfl (ps := (eGFound_method zGFound_method)) rfl Try_zer_35 (by exact ⟨rfl, rfl, rfl, rfl, rfl, rfl, rfl, rfl, rfl, rfl, rfl, rfl, rfl, rfl, trivial, trivial, trivial, rfl, trivial⟩) rfl rfl) ?_
  refine ras ?_
  refine reg_nil ?_
  refine post_imp (s' := ⟨16, [(0, some (.pv (.vs 7 (List.map eGClass a0)))), (1, some (.pv (.str a1))), (2, some (.pv (.str a2))), (6, some (.lp 0 0))], [(0, some (.box 35 (bxv (eGFound_method zGFound_method))))], 1, [], [], 0, []⟩) (imps [0] ⟨by kernel_rfl, by kernel_rfl, by kernel_rfl, by kernel_rfl, trivial⟩ ⟨by kernel_rfl, trivial⟩) ?_
  refine post_next ?_
  refine aw_seq ?_
  refine aw_region ?_
  iterate 3 (refine rmv ?_)
  obtain ⟨y1, h2, hF⟩ := bind_some hF
  refine reg_cons (guard_no rfl) (op_call 1 rfl (caps := []) (args := [.vs 7 (List.map eGClass a0), .str a1]) (rs := [.p (.vs 1 (List.map eI y1))]) rfl rfl rfl Try_cal_42 (Fn.frozen (above_Chain_ok h2)) rfl rfl rfl) ?_
  refine rmv ?_
  obtain ⟨y3, h4, hF⟩ := bind_some hF
  refine reg_cons (guard_no rfl) (op_call 1 rfl (caps := []) (args := [.vs 7 (List.map eGClass a0), .vs 1 (List.map eI y1), .str a2]) (rs := [.p (.agg (eGFound_method y3.1)), .p (.bool y3.2)]) rfl rfl rfl Try_cal_41 (method_first_ok h4) rfl rfl rfl) ?_
  iterate 2 (refine reg_cons (guard_no rfl) (op_extract rfl rfl rfl rfl rfl) ?_)
  refine reg_cons (guard_no rfl) (op_store_lp (n := 18) rfl rfl rfl rfl rfl (or_agg Try_agg_35) (by rw [Try_non_35]; rfl) rfl rfl rfl) ?_
  refine ras ?_
  refine reg_nil ?_
  refine post_imp (s' := ⟨16, [(6, some (.lp 0 0)), (7, some (.pv (.bool y3.2)))], [(0, some (.box 35 (bxv (eGFound_method y3.1))))], 1, [], [], 0, []⟩) (imps [0] ⟨by kernel_rfl, by kernel_rfl, trivial⟩ ⟨by kernel_rfl, trivial⟩) ?_
  refine post_next ?_
  refine aw_ret ?_
  obtain rfl := Option.some.inj hF
  exact post_ret rfl rfl (.cons _ _ _ _ _ (.agg _ _ _ _ _ 18 _ _ rfl rfl Try_agg_35 rfl rfl rfl) (.p _) (.cons _ _ _ _ _ (.tmp _ _ rfl) (.p _) .nil)) (.inl rfl)
theorem ref13_Find_ok {a0 : List GClass} {a1 : List UInt8} {r : Int} (hF : ref13_Find a0 a1 = some r) : Abs.Fn Try.prog 50 [.vs 7 (List.map eGClass a0), .str a1] [.p (.int .i64 r)] := by
  unfold ref13_Find at hF
  refine fn_of_body (n := 20) Try.func50 rfl rfl rfl ?_
  intro w O
  refine aw_seq ?_
  refine aw_region ?_
  refine ras ?_
  refine reg_nil ?_
  refine post_imp (s' := ⟨20, [(0, some (.pv (.vs 7 (List.map eGClass a0)))), (1, some (.pv (.str a1)))], [], 0, [], [], 0, []⟩) (imps [] ⟨by kernel_rfl, by kernel_rfl, trivial⟩ trivial) ?_
  refine post_next ?_
  iterate 2 (refine aw_seq ?_)
  refine aw_region ?_
  refine ras ?_
  refine reg_nil ?_
  refine post_imp (s' := ⟨20, [(0, some (.pv (.vs 7 (List.map eGClass a0)))), (1, some (.pv (.str a1))), (5, some (.pv (.int .i64 0)))], [], 0, [], [], 0, []⟩) (imps [] ⟨by kernel_rfl, by kernel_rfl, by kernel_rfl, trivial⟩ trivial) ?_
  refine post_next ?_
  obtain ⟨lr22, hF, hK23⟩ := bind_some hF
  refine aw_for ((((a0.length : Int) : Int) - (0)).toNat + 1) (fun s1 => ∃ q, lr22 = .next q ∧ s1 = ⟨20, [], [], 0, [], [], 0, []⟩) ?_ ?_
  · refine rnd_loop (α := Int) (fun q => ⟨20, [(0, some (.pv (.vs 7 (List.map eGClass a0)))), (1, some (.pv (.str a1))), (5, some (.pv (.int .i64 q)))], [], 0, [], [], 0, []⟩) (fun k q => ref13_Find_L1 a0 a1 k q = some lr22) 0 (imps [] ⟨by kernel_rfl, by kernel_rfl, by kernel_rfl, trivial⟩ trivial) hF (fun q h => by cases h) ?_
    clear hF
    rintro k x7 hF ih
    refine rnd_succ ?_
    iterate 2 (refine aw_seq ?_)
    refine aw_region ?_
    iterate 2 (refine rmv ?_)
    refine reg_cons (guard_no rfl) (op_len_vs (n := a0.length) rfl rfl (List.length_map ..) Try_slc_22 rfl rfl) ?_
    refine reg_cons (guard_no rfl) (op_int (k := .i64) (m := x7) (n := (a0.length : Int)) rfl rfl rfl rfl rfl rfl) ?_
    refine reg_nil ?_
    refine post_imp (s' := ⟨20, [(0, some (.pv (.vs 7 (List.map eGClass a0)))), (1, some (.pv (.str a1))), (5, some (.pv (.int .i64 x7))), (9, some (.pv (.bool (decide (x7 < (a0.length : Int))))))], [], 0, [], [], 0, []⟩) (imps [] ⟨by kernel_rfl, by kernel_rfl, by kernel_rfl, by kernel_rfl, trivial⟩ trivial) ?_
    refine post_next ?_
    rcases ite_some hF with ⟨hb15, hF⟩ | ⟨hb15, hF⟩
    · refine aw_cond_t rfl hb15 ?_
      refine aw_skip ?_
      refine post_next ?_
      refine aw_seq ?_
      refine aw_block ?_
      refine aw_seq ?_
      refine aw_region ?_
      iterate 2 (refine rmv ?_)
      obtain ⟨y18, h19, hF⟩ := bind_some hF
      refine reg_cons (guard_no rfl) (op_index_vs (k := .i64) rfl rfl rfl (idx_map eGClass h19) Try_slc_22 rfl rfl) ?_
      refine reg_cons (guard_no rfl) (op_field_vp rfl rfl Try_fld_56_0 rfl rfl) ?_
      refine reg_cons (guard_no rfl) (op_load_vp (p := .str y18.fName) rfl rfl rfl Try_one_9 rfl rfl) ?_
      refine rmv ?_
      refine reg_cons (guard_no rfl) (op_str rfl rfl rfl rfl rfl rfl) ?_
      refine reg_nil ?_
      refine post_imp (s' := ⟨20, [(0, some (.pv (.vs 7 (List.map eGClass a0)))), (1, some (.pv (.str a1))), (5, some (.pv (.int .i64 x7))), (18, some (.pv (.bool (y18.fName == a1))))], [], 0, [], [], 0, []⟩) (imps [] ⟨by kernel_rfl, by kernel_rfl, by kernel_rfl, by kernel_rfl, trivial⟩ trivial) ?_
      refine post_next ?_
      rcases ite_some hF with ⟨hb20, hF⟩ | ⟨hb20, hF⟩
      · refine aw_cond_t rfl hb20 ?_
        refine aw_seq ?_
        refine aw_region ?_
        refine rmv ?_
        refine ras ?_
        refine reg_nil ?_
        refine post_imp (s' := ⟨20, [(4, some (.pv (.int .i64 x7)))], [], 0, [], [], 0, []⟩) (imps [] ⟨by kernel_rfl, trivial⟩ trivial) ?_
        refine post_next ?_
        refine aw_ret ?_
        refine post_block_ret ?_
        iterate 2 (refine post_then_ret ?_)
        refine post_lp_ret ?_
        obtain rfl := Option.some.inj hF
        have hF := elim_stop hK23
        refine post_then_ret ?_
        obtain rfl := Option.some.inj hF
        exact post_ret rfl rfl (.cons _ _ _ _ _ (.tmp _ _ rfl) (.p _) .nil) (.inl rfl)
      refine aw_cond_f rfl hb20 ?_
      refine aw_skip ?_
      refine post_block_normal ?_
      refine post_next ?_
      refine aw_region ?_
      refine rmv ?_
      refine reg_cons (guard_no rfl) (op_int (k := .i64) (m := x7) (n := 1) rfl rfl rfl rfl rfl rfl) ?_
      refine ras ?_
      refine reg_nil ?_
      refine post_round ?_
      exact rnd_back (ih (w_i64 (x7 + 1)) hF) (imps [] ⟨by kernel_rfl, by kernel_rfl, by kernel_rfl, trivial⟩ trivial)
    refine aw_cond_f rfl hb15 ?_
    refine aw_exit ?_
    iterate 2 (refine post_then_exit ?_)
    obtain rfl := Option.some.inj hF
    exact post_lp_break _ ⟨_, rfl, rfl⟩ (imps [] trivial trivial)
  rintro _ ⟨⟨⟩, rfl, rfl⟩
  have hF := elim_next hK23
  clear hK23
  refine post_next ?_
  refine aw_seq ?_
  refine aw_region ?_
  refine ras ?_
  refine reg_nil ?_
  refine post_imp (s' := ⟨20, [(4, some (.pv (.int .i64 (-1))))], [], 0, [], [], 0, []⟩) (imps [] ⟨by kernel_rfl, trivial⟩ trivial) ?_
  refine post_next ?_
  refine aw_ret ?_
  obtain rfl := Option.some.inj hF
  exact post_ret rfl rfl (.cons _ _ _ _ _ (.tmp _ _ rfl) (.p _) .nil) (.inl rfl)
theorem ref14_has_ok {a0 : List Int} {a1 : Int} {r : Bool} (hF : ref14_has a0 a1 = some r) : Abs.Fn Try.prog 49 [.vs 1 (List.map eI a0), .int .i64 a1] [.p (.bool r)] := by
  unfold ref14_has at hF
  refine fn_of_body (n := 18) Try.func49 rfl rfl rfl ?_
  intro w O
  refine aw_seq ?_
  refine aw_region ?_
  refine ras ?_
  refine reg_nil ?_
  refine post_imp (s' := ⟨18, [(0, some (.pv (.vs 1 (List.map eI a0)))), (1, some (.pv (.int .i64 a1)))], [], 0, [], [], 0, []⟩) (imps [] ⟨by kernel_rfl, by kernel_rfl, trivial⟩ trivial) ?_
  refine post_next ?_
  iterate 2 (refine aw_seq ?_)
  refine aw_region ?_
  refine ras ?_
  refine reg_nil ?_
  refine post_imp (s' := ⟨18, [(0, some (.pv (.vs 1 (List.map eI a0)))), (1, some (.pv (.int .i64 a1))), (5, some (.pv (.int .i64 0)))], [], 0, [], [], 0, []⟩) (imps [] ⟨by kernel_rfl, by kernel_rfl, by kernel_rfl, trivial⟩ trivial) ?_
  refine post_next ?_
  obtain ⟨lr22, hF, hK23⟩ := bind_some hF
  refine aw_for ((((a0.length : Int) : Int) - (0)).toNat + 1) (fun s1 => ∃ q, lr22 = .next q ∧ s1 = ⟨18, [], [], 0, [], [], 0, []⟩) ?_ ?_
  · refine rnd_loop (α := Int) (fun q => ⟨18, [(0, some (.pv (.vs 1 (List.map eI a0)))), (1, some (.pv (.int .i64 a1))), (5, some (.pv (.int .i64 q)))], [], 0, [], [], 0, []⟩) (fun k q => ref14_has_L1 a0 a1 k q = some lr22) 0 (imps [] ⟨by kernel_rfl, by kernel_rfl, by kernel_rfl, trivial⟩ trivial) hF (fun q h => by cases h) ?_
    clear hF
    rintro k x7 hF ih
    refine rnd_succ ?_
    iterate 2 (refine aw_seq ?_)
    refine aw_region ?_
    iterate 2 (refine rmv ?_)
    refine reg_cons (guard_no rfl) (op_len_vs (n := a0.length) rfl rfl (List.length_map ..) Try_slc_86 rfl rfl) ?_
    refine reg_cons (guard_no rfl) (op_int (k := .i64) (m := x7) (n := (a0.length : Int)) rfl rfl rfl rfl rfl rfl) ?_
    refine reg_nil ?_
    refine post_imp (s' := ⟨18, [(0, some (.pv (.vs 1 (List.map eI a0)))), (1, some (.pv (.int .i64 a1))), (5, some (.pv (.int .i64 x7))), (9, some (.pv (.bool (decide (x7 < (a0.length : Int))))))], [], 0, [], [], 0, []⟩) (imps [] ⟨by kernel_rfl, by kernel_rfl, by kernel_rfl, by kernel_rfl, trivial⟩ trivial) ?_
    refine post_next ?_
    rcases ite_some hF with ⟨hb15, hF⟩ | ⟨hb15, hF⟩
    · refine aw_cond_t rfl hb15 ?_
      refine aw_skip ?_
      refine post_next ?_
      refine aw_seq ?_
      refine aw_block ?_
      refine aw_seq ?_
      refine aw_region ?_
      iterate 2 (refine rmv ?_)
      obtain ⟨y18, h19, hF⟩ := bind_some hF
      refine reg_cons (guard_no rfl) (op_index_vs (k := .i64) rfl rfl rfl (idx_map eI h19) Try_slc_86 rfl rfl) ?_
      refine reg_cons (guard_no rfl) (op_load_vp (p := .int .i64 y18) rfl rfl rfl Try_one_3 rfl rfl) ?_
      refine rmv ?_
      refine reg_cons (guard_no rfl) (op_int (k := .i64) (m := y18) (n := a1) rfl rfl rfl rfl rfl rfl) ?_
      refine reg_nil ?_
      refine post_imp (s' := ⟨18, [(0, some (.pv (.vs 1 (List.map eI a0)))), (1, some (.pv (.int .i64 a1))), (5, some (.pv (.int .i64 x7))), (17, some (.pv (.bool (y18 == a1))))], [], 0, [], [], 0, []⟩) (imps [] ⟨by kernel_rfl, by kernel_rfl, by kernel_rfl, by kernel_rfl, trivial⟩ trivial) ?_
      refine post_next ?_
      rcases ite_some hF with ⟨hb20, hF⟩ | ⟨hb20, hF⟩
      · refine aw_cond_t rfl hb20 ?_
        refine aw_seq ?_
        refine aw_region ?_
        refine ras ?_
        refine reg_nil ?_
        refine post_imp (s' := ⟨18, [(4, some (.pv (.bool true)))], [], 0, [], [], 0, []⟩) (imps [] ⟨by kernel_rfl, trivial⟩ trivial) ?_
        refine post_next ?_
        refine aw_ret ?_
        refine post_block_ret ?_
        iterate 2 (refine post_then_ret ?_)
        refine post_lp_ret ?_
        obtain rfl := Option.some.inj hF
        have hF := elim_stop hK23
        refine post_then_ret ?_
        obtain rfl := Option.some.inj hF
        exact post_ret rfl rfl (.cons _ _ _ _ _ (.tmp _ _ rfl) (.p _) .nil) (.inl rfl)
      refine aw_cond_f rfl hb20 ?_
      refine aw_skip ?_
      refine post_block_normal ?_
      refine post_next ?_
      refine aw_region ?_
      refine rmv ?_
      refine reg_cons (guard_no rfl) (op_int (k := .i64) (m := x7) (n := 1) rfl rfl rfl rfl rfl rfl) ?_
      refine ras ?_
      refine reg_nil ?_
      refine post_round ?_
      exact rnd_back (ih (w_i64 (x7 + 1)) hF) (imps [] ⟨by kernel_rfl, by kernel_rfl, by kernel_rfl, trivial⟩ trivial)
    refine aw_cond_f rfl hb15 ?_
    refine aw_exit ?_
    iterate 2 (refine post_then_exit ?_)
    obtain rfl := Option.some.inj hF
    exact post_lp_break _ ⟨_, rfl, rfl⟩ (imps [] trivial trivial)
  rintro _ ⟨⟨⟩, rfl, rfl⟩
  have hF := elim_next hK23
  clear hK23
  refine post_next ?_
  refine aw_seq ?_
  refine aw_region ?_
  refine ras ?_
  refine reg_nil ?_
  refine post_imp (s' := ⟨18, [(4, some (.pv (.bool false)))], [], 0, [], [], 0, []⟩) (imps [] ⟨by kernel_rfl, trivial⟩ trivial) ?_
  refine post_next ?_
  refine aw_ret ?_
  obtain rfl := Option.some.inj hF
  exact post_ret rfl rfl (.cons _ _ _ _ _ (.tmp _ _ rfl) (.p _) .nil) (.inl rfl)
end Go.Proofs.Ytahieoaggbmicaa
