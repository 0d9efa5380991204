/- A part of the proof that the law FrameSet gives true for every input. -/
import Derived.Test.YtelohaajmagpbaaFrameSetT
import Derived.Test.YtelohaajmagpbaaFrameSetX
import Derived.Test.YtelohaajmagpbaaFrameSetI
/- Each Go function computes its plain function. -/
namespace Go.Proofs.Ytelohaajmagpbaa
open Go.RowKit Go.Abs
set_option maxRecDepth 100000
set_option maxHeartbeats 4000000
theorem ref10_uniques_ok {a0 : GMethod} {r : Int} (hF : ref10_uniques a0 = some r) : Abs.Fn Try.prog 22 [.agg (eGMethod a0)] [.p (.int .i64 r)] := by
  unfold ref10_uniques at hF
  refine fn_of_body (n := 45) Try.func22 rfl rfl rfl ?_
  intro w O
  refine aw_seq ?_
  refine aw_region ?_
  refine reg_cons (guard_no rfl) (op_box 0 rfl rfl rfl rfl rfl rfl) ?_
  refine ras ?_
  refine reg_nil ?_
  refine post_imp (s' := ⟨45, [(1, some (.lp 0 0))], [(0, some (.box 66 (bxv (eGMethod a0))))], 1, [], [], 0, []⟩) (imps [0] ⟨by kernel_rfl, trivial⟩ ⟨by kernel_rfl, trivial⟩) ?_
  refine post_next ?_
  refine aw_seq ?_
  refine aw_region ?_
  refine ras ?_
  refine reg_nil ?_
  refine post_imp (s' := ⟨45, [(1, some (.lp 0 0)), (3, some (.pv (.int .i64 0)))], [(0, some (.box 66 (bxv (eGMethod a0))))], 1, [], [], 0, []⟩) (imps [0] ⟨by kernel_rfl, by kernel_rfl, trivial⟩ ⟨by kernel_rfl, trivial⟩) ?_
  refine post_next ?_
  iterate 2 (refine aw_seq ?_)
  refine aw_region ?_
  refine ras ?_
  refine reg_nil ?_
  refine post_imp (s' := ⟨45, [(1, some (.lp 0 0)), (3, some (.pv (.int .i64 0))), (4, some (.pv (.int .i64 0)))], [(0, some (.box 66 (bxv (eGMethod a0))))], 1, [], [], 0, []⟩) (imps [0] ⟨by kernel_rfl, by kernel_rfl, by kernel_rfl, trivial⟩ ⟨by kernel_rfl, trivial⟩) ?_
  refine post_next ?_
  obtain ⟨x34, hF, hK35⟩ := bind_some hF
  refine aw_for ((((a0.fParams.length : Int) : Int) - (0)).toNat + 1) (fun s1 => s1 = ⟨45, [(1, some (.lp 0 0)), (3, some (.pv (.int .i64 x34)))], [(0, some (.box 66 (bxv (eGMethod a0))))], 1, [], [], 0, []⟩) ?_ ?_
  · refine rnd_loop (α := Int × Int) (fun q => ⟨45, [(1, some (.lp 0 0)), (3, some (.pv (.int .i64 q.1))), (4, some (.pv (.int .i64 q.2)))], [(0, some (.box 66 (bxv (eGMethod a0))))], 1, [], [], 0, []⟩) (fun k q => ref10_uniques_L1 a0 k q.1 q.2 = some x34) (0, 0) (imps [0] ⟨by kernel_rfl, by kernel_rfl, by kernel_rfl, trivial⟩ ⟨by kernel_rfl, trivial⟩) hF (fun q h => by cases h) ?_
    clear hF
    rintro k ⟨x10, x11⟩ hF ih
    refine rnd_succ ?_
    iterate 2 (refine aw_seq ?_)
    refine aw_region ?_
    refine rmv ?_
    refine reg_cons (guard_no rfl) (op_field_lp rfl rfl Try_fld_66_3 rfl rfl) ?_
    refine reg_cons (guard_no rfl) (op_load_lp (v := .pv (.vs 13 (List.map eGVar a0.fParams))) rfl rfl rfl rfl Try_one_46 rfl rfl) ?_
    refine reg_cons (guard_no rfl) (op_len_vs (n := a0.fParams.length) rfl rfl (List.length_map ..) Try_slc_46 rfl rfl) ?_
    refine reg_cons (guard_no rfl) (op_int (k := .i64) (m := x11) (n := (a0.fParams.length : Int)) rfl rfl rfl rfl rfl rfl) ?_
    refine reg_nil ?_
    refine post_imp (s' := ⟨45, [(1, some (.lp 0 0)), (3, some (.pv (.int .i64 x10))), (4, some (.pv (.int .i64 x11))), (10, some (.pv (.bool (decide (x11 < (a0.fParams.length : Int))))))], [(0, some (.box 66 (bxv (eGMethod a0))))], 1, [], [], 0, []⟩) (imps [0] ⟨by kernel_rfl, by kernel_rfl, by kernel_rfl, by kernel_rfl, trivial⟩ ⟨by kernel_rfl, trivial⟩) ?_
    refine post_next ?_
    rcases ite_some hF with ⟨hb23, hF⟩ | ⟨hb23, hF⟩
    · refine aw_cond_t rfl hb23 ?_
      refine aw_skip ?_
      refine post_next ?_
      refine aw_seq ?_
      obtain ⟨x29, hF, hK31⟩ := bind_some hF
      refine aw_cut (fun s1 => s1 = ⟨45, [(1, some (.lp 0 0)), (3, some (.pv (.int .i64 x29))), (4, some (.pv (.int .i64 x11)))], [(0, some (.box 66 (bxv (eGMethod a0))))], 1, [], [], 0, []⟩) ?_ ?_
      · refine aw_block ?_
        refine aw_seq ?_
        refine aw_region ?_
        refine reg_cons (guard_no rfl) (op_field_lp rfl rfl Try_fld_66_3 rfl rfl) ?_
        refine reg_cons (guard_no rfl) (op_load_lp (v := .pv (.vs 13 (List.map eGVar a0.fParams))) rfl rfl rfl rfl Try_one_46 rfl rfl) ?_
        refine rmv ?_
        obtain ⟨y26, h27, hF⟩ := bind_some hF
        refine reg_cons (guard_no rfl) (op_index_vs (k := .i64) rfl rfl rfl (idx_map eGVar h27) Try_slc_46 rfl rfl) ?_
        refine reg_cons (guard_no rfl) (op_field_vp rfl rfl Try_fld_92_1 rfl rfl) ?_
        refine reg_cons (guard_no rfl) (op_field_vp rfl rfl Try_fld_54_3 rfl rfl) ?_
        refine reg_cons (guard_no rfl) (op_arr_vp (k := .i64) (m := 0) (n := 4) rfl rfl rfl Try_arr_52 rfl rfl rfl rfl) ?_
        refine reg_cons (guard_no rfl) (op_field_vp rfl rfl Try_fld_51_0 rfl rfl) ?_
        refine reg_cons (guard_no rfl) (op_load_vp (p := .int .i64 y26.fType.fOwn.a0.fKind) rfl rfl rfl Try_one_3 rfl rfl) ?_
        refine reg_cons (guard_no rfl) (op_int (k := .i64) (m := y26.fType.fOwn.a0.fKind) (n := 6) rfl rfl rfl rfl rfl rfl) ?_
        refine reg_nil ?_
        refine post_imp (s' := ⟨45, [(1, some (.lp 0 0)), (3, some (.pv (.int .i64 x10))), (4, some (.pv (.int .i64 x11))), (22, some (.pv (.bool (y26.fType.fOwn.a0.fKind == 6))))], [(0, some (.box 66 (bxv (eGMethod a0))))], 1, [], [], 0, []⟩) (imps [0] ⟨by kernel_rfl, by kernel_rfl, by kernel_rfl, by kernel_rfl, trivial⟩ ⟨by kernel_rfl, trivial⟩) ?_
        refine post_next ?_
        rcases ite_some hF with ⟨hb28, hF⟩ | ⟨hb28, hF⟩
        · refine aw_cond_t rfl hb28 ?_
          refine aw_region ?_
          refine rmv ?_
          refine reg_cons (guard_no rfl) (op_int (k := .i64) (m := x10) (n := 1) rfl rfl rfl rfl rfl rfl) ?_
          refine ras ?_
          refine reg_nil ?_
          refine post_imp (s' := ⟨45, [(1, some (.lp 0 0)), (3, some (.pv (.int .i64 (w_i64 (x10 + 1))))), (4, some (.pv (.int .i64 x11)))], [(0, some (.box 66 (bxv (eGMethod a0))))], 1, [], [], 0, []⟩) (imps [0] ⟨by kernel_rfl, by kernel_rfl, by kernel_rfl, trivial⟩ ⟨by kernel_rfl, trivial⟩) ?_
          refine post_block_normal ?_
          cases hF
          exact post_cut _ rfl (imps [0] ⟨by kernel_rfl, by kernel_rfl, by kernel_rfl, trivial⟩ ⟨by kernel_rfl, trivial⟩)
        refine aw_cond_f rfl hb28 ?_
        refine aw_skip ?_
        refine post_block_normal ?_
        cases hF
        exact post_cut _ rfl (imps [0] ⟨by kernel_rfl, by kernel_rfl, by kernel_rfl, trivial⟩ ⟨by kernel_rfl, trivial⟩)
      rintro _ rfl
      have hF := hK31
      clear hK31
      refine post_next ?_
      refine aw_region ?_
      refine rmv ?_
      refine reg_cons (guard_no rfl) (op_int (k := .i64) (m := x11) (n := 1) rfl rfl rfl rfl rfl rfl) ?_
      refine ras ?_
      refine reg_nil ?_
      refine post_round ?_
      exact rnd_back (ih (x29, w_i64 (x11 + 1)) hF) (imps [0] ⟨by kernel_rfl, by kernel_rfl, by kernel_rfl, trivial⟩ ⟨by kernel_rfl, trivial⟩)
    refine aw_cond_f rfl hb23 ?_
    refine aw_exit ?_
    iterate 2 (refine post_then_exit ?_)
    obtain rfl := Option.some.inj hF
    exact post_lp_break _ rfl (imps [0] ⟨by kernel_rfl, by kernel_rfl, trivial⟩ ⟨by kernel_rfl, trivial⟩)
  rintro _ rfl
  have hF := hK35
  clear hK35
  refine post_next ?_
  iterate 2 (refine aw_seq ?_)
  refine aw_region ?_
  refine ras ?_
  refine reg_nil ?_
  refine post_imp (s' := ⟨45, [(1, some (.lp 0 0)), (3, some (.pv (.int .i64 x34))), (5, some (.pv (.int .i64 0)))], [(0, some (.box 66 (bxv (eGMethod a0))))], 1, [], [], 0, []⟩) (imps [0] ⟨by kernel_rfl, by kernel_rfl, by kernel_rfl, trivial⟩ ⟨by kernel_rfl, trivial⟩) ?_
  refine post_next ?_
  obtain ⟨x69, hF, hK70⟩ := bind_some hF
  refine aw_for ((((a0.fLocals.length : Int) : Int) - (0)).toNat + 1) (fun s1 => s1 = ⟨45, [(3, some (.pv (.int .i64 x69)))], [], 0, [], [], 0, []⟩) ?_ ?_
  · refine rnd_loop (α := Int × Int) (fun q => ⟨45, [(1, some (.lp 0 0)), (3, some (.pv (.int .i64 q.1))), (5, some (.pv (.int .i64 q.2)))], [(0, some (.box 66 (bxv (eGMethod a0))))], 1, [], [], 0, []⟩) (fun k q => ref10_uniques_L2 a0 k q.1 q.2 = some x69) (x34, 0) (imps [0] ⟨by kernel_rfl, by kernel_rfl, by kernel_rfl, trivial⟩ ⟨by kernel_rfl, trivial⟩) hF (fun q h => by cases h) ?_
    clear hF
    rintro k ⟨x45, x46⟩ hF ih
    refine rnd_succ ?_
    iterate 2 (refine aw_seq ?_)
    refine aw_region ?_
    refine rmv ?_
    refine reg_cons (guard_no rfl) (op_field_lp rfl rfl Try_fld_66_4 rfl rfl) ?_
    refine reg_cons (guard_no rfl) (op_load_lp (v := .pv (.vs 13 (List.map eGVar a0.fLocals))) rfl rfl rfl rfl Try_one_46 rfl rfl) ?_
    refine reg_cons (guard_no rfl) (op_len_vs (n := a0.fLocals.length) rfl rfl (List.length_map ..) Try_slc_46 rfl rfl) ?_
    refine reg_cons (guard_no rfl) (op_int (k := .i64) (m := x46) (n := (a0.fLocals.length : Int)) rfl rfl rfl rfl rfl rfl) ?_
    refine reg_nil ?_
    refine post_imp (s' := ⟨45, [(1, some (.lp 0 0)), (3, some (.pv (.int .i64 x45))), (5, some (.pv (.int .i64 x46))), (29, some (.pv (.bool (decide (x46 < (a0.fLocals.length : Int))))))], [(0, some (.box 66 (bxv (eGMethod a0))))], 1, [], [], 0, []⟩) (imps [0] ⟨by kernel_rfl, by kernel_rfl, by kernel_rfl, by kernel_rfl, trivial⟩ ⟨by kernel_rfl, trivial⟩) ?_
    refine post_next ?_
    rcases ite_some hF with ⟨hb58, hF⟩ | ⟨hb58, hF⟩
    · refine aw_cond_t rfl hb58 ?_
      refine aw_skip ?_
      refine post_next ?_
      refine aw_seq ?_
      obtain ⟨x64, hF, hK66⟩ := bind_some hF
      refine aw_cut (fun s1 => s1 = ⟨45, [(1, some (.lp 0 0)), (3, some (.pv (.int .i64 x64))), (5, some (.pv (.int .i64 x46)))], [(0, some (.box 66 (bxv (eGMethod a0))))], 1, [], [], 0, []⟩) ?_ ?_
      · refine aw_block ?_
        refine aw_seq ?_
        refine aw_region ?_
        refine reg_cons (guard_no rfl) (op_field_lp rfl rfl Try_fld_66_4 rfl rfl) ?_
        refine reg_cons (guard_no rfl) (op_load_lp (v := .pv (.vs 13 (List.map eGVar a0.fLocals))) rfl rfl rfl rfl Try_one_46 rfl rfl) ?_
        refine rmv ?_
        obtain ⟨y61, h62, hF⟩ := bind_some hF
        refine reg_cons (guard_no rfl) (op_index_vs (k := .i64) rfl rfl rfl (idx_map eGVar h62) Try_slc_46 rfl rfl) ?_
        refine reg_cons (guard_no rfl) (op_field_vp rfl rfl Try_fld_92_1 rfl rfl) ?_
        refine reg_cons (guard_no rfl) (op_field_vp rfl rfl Try_fld_54_3 rfl rfl) ?_
        refine reg_cons (guard_no rfl) (op_arr_vp (k := .i64) (m := 0) (n := 4) rfl rfl rfl Try_arr_52 rfl rfl rfl rfl) ?_
        refine reg_cons (guard_no rfl) (op_field_vp rfl rfl Try_fld_51_0 rfl rfl) ?_
        refine reg_cons (guard_no rfl) (op_load_vp (p := .int .i64 y61.fType.fOwn.a0.fKind) rfl rfl rfl Try_one_3 rfl rfl) ?_
        refine reg_cons (guard_no rfl) (op_int (k := .i64) (m := y61.fType.fOwn.a0.fKind) (n := 6) rfl rfl rfl rfl rfl rfl) ?_
        refine reg_nil ?_
        refine post_imp (s' := ⟨45, [(1, some (.lp 0 0)), (3, some (.pv (.int .i64 x45))), (5, some (.pv (.int .i64 x46))), (41, some (.pv (.bool (y61.fType.fOwn.a0.fKind == 6))))], [(0, some (.box 66 (bxv (eGMethod a0))))], 1, [], [], 0, []⟩) (imps [0] ⟨by kernel_rfl, by kernel_rfl, by kernel_rfl, by kernel_rfl, trivial⟩ ⟨by kernel_rfl, trivial⟩) ?_
        refine post_next ?_
        rcases ite_some hF with ⟨hb63, hF⟩ | ⟨hb63, hF⟩
        · refine aw_cond_t rfl hb63 ?_
          refine aw_region ?_
          refine rmv ?_
          refine reg_cons (guard_no rfl) (op_int (k := .i64) (m := x45) (n := 1) rfl rfl rfl rfl rfl rfl) ?_
          refine ras ?_
          refine reg_nil ?_
          refine post_imp (s' := ⟨45, [(1, some (.lp 0 0)), (3, some (.pv (.int .i64 (w_i64 (x45 + 1))))), (5, some (.pv (.int .i64 x46)))], [(0, some (.box 66 (bxv (eGMethod a0))))], 1, [], [], 0, []⟩) (imps [0] ⟨by kernel_rfl, by kernel_rfl, by kernel_rfl, trivial⟩ ⟨by kernel_rfl, trivial⟩) ?_
          refine post_block_normal ?_
          cases hF
          exact post_cut _ rfl (imps [0] ⟨by kernel_rfl, by kernel_rfl, by kernel_rfl, trivial⟩ ⟨by kernel_rfl, trivial⟩)
        refine aw_cond_f rfl hb63 ?_
        refine aw_skip ?_
        refine post_block_normal ?_
        cases hF
        exact post_cut _ rfl (imps [0] ⟨by kernel_rfl, by kernel_rfl, by kernel_rfl, trivial⟩ ⟨by kernel_rfl, trivial⟩)
      rintro _ rfl
      have hF := hK66
      clear hK66
      refine post_next ?_
      refine aw_region ?_
      refine rmv ?_
      refine reg_cons (guard_no rfl) (op_int (k := .i64) (m := x46) (n := 1) rfl rfl rfl rfl rfl rfl) ?_
      refine ras ?_
      refine reg_nil ?_
      refine post_round ?_
      exact rnd_back (ih (x64, w_i64 (x46 + 1)) hF) (imps [0] ⟨by kernel_rfl, by kernel_rfl, by kernel_rfl, trivial⟩ ⟨by kernel_rfl, trivial⟩)
    refine aw_cond_f rfl hb58 ?_
    refine aw_exit ?_
    iterate 2 (refine post_then_exit ?_)
    obtain rfl := Option.some.inj hF
    exact post_lp_break _ rfl (imps [] ⟨by kernel_rfl, trivial⟩ trivial)
  rintro _ rfl
  have hF := hK70
  clear hK70
  refine post_next ?_
  refine aw_seq ?_
  refine aw_region ?_
  refine rmv ?_
  refine ras ?_
  refine reg_nil ?_
  refine post_imp (s' := ⟨45, [(2, some (.pv (.int .i64 x69)))], [], 0, [], [], 0, []⟩) (imps [] ⟨by kernel_rfl, trivial⟩ trivial) ?_
  refine post_next ?_
  refine aw_ret ?_
  obtain rfl := Option.some.inj hF
  exact post_ret rfl rfl (.cons _ _ _ _ _ (.tmp _ _ rfl) (.p _) .nil) (.inl rfl)
theorem ref10_kids_ring : ∀ n : Nat, (∀ (a0 : GExpr) (a1 : Int) (r : Bool), ref10_kids n a0 a1 = some r → Abs.Fn Try.prog 34 [.agg (eGExpr a0), .int .i64 a1] [.p (.bool r)]) := by
  intro n
  induction n with
  | zero => exact (fun _ _ _ h => by simp [ref10_kids] at h)
  | succ n ih =>
    have ref10_kids_ih := ih
    clear ih
    intro a0 a1 r hF
    unfold ref10_kids at hF
    revert hF ref10_kids_ih
    generalize ref10_kids n = ref10_kids_rec
    intro ref10_kids_ih hF
    refine fn_of_body (n := 29) Try.func34 rfl rfl rfl ?_
    intro w O
    refine aw_seq ?_
    refine aw_region ?_
    refine reg_cons (guard_no rfl) (op_box 0 rfl rfl rfl rfl rfl rfl) ?_
    refine ras ?_
    refine reg_nil ?_
    refine post_imp (s' := ⟨29, [(1, some (.pv (.int .i64 a1))), (2, some (.lp 0 0))], [(0, some (.box 80 (bxv (eGExpr a0))))], 1, [], [], 0, []⟩) (imps [0] ⟨by kernel_rfl, by kernel_rfl, trivial⟩ ⟨by kernel_rfl, trivial⟩) ?_
    refine post_next ?_
    iterate 2 (refine aw_seq ?_)
    obtain ⟨x2, hF, hK4⟩ := bind_some hF
    refine aw_cut (fun s1 => s1 = ⟨29, [(1, some (.pv (.int .i64 a1))), (2, some (.lp 0 0)), (13, some (.pv (.bool x2)))], [(0, some (.box 80 (bxv (eGExpr a0))))], 1, [], [], 0, []⟩) ?_ ?_
    · refine aw_region ?_
      refine rmv ?_
      refine reg_cons (guard_no rfl) (op_int (k := .i64) (m := a1) (n := 0) rfl rfl rfl rfl rfl rfl) ?_
      refine rmv ?_
      rcases ite_some hF with ⟨hb1, hF⟩ | ⟨hb1, hF⟩
      · refine rgo_t hb1 ?_
        iterate 3 (refine rgo_t hb1 ?_)
        refine rpt hb1 ?_
        refine reg_nil ?_
        cases hF
        exact post_cut _ rfl (imps [0] ⟨by kernel_rfl, by kernel_rfl, by kernel_rfl, trivial⟩ ⟨by kernel_rfl, trivial⟩)
      refine reg_cons (guard_on rfl rfl rfl rfl hb1) (op_field_lp rfl rfl Try_fld_80_3 rfl rfl) ?_
      refine reg_cons (guard_on rfl rfl rfl rfl hb1) (op_load_lp (v := .pv (.vs 4 (eLGExpr a0.fKids))) rfl rfl rfl rfl Try_one_78 rfl rfl) ?_
      refine reg_cons (guard_on rfl rfl rfl rfl hb1) (op_len_vs (n := a0.fKids.length) rfl rfl (lenR eLGExpr_map) Try_slc_78 rfl rfl) ?_
      refine reg_cons (guard_on rfl rfl rfl rfl hb1) (op_int (k := .i64) (m := (a0.fKids.length : Int)) (n := 4) rfl rfl rfl rfl rfl rfl) ?_
      refine rpf hb1 ?_
      refine reg_nil ?_
      cases hF
      exact post_cut _ rfl (imps [0] ⟨by kernel_rfl, by kernel_rfl, by kernel_rfl, trivial⟩ ⟨by kernel_rfl, trivial⟩)
    rintro _ rfl
    have hF := hK4
    clear hK4
    refine post_next ?_
    rcases ite_some hF with ⟨hb5, hF⟩ | ⟨hb5, hF⟩
    · refine aw_cond_t rfl hb5 ?_
      refine aw_seq ?_
      refine aw_region ?_
      refine ras ?_
      refine reg_nil ?_
      refine post_imp (s' := ⟨29, [(4, some (.pv (.bool true)))], [], 0, [], [], 0, []⟩) (imps [] ⟨by kernel_rfl, trivial⟩ trivial) ?_
      refine post_next ?_
      refine aw_ret ?_
      refine post_then_ret ?_
      obtain rfl := Option.some.inj hF
      exact post_ret rfl rfl (.cons _ _ _ _ _ (.tmp _ _ rfl) (.p _) .nil) (.inl rfl)
    refine aw_cond_f rfl hb5 ?_
    refine aw_skip ?_
    refine post_next ?_
    iterate 2 (refine aw_seq ?_)
    refine aw_region ?_
    refine ras ?_
    refine reg_nil ?_
    refine post_imp (s' := ⟨29, [(1, some (.pv (.int .i64 a1))), (2, some (.lp 0 0)), (5, some (.pv (.int .i64 0)))], [(0, some (.box 80 (bxv (eGExpr a0))))], 1, [], [], 0, []⟩) (imps [0] ⟨by kernel_rfl, by kernel_rfl, by kernel_rfl, trivial⟩ ⟨by kernel_rfl, trivial⟩) ?_
    refine post_next ?_
    obtain ⟨lr39, hF, hK40⟩ := bind_some hF
    refine aw_for ((((a0.fKids.length : Int) : Int) - (0)).toNat + 1) (fun s1 => ∃ q, lr39 = .next q ∧ s1 = ⟨29, [], [], 0, [], [], 0, []⟩) ?_ ?_
    · refine rnd_loop (α := Int) (fun q => ⟨29, [(1, some (.pv (.int .i64 a1))), (2, some (.lp 0 0)), (5, some (.pv (.int .i64 q)))], [(0, some (.box 80 (bxv (eGExpr a0))))], 1, [], [], 0, []⟩) (fun k q => ref10_kids_L1 a0 a1 ref10_kids_rec k q = some lr39) 0 (imps [0] ⟨by kernel_rfl, by kernel_rfl, by kernel_rfl, trivial⟩ ⟨by kernel_rfl, trivial⟩) hF (fun q h => by cases h) ?_
      clear hF
      rintro k x16 hF ih
      refine rnd_succ ?_
      iterate 2 (refine aw_seq ?_)
      refine aw_region ?_
      refine rmv ?_
      refine reg_cons (guard_no rfl) (op_field_lp rfl rfl Try_fld_80_3 rfl rfl) ?_
      refine reg_cons (guard_no rfl) (op_load_lp (v := .pv (.vs 4 (eLGExpr a0.fKids))) rfl rfl rfl rfl Try_one_78 rfl rfl) ?_
      refine reg_cons (guard_no rfl) (op_len_vs (n := a0.fKids.length) rfl rfl (lenR eLGExpr_map) Try_slc_78 rfl rfl) ?_
      refine reg_cons (guard_no rfl) (op_int (k := .i64) (m := x16) (n := (a0.fKids.length : Int)) rfl rfl rfl rfl rfl rfl) ?_
      refine reg_nil ?_
      refine post_imp (s' := ⟨29, [(1, some (.pv (.int .i64 a1))), (2, some (.lp 0 0)), (5, some (.pv (.int .i64 x16))), (18, some (.pv (.bool (decide (x16 < (a0.fKids.length : Int))))))], [(0, some (.box 80 (bxv (eGExpr a0))))], 1, [], [], 0, []⟩) (imps [0] ⟨by kernel_rfl, by kernel_rfl, by kernel_rfl, by kernel_rfl, trivial⟩ ⟨by kernel_rfl, trivial⟩) ?_
      refine post_next ?_
      rcases ite_some hF with ⟨hb28, hF⟩ | ⟨hb28, hF⟩
      · refine aw_cond_t rfl hb28 ?_
        refine aw_skip ?_
        refine post_next ?_
        refine aw_seq ?_
        refine aw_block ?_
        refine aw_seq ?_
        refine aw_region ?_
        refine reg_cons (guard_no rfl) (op_field_lp rfl rfl Try_fld_80_3 rfl rfl) ?_
        refine reg_cons (guard_no rfl) (op_load_lp (v := .pv (.vs 4 (eLGExpr a0.fKids))) rfl rfl rfl rfl Try_one_78 rfl rfl) ?_
        refine rmv ?_
        obtain ⟨y33, h34, hF⟩ := bind_some hF
        refine reg_cons (guard_no rfl) (op_index_vs (k := .i64) rfl rfl rfl (idxR eLGExpr_map h34) Try_slc_78 rfl rfl) ?_
        refine reg_cons (guard_no rfl) (op_load_vp_agg (ps := eGExpr y33) rfl rfl rfl rfl Try_agg_80 rfl rfl) ?_
        refine rmv ?_
        refine reg_cons (guard_no rfl) (op_int (k := .i64) (m := a1) (n := 1) rfl rfl rfl rfl rfl rfl) ?_
        obtain ⟨y35, h36, hF⟩ := bind_some hF
        refine reg_cons (guard_no rfl) (op_call 1 rfl (caps := []) (args := [.agg (eGExpr y33), .int .i64 (w_i64 (a1 - 1))]) (rs := [.p (.bool y35)]) rfl rfl rfl Try_cal_34 (ref10_kids_ih _ _ _ h36) rfl rfl rfl) ?_
        refine reg_nil ?_
        refine post_imp (s' := ⟨29, [(1, some (.pv (.int .i64 a1))), (2, some (.lp 0 0)), (5, some (.pv (.int .i64 x16))), (28, some (.pv (.bool y35)))], [(0, some (.box 80 (bxv (eGExpr a0))))], 1, [], [], 0, []⟩) (imps [0] ⟨by kernel_rfl, by kernel_rfl, by kernel_rfl, by kernel_rfl, trivial⟩ ⟨by kernel_rfl, trivial⟩) ?_
        refine post_next ?_
        rcases ite_some hF with ⟨hb37, hF⟩ | ⟨hb37, hF⟩
        · refine aw_cond_t rfl hb37 ?_
          refine aw_seq ?_
          refine aw_region ?_
          refine ras ?_
          refine reg_nil ?_
          refine post_imp (s' := ⟨29, [(4, some (.pv (.bool true)))], [], 0, [], [], 0, []⟩) (imps [] ⟨by kernel_rfl, trivial⟩ trivial) ?_
          refine post_next ?_
          refine aw_ret ?_
          refine post_block_ret ?_
          iterate 2 (refine post_then_ret ?_)
          refine post_lp_ret ?_
          obtain rfl := Option.some.inj hF
          have hF := elim_stop hK40
          refine post_then_ret ?_
          obtain rfl := Option.some.inj hF
          exact post_ret rfl rfl (.cons _ _ _ _ _ (.tmp _ _ rfl) (.p _) .nil) (.inl rfl)
        refine aw_cond_f rfl hb37 ?_
        refine aw_skip ?_
        refine post_block_normal ?_
        refine post_next ?_
        refine aw_region ?_
        refine rmv ?_
        refine reg_cons (guard_no rfl) (op_int (k := .i64) (m := x16) (n := 1) rfl rfl rfl rfl rfl rfl) ?_
        refine ras ?_
        refine reg_nil ?_
        refine post_round ?_
        exact rnd_back (ih (w_i64 (x16 + 1)) hF) (imps [0] ⟨by kernel_rfl, by kernel_rfl, by kernel_rfl, trivial⟩ ⟨by kernel_rfl, trivial⟩)
      refine aw_cond_f rfl hb28 ?_
      refine aw_exit ?_
      iterate 2 (refine post_then_exit ?_)
      obtain rfl := Option.some.inj hF
      exact post_lp_break _ ⟨_, rfl, rfl⟩ (imps [] trivial trivial)
    rintro _ ⟨⟨⟩, rfl, rfl⟩
    have hF := elim_next hK40
    clear hK40
    refine post_next ?_
    refine aw_seq ?_
    refine aw_region ?_
    refine ras ?_
    refine reg_nil ?_
    refine post_imp (s' := ⟨29, [(4, some (.pv (.bool false)))], [], 0, [], [], 0, []⟩) (imps [] ⟨by kernel_rfl, trivial⟩ trivial) ?_
    refine post_next ?_
    refine aw_ret ?_
    obtain rfl := Option.some.inj hF
    exact post_ret rfl rfl (.cons _ _ _ _ _ (.tmp _ _ rfl) (.p _) .nil) (.inl rfl)
theorem ref10_kids_ok {n : Nat} {a0 : GExpr} {a1 : Int} {r : Bool} (hF : ref10_kids n a0 a1 = some r) : Abs.Fn Try.prog 34 [.agg (eGExpr a0), .int .i64 a1] [.p (.bool r)] := (ref10_kids_ring n) _ _ _ hF

theorem ref10_much_ring : ∀ n : Nat, (∀ (a0 : GStmt) (a1 : Int) (r : Bool), ref10_much n a0 a1 = some r → Abs.Fn Try.prog 23 [.agg (eGStmt a0), .int .i64 a1] [.p (.bool r)]) := by
  intro n
  induction n with
  | zero => exact (fun _ _ _ h => by simp [ref10_much] at h)
  | succ n ih =>
    have ref10_much_ih := ih
    clear ih
    intro a0 a1 r hF
    unfold ref10_much at hF
    revert hF ref10_much_ih
    generalize ref10_much n = ref10_much_rec
    intro ref10_much_ih hF
    refine fn_of_body (n := 76) Try.func23 rfl rfl rfl ?_
    intro w O
    refine aw_seq ?_
    refine aw_region ?_
    refine reg_cons (guard_no rfl) (op_box 0 rfl rfl rfl rfl rfl rfl) ?_
    refine ras ?_
    refine reg_nil ?_
    refine post_imp (s' := ⟨76, [(1, some (.pv (.int .i64 a1))), (2, some (.lp 0 0))], [(0, some (.box 82 (bxv (eGStmt a0))))], 1, [], [], 0, []⟩) (imps [0] ⟨by kernel_rfl, by kernel_rfl, trivial⟩ ⟨by kernel_rfl, trivial⟩) ?_
    refine post_next ?_
    iterate 2 (refine aw_seq ?_)
    obtain ⟨x7, hF, hK9⟩ := bind_some hF
    refine aw_cut (fun s1 => s1 = ⟨76, [(1, some (.pv (.int .i64 a1))), (2, some (.lp 0 0)), (32, some (.pv (.bool x7)))], [(0, some (.box 82 (bxv (eGStmt a0))))], 1, [], [], 0, []⟩) ?_ ?_
    · refine aw_region ?_
      refine rmv ?_
      refine reg_cons (guard_no rfl) (op_int (k := .i64) (m := a1) (n := 0) rfl rfl rfl rfl rfl rfl) ?_
      refine rmv ?_
      rcases ite_some hF with ⟨hb1, hF⟩ | ⟨hb1, hF⟩
      · refine rgo_t hb1 ?_
        iterate 3 (refine rgo_t hb1 ?_)
        refine rpt hb1 ?_
        refine rmv ?_
        iterate 4 (refine rgo_t rfl ?_)
        refine rpt rfl ?_
        refine rmv ?_
        iterate 4 (refine rgo_t rfl ?_)
        refine rpt rfl ?_
        refine rmv ?_
        iterate 3 (refine rgo_t rfl ?_)
        refine rpt rfl ?_
        refine reg_nil ?_
        cases hF
        exact post_cut _ rfl (imps [0] ⟨by kernel_rfl, by kernel_rfl, by kernel_rfl, trivial⟩ ⟨by kernel_rfl, trivial⟩)
      refine reg_cons (guard_on rfl rfl rfl rfl hb1) (op_field_lp rfl rfl Try_fld_82_7 rfl rfl) ?_
      refine reg_cons (guard_on rfl rfl rfl rfl hb1) (op_load_lp (v := .pv (.vs 23 (eLGStmt a0.fBody))) rfl rfl rfl rfl Try_one_64 rfl rfl) ?_
      refine reg_cons (guard_on rfl rfl rfl rfl hb1) (op_len_vs (n := a0.fBody.length) rfl rfl (lenR eLGStmt_map) Try_slc_64 rfl rfl) ?_
      refine reg_cons (guard_on rfl rfl rfl rfl hb1) (op_int (k := .i64) (m := (a0.fBody.length : Int)) (n := 500) rfl rfl rfl rfl rfl rfl) ?_
      refine rpf hb1 ?_
      refine rmv ?_
      rcases ite_some hF with ⟨hb2, hF⟩ | ⟨hb2, hF⟩
      · refine rgo_t hb2 ?_
        iterate 3 (refine rgo_t hb2 ?_)
        refine rpt hb2 ?_
        refine rmv ?_
        iterate 4 (refine rgo_t rfl ?_)
        refine rpt rfl ?_
        refine rmv ?_
        iterate 3 (refine rgo_t rfl ?_)
        refine rpt rfl ?_
        refine reg_nil ?_
        cases hF
        exact post_cut _ rfl (imps [0] ⟨by kernel_rfl, by kernel_rfl, by kernel_rfl, trivial⟩ ⟨by kernel_rfl, trivial⟩)
      refine reg_cons (guard_on rfl rfl rfl rfl hb2) (op_field_lp rfl rfl Try_fld_82_8 rfl rfl) ?_
      refine reg_cons (guard_on rfl rfl rfl rfl hb2) (op_load_lp (v := .pv (.vs 23 (eLGStmt a0.fElse))) rfl rfl rfl rfl Try_one_64 rfl rfl) ?_
      refine reg_cons (guard_on rfl rfl rfl rfl hb2) (op_len_vs (n := a0.fElse.length) rfl rfl (lenR eLGStmt_map) Try_slc_64 rfl rfl) ?_
      refine reg_cons (guard_on rfl rfl rfl rfl hb2) (op_int (k := .i64) (m := (a0.fElse.length : Int)) (n := 500) rfl rfl rfl rfl rfl rfl) ?_
      refine rpf hb2 ?_
      refine rmv ?_
      rcases ite_some hF with ⟨hb3, hF⟩ | ⟨hb3, hF⟩
      · refine rgo_t hb3 ?_
        iterate 3 (refine rgo_t hb3 ?_)
        refine rpt hb3 ?_
        refine rmv ?_
        iterate 3 (refine rgo_t rfl ?_)
        refine rpt rfl ?_
        refine reg_nil ?_
        cases hF
        exact post_cut _ rfl (imps [0] ⟨by kernel_rfl, by kernel_rfl, by kernel_rfl, trivial⟩ ⟨by kernel_rfl, trivial⟩)
      refine reg_cons (guard_on rfl rfl rfl rfl hb3) (op_field_lp rfl rfl Try_fld_82_6 rfl rfl) ?_
      refine reg_cons (guard_on rfl rfl rfl rfl hb3) (op_load_lp (v := .pv (.vs 4 (eLGExpr a0.fArgs))) rfl rfl rfl rfl Try_one_78 rfl rfl) ?_
      refine reg_cons (guard_on rfl rfl rfl rfl hb3) (op_len_vs (n := a0.fArgs.length) rfl rfl (lenR eLGExpr_map) Try_slc_78 rfl rfl) ?_
      refine reg_cons (guard_on rfl rfl rfl rfl hb3) (op_int (k := .i64) (m := (a0.fArgs.length : Int)) (n := 20) rfl rfl rfl rfl rfl rfl) ?_
      refine rpf hb3 ?_
      refine rmv ?_
      rcases ite_some hF with ⟨hb4, hF⟩ | ⟨hb4, hF⟩
      · refine rgo_t hb4 ?_
        iterate 2 (refine rgo_t hb4 ?_)
        refine rpt hb4 ?_
        refine reg_nil ?_
        cases hF
        exact post_cut _ rfl (imps [0] ⟨by kernel_rfl, by kernel_rfl, by kernel_rfl, trivial⟩ ⟨by kernel_rfl, trivial⟩)
      refine reg_cons (guard_on rfl rfl rfl rfl hb4) (op_field_lp rfl rfl Try_fld_82_5 rfl rfl) ?_
      refine reg_cons (guard_on rfl rfl rfl rfl hb4) (op_load_lp_agg (ps := eGExpr a0.fE) rfl rfl rfl rfl rfl rfl Try_agg_80 rfl rfl) ?_
      obtain ⟨y5, h6, hF⟩ := bind_some hF
      refine reg_cons (guard_on rfl rfl rfl rfl hb4) (op_call 1 rfl (caps := []) (args := [.agg (eGExpr a0.fE), .int .i64 25]) (rs := [.p (.bool y5)]) rfl rfl rfl Try_cal_34 (ref10_kids_ok h6) rfl rfl rfl) ?_
      refine rpf hb4 ?_
      refine reg_nil ?_
      cases hF
      exact post_cut _ rfl (imps [0] ⟨by kernel_rfl, by kernel_rfl, by kernel_rfl, trivial⟩ ⟨by kernel_rfl, trivial⟩)
    rintro _ rfl
    have hF := hK9
    clear hK9
    refine post_next ?_
    rcases ite_some hF with ⟨hb10, hF⟩ | ⟨hb10, hF⟩
    · refine aw_cond_t rfl hb10 ?_
      refine aw_seq ?_
      refine aw_region ?_
      refine ras ?_
      refine reg_nil ?_
      refine post_imp (s' := ⟨76, [(4, some (.pv (.bool true)))], [], 0, [], [], 0, []⟩) (imps [] ⟨by kernel_rfl, trivial⟩ trivial) ?_
      refine post_next ?_
      refine aw_ret ?_
      refine post_then_ret ?_
      obtain rfl := Option.some.inj hF
      exact post_ret rfl rfl (.cons _ _ _ _ _ (.tmp _ _ rfl) (.p _) .nil) (.inl rfl)
    refine aw_cond_f rfl hb10 ?_
    refine aw_skip ?_
    refine post_next ?_
    iterate 2 (refine aw_seq ?_)
    refine aw_region ?_
    refine ras ?_
    refine reg_nil ?_
    refine post_imp (s' := ⟨76, [(1, some (.pv (.int .i64 a1))), (2, some (.lp 0 0)), (5, some (.pv (.int .i64 0)))], [(0, some (.box 82 (bxv (eGStmt a0))))], 1, [], [], 0, []⟩) (imps [0] ⟨by kernel_rfl, by kernel_rfl, by kernel_rfl, trivial⟩ ⟨by kernel_rfl, trivial⟩) ?_
    refine post_next ?_
    obtain ⟨lr44, hF, hK45⟩ := bind_some hF
    refine aw_for ((((a0.fArgs.length : Int) : Int) - (0)).toNat + 1) (fun s1 => ∃ q, lr44 = .next q ∧ s1 = ⟨76, [(1, some (.pv (.int .i64 a1))), (2, some (.lp 0 0))], [(0, some (.box 82 (bxv (eGStmt a0))))], 1, [], [], 0, []⟩) ?_ ?_
    · refine rnd_loop (α := Int) (fun q => ⟨76, [(1, some (.pv (.int .i64 a1))), (2, some (.lp 0 0)), (5, some (.pv (.int .i64 q)))], [(0, some (.box 82 (bxv (eGStmt a0))))], 1, [], [], 0, []⟩) (fun k q => ref10_much_L1 a0 k q = some lr44) 0 (imps [0] ⟨by kernel_rfl, by kernel_rfl, by kernel_rfl, trivial⟩ ⟨by kernel_rfl, trivial⟩) hF (fun q h => by cases h) ?_
      clear hF
      rintro k x21 hF ih
      refine rnd_succ ?_
      iterate 2 (refine aw_seq ?_)
      refine aw_region ?_
      refine rmv ?_
      refine reg_cons (guard_no rfl) (op_field_lp rfl rfl Try_fld_82_6 rfl rfl) ?_
      refine reg_cons (guard_no rfl) (op_load_lp (v := .pv (.vs 4 (eLGExpr a0.fArgs))) rfl rfl rfl rfl Try_one_78 rfl rfl) ?_
      refine reg_cons (guard_no rfl) (op_len_vs (n := a0.fArgs.length) rfl rfl (lenR eLGExpr_map) Try_slc_78 rfl rfl) ?_
      refine reg_cons (guard_no rfl) (op_int (k := .i64) (m := x21) (n := (a0.fArgs.length : Int)) rfl rfl rfl rfl rfl rfl) ?_
      refine reg_nil ?_
      refine post_imp (s' := ⟨76, [(1, some (.pv (.int .i64 a1))), (2, some (.lp 0 0)), (5, some (.pv (.int .i64 x21))), (37, some (.pv (.bool (decide (x21 < (a0.fArgs.length : Int))))))], [(0, some (.box 82 (bxv (eGStmt a0))))], 1, [], [], 0, []⟩) (imps [0] ⟨by kernel_rfl, by kernel_rfl, by kernel_rfl, by kernel_rfl, trivial⟩ ⟨by kernel_rfl, trivial⟩) ?_
      refine post_next ?_
      rcases ite_some hF with ⟨hb33, hF⟩ | ⟨hb33, hF⟩
      · refine aw_cond_t rfl hb33 ?_
        refine aw_skip ?_
        refine post_next ?_
        refine aw_seq ?_
        refine aw_block ?_
        refine aw_seq ?_
        refine aw_region ?_
        refine reg_cons (guard_no rfl) (op_field_lp rfl rfl Try_fld_82_6 rfl rfl) ?_
        refine reg_cons (guard_no rfl) (op_load_lp (v := .pv (.vs 4 (eLGExpr a0.fArgs))) rfl rfl rfl rfl Try_one_78 rfl rfl) ?_
        refine rmv ?_
        obtain ⟨y38, h39, hF⟩ := bind_some hF
        refine reg_cons (guard_no rfl) (op_index_vs (k := .i64) rfl rfl rfl (idxR eLGExpr_map h39) Try_slc_78 rfl rfl) ?_
        refine reg_cons (guard_no rfl) (op_load_vp_agg (ps := eGExpr y38) rfl rfl rfl rfl Try_agg_80 rfl rfl) ?_
        obtain ⟨y40, h41, hF⟩ := bind_some hF
        refine reg_cons (guard_no rfl) (op_call 1 rfl (caps := []) (args := [.agg (eGExpr y38), .int .i64 25]) (rs := [.p (.bool y40)]) rfl rfl rfl Try_cal_34 (ref10_kids_ok h41) rfl rfl rfl) ?_
        refine reg_nil ?_
        refine post_imp (s' := ⟨76, [(1, some (.pv (.int .i64 a1))), (2, some (.lp 0 0)), (5, some (.pv (.int .i64 x21))), (45, some (.pv (.bool y40)))], [(0, some (.box 82 (bxv (eGStmt a0))))], 1, [], [], 0, []⟩) (imps [0] ⟨by kernel_rfl, by kernel_rfl, by kernel_rfl, by kernel_rfl, trivial⟩ ⟨by kernel_rfl, trivial⟩) ?_
        refine post_next ?_
        rcases ite_some hF with ⟨hb42, hF⟩ | ⟨hb42, hF⟩
        · refine aw_cond_t rfl hb42 ?_
          refine aw_seq ?_
          refine aw_region ?_
          refine ras ?_
          refine reg_nil ?_
          refine post_imp (s' := ⟨76, [(4, some (.pv (.bool true)))], [], 0, [], [], 0, []⟩) (imps [] ⟨by kernel_rfl, trivial⟩ trivial) ?_
          refine post_next ?_
          refine aw_ret ?_
          refine post_block_ret ?_
          iterate 2 (refine post_then_ret ?_)
          refine post_lp_ret ?_
          obtain rfl := Option.some.inj hF
          have hF := elim_stop hK45
          refine post_then_ret ?_
          obtain rfl := Option.some.inj hF
          exact post_ret rfl rfl (.cons _ _ _ _ _ (.tmp _ _ rfl) (.p _) .nil) (.inl rfl)
        refine aw_cond_f rfl hb42 ?_
        refine aw_skip ?_
        refine post_block_normal ?_
        refine post_next ?_
        refine aw_region ?_
        refine rmv ?_
        refine reg_cons (guard_no rfl) (op_int (k := .i64) (m := x21) (n := 1) rfl rfl rfl rfl rfl rfl) ?_
        refine ras ?_
        refine reg_nil ?_
        refine post_round ?_
        exact rnd_back (ih (w_i64 (x21 + 1)) hF) (imps [0] ⟨by kernel_rfl, by kernel_rfl, by kernel_rfl, trivial⟩ ⟨by kernel_rfl, trivial⟩)
      refine aw_cond_f rfl hb33 ?_
      refine aw_exit ?_
      iterate 2 (refine post_then_exit ?_)
      obtain rfl := Option.some.inj hF
      exact post_lp_break _ ⟨_, rfl, rfl⟩ (imps [0] ⟨by kernel_rfl, by kernel_rfl, trivial⟩ ⟨by kernel_rfl, trivial⟩)
    rintro _ ⟨⟨⟩, rfl, rfl⟩
    have hF := elim_next hK45
    clear hK45
    refine post_next ?_
    iterate 2 (refine aw_seq ?_)
    refine aw_region ?_
    refine ras ?_
    refine reg_nil ?_
    refine post_imp (s' := ⟨76, [(1, some (.pv (.int .i64 a1))), (2, some (.lp 0 0)), (6, some (.pv (.int .i64 0)))], [(0, some (.box 82 (bxv (eGStmt a0))))], 1, [], [], 0, []⟩) (imps [0] ⟨by kernel_rfl, by kernel_rfl, by kernel_rfl, trivial⟩ ⟨by kernel_rfl, trivial⟩) ?_
    refine post_next ?_
    obtain ⟨lr79, hF, hK80⟩ := bind_some hF
    refine aw_for ((((a0.fBody.length : Int) : Int) - (0)).toNat + 1) (fun s1 => ∃ q, lr79 = .next q ∧ s1 = ⟨76, [(1, some (.pv (.int .i64 a1))), (2, some (.lp 0 0))], [(0, some (.box 82 (bxv (eGStmt a0))))], 1, [], [], 0, []⟩) ?_ ?_
    · refine rnd_loop (α := Int) (fun q => ⟨76, [(1, some (.pv (.int .i64 a1))), (2, some (.lp 0 0)), (6, some (.pv (.int .i64 q)))], [(0, some (.box 82 (bxv (eGStmt a0))))], 1, [], [], 0, []⟩) (fun k q => ref10_much_L2 a0 a1 ref10_much_rec k q = some lr79) 0 (imps [0] ⟨by kernel_rfl, by kernel_rfl, by kernel_rfl, trivial⟩ ⟨by kernel_rfl, trivial⟩) hF (fun q h => by cases h) ?_
      clear hF
      rintro k x56 hF ih
      refine rnd_succ ?_
      iterate 2 (refine aw_seq ?_)
      refine aw_region ?_
      refine rmv ?_
      refine reg_cons (guard_no rfl) (op_field_lp rfl rfl Try_fld_82_7 rfl rfl) ?_
      refine reg_cons (guard_no rfl) (op_load_lp (v := .pv (.vs 23 (eLGStmt a0.fBody))) rfl rfl rfl rfl Try_one_64 rfl rfl) ?_
      refine reg_cons (guard_no rfl) (op_len_vs (n := a0.fBody.length) rfl rfl (lenR eLGStmt_map) Try_slc_64 rfl rfl) ?_
      refine reg_cons (guard_no rfl) (op_int (k := .i64) (m := x56) (n := (a0.fBody.length : Int)) rfl rfl rfl rfl rfl rfl) ?_
      refine reg_nil ?_
      refine post_imp (s' := ⟨76, [(1, some (.pv (.int .i64 a1))), (2, some (.lp 0 0)), (6, some (.pv (.int .i64 x56))), (50, some (.pv (.bool (decide (x56 < (a0.fBody.length : Int))))))], [(0, some (.box 82 (bxv (eGStmt a0))))], 1, [], [], 0, []⟩) (imps [0] ⟨by kernel_rfl, by kernel_rfl, by kernel_rfl, by kernel_rfl, trivial⟩ ⟨by kernel_rfl, trivial⟩) ?_
      refine post_next ?_
      rcases ite_some hF with ⟨hb68, hF⟩ | ⟨hb68, hF⟩
      · refine aw_cond_t rfl hb68 ?_
        refine aw_skip ?_
        refine post_next ?_
        refine aw_seq ?_
        refine aw_block ?_
        refine aw_seq ?_
        refine aw_region ?_
        refine reg_cons (guard_no rfl) (op_field_lp rfl rfl Try_fld_82_7 rfl rfl) ?_
        refine reg_cons (guard_no rfl) (op_load_lp (v := .pv (.vs 23 (eLGStmt a0.fBody))) rfl rfl rfl rfl Try_one_64 rfl rfl) ?_
        refine rmv ?_
        obtain ⟨y73, h74, hF⟩ := bind_some hF
        refine reg_cons (guard_no rfl) (op_index_vs (k := .i64) rfl rfl rfl (idxR eLGStmt_map h74) Try_slc_64 rfl rfl) ?_
        refine reg_cons (guard_no rfl) (op_load_vp_agg (ps := eGStmt y73) rfl rfl rfl rfl Try_agg_82 rfl rfl) ?_
        refine rmv ?_
        refine reg_cons (guard_no rfl) (op_int (k := .i64) (m := a1) (n := 1) rfl rfl rfl rfl rfl rfl) ?_
        obtain ⟨y75, h76, hF⟩ := bind_some hF
        refine reg_cons (guard_no rfl) (op_call 1 rfl (caps := []) (args := [.agg (eGStmt y73), .int .i64 (w_i64 (a1 - 1))]) (rs := [.p (.bool y75)]) rfl rfl rfl Try_cal_23 (ref10_much_ih _ _ _ h76) rfl rfl rfl) ?_
        refine reg_nil ?_
        refine post_imp (s' := ⟨76, [(1, some (.pv (.int .i64 a1))), (2, some (.lp 0 0)), (6, some (.pv (.int .i64 x56))), (60, some (.pv (.bool y75)))], [(0, some (.box 82 (bxv (eGStmt a0))))], 1, [], [], 0, []⟩) (imps [0] ⟨by kernel_rfl, by kernel_rfl, by kernel_rfl, by kernel_rfl, trivial⟩ ⟨by kernel_rfl, trivial⟩) ?_
        refine post_next ?_
        rcases ite_some hF with ⟨hb77, hF⟩ | ⟨hb77, hF⟩
        · refine aw_cond_t rfl hb77 ?_
          refine aw_seq ?_
          refine aw_region ?_
          refine ras ?_
          refine reg_nil ?_
          refine post_imp (s' := ⟨76, [(4, some (.pv (.bool true)))], [], 0, [], [], 0, []⟩) (imps [] ⟨by kernel_rfl, trivial⟩ trivial) ?_
          refine post_next ?_
          refine aw_ret ?_
          refine post_block_ret ?_
          iterate 2 (refine post_then_ret ?_)
          refine post_lp_ret ?_
          obtain rfl := Option.some.inj hF
          have hF := elim_stop hK80
          refine post_then_ret ?_
          obtain rfl := Option.some.inj hF
          exact post_ret rfl rfl (.cons _ _ _ _ _ (.tmp _ _ rfl) (.p _) .nil) (.inl rfl)
        refine aw_cond_f rfl hb77 ?_
        refine aw_skip ?_
        refine post_block_normal ?_
        refine post_next ?_
        refine aw_region ?_
        refine rmv ?_
        refine reg_cons (guard_no rfl) (op_int (k := .i64) (m := x56) (n := 1) rfl rfl rfl rfl rfl rfl) ?_
        refine ras ?_
        refine reg_nil ?_
        refine post_round ?_
        exact rnd_back (ih (w_i64 (x56 + 1)) hF) (imps [0] ⟨by kernel_rfl, by kernel_rfl, by kernel_rfl, trivial⟩ ⟨by kernel_rfl, trivial⟩)
      refine aw_cond_f rfl hb68 ?_
      refine aw_exit ?_
      iterate 2 (refine post_then_exit ?_)
      obtain rfl := Option.some.inj hF
      exact post_lp_break _ ⟨_, rfl, rfl⟩ (imps [0] ⟨by kernel_rfl, by kernel_rfl, trivial⟩ ⟨by kernel_rfl, trivial⟩)
    rintro _ ⟨⟨⟩, rfl, rfl⟩
    have hF := elim_next hK80
    clear hK80
    refine post_next ?_
    iterate 2 (refine aw_seq ?_)
    refine aw_region ?_
    refine ras ?_
    refine reg_nil ?_
    refine post_imp (s' := ⟨76, [(1, some (.pv (.int .i64 a1))), (2, some (.lp 0 0)), (7, some (.pv (.int .i64 0)))], [(0, some (.box 82 (bxv (eGStmt a0))))], 1, [], [], 0, []⟩) (imps [0] ⟨by kernel_rfl, by kernel_rfl, by kernel_rfl, trivial⟩ ⟨by kernel_rfl, trivial⟩) ?_
    refine post_next ?_
    obtain ⟨lr114, hF, hK115⟩ := bind_some hF
    refine aw_for ((((a0.fElse.length : Int) : Int) - (0)).toNat + 1) (fun s1 => ∃ q, lr114 = .next q ∧ s1 = ⟨76, [], [], 0, [], [], 0, []⟩) ?_ ?_
    · refine rnd_loop (α := Int) (fun q => ⟨76, [(1, some (.pv (.int .i64 a1))), (2, some (.lp 0 0)), (7, some (.pv (.int .i64 q)))], [(0, some (.box 82 (bxv (eGStmt a0))))], 1, [], [], 0, []⟩) (fun k q => ref10_much_L3 a0 a1 ref10_much_rec k q = some lr114) 0 (imps [0] ⟨by kernel_rfl, by kernel_rfl, by kernel_rfl, trivial⟩ ⟨by kernel_rfl, trivial⟩) hF (fun q h => by cases h) ?_
      clear hF
      rintro k x91 hF ih
      refine rnd_succ ?_
      iterate 2 (refine aw_seq ?_)
      refine aw_region ?_
      refine rmv ?_
      refine reg_cons (guard_no rfl) (op_field_lp rfl rfl Try_fld_82_8 rfl rfl) ?_
      refine reg_cons (guard_no rfl) (op_load_lp (v := .pv (.vs 23 (eLGStmt a0.fElse))) rfl rfl rfl rfl Try_one_64 rfl rfl) ?_
      refine reg_cons (guard_no rfl) (op_len_vs (n := a0.fElse.length) rfl rfl (lenR eLGStmt_map) Try_slc_64 rfl rfl) ?_
      refine reg_cons (guard_no rfl) (op_int (k := .i64) (m := x91) (n := (a0.fElse.length : Int)) rfl rfl rfl rfl rfl rfl) ?_
      refine reg_nil ?_
      refine post_imp (s' := ⟨76, [(1, some (.pv (.int .i64 a1))), (2, some (.lp 0 0)), (7, some (.pv (.int .i64 x91))), (65, some (.pv (.bool (decide (x91 < (a0.fElse.length : Int))))))], [(0, some (.box 82 (bxv (eGStmt a0))))], 1, [], [], 0, []⟩) (imps [0] ⟨by kernel_rfl, by kernel_rfl, by kernel_rfl, by kernel_rfl, trivial⟩ ⟨by kernel_rfl, trivial⟩) ?_
      refine post_next ?_
      rcases ite_some hF with ⟨hb103, hF⟩ | ⟨hb103, hF⟩
      · refine aw_cond_t rfl hb103 ?_
        refine aw_skip ?_
        refine post_next ?_
        refine aw_seq ?_
        refine aw_block ?_
        refine aw_seq ?_
        refine aw_region ?_
        refine reg_cons (guard_no rfl) (op_field_lp rfl rfl Try_fld_82_8 rfl rfl) ?_
        refine reg_cons (guard_no rfl) (op_load_lp (v := .pv (.vs 23 (eLGStmt a0.fElse))) rfl rfl rfl rfl Try_one_64 rfl rfl) ?_
        refine rmv ?_
        obtain ⟨y108, h109, hF⟩ := bind_some hF
        refine reg_cons (guard_no rfl) (op_index_vs (k := .i64) rfl rfl rfl (idxR eLGStmt_map h109) Try_slc_64 rfl rfl) ?_
        refine reg_cons (guard_no rfl) (op_load_vp_agg (ps := eGStmt y108) rfl rfl rfl rfl Try_agg_82 rfl rfl) ?_
        refine rmv ?_
        refine reg_cons (guard_no rfl) (op_int (k := .i64) (m := a1) (n := 1) rfl rfl rfl rfl rfl rfl) ?_
        obtain ⟨y110, h111, hF⟩ := bind_some hF
        refine reg_cons (guard_no rfl) (op_call 1 rfl (caps := []) (args := [.agg (eGStmt y108), .int .i64 (w_i64 (a1 - 1))]) (rs := [.p (.bool y110)]) rfl rfl rfl Try_cal_23 (ref10_much_ih _ _ _ h111) rfl rfl rfl) ?_
        refine reg_nil ?_
        refine post_imp (s' := ⟨76, [(1, some (.pv (.int .i64 a1))), (2, some (.lp 0 0)), (7, some (.pv (.int .i64 x91))), (75, some (.pv (.bool y110)))], [(0, some (.box 82 (bxv (eGStmt a0))))], 1, [], [], 0, []⟩) (imps [0] ⟨by kernel_rfl, by kernel_rfl, by kernel_rfl, by kernel_rfl, trivial⟩ ⟨by kernel_rfl, trivial⟩) ?_
        refine post_next ?_
        rcases ite_some hF with ⟨hb112, hF⟩ | ⟨hb112, hF⟩
        · refine aw_cond_t rfl hb112 ?_
          refine aw_seq ?_
          refine aw_region ?_
          refine ras ?_
          refine reg_nil ?_
          refine post_imp (s' := ⟨76, [(4, some (.pv (.bool true)))], [], 0, [], [], 0, []⟩) (imps [] ⟨by kernel_rfl, trivial⟩ trivial) ?_
          refine post_next ?_
          refine aw_ret ?_
          refine post_block_ret ?_
          iterate 2 (refine post_then_ret ?_)
          refine post_lp_ret ?_
          obtain rfl := Option.some.inj hF
          have hF := elim_stop hK115
          refine post_then_ret ?_
          obtain rfl := Option.some.inj hF
          exact post_ret rfl rfl (.cons _ _ _ _ _ (.tmp _ _ rfl) (.p _) .nil) (.inl rfl)
        refine aw_cond_f rfl hb112 ?_
        refine aw_skip ?_
        refine post_block_normal ?_
        refine post_next ?_
        refine aw_region ?_
        refine rmv ?_
        refine reg_cons (guard_no rfl) (op_int (k := .i64) (m := x91) (n := 1) rfl rfl rfl rfl rfl rfl) ?_
        refine ras ?_
        refine reg_nil ?_
        refine post_round ?_
        exact rnd_back (ih (w_i64 (x91 + 1)) hF) (imps [0] ⟨by kernel_rfl, by kernel_rfl, by kernel_rfl, trivial⟩ ⟨by kernel_rfl, trivial⟩)
      refine aw_cond_f rfl hb103 ?_
      refine aw_exit ?_
      iterate 2 (refine post_then_exit ?_)
      obtain rfl := Option.some.inj hF
      exact post_lp_break _ ⟨_, rfl, rfl⟩ (imps [] trivial trivial)
    rintro _ ⟨⟨⟩, rfl, rfl⟩
    have hF := elim_next hK115
    clear hK115
    refine post_next ?_
    refine aw_seq ?_
    refine aw_region ?_
    refine ras ?_
    refine reg_nil ?_
    refine post_imp (s' := ⟨76, [(4, some (.pv (.bool false)))], [], 0, [], [], 0, []⟩) (imps [] ⟨by kernel_rfl, trivial⟩ trivial) ?_
    refine post_next ?_
    refine aw_ret ?_
    obtain rfl := Option.some.inj hF
    exact post_ret rfl rfl (.cons _ _ _ _ _ (.tmp _ _ rfl) (.p _) .nil) (.inl rfl)
theorem ref10_much_ok {n : Nat} {a0 : GStmt} {a1 : Int} {r : Bool} (hF : ref10_much n a0 a1 = some r) : Abs.Fn Try.prog 23 [.agg (eGStmt a0), .int .i64 a1] [.p (.bool r)] := (ref10_much_ring n) _ _ _ hF

theorem ref08_Size_ring : ∀ n : Nat, (∀ (a0 : GStmt) (r : Int), ref08_Size n a0 = some r → Abs.Fn Try.prog 24 [.agg (eGStmt a0)] [.p (.int .i64 r)]) := by
  intro n
  induction n with
  | zero => exact (fun _ _ h => by simp [ref08_Size] at h)
  | succ n ih =>
    have ref08_Size_ih := ih
    clear ih
    intro a0 r hF
    unfold ref08_Size at hF
    revert hF ref08_Size_ih
    generalize ref08_Size n = ref08_Size_rec
    intro ref08_Size_ih hF
    refine fn_of_body (n := 37) Try.func24 rfl rfl rfl ?_
    intro w O
    refine aw_seq ?_
    refine aw_region ?_
    refine reg_cons (guard_no rfl) (op_box 0 rfl rfl rfl rfl rfl rfl) ?_
    refine ras ?_
    refine reg_nil ?_
    refine post_imp (s' := ⟨37, [(1, some (.lp 0 0))], [(0, some (.box 82 (bxv (eGStmt a0))))], 1, [], [], 0, []⟩) (imps [0] ⟨by kernel_rfl, trivial⟩ ⟨by kernel_rfl, trivial⟩) ?_
    refine post_next ?_
    refine aw_seq ?_
    refine aw_region ?_
    refine ras ?_
    refine reg_nil ?_
    refine post_imp (s' := ⟨37, [(1, some (.lp 0 0)), (3, some (.pv (.int .i64 1)))], [(0, some (.box 82 (bxv (eGStmt a0))))], 1, [], [], 0, []⟩) (imps [0] ⟨by kernel_rfl, by kernel_rfl, trivial⟩ ⟨by kernel_rfl, trivial⟩) ?_
    refine post_next ?_
    iterate 2 (refine aw_seq ?_)
    refine aw_region ?_
    refine ras ?_
    refine reg_nil ?_
    refine post_imp (s' := ⟨37, [(1, some (.lp 0 0)), (3, some (.pv (.int .i64 1))), (4, some (.pv (.int .i64 0)))], [(0, some (.box 82 (bxv (eGStmt a0))))], 1, [], [], 0, []⟩) (imps [0] ⟨by kernel_rfl, by kernel_rfl, by kernel_rfl, trivial⟩ ⟨by kernel_rfl, trivial⟩) ?_
    refine post_next ?_
    obtain ⟨x34, hF, hK35⟩ := bind_some hF
    refine aw_for ((((a0.fBody.length : Int) : Int) - (0)).toNat + 1) (fun s1 => s1 = ⟨37, [(1, some (.lp 0 0)), (3, some (.pv (.int .i64 x34)))], [(0, some (.box 82 (bxv (eGStmt a0))))], 1, [], [], 0, []⟩) ?_ ?_
    · refine rnd_loop (α := Int × Int) (fun q => ⟨37, [(1, some (.lp 0 0)), (3, some (.pv (.int .i64 q.1))), (4, some (.pv (.int .i64 q.2)))], [(0, some (.box 82 (bxv (eGStmt a0))))], 1, [], [], 0, []⟩) (fun k q => ref08_Size_L1 a0 ref08_Size_rec k q.1 q.2 = some x34) (1, 0) (imps [0] ⟨by kernel_rfl, by kernel_rfl, by kernel_rfl, trivial⟩ ⟨by kernel_rfl, trivial⟩) hF (fun q h => by cases h) ?_
      clear hF
      rintro k ⟨x10, x11⟩ hF ih
      refine rnd_succ ?_
      iterate 2 (refine aw_seq ?_)
      refine aw_region ?_
      refine rmv ?_
      refine reg_cons (guard_no rfl) (op_field_lp rfl rfl Try_fld_82_7 rfl rfl) ?_
      refine reg_cons (guard_no rfl) (op_load_lp (v := .pv (.vs 23 (eLGStmt a0.fBody))) rfl rfl rfl rfl Try_one_64 rfl rfl) ?_
      refine reg_cons (guard_no rfl) (op_len_vs (n := a0.fBody.length) rfl rfl (lenR eLGStmt_map) Try_slc_64 rfl rfl) ?_
      refine reg_cons (guard_no rfl) (op_int (k := .i64) (m := x11) (n := (a0.fBody.length : Int)) rfl rfl rfl rfl rfl rfl) ?_
      refine reg_nil ?_
      refine post_imp (s' := ⟨37, [(1, some (.lp 0 0)), (3, some (.pv (.int .i64 x10))), (4, some (.pv (.int .i64 x11))), (10, some (.pv (.bool (decide (x11 < (a0.fBody.length : Int))))))], [(0, some (.box 82 (bxv (eGStmt a0))))], 1, [], [], 0, []⟩) (imps [0] ⟨by kernel_rfl, by kernel_rfl, by kernel_rfl, by kernel_rfl, trivial⟩ ⟨by kernel_rfl, trivial⟩) ?_
      refine post_next ?_
      rcases ite_some hF with ⟨hb23, hF⟩ | ⟨hb23, hF⟩
      · refine aw_cond_t rfl hb23 ?_
        refine aw_skip ?_
        refine post_next ?_
        refine aw_seq ?_
        refine aw_block ?_
        refine aw_region ?_
        refine rmv ?_
        refine reg_cons (guard_no rfl) (op_field_lp rfl rfl Try_fld_82_7 rfl rfl) ?_
        refine reg_cons (guard_no rfl) (op_load_lp (v := .pv (.vs 23 (eLGStmt a0.fBody))) rfl rfl rfl rfl Try_one_64 rfl rfl) ?_
        refine rmv ?_
        obtain ⟨y28, h29, hF⟩ := bind_some hF
        refine reg_cons (guard_no rfl) (op_index_vs (k := .i64) rfl rfl rfl (idxR eLGStmt_map h29) Try_slc_64 rfl rfl) ?_
        refine reg_cons (guard_no rfl) (op_load_vp_agg (ps := eGStmt y28) rfl rfl rfl rfl Try_agg_82 rfl rfl) ?_
        obtain ⟨y30, h31, hF⟩ := bind_some hF
        refine reg_cons (guard_no rfl) (op_call 1 rfl (caps := []) (args := [.agg (eGStmt y28)]) (rs := [.p (.int .i64 y30)]) rfl rfl rfl Try_cal_24 (ref08_Size_ih _ _ h31) rfl rfl rfl) ?_
        refine reg_cons (guard_no rfl) (op_int (k := .i64) (m := x10) (n := y30) rfl rfl rfl rfl rfl rfl) ?_
        refine ras ?_
        refine reg_nil ?_
        refine post_imp (s' := ⟨37, [(1, some (.lp 0 0)), (3, some (.pv (.int .i64 (w_i64 (x10 + y30))))), (4, some (.pv (.int .i64 x11)))], [(0, some (.box 82 (bxv (eGStmt a0))))], 1, [], [], 0, []⟩) (imps [0] ⟨by kernel_rfl, by kernel_rfl, by kernel_rfl, trivial⟩ ⟨by kernel_rfl, trivial⟩) ?_
        refine post_block_normal ?_
        refine post_next ?_
        refine aw_region ?_
        refine rmv ?_
        refine reg_cons (guard_no rfl) (op_int (k := .i64) (m := x11) (n := 1) rfl rfl rfl rfl rfl rfl) ?_
        refine ras ?_
        refine reg_nil ?_
        refine post_round ?_
        exact rnd_back (ih (w_i64 (x10 + y30), w_i64 (x11 + 1)) hF) (imps [0] ⟨by kernel_rfl, by kernel_rfl, by kernel_rfl, trivial⟩ ⟨by kernel_rfl, trivial⟩)
      refine aw_cond_f rfl hb23 ?_
      refine aw_exit ?_
      iterate 2 (refine post_then_exit ?_)
      obtain rfl := Option.some.inj hF
      exact post_lp_break _ rfl (imps [0] ⟨by kernel_rfl, by kernel_rfl, trivial⟩ ⟨by kernel_rfl, trivial⟩)
    rintro _ rfl
    have hF := hK35
    clear hK35
    refine post_next ?_
    iterate 2 (refine aw_seq ?_)
    refine aw_region ?_
    refine ras ?_
    refine reg_nil ?_
    refine post_imp (s' := ⟨37, [(1, some (.lp 0 0)), (3, some (.pv (.int .i64 x34))), (5, some (.pv (.int .i64 0)))], [(0, some (.box 82 (bxv (eGStmt a0))))], 1, [], [], 0, []⟩) (imps [0] ⟨by kernel_rfl, by kernel_rfl, by kernel_rfl, trivial⟩ ⟨by kernel_rfl, trivial⟩) ?_
    refine post_next ?_
    obtain ⟨x69, hF, hK70⟩ := bind_some hF
    refine aw_for ((((a0.fElse.length : Int) : Int) - (0)).toNat + 1) (fun s1 => s1 = ⟨37, [(3, some (.pv (.int .i64 x69)))], [], 0, [], [], 0, []⟩) ?_ ?_
    · refine rnd_loop (α := Int × Int) (fun q => ⟨37, [(1, some (.lp 0 0)), (3, some (.pv (.int .i64 q.1))), (5, some (.pv (.int .i64 q.2)))], [(0, some (.box 82 (bxv (eGStmt a0))))], 1, [], [], 0, []⟩) (fun k q => ref08_Size_L2 a0 ref08_Size_rec k q.1 q.2 = some x69) (x34, 0) (imps [0] ⟨by kernel_rfl, by kernel_rfl, by kernel_rfl, trivial⟩ ⟨by kernel_rfl, trivial⟩) hF (fun q h => by cases h) ?_
      clear hF
      rintro k ⟨x45, x46⟩ hF ih
      refine rnd_succ ?_
      iterate 2 (refine aw_seq ?_)
      refine aw_region ?_
      refine rmv ?_
      refine reg_cons (guard_no rfl) (op_field_lp rfl rfl Try_fld_82_8 rfl rfl) ?_
      refine reg_cons (guard_no rfl) (op_load_lp (v := .pv (.vs 23 (eLGStmt a0.fElse))) rfl rfl rfl rfl Try_one_64 rfl rfl) ?_
      refine reg_cons (guard_no rfl) (op_len_vs (n := a0.fElse.length) rfl rfl (lenR eLGStmt_map) Try_slc_64 rfl rfl) ?_
      refine reg_cons (guard_no rfl) (op_int (k := .i64) (m := x46) (n := (a0.fElse.length : Int)) rfl rfl rfl rfl rfl rfl) ?_
      refine reg_nil ?_
      refine post_imp (s' := ⟨37, [(1, some (.lp 0 0)), (3, some (.pv (.int .i64 x45))), (5, some (.pv (.int .i64 x46))), (25, some (.pv (.bool (decide (x46 < (a0.fElse.length : Int))))))], [(0, some (.box 82 (bxv (eGStmt a0))))], 1, [], [], 0, []⟩) (imps [0] ⟨by kernel_rfl, by kernel_rfl, by kernel_rfl, by kernel_rfl, trivial⟩ ⟨by kernel_rfl, trivial⟩) ?_
      refine post_next ?_
      rcases ite_some hF with ⟨hb58, hF⟩ | ⟨hb58, hF⟩
      · refine aw_cond_t rfl hb58 ?_
        refine aw_skip ?_
        refine post_next ?_
        refine aw_seq ?_
        refine aw_block ?_
        refine aw_region ?_
        refine rmv ?_
        refine reg_cons (guard_no rfl) (op_field_lp rfl rfl Try_fld_82_8 rfl rfl) ?_
        refine reg_cons (guard_no rfl) (op_load_lp (v := .pv (.vs 23 (eLGStmt a0.fElse))) rfl rfl rfl rfl Try_one_64 rfl rfl) ?_
        refine rmv ?_
        obtain ⟨y63, h64, hF⟩ := bind_some hF
        refine reg_cons (guard_no rfl) (op_index_vs (k := .i64) rfl rfl rfl (idxR eLGStmt_map h64) Try_slc_64 rfl rfl) ?_
        refine reg_cons (guard_no rfl) (op_load_vp_agg (ps := eGStmt y63) rfl rfl rfl rfl Try_agg_82 rfl rfl) ?_
        obtain ⟨y65, h66, hF⟩ := bind_some hF
        refine reg_cons (guard_no rfl) (op_call 1 rfl (caps := []) (args := [.agg (eGStmt y63)]) (rs := [.p (.int .i64 y65)]) rfl rfl rfl Try_cal_24 (ref08_Size_ih _ _ h66) rfl rfl rfl) ?_
        refine reg_cons (guard_no rfl) (op_int (k := .i64) (m := x45) (n := y65) rfl rfl rfl rfl rfl rfl) ?_
        refine ras ?_
        refine reg_nil ?_
        refine post_imp (s' := ⟨37, [(1, some (.lp 0 0)), (3, some (.pv (.int .i64 (w_i64 (x45 + y65))))), (5, some (.pv (.int .i64 x46)))], [(0, some (.box 82 (bxv (eGStmt a0))))], 1, [], [], 0, []⟩) (imps [0] ⟨by kernel_rfl, by kernel_rfl, by kernel_rfl, trivial⟩ ⟨by kernel_rfl, trivial⟩) ?_
        refine post_block_normal ?_
        refine post_next ?_
        refine aw_region ?_
        refine rmv ?_
        refine reg_cons (guard_no rfl) (op_int (k := .i64) (m := x46) (n := 1) rfl rfl rfl rfl rfl rfl) ?_
        refine ras ?_
        refine reg_nil ?_
        refine post_round ?_
        exact rnd_back (ih (w_i64 (x45 + y65), w_i64 (x46 + 1)) hF) (imps [0] ⟨by kernel_rfl, by kernel_rfl, by kernel_rfl, trivial⟩ ⟨by kernel_rfl, trivial⟩)
      refine aw_cond_f rfl hb58 ?_
      refine aw_exit ?_
      iterate 2 (refine post_then_exit ?_)
      obtain rfl := Option.some.inj hF
      exact post_lp_break _ rfl (imps [] ⟨by kernel_rfl, trivial⟩ trivial)
    rintro _ rfl
    have hF := hK70
    clear hK70
    refine post_next ?_
    refine aw_seq ?_
    refine aw_region ?_
    refine rmv ?_
    refine ras ?_
    refine reg_nil ?_
    refine post_imp (s' := ⟨37, [(2, some (.pv (.int .i64 x69)))], [], 0, [], [], 0, []⟩) (imps [] ⟨by kernel_rfl, trivial⟩ trivial) ?_
    refine post_next ?_
    refine aw_ret ?_
    obtain rfl := Option.some.inj hF
    exact post_ret rfl rfl (.cons _ _ _ _ _ (.tmp _ _ rfl) (.p _) .nil) (.inl rfl)
theorem ref08_Size_ok {n : Nat} {a0 : GStmt} {r : Int} (hF : ref08_Size n a0 = some r) : Abs.Fn Try.prog 24 [.agg (eGStmt a0)] [.p (.int .i64 r)] := (ref08_Size_ring n) _ _ hF

theorem ref10_Heavy_ok {a0 : List GClass} {r : Bool} (hF : ref10_Heavy a0 = some r) : Abs.Fn Try.prog 12 [.vs 7 (List.map eGClass a0)] [.p (.bool r)] := by
  unfold ref10_Heavy at hF
  refine fn_of_body (n := 106) Try.func12 rfl rfl rfl ?_
  intro w O
  refine aw_seq ?_
  refine aw_region ?_
  refine ras ?_
  refine reg_nil ?_
  refine post_imp (s' := ⟨106, [(0, some (.pv (.vs 7 (List.map eGClass a0))))], [], 0, [], [], 0, []⟩) (imps [] ⟨by kernel_rfl, trivial⟩ trivial) ?_
  refine post_next ?_
  refine aw_seq ?_
  refine aw_region ?_
  refine ras ?_
  refine reg_nil ?_
  refine post_imp (s' := ⟨106, [(0, some (.pv (.vs 7 (List.map eGClass a0)))), (3, some (.pv (.int .i64 0)))], [], 0, [], [], 0, []⟩) (imps [] ⟨by kernel_rfl, by kernel_rfl, trivial⟩ trivial) ?_
  refine post_next ?_
  iterate 2 (refine aw_seq ?_)
  refine aw_region ?_
  refine ras ?_
  refine reg_nil ?_
  refine post_imp (s' := ⟨106, [(0, some (.pv (.vs 7 (List.map eGClass a0)))), (3, some (.pv (.int .i64 0))), (4, some (.pv (.int .i64 0)))], [], 0, [], [], 0, []⟩) (imps [] ⟨by kernel_rfl, by kernel_rfl, by kernel_rfl, trivial⟩ trivial) ?_
  refine post_next ?_
  obtain ⟨lr767, hF, hK768⟩ := bind_some hF
  refine aw_for ((((a0.length : Int) : Int) - (0)).toNat + 1) (fun s1 => ∃ q, lr767 = .next q ∧ s1 = ⟨106, [(3, some (.pv (.int .i64 q)))], [], 0, [], [], 0, []⟩) ?_ ?_
  · refine rnd_loop (α := Int × Int) (fun q => ⟨106, [(0, some (.pv (.vs 7 (List.map eGClass a0)))), (3, some (.pv (.int .i64 q.1))), (4, some (.pv (.int .i64 q.2)))], [], 0, [], [], 0, []⟩) (fun k q => ref10_Heavy_L1 a0 k q.1 q.2 = some lr767) (0, 0) (imps [] ⟨by kernel_rfl, by kernel_rfl, by kernel_rfl, trivial⟩ trivial) hF (fun q h => by cases h) ?_
    clear hF
    rintro k ⟨x254, x255⟩ hF ih
    refine rnd_succ ?_
    iterate 2 (refine aw_seq ?_)
    refine aw_region ?_
    iterate 2 (refine rmv ?_)
    refine reg_cons (guard_no rfl) (op_len_vs (n := a0.length) rfl rfl (List.length_map ..) Try_slc_22 rfl rfl) ?_
    refine reg_cons (guard_no rfl) (op_int (k := .i64) (m := x255) (n := (a0.length : Int)) rfl rfl rfl rfl rfl rfl) ?_
    refine reg_nil ?_
    refine post_imp (s' := ⟨106, [(0, some (.pv (.vs 7 (List.map eGClass a0)))), (3, some (.pv (.int .i64 x254))), (4, some (.pv (.int .i64 x255))), (12, some (.pv (.bool (decide (x255 < (a0.length : Int))))))], [], 0, [], [], 0, []⟩) (imps [] ⟨by kernel_rfl, by kernel_rfl, by kernel_rfl, by kernel_rfl, trivial⟩ trivial) ?_
    refine post_next ?_
    rcases ite_some hF with ⟨hb511, hF⟩ | ⟨hb511, hF⟩
    · refine aw_cond_t rfl hb511 ?_
      refine aw_skip ?_
      refine post_next ?_
      refine aw_seq ?_
      refine aw_block ?_
      refine aw_seq ?_
      refine aw_region ?_
      iterate 2 (refine rmv ?_)
      obtain ⟨y514, h515, hF⟩ := bind_some hF
      refine reg_cons (guard_no rfl) (op_index_vs (k := .i64) rfl rfl rfl (idx_map eGClass h515) Try_slc_22 rfl rfl) ?_
      refine reg_cons (guard_no rfl) (op_load_vp_agg (ps := eGClass y514) rfl rfl rfl rfl Try_agg_49 rfl rfl) ?_
      refine reg_cons (guard_no rfl) (op_alloc 0 rfl (ps := (eGClass zGClass)) rfl Try_zer_49 (by exact ⟨rfl, trivial, rfl, trivial, trivial, trivial, rfl, trivial⟩) rfl rfl) ?_
      refine reg_cons (guard_no rfl) (op_store_lp (n := 7) rfl rfl rfl rfl rfl (or_agg Try_agg_49) (by rw [Try_non_49]; rfl) rfl rfl rfl) ?_
      refine reg_nil ?_
      refine post_imp (s' := ⟨106, [(0, some (.pv (.vs 7 (List.map eGClass a0)))), (3, some (.pv (.int .i64 x254))), (4, some (.pv (.int .i64 x255))), (5, some (.lp 0 0))], [(0, some (.box 49 (bxv (eGClass y514))))], 1, [], [], 0, []⟩) (imps [0] ⟨by kernel_rfl, by kernel_rfl, by kernel_rfl, by kernel_rfl, trivial⟩ ⟨by kernel_rfl, trivial⟩) ?_
      refine post_next ?_
      iterate 2 (refine aw_seq ?_)
      obtain ⟨x520, hF, hK522⟩ := bind_some hF
      refine aw_cut (fun s1 => s1 = ⟨106, [(0, some (.pv (.vs 7 (List.map eGClass a0)))), (3, some (.pv (.int .i64 x254))), (4, some (.pv (.int .i64 x255))), (5, some (.lp 0 0)), (45, some (.pv (.bool x520)))], [(0, some (.box 49 (bxv (eGClass y514))))], 1, [], [], 0, []⟩) ?_ ?_
      · refine aw_region ?_
        refine rmv ?_
        refine reg_cons (guard_no rfl) (op_len_vs (n := a0.length) rfl rfl (List.length_map ..) Try_slc_22 rfl rfl) ?_
        refine reg_cons (guard_no rfl) (op_int (k := .i64) (m := (a0.length : Int)) (n := 30) rfl rfl rfl rfl rfl rfl) ?_
        refine rmv ?_
        rcases ite_some hF with ⟨hb516, hF⟩ | ⟨hb516, hF⟩
        · refine rgo_t hb516 ?_
          iterate 3 (refine rgo_t hb516 ?_)
          refine rpt hb516 ?_
          refine rmv ?_
          iterate 4 (refine rgo_t rfl ?_)
          refine rpt rfl ?_
          refine rmv ?_
          iterate 4 (refine rgo_t rfl ?_)
          refine rpt rfl ?_
          refine rmv ?_
          iterate 4 (refine rgo_t rfl ?_)
          refine rpt rfl ?_
          refine reg_nil ?_
          cases hF
          exact post_cut _ rfl (imps [0] ⟨by kernel_rfl, by kernel_rfl, by kernel_rfl, by kernel_rfl, by kernel_rfl, trivial⟩ ⟨by kernel_rfl, trivial⟩)
        refine reg_cons (guard_on rfl rfl rfl rfl hb516) (op_field_lp rfl rfl Try_fld_49_1 rfl rfl) ?_
        refine reg_cons (guard_on rfl rfl rfl rfl hb516) (op_load_lp (v := .pv (.vs 1 (List.map eS y514.fParams))) rfl rfl rfl rfl Try_one_44 rfl rfl) ?_
        refine reg_cons (guard_on rfl rfl rfl rfl hb516) (op_len_vs (n := y514.fParams.length) rfl rfl (List.length_map ..) Try_slc_44 rfl rfl) ?_
        refine reg_cons (guard_on rfl rfl rfl rfl hb516) (op_int (k := .i64) (m := (y514.fParams.length : Int)) (n := 20) rfl rfl rfl rfl rfl rfl) ?_
        refine rpf hb516 ?_
        refine rmv ?_
        rcases ite_some hF with ⟨hb517, hF⟩ | ⟨hb517, hF⟩
        · refine rgo_t hb517 ?_
          iterate 3 (refine rgo_t hb517 ?_)
          refine rpt hb517 ?_
          refine rmv ?_
          iterate 4 (refine rgo_t rfl ?_)
          refine rpt rfl ?_
          refine rmv ?_
          iterate 4 (refine rgo_t rfl ?_)
          refine rpt rfl ?_
          refine reg_nil ?_
          cases hF
          exact post_cut _ rfl (imps [0] ⟨by kernel_rfl, by kernel_rfl, by kernel_rfl, by kernel_rfl, by kernel_rfl, trivial⟩ ⟨by kernel_rfl, trivial⟩)
        refine reg_cons (guard_on rfl rfl rfl rfl hb517) (op_field_lp rfl rfl Try_fld_49_3 rfl rfl) ?_
        refine reg_cons (guard_on rfl rfl rfl rfl hb517) (op_load_lp (v := .pv (.vs 2 (List.map eGOwner y514.fAbove))) rfl rfl rfl rfl Try_one_45 rfl rfl) ?_
        refine reg_cons (guard_on rfl rfl rfl rfl hb517) (op_len_vs (n := y514.fAbove.length) rfl rfl (List.length_map ..) Try_slc_45 rfl rfl) ?_
        refine reg_cons (guard_on rfl rfl rfl rfl hb517) (op_int (k := .i64) (m := (y514.fAbove.length : Int)) (n := 20) rfl rfl rfl rfl rfl rfl) ?_
        refine rpf hb517 ?_
        refine rmv ?_
        rcases ite_some hF with ⟨hb518, hF⟩ | ⟨hb518, hF⟩
        · refine rgo_t hb518 ?_
          iterate 3 (refine rgo_t hb518 ?_)
          refine rpt hb518 ?_
          refine rmv ?_
          iterate 4 (refine rgo_t rfl ?_)
          refine rpt rfl ?_
          refine reg_nil ?_
          cases hF
          exact post_cut _ rfl (imps [0] ⟨by kernel_rfl, by kernel_rfl, by kernel_rfl, by kernel_rfl, by kernel_rfl, trivial⟩ ⟨by kernel_rfl, trivial⟩)
        refine reg_cons (guard_on rfl rfl rfl rfl hb518) (op_field_lp rfl rfl Try_fld_49_4 rfl rfl) ?_
        refine reg_cons (guard_on rfl rfl rfl rfl hb518) (op_load_lp (v := .pv (.vs 13 (List.map eGVar y514.fFields))) rfl rfl rfl rfl Try_one_46 rfl rfl) ?_
        refine reg_cons (guard_on rfl rfl rfl rfl hb518) (op_len_vs (n := y514.fFields.length) rfl rfl (List.length_map ..) Try_slc_46 rfl rfl) ?_
        refine reg_cons (guard_on rfl rfl rfl rfl hb518) (op_int (k := .i64) (m := (y514.fFields.length : Int)) (n := 40) rfl rfl rfl rfl rfl rfl) ?_
        refine rpf hb518 ?_
        refine rmv ?_
        rcases ite_some hF with ⟨hb519, hF⟩ | ⟨hb519, hF⟩
        · refine rgo_t hb519 ?_
          iterate 3 (refine rgo_t hb519 ?_)
          refine rpt hb519 ?_
          refine reg_nil ?_
          cases hF
          exact post_cut _ rfl (imps [0] ⟨by kernel_rfl, by kernel_rfl, by kernel_rfl, by kernel_rfl, by kernel_rfl, trivial⟩ ⟨by kernel_rfl, trivial⟩)
        refine reg_cons (guard_on rfl rfl rfl rfl hb519) (op_field_lp rfl rfl Try_fld_49_5 rfl rfl) ?_
        refine reg_cons (guard_on rfl rfl rfl rfl hb519) (op_load_lp (v := .pv (.vs 17 (List.map eGMethod y514.fMethods))) rfl rfl rfl rfl Try_one_47 rfl rfl) ?_
        refine reg_cons (guard_on rfl rfl rfl rfl hb519) (op_len_vs (n := y514.fMethods.length) rfl rfl (List.length_map ..) Try_slc_47 rfl rfl) ?_
        refine reg_cons (guard_on rfl rfl rfl rfl hb519) (op_int (k := .i64) (m := (y514.fMethods.length : Int)) (n := 40) rfl rfl rfl rfl rfl rfl) ?_
        refine rpf hb519 ?_
        refine reg_nil ?_
        cases hF
        exact post_cut _ rfl (imps [0] ⟨by kernel_rfl, by kernel_rfl, by kernel_rfl, by kernel_rfl, by kernel_rfl, trivial⟩ ⟨by kernel_rfl, trivial⟩)
      rintro _ rfl
      have hF := hK522
      clear hK522
      refine post_next ?_
      rcases ite_some hF with ⟨hb523, hF⟩ | ⟨hb523, hF⟩
      · refine aw_cond_t rfl hb523 ?_
        refine aw_seq ?_
        refine aw_region ?_
        refine ras ?_
        refine reg_nil ?_
        refine post_imp (s' := ⟨106, [(2, some (.pv (.bool true)))], [], 0, [], [], 0, []⟩) (imps [] ⟨by kernel_rfl, trivial⟩ trivial) ?_
        refine post_next ?_
        refine aw_ret ?_
        refine post_then_ret ?_
        refine post_block_ret ?_
        iterate 2 (refine post_then_ret ?_)
        refine post_lp_ret ?_
        obtain rfl := Option.some.inj hF
        have hF := elim_stop hK768
        refine post_then_ret ?_
        obtain rfl := Option.some.inj hF
        exact post_ret rfl rfl (.cons _ _ _ _ _ (.tmp _ _ rfl) (.p _) .nil) (.inl rfl)
      refine aw_cond_f rfl hb523 ?_
      refine aw_skip ?_
      refine post_next ?_
      refine aw_seq ?_
      refine aw_region ?_
      refine ras ?_
      refine reg_nil ?_
      refine post_imp (s' := ⟨106, [(0, some (.pv (.vs 7 (List.map eGClass a0)))), (3, some (.pv (.int .i64 x254))), (4, some (.pv (.int .i64 x255))), (5, some (.lp 0 0)), (6, some (.pv (.int .i64 0)))], [(0, some (.box 49 (bxv (eGClass y514))))], 1, [], [], 0, []⟩) (imps [0] ⟨by kernel_rfl, by kernel_rfl, by kernel_rfl, by kernel_rfl, by kernel_rfl, trivial⟩ ⟨by kernel_rfl, trivial⟩) ?_
      refine post_next ?_
      obtain ⟨lr762, hF, hK763⟩ := bind_some hF
      refine aw_for ((((y514.fMethods.length : Int) : Int) - (0)).toNat + 1) (fun s1 => ∃ q, lr762 = .next q ∧ s1 = ⟨106, [(0, some (.pv (.vs 7 (List.map eGClass a0)))), (3, some (.pv (.int .i64 q))), (4, some (.pv (.int .i64 x255)))], [], 0, [], [], 0, []⟩) ?_ ?_
      · refine rnd_loop (α := Int × Int) (fun q => ⟨106, [(0, some (.pv (.vs 7 (List.map eGClass a0)))), (3, some (.pv (.int .i64 q.1))), (4, some (.pv (.int .i64 x255))), (5, some (.lp 0 0)), (6, some (.pv (.int .i64 q.2)))], [(0, some (.box 49 (bxv (eGClass y514))))], 1, [], [], 0, []⟩) (fun k q => ref10_Heavy_L2 y514 k q.1 q.2 = some lr762) (x254, 0) (imps [0] ⟨by kernel_rfl, by kernel_rfl, by kernel_rfl, by kernel_rfl, by kernel_rfl, trivial⟩ ⟨by kernel_rfl, trivial⟩) hF (fun q h => by cases h) ?_
        clear hF
        rintro k ⟨x601, x602⟩ hF ih
        refine rnd_succ ?_
        iterate 2 (refine aw_seq ?_)
        refine aw_region ?_
        refine rmv ?_
        refine reg_cons (guard_no rfl) (op_field_lp rfl rfl Try_fld_49_5 rfl rfl) ?_
        refine reg_cons (guard_no rfl) (op_load_lp (v := .pv (.vs 17 (List.map eGMethod y514.fMethods))) rfl rfl rfl rfl Try_one_47 rfl rfl) ?_
        refine reg_cons (guard_no rfl) (op_len_vs (n := y514.fMethods.length) rfl rfl (List.length_map ..) Try_slc_47 rfl rfl) ?_
        refine reg_cons (guard_no rfl) (op_int (k := .i64) (m := x602) (n := (y514.fMethods.length : Int)) rfl rfl rfl rfl rfl rfl) ?_
        refine reg_nil ?_
        refine post_imp (s' := ⟨106, [(0, some (.pv (.vs 7 (List.map eGClass a0)))), (3, some (.pv (.int .i64 x601))), (4, some (.pv (.int .i64 x255))), (5, some (.lp 0 0)), (6, some (.pv (.int .i64 x602))), (50, some (.pv (.bool (decide (x602 < (y514.fMethods.length : Int))))))], [(0, some (.box 49 (bxv (eGClass y514))))], 1, [], [], 0, []⟩) (imps [0] ⟨by kernel_rfl, by kernel_rfl, by kernel_rfl, by kernel_rfl, by kernel_rfl, by kernel_rfl, trivial⟩ ⟨by kernel_rfl, trivial⟩) ?_
        refine post_next ?_
        rcases ite_some hF with ⟨hb682, hF⟩ | ⟨hb682, hF⟩
        · refine aw_cond_t rfl hb682 ?_
          refine aw_skip ?_
          refine post_next ?_
          refine aw_seq ?_
          refine aw_block ?_
          refine aw_seq ?_
          refine aw_region ?_
          refine reg_cons (guard_no rfl) (op_field_lp rfl rfl Try_fld_49_5 rfl rfl) ?_
          refine reg_cons (guard_no rfl) (op_load_lp (v := .pv (.vs 17 (List.map eGMethod y514.fMethods))) rfl rfl rfl rfl Try_one_47 rfl rfl) ?_
          refine rmv ?_
          obtain ⟨y685, h686, hF⟩ := bind_some hF
          refine reg_cons (guard_no rfl) (op_index_vs (k := .i64) rfl rfl rfl (idx_map eGMethod h686) Try_slc_47 rfl rfl) ?_
          refine reg_cons (guard_no rfl) (op_load_vp_agg (ps := eGMethod y685) rfl rfl rfl rfl Try_agg_66 rfl rfl) ?_
          refine reg_cons (guard_no rfl) (op_alloc 1 rfl (ps := (eGMethod zGMethod)) rfl Try_zer_66 (by exact ⟨rfl, rfl, rfl, rfl, rfl, rfl, rfl, rfl, rfl, rfl, rfl, rfl, rfl, trivial, trivial, trivial, rfl, trivial⟩) rfl rfl) ?_
          refine reg_cons (guard_no rfl) (op_store_lp (n := 17) rfl rfl rfl rfl rfl (or_agg Try_agg_66) (by rw [Try_non_66]; rfl) rfl rfl rfl) ?_
          refine reg_nil ?_
          refine post_imp (s' := ⟨106, [(0, some (.pv (.vs 7 (List.map eGClass a0)))), (3, some (.pv (.int .i64 x601))), (4, some (.pv (.int .i64 x255))), (5, some (.lp 0 0)), (6, some (.pv (.int .i64 x602))), (7, some (.lp 1 0))], [(0, some (.box 49 (bxv (eGClass y514)))), (1, some (.box 66 (bxv (eGMethod y685))))], 2, [], [], 0, []⟩) (imps [0, 1] ⟨by kernel_rfl, by kernel_rfl, by kernel_rfl, by kernel_rfl, by kernel_rfl, by kernel_rfl, trivial⟩ ⟨by kernel_rfl, by kernel_rfl, trivial⟩) ?_
          refine post_next ?_
          iterate 2 (refine aw_seq ?_)
          obtain ⟨x692, hF, hK694⟩ := bind_some hF
          refine aw_cut (fun s1 => s1 = ⟨106, [(0, some (.pv (.vs 7 (List.map eGClass a0)))), (3, some (.pv (.int .i64 x601))), (4, some (.pv (.int .i64 x255))), (5, some (.lp 0 0)), (6, some (.pv (.int .i64 x602))), (7, some (.lp 1 0)), (78, some (.pv (.bool x692)))], [(0, some (.box 49 (bxv (eGClass y514)))), (1, some (.box 66 (bxv (eGMethod y685))))], 2, [], [], 0, []⟩) ?_ ?_
          · refine aw_region ?_
            refine reg_cons (guard_no rfl) (op_field_lp rfl rfl Try_fld_66_3 rfl rfl) ?_
            refine reg_cons (guard_no rfl) (op_load_lp (v := .pv (.vs 13 (List.map eGVar y685.fParams))) rfl rfl rfl rfl Try_one_46 rfl rfl) ?_
            refine reg_cons (guard_no rfl) (op_len_vs (n := y685.fParams.length) rfl rfl (List.length_map ..) Try_slc_46 rfl rfl) ?_
            refine reg_cons (guard_no rfl) (op_int (k := .i64) (m := (y685.fParams.length : Int)) (n := 40) rfl rfl rfl rfl rfl rfl) ?_
            refine rmv ?_
            rcases ite_some hF with ⟨hb687, hF⟩ | ⟨hb687, hF⟩
            · refine rgo_t hb687 ?_
              iterate 3 (refine rgo_t hb687 ?_)
              refine rpt hb687 ?_
              refine rmv ?_
              iterate 4 (refine rgo_t rfl ?_)
              refine rpt rfl ?_
              refine rmv ?_
              iterate 3 (refine rgo_t rfl ?_)
              refine rpt rfl ?_
              refine reg_nil ?_
              cases hF
              exact post_cut _ rfl (imps [0, 1] ⟨by kernel_rfl, by kernel_rfl, by kernel_rfl, by kernel_rfl, by kernel_rfl, by kernel_rfl, by kernel_rfl, trivial⟩ ⟨by kernel_rfl, by kernel_rfl, trivial⟩)
            refine reg_cons (guard_on rfl rfl rfl rfl hb687) (op_field_lp rfl rfl Try_fld_66_4 rfl rfl) ?_
            refine reg_cons (guard_on rfl rfl rfl rfl hb687) (op_load_lp (v := .pv (.vs 13 (List.map eGVar y685.fLocals))) rfl rfl rfl rfl Try_one_46 rfl rfl) ?_
            refine reg_cons (guard_on rfl rfl rfl rfl hb687) (op_len_vs (n := y685.fLocals.length) rfl rfl (List.length_map ..) Try_slc_46 rfl rfl) ?_
            refine reg_cons (guard_on rfl rfl rfl rfl hb687) (op_int (k := .i64) (m := (y685.fLocals.length : Int)) (n := 40) rfl rfl rfl rfl rfl rfl) ?_
            refine rpf hb687 ?_
            refine rmv ?_
            rcases ite_some hF with ⟨hb688, hF⟩ | ⟨hb688, hF⟩
            · refine rgo_t hb688 ?_
              iterate 3 (refine rgo_t hb688 ?_)
              refine rpt hb688 ?_
              refine rmv ?_
              iterate 3 (refine rgo_t rfl ?_)
              refine rpt rfl ?_
              refine reg_nil ?_
              cases hF
              exact post_cut _ rfl (imps [0, 1] ⟨by kernel_rfl, by kernel_rfl, by kernel_rfl, by kernel_rfl, by kernel_rfl, by kernel_rfl, by kernel_rfl, trivial⟩ ⟨by kernel_rfl, by kernel_rfl, trivial⟩)
            refine reg_cons (guard_on rfl rfl rfl rfl hb688) (op_field_lp rfl rfl Try_fld_66_5 rfl rfl) ?_
            refine reg_cons (guard_on rfl rfl rfl rfl hb688) (op_load_lp (v := .pv (.vs 23 (eLGStmt y685.fBody))) rfl rfl rfl rfl Try_one_64 rfl rfl) ?_
            refine reg_cons (guard_on rfl rfl rfl rfl hb688) (op_len_vs (n := y685.fBody.length) rfl rfl (lenR eLGStmt_map) Try_slc_64 rfl rfl) ?_
            refine reg_cons (guard_on rfl rfl rfl rfl hb688) (op_int (k := .i64) (m := (y685.fBody.length : Int)) (n := 500) rfl rfl rfl rfl rfl rfl) ?_
            refine rpf hb688 ?_
            refine rmv ?_
            rcases ite_some hF with ⟨hb689, hF⟩ | ⟨hb689, hF⟩
            · refine rgo_t hb689 ?_
              iterate 2 (refine rgo_t hb689 ?_)
              refine rpt hb689 ?_
              refine reg_nil ?_
              cases hF
              exact post_cut _ rfl (imps [0, 1] ⟨by kernel_rfl, by kernel_rfl, by kernel_rfl, by kernel_rfl, by kernel_rfl, by kernel_rfl, by kernel_rfl, trivial⟩ ⟨by kernel_rfl, by kernel_rfl, trivial⟩)
            refine reg_cons (guard_on rfl rfl rfl rfl hb689) (op_load_lp_agg (ps := eGMethod y685) rfl rfl rfl rfl rfl rfl Try_agg_66 rfl rfl) ?_
            obtain ⟨y690, h691, hF⟩ := bind_some hF
            refine reg_cons (guard_on rfl rfl rfl rfl hb689) (op_call 2 rfl (caps := []) (args := [.agg (eGMethod y685)]) (rs := [.p (.int .i64 y690)]) rfl rfl rfl Try_cal_22 (ref10_uniques_ok h691) rfl rfl rfl) ?_
            refine reg_cons (guard_on rfl rfl rfl rfl hb689) (op_int (k := .i64) (m := y690) (n := 8) rfl rfl rfl rfl rfl rfl) ?_
            refine rpf hb689 ?_
            refine reg_nil ?_
            cases hF
            exact post_cut _ rfl (imps [0, 1] ⟨by kernel_rfl, by kernel_rfl, by kernel_rfl, by kernel_rfl, by kernel_rfl, by kernel_rfl, by kernel_rfl, trivial⟩ ⟨by kernel_rfl, by kernel_rfl, trivial⟩)
          rintro _ rfl
          have hF := hK694
          clear hK694
          refine post_next ?_
          rcases ite_some hF with ⟨hb695, hF⟩ | ⟨hb695, hF⟩
          · refine aw_cond_t rfl hb695 ?_
            refine aw_seq ?_
            refine aw_region ?_
            refine ras ?_
            refine reg_nil ?_
            refine post_imp (s' := ⟨106, [(2, some (.pv (.bool true)))], [], 0, [], [], 0, []⟩) (imps [] ⟨by kernel_rfl, trivial⟩ trivial) ?_
            refine post_next ?_
            refine aw_ret ?_
            refine post_then_ret ?_
            refine post_block_ret ?_
            iterate 2 (refine post_then_ret ?_)
            refine post_lp_ret ?_
            obtain rfl := Option.some.inj hF
            have hF := elim_stop hK763
            refine post_block_ret ?_
            iterate 2 (refine post_then_ret ?_)
            refine post_lp_ret ?_
            obtain rfl := Option.some.inj hF
            have hF := elim_stop hK768
            refine post_then_ret ?_
            obtain rfl := Option.some.inj hF
            exact post_ret rfl rfl (.cons _ _ _ _ _ (.tmp _ _ rfl) (.p _) .nil) (.inl rfl)
          refine aw_cond_f rfl hb695 ?_
          refine aw_skip ?_
          refine post_next ?_
          refine aw_seq ?_
          refine aw_region ?_
          refine ras ?_
          refine reg_nil ?_
          refine post_imp (s' := ⟨106, [(0, some (.pv (.vs 7 (List.map eGClass a0)))), (3, some (.pv (.int .i64 x601))), (4, some (.pv (.int .i64 x255))), (5, some (.lp 0 0)), (6, some (.pv (.int .i64 x602))), (7, some (.lp 1 0)), (8, some (.pv (.int .i64 0)))], [(0, some (.box 49 (bxv (eGClass y514)))), (1, some (.box 66 (bxv (eGMethod y685))))], 2, [], [], 0, []⟩) (imps [0, 1] ⟨by kernel_rfl, by kernel_rfl, by kernel_rfl, by kernel_rfl, by kernel_rfl, by kernel_rfl, by kernel_rfl, trivial⟩ ⟨by kernel_rfl, by kernel_rfl, trivial⟩) ?_
          refine post_next ?_
          obtain ⟨lr757, hF, hK758⟩ := bind_some hF
          refine aw_for ((((y685.fBody.length : Int) : Int) - (0)).toNat + 1) (fun s1 => ∃ q, lr757 = .next q ∧ s1 = ⟨106, [(0, some (.pv (.vs 7 (List.map eGClass a0)))), (3, some (.pv (.int .i64 q))), (4, some (.pv (.int .i64 x255))), (5, some (.lp 0 0)), (6, some (.pv (.int .i64 x602)))], [(0, some (.box 49 (bxv (eGClass y514))))], 1, [], [], 0, []⟩) ?_ ?_
          · refine rnd_loop (α := Int × Int) (fun q => ⟨106, [(0, some (.pv (.vs 7 (List.map eGClass a0)))), (3, some (.pv (.int .i64 q.1))), (4, some (.pv (.int .i64 x255))), (5, some (.lp 0 0)), (6, some (.pv (.int .i64 x602))), (7, some (.lp 1 0)), (8, some (.pv (.int .i64 q.2)))], [(0, some (.box 49 (bxv (eGClass y514)))), (1, some (.box 66 (bxv (eGMethod y685))))], 2, [], [], 0, []⟩) (fun k q => ref10_Heavy_L3 y685 k q.1 q.2 = some lr757) (x601, 0) (imps [0, 1] ⟨by kernel_rfl, by kernel_rfl, by kernel_rfl, by kernel_rfl, by kernel_rfl, by kernel_rfl, by kernel_rfl, trivial⟩ ⟨by kernel_rfl, by kernel_rfl, trivial⟩) hF (fun q h => by cases h) ?_
            clear hF
            rintro k ⟨x714, x715⟩ hF ih
            refine rnd_succ ?_
            iterate 2 (refine aw_seq ?_)
            refine aw_region ?_
            refine rmv ?_
            refine reg_cons (guard_no rfl) (op_field_lp rfl rfl Try_fld_66_5 rfl rfl) ?_
            refine reg_cons (guard_no rfl) (op_load_lp (v := .pv (.vs 23 (eLGStmt y685.fBody))) rfl rfl rfl rfl Try_one_64 rfl rfl) ?_
            refine reg_cons (guard_no rfl) (op_len_vs (n := y685.fBody.length) rfl rfl (lenR eLGStmt_map) Try_slc_64 rfl rfl) ?_
            refine reg_cons (guard_no rfl) (op_int (k := .i64) (m := x715) (n := (y685.fBody.length : Int)) rfl rfl rfl rfl rfl rfl) ?_
            refine reg_nil ?_
            refine post_imp (s' := ⟨106, [(0, some (.pv (.vs 7 (List.map eGClass a0)))), (3, some (.pv (.int .i64 x714))), (4, some (.pv (.int .i64 x255))), (5, some (.lp 0 0)), (6, some (.pv (.int .i64 x602))), (7, some (.lp 1 0)), (8, some (.pv (.int .i64 x715))), (83, some (.pv (.bool (decide (x715 < (y685.fBody.length : Int))))))], [(0, some (.box 49 (bxv (eGClass y514)))), (1, some (.box 66 (bxv (eGMethod y685))))], 2, [], [], 0, []⟩) (imps [0, 1] ⟨by kernel_rfl, by kernel_rfl, by kernel_rfl, by kernel_rfl, by kernel_rfl, by kernel_rfl, by kernel_rfl, by kernel_rfl, trivial⟩ ⟨by kernel_rfl, by kernel_rfl, trivial⟩) ?_
            refine post_next ?_
            rcases ite_some hF with ⟨hb736, hF⟩ | ⟨hb736, hF⟩
            · refine aw_cond_t rfl hb736 ?_
              refine aw_skip ?_
              refine post_next ?_
              refine aw_seq ?_
              refine aw_block ?_
              iterate 2 (refine aw_seq ?_)
              obtain ⟨x742, hF, hK744⟩ := bind_some hF
              refine aw_cut (fun s1 => s1 = ⟨106, [(0, some (.pv (.vs 7 (List.map eGClass a0)))), (3, some (.pv (.int .i64 x714))), (4, some (.pv (.int .i64 x255))), (5, some (.lp 0 0)), (6, some (.pv (.int .i64 x602))), (7, some (.lp 1 0)), (8, some (.pv (.int .i64 x715))), (95, some (.pv (.bool x742)))], [(0, some (.box 49 (bxv (eGClass y514)))), (1, some (.box 66 (bxv (eGMethod y685))))], 2, [], [], 0, []⟩) ?_ ?_
              · refine aw_region ?_
                refine rmv ?_
                refine reg_cons (guard_no rfl) (op_int (k := .i64) (m := x714) (n := 500) rfl rfl rfl rfl rfl rfl) ?_
                refine rmv ?_
                rcases ite_some hF with ⟨hb737, hF⟩ | ⟨hb737, hF⟩
                · refine rgo_t hb737 ?_
                  iterate 5 (refine rgo_t hb737 ?_)
                  refine rpt hb737 ?_
                  refine reg_nil ?_
                  cases hF
                  exact post_cut _ rfl (imps [0, 1] ⟨by kernel_rfl, by kernel_rfl, by kernel_rfl, by kernel_rfl, by kernel_rfl, by kernel_rfl, by kernel_rfl, by kernel_rfl, trivial⟩ ⟨by kernel_rfl, by kernel_rfl, trivial⟩)
                refine reg_cons (guard_on rfl rfl rfl rfl hb737) (op_field_lp rfl rfl Try_fld_66_5 rfl rfl) ?_
                refine reg_cons (guard_on rfl rfl rfl rfl hb737) (op_load_lp (v := .pv (.vs 23 (eLGStmt y685.fBody))) rfl rfl rfl rfl Try_one_64 rfl rfl) ?_
                refine reg_cons (guard_on rfl rfl rfl rfl hb737) (op_move rfl rfl rfl rfl) ?_
                obtain ⟨y738, h739, hF⟩ := bind_some hF
                refine reg_cons (guard_on rfl rfl rfl rfl hb737) (op_index_vs (k := .i64) rfl rfl rfl (idxR eLGStmt_map h739) Try_slc_64 rfl rfl) ?_
                refine reg_cons (guard_on rfl rfl rfl rfl hb737) (op_load_vp_agg (ps := eGStmt y738) rfl rfl rfl rfl Try_agg_82 rfl rfl) ?_
                obtain ⟨y740, h741, hF⟩ := bind_some hF
                refine reg_cons (guard_on rfl rfl rfl rfl hb737) (op_call 2 rfl (caps := []) (args := [.agg (eGStmt y738), .int .i64 25]) (rs := [.p (.bool y740)]) rfl rfl rfl Try_cal_23 (ref10_much_ok h741) rfl rfl rfl) ?_
                refine rpf hb737 ?_
                refine reg_nil ?_
                cases hF
                exact post_cut _ rfl (imps [0, 1] ⟨by kernel_rfl, by kernel_rfl, by kernel_rfl, by kernel_rfl, by kernel_rfl, by kernel_rfl, by kernel_rfl, by kernel_rfl, trivial⟩ ⟨by kernel_rfl, by kernel_rfl, trivial⟩)
              rintro _ rfl
              have hF := hK744
              clear hK744
              refine post_next ?_
              rcases ite_some hF with ⟨hb745, hF⟩ | ⟨hb745, hF⟩
              · refine aw_cond_t rfl hb745 ?_
                refine aw_seq ?_
                refine aw_region ?_
                refine ras ?_
                refine reg_nil ?_
                refine post_imp (s' := ⟨106, [(2, some (.pv (.bool true)))], [], 0, [], [], 0, []⟩) (imps [] ⟨by kernel_rfl, trivial⟩ trivial) ?_
                refine post_next ?_
                refine aw_ret ?_
                refine post_then_ret ?_
                refine post_block_ret ?_
                iterate 2 (refine post_then_ret ?_)
                refine post_lp_ret ?_
                obtain rfl := Option.some.inj hF
                have hF := elim_stop hK758
                refine post_block_ret ?_
                iterate 2 (refine post_then_ret ?_)
                refine post_lp_ret ?_
                obtain rfl := Option.some.inj hF
                have hF := elim_stop hK763
                refine post_block_ret ?_
                iterate 2 (refine post_then_ret ?_)
                refine post_lp_ret ?_
                obtain rfl := Option.some.inj hF
                have hF := elim_stop hK768
                refine post_then_ret ?_
                obtain rfl := Option.some.inj hF
                exact post_ret rfl rfl (.cons _ _ _ _ _ (.tmp _ _ rfl) (.p _) .nil) (.inl rfl)
              refine aw_cond_f rfl hb745 ?_
              refine aw_skip ?_
              refine post_next ?_
              refine aw_region ?_
              refine rmv ?_
              refine reg_cons (guard_no rfl) (op_field_lp rfl rfl Try_fld_66_5 rfl rfl) ?_
              refine reg_cons (guard_no rfl) (op_load_lp (v := .pv (.vs 23 (eLGStmt y685.fBody))) rfl rfl rfl rfl Try_one_64 rfl rfl) ?_
              refine rmv ?_
              obtain ⟨y750, h751, hF⟩ := bind_some hF
              refine reg_cons (guard_no rfl) (op_index_vs (k := .i64) rfl rfl rfl (idxR eLGStmt_map h751) Try_slc_64 rfl rfl) ?_
              refine reg_cons (guard_no rfl) (op_load_vp_agg (ps := eGStmt y750) rfl rfl rfl rfl Try_agg_82 rfl rfl) ?_
              obtain ⟨y752, h753, hF⟩ := bind_some hF
              refine reg_cons (guard_no rfl) (op_call 2 rfl (caps := []) (args := [.agg (eGStmt y750)]) (rs := [.p (.int .i64 y752)]) rfl rfl rfl Try_cal_24 (ref08_Size_ok h753) rfl rfl rfl) ?_
              refine reg_cons (guard_no rfl) (op_int (k := .i64) (m := x714) (n := y752) rfl rfl rfl rfl rfl rfl) ?_
              refine ras ?_
              refine reg_nil ?_
              refine post_imp (s' := ⟨106, [(0, some (.pv (.vs 7 (List.map eGClass a0)))), (3, some (.pv (.int .i64 (w_i64 (x714 + y752))))), (4, some (.pv (.int .i64 x255))), (5, some (.lp 0 0)), (6, some (.pv (.int .i64 x602))), (7, some (.lp 1 0)), (8, some (.pv (.int .i64 x715)))], [(0, some (.box 49 (bxv (eGClass y514)))), (1, some (.box 66 (bxv (eGMethod y685))))], 2, [], [], 0, []⟩) (imps [0, 1] ⟨by kernel_rfl, by kernel_rfl, by kernel_rfl, by kernel_rfl, by kernel_rfl, by kernel_rfl, by kernel_rfl, trivial⟩ ⟨by kernel_rfl, by kernel_rfl, trivial⟩) ?_
              refine post_block_normal ?_
              refine post_next ?_
              refine aw_region ?_
              refine rmv ?_
              refine reg_cons (guard_no rfl) (op_int (k := .i64) (m := x715) (n := 1) rfl rfl rfl rfl rfl rfl) ?_
              refine ras ?_
              refine reg_nil ?_
              refine post_round ?_
              exact rnd_back (ih (w_i64 (x714 + y752), w_i64 (x715 + 1)) hF) (imps [0, 1] ⟨by kernel_rfl, by kernel_rfl, by kernel_rfl, by kernel_rfl, by kernel_rfl, by kernel_rfl, by kernel_rfl, trivial⟩ ⟨by kernel_rfl, by kernel_rfl, trivial⟩)
            refine aw_cond_f rfl hb736 ?_
            refine aw_exit ?_
            iterate 2 (refine post_then_exit ?_)
            obtain rfl := Option.some.inj hF
            exact post_lp_break _ ⟨_, rfl, rfl⟩ (imps [0] ⟨by kernel_rfl, by kernel_rfl, by kernel_rfl, by kernel_rfl, by kernel_rfl, trivial⟩ ⟨by kernel_rfl, trivial⟩)
          rintro _ ⟨x756, rfl, rfl⟩
          have hF := elim_next hK758
          clear hK758
          refine post_block_normal ?_
          refine post_next ?_
          refine aw_region ?_
          refine rmv ?_
          refine reg_cons (guard_no rfl) (op_int (k := .i64) (m := x602) (n := 1) rfl rfl rfl rfl rfl rfl) ?_
          refine ras ?_
          refine reg_nil ?_
          refine post_round ?_
          exact rnd_back (ih (x756, w_i64 (x602 + 1)) hF) (imps [0] ⟨by kernel_rfl, by kernel_rfl, by kernel_rfl, by kernel_rfl, by kernel_rfl, trivial⟩ ⟨by kernel_rfl, trivial⟩)
        refine aw_cond_f rfl hb682 ?_
        refine aw_exit ?_
        iterate 2 (refine post_then_exit ?_)
        obtain rfl := Option.some.inj hF
        exact post_lp_break _ ⟨_, rfl, rfl⟩ (imps [] ⟨by kernel_rfl, by kernel_rfl, by kernel_rfl, trivial⟩ trivial)
      rintro _ ⟨x761, rfl, rfl⟩
      have hF := elim_next hK763
      clear hK763
      refine post_block_normal ?_
      refine post_next ?_
      refine aw_region ?_
      refine rmv ?_
      refine reg_cons (guard_no rfl) (op_int (k := .i64) (m := x255) (n := 1) rfl rfl rfl rfl rfl rfl) ?_
      refine ras ?_
      refine reg_nil ?_
      refine post_round ?_
      exact rnd_back (ih (x761, w_i64 (x255 + 1)) hF) (imps [] ⟨by kernel_rfl, by kernel_rfl, by kernel_rfl, trivial⟩ trivial)
    refine aw_cond_f rfl hb511 ?_
    refine aw_exit ?_
    iterate 2 (refine post_then_exit ?_)
    obtain rfl := Option.some.inj hF
    exact post_lp_break _ ⟨_, rfl, rfl⟩ (imps [] ⟨by kernel_rfl, trivial⟩ trivial)
  rintro _ ⟨x766, rfl, rfl⟩
  have hF := elim_next hK768
  clear hK768
  refine post_next ?_
  refine aw_seq ?_
  refine aw_region ?_
  refine rmv ?_
  refine reg_cons (guard_no rfl) (op_int (k := .i64) (m := x766) (n := 500) rfl rfl rfl rfl rfl rfl) ?_
  refine ras ?_
  refine reg_nil ?_
  refine post_imp (s' := ⟨106, [(2, some (.pv (.bool (decide (x766 > 500)))))], [], 0, [], [], 0, []⟩) (imps [] ⟨by kernel_rfl, trivial⟩ trivial) ?_
  refine post_next ?_
  refine aw_ret ?_
  obtain rfl := Option.some.inj hF
  exact post_ret rfl rfl (.cons _ _ _ _ _ (.tmp _ _ rfl) (.p _) .nil) (.inl rfl)
theorem ref35_Great_ok {a0 : List GCell} {r : Bool} (hF : ref35_Great a0 = some r) : Abs.Fn Try.prog 13 [.vs 7 (List.map eGCell a0)] [.p (.bool r)] := by
  unfold ref35_Great at hF
  refine fn_of_body (n := 22) Try.func13 rfl rfl rfl ?_
  intro w O
  refine aw_seq ?_
  refine aw_region ?_
  refine ras ?_
  refine reg_nil ?_
  refine post_imp (s' := ⟨22, [(0, some (.pv (.vs 7 (List.map eGCell a0))))], [], 0, [], [], 0, []⟩) (imps [] ⟨by kernel_rfl, trivial⟩ trivial) ?_
  refine post_next ?_
  iterate 2 (refine aw_seq ?_)
  refine aw_region ?_
  refine ras ?_
  refine reg_nil ?_
  refine post_imp (s' := ⟨22, [(0, some (.pv (.vs 7 (List.map eGCell a0)))), (3, some (.pv (.int .i64 0)))], [], 0, [], [], 0, []⟩) (imps [] ⟨by kernel_rfl, by kernel_rfl, trivial⟩ trivial) ?_
  refine post_next ?_
  obtain ⟨lr28, hF, hK29⟩ := bind_some hF
  refine aw_for ((((a0.length : Int) : Int) - (0)).toNat + 1) (fun s1 => ∃ q, lr28 = .next q ∧ s1 = ⟨22, [], [], 0, [], [], 0, []⟩) ?_ ?_
  · refine rnd_loop (α := Int) (fun q => ⟨22, [(0, some (.pv (.vs 7 (List.map eGCell a0)))), (3, some (.pv (.int .i64 q)))], [], 0, [], [], 0, []⟩) (fun k q => ref35_Great_L1 a0 k q = some lr28) 0 (imps [] ⟨by kernel_rfl, by kernel_rfl, trivial⟩ trivial) hF (fun q h => by cases h) ?_
    clear hF
    rintro k x9 hF ih
    refine rnd_succ ?_
    iterate 2 (refine aw_seq ?_)
    refine aw_region ?_
    iterate 2 (refine rmv ?_)
    refine reg_cons (guard_no rfl) (op_len_vs (n := a0.length) rfl rfl (List.length_map ..) Try_slc_23 rfl rfl) ?_
    refine reg_cons (guard_no rfl) (op_int (k := .i64) (m := x9) (n := (a0.length : Int)) rfl rfl rfl rfl rfl rfl) ?_
    refine reg_nil ?_
    refine post_imp (s' := ⟨22, [(0, some (.pv (.vs 7 (List.map eGCell a0)))), (3, some (.pv (.int .i64 x9))), (7, some (.pv (.bool (decide (x9 < (a0.length : Int))))))], [], 0, [], [], 0, []⟩) (imps [] ⟨by kernel_rfl, by kernel_rfl, by kernel_rfl, trivial⟩ trivial) ?_
    refine post_next ?_
    rcases ite_some hF with ⟨hb19, hF⟩ | ⟨hb19, hF⟩
    · refine aw_cond_t rfl hb19 ?_
      refine aw_skip ?_
      refine post_next ?_
      refine aw_seq ?_
      refine aw_block ?_
      refine aw_seq ?_
      obtain ⟨x23, hF, hK25⟩ := bind_some hF
      refine aw_cut (fun s1 => s1 = ⟨22, [(0, some (.pv (.vs 7 (List.map eGCell a0)))), (3, some (.pv (.int .i64 x9))), (21, some (.pv (.bool x23)))], [], 0, [], [], 0, []⟩) ?_ ?_
      · refine aw_region ?_
        refine rmv ?_
        refine reg_cons (guard_no rfl) (op_len_vs (n := a0.length) rfl rfl (List.length_map ..) Try_slc_23 rfl rfl) ?_
        refine reg_cons (guard_no rfl) (op_int (k := .i64) (m := (a0.length : Int)) (n := 200) rfl rfl rfl rfl rfl rfl) ?_
        refine rmv ?_
        rcases ite_some hF with ⟨hb20, hF⟩ | ⟨hb20, hF⟩
        · refine rgo_t hb20 ?_
          iterate 6 (refine rgo_t hb20 ?_)
          refine rpt hb20 ?_
          refine reg_nil ?_
          cases hF
          exact post_cut _ rfl (imps [] ⟨by kernel_rfl, by kernel_rfl, by kernel_rfl, trivial⟩ trivial)
        iterate 2 (refine reg_cons (guard_on rfl rfl rfl rfl hb20) (op_move rfl rfl rfl rfl) ?_)
        obtain ⟨y21, h22, hF⟩ := bind_some hF
        refine reg_cons (guard_on rfl rfl rfl rfl hb20) (op_index_vs (k := .i64) rfl rfl rfl (idx_map eGCell h22) Try_slc_23 rfl rfl) ?_
        refine reg_cons (guard_on rfl rfl rfl rfl hb20) (op_field_vp rfl rfl Try_fld_43_2 rfl rfl) ?_
        refine reg_cons (guard_on rfl rfl rfl rfl hb20) (op_load_vp (p := .vs 2 (List.map eGVal y21.fFields)) rfl rfl rfl Try_one_24 rfl rfl) ?_
        refine reg_cons (guard_on rfl rfl rfl rfl hb20) (op_len_vs (n := y21.fFields.length) rfl rfl (List.length_map ..) Try_slc_24 rfl rfl) ?_
        refine reg_cons (guard_on rfl rfl rfl rfl hb20) (op_int (k := .i64) (m := (y21.fFields.length : Int)) (n := 60) rfl rfl rfl rfl rfl rfl) ?_
        refine rpf hb20 ?_
        refine reg_nil ?_
        cases hF
        exact post_cut _ rfl (imps [] ⟨by kernel_rfl, by kernel_rfl, by kernel_rfl, trivial⟩ trivial)
      rintro _ rfl
      have hF := hK25
      clear hK25
      refine post_next ?_
      rcases ite_some hF with ⟨hb26, hF⟩ | ⟨hb26, hF⟩
      · refine aw_cond_t rfl hb26 ?_
        refine aw_seq ?_
        refine aw_region ?_
        refine ras ?_
        refine reg_nil ?_
        refine post_imp (s' := ⟨22, [(2, some (.pv (.bool true)))], [], 0, [], [], 0, []⟩) (imps [] ⟨by kernel_rfl, trivial⟩ trivial) ?_
        refine post_next ?_
        refine aw_ret ?_
        refine post_block_ret ?_
        iterate 2 (refine post_then_ret ?_)
        refine post_lp_ret ?_
        obtain rfl := Option.some.inj hF
        have hF := elim_stop hK29
        refine post_then_ret ?_
        obtain rfl := Option.some.inj hF
        exact post_ret rfl rfl (.cons _ _ _ _ _ (.tmp _ _ rfl) (.p _) .nil) (.inl rfl)
      refine aw_cond_f rfl hb26 ?_
      refine aw_skip ?_
      refine post_block_normal ?_
      refine post_next ?_
      refine aw_region ?_
      refine rmv ?_
      refine reg_cons (guard_no rfl) (op_int (k := .i64) (m := x9) (n := 1) rfl rfl rfl rfl rfl rfl) ?_
      refine ras ?_
      refine reg_nil ?_
      refine post_round ?_
      exact rnd_back (ih (w_i64 (x9 + 1)) hF) (imps [] ⟨by kernel_rfl, by kernel_rfl, trivial⟩ trivial)
    refine aw_cond_f rfl hb19 ?_
    refine aw_exit ?_
    iterate 2 (refine post_then_exit ?_)
    obtain rfl := Option.some.inj hF
    exact post_lp_break _ ⟨_, rfl, rfl⟩ (imps [] trivial trivial)
  rintro _ ⟨⟨⟩, rfl, rfl⟩
  have hF := elim_next hK29
  clear hK29
  refine post_next ?_
  refine aw_seq ?_
  refine aw_region ?_
  refine ras ?_
  refine reg_nil ?_
  refine post_imp (s' := ⟨22, [(2, some (.pv (.bool false)))], [], 0, [], [], 0, []⟩) (imps [] ⟨by kernel_rfl, trivial⟩ trivial) ?_
  refine post_next ?_
  refine aw_ret ?_
  obtain rfl := Option.some.inj hF
  exact post_ret rfl rfl (.cons _ _ _ _ _ (.tmp _ _ rfl) (.p _) .nil) (.inl rfl)
theorem law38_great_ok {a0 : List GClass} {a1 : GWorld_law38} {r : Bool} (hF : law38_great a0 a1 = some r) : Abs.Fn Try.prog 4 [.vs 7 (List.map eGClass a0), .agg (eGWorld_law38 a1)] [.p (.bool r)] := by
  unfold law38_great at hF
  refine fn_of_body (n := 19) Try.func4 rfl rfl rfl ?_
  intro w O
  refine aw_seq ?_
  refine aw_region ?_
  refine reg_cons (guard_no rfl) (op_box 0 rfl rfl rfl rfl rfl rfl) ?_
  refine ras ?_
  refine reg_nil ?_
  refine post_imp (s' := ⟨19, [(0, some (.pv (.vs 7 (List.map eGClass a0)))), (3, some (.lp 0 0))], [(0, some (.box 28 (bxv (eGWorld_law38 a1))))], 1, [], [], 0, []⟩) (imps [0] ⟨by kernel_rfl, by kernel_rfl, trivial⟩ ⟨by kernel_rfl, trivial⟩) ?_
  refine post_next ?_
  refine aw_seq ?_
  refine aw_region ?_
  refine rmv ?_
  obtain ⟨y1, h2, hF⟩ := bind_some hF
  refine reg_cons (guard_no rfl) (op_call 1 rfl (caps := []) (args := [.vs 7 (List.map eGClass a0)]) (rs := [.p (.bool y1)]) rfl rfl rfl Try_cal_12 (ref10_Heavy_ok h2) rfl rfl rfl) ?_
  refine rmv ?_
  rcases ite_some hF with ⟨hb3, hF⟩ | ⟨hb3, hF⟩
  · refine rgo_t hb3 ?_
    iterate 2 (refine rgo_t hb3 ?_)
    refine rpt hb3 ?_
    refine rmv ?_
    iterate 5 (refine rgo_t rfl ?_)
    refine rpt rfl ?_
    refine ras ?_
    refine reg_nil ?_
    refine post_imp (s' := ⟨19, [(4, some (.pv (.bool true)))], [], 0, [], [], 0, []⟩) (imps [] ⟨by kernel_rfl, trivial⟩ trivial) ?_
    refine post_next ?_
    refine aw_ret ?_
    obtain rfl := Option.some.inj hF
    exact post_ret rfl rfl (.cons _ _ _ _ _ (.tmp _ _ rfl) (.p _) .nil) (.inl rfl)
  refine reg_cons (guard_on rfl rfl rfl rfl hb3) (op_field_lp rfl rfl Try_fld_28_0 rfl rfl) ?_
  refine reg_cons (guard_on rfl rfl rfl rfl hb3) (op_load_lp (v := .pv (.vs 7 (List.map eGCell a1.fL))) rfl rfl rfl rfl Try_one_23 rfl rfl) ?_
  obtain ⟨y4, h5, hF⟩ := bind_some hF
  refine reg_cons (guard_on rfl rfl rfl rfl hb3) (op_call 1 rfl (caps := []) (args := [.vs 7 (List.map eGCell a1.fL)]) (rs := [.p (.bool y4)]) rfl rfl rfl Try_cal_13 (ref35_Great_ok h5) rfl rfl rfl) ?_
  refine rpf hb3 ?_
  refine rmv ?_
  rcases ite_some hF with ⟨hb6, hF⟩ | ⟨hb6, hF⟩
  · refine rgo_t hb6 ?_
    iterate 4 (refine rgo_t hb6 ?_)
    refine rpt hb6 ?_
    refine ras ?_
    refine reg_nil ?_
    refine post_imp (s' := ⟨19, [(4, some (.pv (.bool true)))], [], 0, [], [], 0, []⟩) (imps [] ⟨by kernel_rfl, trivial⟩ trivial) ?_
    refine post_next ?_
    refine aw_ret ?_
    obtain rfl := Option.some.inj hF
    exact post_ret rfl rfl (.cons _ _ _ _ _ (.tmp _ _ rfl) (.p _) .nil) (.inl rfl)
  refine reg_cons (guard_on rfl rfl rfl rfl hb6) (op_field_lp rfl rfl Try_fld_28_1 rfl rfl) ?_
  refine reg_cons (guard_on rfl rfl rfl rfl hb6) (op_field_lp rfl rfl Try_fld_26_3 rfl rfl) ?_
  refine reg_cons (guard_on rfl rfl rfl rfl hb6) (op_load_lp (v := .pv (.vs 2 (List.map eGVal a1.fF.fVars))) rfl rfl rfl rfl Try_one_24 rfl rfl) ?_
  refine reg_cons (guard_on rfl rfl rfl rfl hb6) (op_len_vs (n := a1.fF.fVars.length) rfl rfl (List.length_map ..) Try_slc_24 rfl rfl) ?_
  refine reg_cons (guard_on rfl rfl rfl rfl hb6) (op_int (k := .i64) (m := (a1.fF.fVars.length : Int)) (n := 100) rfl rfl rfl rfl rfl rfl) ?_
  refine rpf hb6 ?_
  refine ras ?_
  refine reg_nil ?_
  refine post_imp (s' := ⟨19, [(4, some (.pv (.bool (decide ((a1.fF.fVars.length : Int) > 100)))))], [], 0, [], [], 0, []⟩) (imps [] ⟨by kernel_rfl, trivial⟩ trivial) ?_
  refine post_next ?_
  refine aw_ret ?_
  obtain rfl := Option.some.inj hF
  exact post_ret rfl rfl (.cons _ _ _ _ _ (.tmp _ _ rfl) (.p _) .nil) (.inl rfl)
theorem slices_IndexFunc_api_Class_ok {a0 : List GClass} {q1 : GClass → Option Bool} {r : Int} {q1_f : Nat} {q1_c : List PV} (q1_b : callB Try.prog q1_f = true) (q1_h : ∀ (x0 : GClass) (r : Bool), q1 x0 = some r → Abs.Fn Try.prog q1_f ([.agg (eGClass x0)] ++ q1_c) [.p (.bool r)]) (hF : slices_IndexFunc_api_Class a0 q1 = some r) : Abs.Fn Try.prog 37 [.vs 7 (List.map eGClass a0), .fn q1_f q1_c] [.p (.int .i64 r)] := by
  unfold slices_IndexFunc_api_Class at hF
  refine fn_of_body (n := 19) Try.func37 rfl rfl rfl ?_
  intro w O
  refine aw_seq ?_
  refine aw_region ?_
  refine ras ?_
  refine reg_nil ?_
  refine post_imp (s' := ⟨19, [(0, some (.pv (.vs 7 (List.map eGClass a0)))), (1, some (.pv (.fn q1_f q1_c)))], [], 0, [], [], 0, []⟩) (imps [] ⟨by kernel_rfl, by kernel_rfl, trivial⟩ trivial) ?_
  refine post_next ?_
  iterate 2 (refine aw_seq ?_)
  refine aw_region ?_
  refine rmv ?_
  refine reg_cons (guard_no rfl) (op_len_vs (n := a0.length) rfl rfl (List.length_map ..) Try_slc_22 rfl rfl) ?_
  refine rmv ?_
  refine reg_nil ?_
  refine post_imp (s' := ⟨19, [(0, some (.pv (.vs 7 (List.map eGClass a0)))), (1, some (.pv (.fn q1_f q1_c))), (7, some (.pv (.int .i64 (a0.length : Int)))), (8, some (.pv (.int .i64 0)))], [], 0, [], [], 0, []⟩) (imps [] ⟨by kernel_rfl, by kernel_rfl, by kernel_rfl, by kernel_rfl, trivial⟩ trivial) ?_
  refine post_next ?_
  obtain ⟨lr34, hF, hK35⟩ := bind_some hF
  refine aw_for ((((a0.length : Int) : Int) - (0)).toNat + 1) (fun s1 => ∃ q, lr34 = .next q ∧ s1 = ⟨19, [], [], 0, [], [], 0, []⟩) ?_ ?_
  · refine rnd_loop (α := Int) (fun q => ⟨19, [(0, some (.pv (.vs 7 (List.map eGClass a0)))), (1, some (.pv (.fn q1_f q1_c))), (7, some (.pv (.int .i64 (a0.length : Int)))), (8, some (.pv (.int .i64 q)))], [], 0, [], [], 0, []⟩) (fun k q => slices_IndexFunc_api_Class_L1 a0 q1 k q = some lr34) 0 (imps [] ⟨by kernel_rfl, by kernel_rfl, by kernel_rfl, by kernel_rfl, trivial⟩ trivial) hF (fun q h => by cases h) ?_
    clear hF
    rintro k x11 hF ih
    refine rnd_succ ?_
    refine aw_seq ?_
    refine aw_region ?_
    refine reg_cons (guard_no rfl) (op_int (k := .i64) (m := x11) (n := (a0.length : Int)) rfl rfl rfl rfl rfl rfl) ?_
    refine reg_nil ?_
    refine post_imp (s' := ⟨19, [(0, some (.pv (.vs 7 (List.map eGClass a0)))), (1, some (.pv (.fn q1_f q1_c))), (7, some (.pv (.int .i64 (a0.length : Int)))), (8, some (.pv (.int .i64 x11))), (9, some (.pv (.bool (decide (x11 < (a0.length : Int))))))], [], 0, [], [], 0, []⟩) (imps [] ⟨by kernel_rfl, by kernel_rfl, by kernel_rfl, by kernel_rfl, by kernel_rfl, trivial⟩ trivial) ?_
    refine post_next ?_
    refine aw_seq ?_
    rcases ite_some hF with ⟨hb23, hF⟩ | ⟨hb23, hF⟩
    · refine aw_cond_t rfl hb23 ?_
      refine aw_skip ?_
      refine post_next ?_
      refine aw_seq ?_
      refine aw_block ?_
      refine aw_seq ?_
      refine aw_region ?_
      refine rmv ?_
      refine ras ?_
      refine reg_nil ?_
      refine post_imp (s' := ⟨19, [(0, some (.pv (.vs 7 (List.map eGClass a0)))), (1, some (.pv (.fn q1_f q1_c))), (5, some (.pv (.int .i64 x11))), (7, some (.pv (.int .i64 (a0.length : Int)))), (8, some (.pv (.int .i64 x11)))], [], 0, [], [], 0, []⟩) (imps [] ⟨by kernel_rfl, by kernel_rfl, by kernel_rfl, by kernel_rfl, by kernel_rfl, trivial⟩ trivial) ?_
      refine post_next ?_
      refine aw_seq ?_
      refine aw_region ?_
      iterate 3 (refine rmv ?_)
      obtain ⟨y28, h29, hF⟩ := bind_some hF
      refine reg_cons (guard_no rfl) (op_index_vs (k := .i64) rfl rfl rfl (idx_map eGClass h29) Try_slc_22 rfl rfl) ?_
      refine reg_cons (guard_no rfl) (op_load_vp_agg (ps := eGClass y28) rfl rfl rfl rfl Try_agg_49 rfl rfl) ?_
      obtain ⟨y30, h31, hF⟩ := bind_some hF
      refine reg_cons (guard_no rfl) (op_call 0 rfl (caps := q1_c) (args := [.agg (eGClass y28)]) (rs := [.p (.bool y30)]) rfl rfl rfl q1_b (q1_h y28 _ h31) rfl rfl rfl) ?_
      refine reg_nil ?_
      refine post_imp (s' := ⟨19, [(0, some (.pv (.vs 7 (List.map eGClass a0)))), (1, some (.pv (.fn q1_f q1_c))), (5, some (.pv (.int .i64 x11))), (7, some (.pv (.int .i64 (a0.length : Int)))), (8, some (.pv (.int .i64 x11))), (16, some (.pv (.bool y30)))], [], 0, [], [], 0, []⟩) (imps [] ⟨by kernel_rfl, by kernel_rfl, by kernel_rfl, by kernel_rfl, by kernel_rfl, by kernel_rfl, trivial⟩ trivial) ?_
      refine post_next ?_
      rcases ite_some hF with ⟨hb32, hF⟩ | ⟨hb32, hF⟩
      · refine aw_cond_t rfl hb32 ?_
        refine aw_seq ?_
        refine aw_region ?_
        refine rmv ?_
        refine ras ?_
        refine reg_nil ?_
        refine post_imp (s' := ⟨19, [(4, some (.pv (.int .i64 x11)))], [], 0, [], [], 0, []⟩) (imps [] ⟨by kernel_rfl, trivial⟩ trivial) ?_
        refine post_next ?_
        refine aw_ret ?_
        refine post_block_ret ?_
        iterate 2 (refine post_then_ret ?_)
        refine post_lp_ret ?_
        obtain rfl := Option.some.inj hF
        have hF := elim_stop hK35
        refine post_then_ret ?_
        obtain rfl := Option.some.inj hF
        exact post_ret rfl rfl (.cons _ _ _ _ _ (.tmp _ _ rfl) (.p _) .nil) (.inl rfl)
      refine aw_cond_f rfl hb32 ?_
      refine aw_skip ?_
      refine post_block_normal ?_
      refine post_next ?_
      refine aw_region ?_
      refine reg_cons (guard_no rfl) (op_int (k := .i64) (m := x11) (n := 1) rfl rfl rfl rfl rfl rfl) ?_
      refine rmv ?_
      refine reg_nil ?_
      refine post_round ?_
      exact rnd_back (ih (w_i64 (x11 + 1)) hF) (imps [] ⟨by kernel_rfl, by kernel_rfl, by kernel_rfl, by kernel_rfl, trivial⟩ trivial)
    refine aw_cond_f rfl hb23 ?_
    refine aw_exit ?_
    iterate 2 (refine post_then_exit ?_)
    obtain rfl := Option.some.inj hF
    exact post_lp_break _ ⟨_, rfl, rfl⟩ (imps [] trivial trivial)
  rintro _ ⟨⟨⟩, rfl, rfl⟩
  have hF := elim_next hK35
  clear hK35
  refine post_next ?_
  refine aw_seq ?_
  refine aw_region ?_
  refine ras ?_
  refine reg_nil ?_
  refine post_imp (s' := ⟨19, [(4, some (.pv (.int .i64 (-1))))], [], 0, [], [], 0, []⟩) (imps [] ⟨by kernel_rfl, trivial⟩ trivial) ?_
  refine post_next ?_
  refine aw_ret ?_
  obtain rfl := Option.some.inj hF
  exact post_ret rfl rfl (.cons _ _ _ _ _ (.tmp _ _ rfl) (.p _) .nil) (.inl rfl)
theorem table_Find_1_ok {a0 : GClass} {c0 : List UInt8} {r : Bool} (hF : table_Find_1 a0 c0 = some r) : Abs.Fn Try.prog 38 [.agg (eGClass a0), .vp (eS c0)] [.p (.bool r)] := by
  unfold table_Find_1 at hF
  refine fn_of_body (n := 8) Try.func38 rfl rfl rfl ?_
  intro w O
  refine aw_seq ?_
  refine aw_region ?_
  refine reg_cons (guard_no rfl) (op_box 0 rfl rfl rfl rfl rfl rfl) ?_
  refine ras ?_
  refine reg_nil ?_
  refine post_imp (s' := ⟨8, [(1, some (.pv (.vp (eS c0)))), (2, some (.lp 0 0))], [(0, some (.box 49 (bxv (eGClass a0))))], 1, [], [], 0, []⟩) (imps [0] ⟨by kernel_rfl, by kernel_rfl, trivial⟩ ⟨by kernel_rfl, trivial⟩) ?_
  refine post_next ?_
  refine aw_seq ?_
  refine aw_region ?_
  refine reg_cons (guard_no rfl) (op_field_lp rfl rfl Try_fld_49_0 rfl rfl) ?_
  refine reg_cons (guard_no rfl) (op_load_lp (v := .pv (.str a0.fName)) rfl rfl rfl rfl Try_one_9 rfl rfl) ?_
  refine reg_cons (guard_no rfl) (op_load_vp (p := .str c0) rfl rfl rfl Try_one_9 rfl rfl) ?_
  refine reg_cons (guard_no rfl) (op_str rfl rfl rfl rfl rfl rfl) ?_
  refine ras ?_
  refine reg_nil ?_
  refine post_imp (s' := ⟨8, [(3, some (.pv (.bool (a0.fName == c0))))], [], 0, [], [], 0, []⟩) (imps [] ⟨by kernel_rfl, trivial⟩ trivial) ?_
  refine post_next ?_
  refine aw_ret ?_
  obtain rfl := Option.some.inj hF
  exact post_ret rfl rfl (.cons _ _ _ _ _ (.tmp _ _ rfl) (.p _) .nil) (.inl rfl)
theorem table_Find_ok {a0 : List GClass} {a1 : List UInt8} {r : Int} (hF : table_Find a0 a1 = some r) : Abs.Fn Try.prog 26 [.vs 7 (List.map eGClass a0), .str a1] [.p (.int .i64 r)] := by
  unfold table_Find at hF
  refine fn_of_body (n := 8) Try.func26 rfl rfl rfl ?_
  intro w O
  refine aw_seq ?_
  refine aw_region ?_
  refine reg_cons (guard_no rfl) (op_box 0 rfl rfl rfl rfl rfl rfl) ?_
  refine ras ?_
  refine reg_nil ?_
  refine post_imp (s' := ⟨8, [(0, some (.pv (.vs 7 (List.map eGClass a0)))), (3, some (.lp 0 0))], [(0, some (.box 9 [.pv (.str a1)]))], 1, [], [], 0, []⟩) (imps [0] ⟨by kernel_rfl, by kernel_rfl, trivial⟩ ⟨by kernel_rfl, trivial⟩) ?_
  refine post_next ?_
  refine aw_seq ?_
  refine aw_region ?_
  refine rmv ?_
  refine reg_cons (guard_no rfl) (op_makeFunc rfl rfl rfl rfl) ?_
  obtain ⟨y2, h3, hF⟩ := bind_some hF
  refine reg_cons (guard_no rfl) (op_callB 1 rfl (caps := []) (args := [.vs 7 (List.map eGClass a0), .fn 38 [.vp (eS a1)]]) [(0, some (.box 9 [.pv (.str a1)]))] rfl rfl rfl (FzH.spec ⟨rfl, trivial⟩) rfl rfl Try_cal_37 (slices_IndexFunc_api_Class_ok (q1_f := 38) (q1_c := [.vp (eS a1)]) (q1_b := Try_cal_38) (q1_h := fun _ r h => (table_Find_1_ok h)) h3) rfl rfl rfl) ?_
  refine ras ?_
  refine reg_nil ?_
  refine post_imp (s' := ⟨8, [(4, some (.pv (.int .i64 y2)))], [], 0, [], [], 0, []⟩) (imps [] ⟨by kernel_rfl, trivial⟩ trivial) ?_
  refine post_next ?_
  refine aw_ret ?_
  obtain rfl := Option.some.inj hF
  exact post_ret rfl rfl (.cons _ _ _ _ _ (.tmp _ _ rfl) (.p _) .nil) (.inl rfl)
theorem table_Arity_ok {a0 : List GClass} {a1 : List UInt8} {r : Int} (hF : table_Arity a0 a1 = some r) : Abs.Fn Try.prog 32 [.vs 7 (List.map eGClass a0), .str a1] [.p (.int .i64 r)] := by
  unfold table_Arity at hF
  refine fn_of_body (n := 17) Try.func32 rfl rfl rfl ?_
  intro w O
  refine aw_seq ?_
  refine aw_region ?_
  refine ras ?_
  refine reg_nil ?_
  refine post_imp (s' := ⟨17, [(0, some (.pv (.vs 7 (List.map eGClass a0)))), (1, some (.pv (.str a1)))], [], 0, [], [], 0, []⟩) (imps [] ⟨by kernel_rfl, by kernel_rfl, trivial⟩ trivial) ?_
  refine post_next ?_
  refine aw_seq ?_
  refine aw_region ?_
  iterate 2 (refine rmv ?_)
  obtain ⟨y3, h4, hF⟩ := bind_some hF
  refine reg_cons (guard_no rfl) (op_call 0 rfl (caps := []) (args := [.vs 7 (List.map eGClass a0), .str a1]) (rs := [.p (.int .i64 y3)]) rfl rfl rfl Try_cal_26 (table_Find_ok h4) rfl rfl rfl) ?_
  refine ras ?_
  refine reg_nil ?_
  refine post_imp (s' := ⟨17, [(0, some (.pv (.vs 7 (List.map eGClass a0)))), (5, some (.pv (.int .i64 y3)))], [], 0, [], [], 0, []⟩) (imps [] ⟨by kernel_rfl, by kernel_rfl, trivial⟩ trivial) ?_
  refine post_next ?_
  iterate 2 (refine aw_seq ?_)
  refine aw_region ?_
  refine rmv ?_
  refine reg_cons (guard_no rfl) (op_int (k := .i64) (m := y3) (n := 0) rfl rfl rfl rfl rfl rfl) ?_
  refine reg_nil ?_
  refine post_imp (s' := ⟨17, [(0, some (.pv (.vs 7 (List.map eGClass a0)))), (5, some (.pv (.int .i64 y3))), (10, some (.pv (.bool (decide (y3 < 0)))))], [], 0, [], [], 0, []⟩) (imps [] ⟨by kernel_rfl, by kernel_rfl, by kernel_rfl, trivial⟩ trivial) ?_
  refine post_next ?_
  rcases ite_some hF with ⟨hb5, hF⟩ | ⟨hb5, hF⟩
  · refine aw_cond_t rfl hb5 ?_
    refine aw_seq ?_
    refine aw_region ?_
    refine ras ?_
    refine reg_nil ?_
    refine post_imp (s' := ⟨17, [(4, some (.pv (.int .i64 (-1))))], [], 0, [], [], 0, []⟩) (imps [] ⟨by kernel_rfl, trivial⟩ trivial) ?_
    refine post_next ?_
    refine aw_ret ?_
    refine post_then_ret ?_
    obtain rfl := Option.some.inj hF
    exact post_ret rfl rfl (.cons _ _ _ _ _ (.tmp _ _ rfl) (.p _) .nil) (.inl rfl)
  refine aw_cond_f rfl hb5 ?_
  refine aw_skip ?_
  refine post_next ?_
  refine aw_seq ?_
  refine aw_region ?_
  iterate 2 (refine rmv ?_)
  obtain ⟨y6, h7, hF⟩ := bind_some hF
  refine reg_cons (guard_no rfl) (op_index_vs (k := .i64) rfl rfl rfl (idx_map eGClass h7) Try_slc_22 rfl rfl) ?_
  refine reg_cons (guard_no rfl) (op_field_vp rfl rfl Try_fld_49_1 rfl rfl) ?_
  refine reg_cons (guard_no rfl) (op_load_vp (p := .vs 1 (List.map eS y6.fParams)) rfl rfl rfl Try_one_44 rfl rfl) ?_
  refine reg_cons (guard_no rfl) (op_len_vs (n := y6.fParams.length) rfl rfl (List.length_map ..) Try_slc_44 rfl rfl) ?_
  refine ras ?_
  refine reg_nil ?_
  refine post_imp (s' := ⟨17, [(4, some (.pv (.int .i64 (y6.fParams.length : Int))))], [], 0, [], [], 0, []⟩) (imps [] ⟨by kernel_rfl, trivial⟩ trivial) ?_
  refine post_next ?_
  refine aw_ret ?_
  obtain rfl := Option.some.inj hF
  exact post_ret rfl rfl (.cons _ _ _ _ _ (.tmp _ _ rfl) (.p _) .nil) (.inl rfl)
theorem slices_Clone_int_ok {a0 : List Int} {r : List Int} (hF : slices_Clone_int a0 = some r) : Abs.Fn Try.prog 41 [.vs 1 (List.map eI a0)] [.own 3 1 (List.map eI r)] := by
  unfold slices_Clone_int at hF
  obtain ⟨u, h, hF⟩ := bind_some hF
  obtain rfl := Option.some.inj hF
  refine fn_of_body (n := 8) Try.func41 rfl rfl rfl ?_
  intro w O
  refine aw_seq ?_
  refine aw_region ?_
  refine reg_cons (guard_no rfl) (op_assign rfl rfl rfl rfl) ?_
  refine reg_nil ?_
  refine post_next ?_
  iterate 2 (refine aw_seq ?_)
  refine aw_region ?_
  refine reg_cons (guard_no rfl) (op_move rfl rfl rfl rfl) ?_
  refine op_eqNil rfl rfl rfl Try_slc_73 (guard_no rfl) rfl rfl ?_ ?_
  · intro hn
    refine reg_nil ?_
    refine post_next ?_
    refine aw_cond_t rfl rfl ?_
    refine aw_seq ?_
    refine aw_region ?_
    refine reg_cons (guard_no rfl) (op_assign rfl rfl rfl rfl) ?_
    refine reg_nil ?_
    refine post_next ?_
    refine aw_ret ?_
    refine post_then_ret ?_
    refine post_imp (imp_nil_own 2 3 1 0 rfl rfl) ?_
    rw [hn]
    exact post_ret rfl rfl (.cons _ _ _ _ _ (.tmp _ _ rfl) (.own _ _ _ _ rfl nolent3) .nil) (.inl rfl)
  · refine reg_nil ?_
    refine post_next ?_
    refine aw_cond_f rfl rfl ?_
    refine aw_skip ?_
    refine post_next ?_
    refine aw_seq ?_
    refine aw_region ?_
    refine reg_cons (guard_no rfl) (op_litOwn 0 rfl (rows := List.map eI ([] : List Int)) (zs := [.int .i64 0]) rfl rfl Try_slc_73 Try_zer_3 (by exact ⟨rfl, trivial⟩) rfl rfl rfl rfl rfl rfl rfl rfl) ?_
    refine reg_cons (guard_no rfl) (op_move rfl rfl rfl rfl) ?_
    refine reg_cons (guard_no rfl) (op_append 1 rfl rfl rfl rfl rfl Try_slc_73 Try_elm_3 Try_zer_3 rfl rfl rfl (room_map (f := eI) (g := eI) h) (List.map_append (f := eI) (l₁ := []) (l₂ := a0)).symm rfl rfl) ?_
    refine reg_cons (guard_no rfl) (op_assign rfl rfl rfl rfl) ?_
    refine reg_nil ?_
    refine post_next ?_
    refine aw_ret ?_
    exact post_ret rfl rfl (.cons _ _ _ _ _ (.tmp _ _ rfl) (.own _ _ _ _ rfl nolent3) .nil) (.inl rfl)
theorem above_up_ok {a0 : List GClass} {a1 : List UInt8} {r : (List GClass) × (List UInt8)} (hF : above_up a0 a1 = some r) : Abs.Fn Try.prog 43 [.vs 7 (List.map eGClass a0), .str a1] [.clo 45 [.vp ((eL 7 eGClass) r.1)] 9 [.str r.2] []] := by
  unfold above_up at hF
  refine fn_of_body (n := 6) Try.func43 rfl rfl rfl ?_
  intro w O
  refine aw_seq ?_
  refine aw_region ?_
  refine reg_cons (guard_no rfl) (op_box 0 rfl rfl rfl rfl rfl rfl) ?_
  refine reg_cons (guard_no rfl) (op_box 1 rfl rfl rfl rfl rfl rfl) ?_
  refine ras ?_
  refine reg_nil ?_
  refine post_imp (s' := ⟨6, [(2, some (.lp 0 0)), (3, some (.lp 1 0))], [(0, some (.box 22 [.pv (.vs 7 (List.map eGClass a0))])), (1, some (.box 9 [.pv (.str a1)]))], 2, [], [], 0, []⟩) (imps [0, 1] ⟨by kernel_rfl, by kernel_rfl, trivial⟩ ⟨by kernel_rfl, by kernel_rfl, trivial⟩) ?_
  refine post_next ?_
  refine aw_seq ?_
  refine aw_region ?_
  refine reg_cons (guard_no rfl) (op_makeFunc rfl rfl rfl rfl) ?_
  refine ras ?_
  refine reg_nil ?_
  refine post_imp (s' := ⟨6, [(4, some (.fn 45 [.lp 0 0, .lp 1 0]))], [(0, some (.box 22 [.pv (.vs 7 (List.map eGClass a0))])), (1, some (.box 9 [.pv (.str a1)]))], 2, [], [], 0, []⟩) (imps [0, 1] ⟨by kernel_rfl, trivial⟩ ⟨by kernel_rfl, by kernel_rfl, trivial⟩) ?_
  refine post_next ?_
  refine aw_ret ?_
  refine post_imp (imp_freeze_cap 4 0 [.pv (.vp ((eL 7 eGClass) a0)), .lp 1 0] rfl rfl rfl rfl ⟨.inr ⟨rfl, rfl⟩, .inl rfl, trivial⟩) ?_
  obtain rfl := Option.some.inj hF
  exact post_ret rfl rfl (.cons _ _ _ _ _ (.tmp _ _ rfl) (.clo 45 [.vp ((eL 7 eGClass) a0)] [] 1 9 [.str a1] rfl nolent3) .nil) (.inl rfl)
theorem above_up_1_it {rows : List (Int)} {sp : Nat} {c0 : List GClass} {c1 : List UInt8} (hF : above_up_1 rows sp c0 c1 = some (min (sp + 1) rows.length)) : It Try.prog 45 1 [.vp ((eL 7 eGClass) c0)] (some (9, [.str c1])) [] (rows.map (fun z : Int => ([.int .i64 z] : List PV))) sp := by
  unfold above_up_1 at hF
  refine it_of_body (n := 29) Try.func45 rfl rfl rfl ?_
  intro l c hcx
  refine aw_seq ?_
  refine aw_region ?_
  refine reg_cons (guard_no rfl) (op_load_vp (p := .vs 7 (List.map eGClass c0)) rfl rfl rfl Try_one_22 rfl rfl) ?_
  refine reg_cons (guard_no rfl) (op_len_vs (n := c0.length) rfl rfl (List.length_map ..) Try_slc_22 rfl rfl) ?_
  refine reg_cons (guard_no rfl) (op_int (k := .i64) (m := (c0.length : Int)) (n := 1) rfl rfl rfl rfl rfl rfl) ?_
  refine rmv ?_
  refine reg_nil ?_
  refine post_imp (s' := ⟨29, [(0, some (.pv (.yld l))), (1, some (.pv (.vp ((eL 7 eGClass) c0)))), (2, some (.lp 0 0)), (7, some (.pv (.int .i64 (w_i64 ((c0.length : Int) + 1))))), (8, some (.pv (.int .i64 0)))], [(0, some (.box 9 [.pv (.str c1)]))], 1, [], [], 0, []⟩) (imps [0] ⟨by kernel_rfl, by kernel_rfl, by kernel_rfl, by kernel_rfl, by kernel_rfl, trivial⟩ ⟨by kernel_rfl, trivial⟩) ?_
  refine post_next ?_
  obtain ⟨lr65, hF, hK66⟩ := bind_some hF
  refine aw_for ((((w_i64 ((c0.length : Int) + 1)) : Int) - (0)).toNat + 1) (fun s1 => ∃ q, lr65 = .next q ∧ s1 = ⟨29, [], [], 0, [], [], q, []⟩) ?_ ?_
  · refine rnd_loop (α := Nat × (List UInt8) × Int) (fun q => ⟨29, [(0, some (.pv (.yld l))), (1, some (.pv (.vp ((eL 7 eGClass) c0)))), (2, some (.lp 0 0)), (7, some (.pv (.int .i64 (w_i64 ((c0.length : Int) + 1))))), (8, some (.pv (.int .i64 q.2.2)))], [(0, some (.box 9 [.pv (.str q.2.1)]))], 1, [], [], q.1, []⟩) (fun k q => above_up_1_L1 c0 sp rows k q.1 q.2.1 q.2.2 = some lr65) (0, c1, 0) (imps [0] ⟨by kernel_rfl, by kernel_rfl, by kernel_rfl, by kernel_rfl, by kernel_rfl, trivial⟩ ⟨by kernel_rfl, trivial⟩) hF (fun q h => by cases h) ?_
    clear hF
    rintro k ⟨x19, x20, x21⟩ hF ih
    refine rnd_succ ?_
    refine aw_seq ?_
    refine aw_region ?_
    refine reg_cons (guard_no rfl) (op_int (k := .i64) (m := x21) (n := w_i64 ((c0.length : Int) + 1)) rfl rfl rfl rfl rfl rfl) ?_
    refine reg_nil ?_
    refine post_imp (s' := ⟨29, [(0, some (.pv (.yld l))), (1, some (.pv (.vp ((eL 7 eGClass) c0)))), (2, some (.lp 0 0)), (7, some (.pv (.int .i64 (w_i64 ((c0.length : Int) + 1))))), (8, some (.pv (.int .i64 x21))), (9, some (.pv (.bool (decide (x21 < (w_i64 ((c0.length : Int) + 1)))))))], [(0, some (.box 9 [.pv (.str x20)]))], 1, [], [], x19, []⟩) (imps [0] ⟨by kernel_rfl, by kernel_rfl, by kernel_rfl, by kernel_rfl, by kernel_rfl, by kernel_rfl, trivial⟩ ⟨by kernel_rfl, trivial⟩) ?_
    refine post_next ?_
    refine aw_seq ?_
    rcases ite_some hF with ⟨hb43, hF⟩ | ⟨hb43, hF⟩
    · refine aw_cond_t rfl hb43 ?_
      refine aw_skip ?_
      refine post_next ?_
      refine aw_seq ?_
      refine aw_block ?_
      refine aw_seq ?_
      refine aw_region ?_
      refine reg_cons (guard_no rfl) (op_load_vp (p := .vs 7 (List.map eGClass c0)) rfl rfl rfl Try_one_22 rfl rfl) ?_
      refine reg_cons (guard_no rfl) (op_load_lp (v := .pv (.str x20)) rfl rfl rfl rfl Try_one_9 rfl rfl) ?_
      obtain ⟨y46, h47, hF⟩ := bind_some hF
      refine reg_cons (guard_no rfl) (op_call 1 rfl (caps := []) (args := [.vs 7 (List.map eGClass c0), .str x20]) (rs := [.p (.int .i64 y46)]) rfl rfl rfl Try_cal_26 (table_Find_ok h47) rfl rfl rfl) ?_
      refine ras ?_
      refine reg_nil ?_
      refine post_imp (s' := ⟨29, [(0, some (.pv (.yld l))), (1, some (.pv (.vp ((eL 7 eGClass) c0)))), (2, some (.lp 0 0)), (4, some (.pv (.int .i64 y46))), (7, some (.pv (.int .i64 (w_i64 ((c0.length : Int) + 1))))), (8, some (.pv (.int .i64 x21)))], [(0, some (.box 9 [.pv (.str x20)]))], 1, [], [], x19, []⟩) (imps [0] ⟨by kernel_rfl, by kernel_rfl, by kernel_rfl, by kernel_rfl, by kernel_rfl, by kernel_rfl, trivial⟩ ⟨by kernel_rfl, trivial⟩) ?_
      refine post_next ?_
      iterate 2 (refine aw_seq ?_)
      obtain ⟨p53, hF, hK54⟩ := bind_some hF
      obtain ⟨x51, x52⟩ := p53
      refine aw_cut (fun s1 => s1 = ⟨29, [(0, some (.pv (.yld l))), (1, some (.pv (.vp ((eL 7 eGClass) c0)))), (2, some (.lp 0 0)), (4, some (.pv (.int .i64 y46))), (7, some (.pv (.int .i64 (w_i64 ((c0.length : Int) + 1))))), (8, some (.pv (.int .i64 x21))), (20, some (.pv (.bool x52)))], [(0, some (.box 9 [.pv (.str x20)]))], 1, [], [], x51, []⟩) ?_ ?_
      · refine aw_region ?_
        refine rmv ?_
        refine reg_cons (guard_no rfl) (op_int (k := .i64) (m := y46) (n := 0) rfl rfl rfl rfl rfl rfl) ?_
        refine rmv ?_
        rcases ite_some hF with ⟨hb48, hF⟩ | ⟨hb48, hF⟩
        · refine rgo_t hb48 ?_
          iterate 3 (refine rgo_t hb48 ?_)
          refine rpt hb48 ?_
          refine reg_nil ?_
          cases hF
          exact post_cut _ rfl (imps [0] ⟨by kernel_rfl, by kernel_rfl, by kernel_rfl, by kernel_rfl, by kernel_rfl, by kernel_rfl, by kernel_rfl, trivial⟩ ⟨by kernel_rfl, trivial⟩)
        iterate 2 (refine reg_cons (guard_on rfl rfl rfl rfl hb48) (op_move rfl rfl rfl rfl) ?_)
        obtain ⟨u49, h50, hF⟩ := bind_some hF
        refine reg_cons (guard_on rfl rfl rfl rfl hb48) (op_yield (row := (fun z : Int => ([.int .i64 z] : List PV)) y46) hcx rfl rfl rfl rfl (yck_row (fun z : Int => ([.int .i64 z] : List PV)) h50) (yck_spec h50).2 rfl rfl) ?_
        refine reg_cons (guard_on rfl rfl rfl rfl hb48) (op_not rfl rfl rfl rfl) ?_
        refine rpf hb48 ?_
        refine reg_nil ?_
        cases hF
        exact post_cut _ rfl (imps [0] ⟨by kernel_rfl, by kernel_rfl, by kernel_rfl, by kernel_rfl, by kernel_rfl, by kernel_rfl, by kernel_rfl, trivial⟩ ⟨by kernel_rfl, trivial⟩)
      rintro _ rfl
      have hF := hK54
      clear hK54
      refine post_next ?_
      rcases ite_some hF with ⟨hb55, hF⟩ | ⟨hb55, hF⟩
      · refine aw_cond_t rfl hb55 ?_
        refine aw_ret ?_
        refine post_then_ret ?_
        refine post_block_ret ?_
        iterate 2 (refine post_then_ret ?_)
        refine post_lp_ret ?_
        obtain rfl := Option.some.inj hF
        have hF := elim_stop hK66
        exact post_it (it_len hF) rfl (.inl rfl)
      refine aw_cond_f rfl hb55 ?_
      refine aw_skip ?_
      refine post_next ?_
      refine aw_seq ?_
      refine aw_region ?_
      refine reg_cons (guard_no rfl) (op_load_vp (p := .vs 7 (List.map eGClass c0)) rfl rfl rfl Try_one_22 rfl rfl) ?_
      refine rmv ?_
      obtain ⟨y58, h59, hF⟩ := bind_some hF
      refine reg_cons (guard_no rfl) (op_index_vs (k := .i64) rfl rfl rfl (idx_map eGClass h59) Try_slc_22 rfl rfl) ?_
      refine reg_cons (guard_no rfl) (op_field_vp rfl rfl Try_fld_49_2 rfl rfl) ?_
      refine reg_cons (guard_no rfl) (op_load_vp (p := .str y58.fSuper) rfl rfl rfl Try_one_9 rfl rfl) ?_
      refine reg_cons (guard_no rfl) (op_store_lp (n := 1) rfl rfl rfl rfl rfl (or_one Try_one_9) (by rw [Try_one_9]; rfl) rfl rfl rfl) ?_
      refine reg_nil ?_
      refine post_imp (s' := ⟨29, [(0, some (.pv (.yld l))), (1, some (.pv (.vp ((eL 7 eGClass) c0)))), (2, some (.lp 0 0)), (7, some (.pv (.int .i64 (w_i64 ((c0.length : Int) + 1))))), (8, some (.pv (.int .i64 x21)))], [(0, some (.box 9 [.pv (.str y58.fSuper)]))], 1, [], [], x51, []⟩) (imps [0] ⟨by kernel_rfl, by kernel_rfl, by kernel_rfl, by kernel_rfl, by kernel_rfl, trivial⟩ ⟨by kernel_rfl, trivial⟩) ?_
      refine post_next ?_
      refine aw_seq ?_
      refine aw_region ?_
      refine reg_cons (guard_no rfl) (op_load_lp (v := .pv (.str y58.fSuper)) rfl rfl rfl rfl Try_one_9 rfl rfl) ?_
      refine reg_cons (guard_no rfl) (op_str rfl rfl rfl rfl rfl rfl) ?_
      refine reg_nil ?_
      refine post_imp (s' := ⟨29, [(0, some (.pv (.yld l))), (1, some (.pv (.vp ((eL 7 eGClass) c0)))), (2, some (.lp 0 0)), (7, some (.pv (.int .i64 (w_i64 ((c0.length : Int) + 1))))), (8, some (.pv (.int .i64 x21))), (27, some (.pv (.bool (y58.fSuper == []))))], [(0, some (.box 9 [.pv (.str y58.fSuper)]))], 1, [], [], x51, []⟩) (imps [0] ⟨by kernel_rfl, by kernel_rfl, by kernel_rfl, by kernel_rfl, by kernel_rfl, by kernel_rfl, trivial⟩ ⟨by kernel_rfl, trivial⟩) ?_
      refine post_next ?_
      rcases ite_some hF with ⟨hb60, hF⟩ | ⟨hb60, hF⟩
      · refine aw_cond_t rfl hb60 ?_
        refine aw_ret ?_
        refine post_block_ret ?_
        iterate 2 (refine post_then_ret ?_)
        refine post_lp_ret ?_
        obtain rfl := Option.some.inj hF
        have hF := elim_stop hK66
        exact post_it (it_len hF) rfl (.inl rfl)
      refine aw_cond_f rfl hb60 ?_
      refine aw_skip ?_
      refine post_block_normal ?_
      refine post_next ?_
      refine aw_region ?_
      refine reg_cons (guard_no rfl) (op_int (k := .i64) (m := x21) (n := 1) rfl rfl rfl rfl rfl rfl) ?_
      refine rmv ?_
      refine reg_nil ?_
      refine post_round ?_
      exact rnd_back (ih (x51, y58.fSuper, w_i64 (x21 + 1)) hF) (imps [0] ⟨by kernel_rfl, by kernel_rfl, by kernel_rfl, by kernel_rfl, by kernel_rfl, trivial⟩ ⟨by kernel_rfl, trivial⟩)
    refine aw_cond_f rfl hb43 ?_
    refine aw_exit ?_
    iterate 2 (refine post_then_exit ?_)
    obtain rfl := Option.some.inj hF
    exact post_lp_break _ ⟨_, rfl, rfl⟩ (imps [] trivial trivial)
  rintro _ ⟨x64, rfl, rfl⟩
  have hF := elim_next hK66
  clear hK66
  exact post_it (it_len hF) rfl (.inr rfl)

theorem slices_Index_int_ok {a0 : List Int} {a1 : Int} {r : Int} (hF : slices_Index_int a0 a1 = some r) : Abs.Fn Try.prog 46 [.vs 1 (List.map eI a0), .int .i64 a1] [.p (.int .i64 r)] := by
  unfold slices_Index_int at hF
  refine fn_of_body (n := 19) Try.func46 rfl rfl rfl ?_
  intro w O
  refine aw_seq ?_
  refine aw_region ?_
  refine ras ?_
  refine reg_nil ?_
  refine post_imp (s' := ⟨19, [(0, some (.pv (.vs 1 (List.map eI a0)))), (1, some (.pv (.int .i64 a1)))], [], 0, [], [], 0, []⟩) (imps [] ⟨by kernel_rfl, by kernel_rfl, trivial⟩ trivial) ?_
  refine post_next ?_
  iterate 2 (refine aw_seq ?_)
  refine aw_region ?_
  refine rmv ?_
  refine reg_cons (guard_no rfl) (op_len_vs (n := a0.length) rfl rfl (List.length_map ..) Try_slc_73 rfl rfl) ?_
  refine rmv ?_
  refine reg_nil ?_
  refine post_imp (s' := ⟨19, [(0, some (.pv (.vs 1 (List.map eI a0)))), (1, some (.pv (.int .i64 a1))), (7, some (.pv (.int .i64 (a0.length : Int)))), (8, some (.pv (.int .i64 0)))], [], 0, [], [], 0, []⟩) (imps [] ⟨by kernel_rfl, by kernel_rfl, by kernel_rfl, by kernel_rfl, trivial⟩ trivial) ?_
  refine post_next ?_
  obtain ⟨lr22, hF, hK23⟩ := bind_some hF
  refine aw_for ((((a0.length : Int) : Int) - (0)).toNat + 1) (fun s1 => ∃ q, lr22 = .next q ∧ s1 = ⟨19, [], [], 0, [], [], 0, []⟩) ?_ ?_
  · refine rnd_loop (α := Int) (fun q => ⟨19, [(0, some (.pv (.vs 1 (List.map eI a0)))), (1, some (.pv (.int .i64 a1))), (7, some (.pv (.int .i64 (a0.length : Int)))), (8, some (.pv (.int .i64 q)))], [], 0, [], [], 0, []⟩) (fun k q => slices_Index_int_L1 a0 a1 k q = some lr22) 0 (imps [] ⟨by kernel_rfl, by kernel_rfl, by kernel_rfl, by kernel_rfl, trivial⟩ trivial) hF (fun q h => by cases h) ?_
    clear hF
    rintro k x7 hF ih
    refine rnd_succ ?_
    refine aw_seq ?_
    refine aw_region ?_
    refine reg_cons (guard_no rfl) (op_int (k := .i64) (m := x7) (n := (a0.length : Int)) rfl rfl rfl rfl rfl rfl) ?_
    refine reg_nil ?_
    refine post_imp (s' := ⟨19, [(0, some (.pv (.vs 1 (List.map eI a0)))), (1, some (.pv (.int .i64 a1))), (7, some (.pv (.int .i64 (a0.length : Int)))), (8, some (.pv (.int .i64 x7))), (9, some (.pv (.bool (decide (x7 < (a0.length : Int))))))], [], 0, [], [], 0, []⟩) (imps [] ⟨by kernel_rfl, by kernel_rfl, by kernel_rfl, by kernel_rfl, by kernel_rfl, trivial⟩ trivial) ?_
    refine post_next ?_
    refine aw_seq ?_
    rcases ite_some hF with ⟨hb15, hF⟩ | ⟨hb15, hF⟩
    · refine aw_cond_t rfl hb15 ?_
      refine aw_skip ?_
      refine post_next ?_
      refine aw_seq ?_
      refine aw_block ?_
      refine aw_seq ?_
      refine aw_region ?_
      refine rmv ?_
      refine ras ?_
      refine reg_nil ?_
      refine post_imp (s' := ⟨19, [(0, some (.pv (.vs 1 (List.map eI a0)))), (1, some (.pv (.int .i64 a1))), (5, some (.pv (.int .i64 x7))), (7, some (.pv (.int .i64 (a0.length : Int)))), (8, some (.pv (.int .i64 x7)))], [], 0, [], [], 0, []⟩) (imps [] ⟨by kernel_rfl, by kernel_rfl, by kernel_rfl, by kernel_rfl, by kernel_rfl, trivial⟩ trivial) ?_
      refine post_next ?_
      refine aw_seq ?_
      refine aw_region ?_
      iterate 3 (refine rmv ?_)
      obtain ⟨y18, h19, hF⟩ := bind_some hF
      refine reg_cons (guard_no rfl) (op_index_vs (k := .i64) rfl rfl rfl (idx_map eI h19) Try_slc_73 rfl rfl) ?_
      refine reg_cons (guard_no rfl) (op_load_vp (p := .int .i64 y18) rfl rfl rfl Try_one_3 rfl rfl) ?_
      refine reg_cons (guard_no rfl) (op_int (k := .i64) (m := a1) (n := y18) rfl rfl rfl rfl rfl rfl) ?_
      refine reg_nil ?_
      refine post_imp (s' := ⟨19, [(0, some (.pv (.vs 1 (List.map eI a0)))), (1, some (.pv (.int .i64 a1))), (5, some (.pv (.int .i64 x7))), (7, some (.pv (.int .i64 (a0.length : Int)))), (8, some (.pv (.int .i64 x7))), (16, some (.pv (.bool (a1 == y18))))], [], 0, [], [], 0, []⟩) (imps [] ⟨by kernel_rfl, by kernel_rfl, by kernel_rfl, by kernel_rfl, by kernel_rfl, by kernel_rfl, trivial⟩ trivial) ?_
      refine post_next ?_
      rcases ite_some hF with ⟨hb20, hF⟩ | ⟨hb20, hF⟩
      · refine aw_cond_t rfl hb20 ?_
        refine aw_seq ?_
        refine aw_region ?_
        refine rmv ?_
        refine ras ?_
        refine reg_nil ?_
        refine post_imp (s' := ⟨19, [(4, some (.pv (.int .i64 x7)))], [], 0, [], [], 0, []⟩) (imps [] ⟨by kernel_rfl, trivial⟩ trivial) ?_
        refine post_next ?_
        refine aw_ret ?_
        refine post_block_ret ?_
        iterate 2 (refine post_then_ret ?_)
        refine post_lp_ret ?_
        obtain rfl := Option.some.inj hF
        have hF := elim_stop hK23
        refine post_then_ret ?_
        obtain rfl := Option.some.inj hF
        exact post_ret rfl rfl (.cons _ _ _ _ _ (.tmp _ _ rfl) (.p _) .nil) (.inl rfl)
      refine aw_cond_f rfl hb20 ?_
      refine aw_skip ?_
      refine post_block_normal ?_
      refine post_next ?_
      refine aw_region ?_
      refine reg_cons (guard_no rfl) (op_int (k := .i64) (m := x7) (n := 1) rfl rfl rfl rfl rfl rfl) ?_
      refine rmv ?_
      refine reg_nil ?_
      refine post_round ?_
      exact rnd_back (ih (w_i64 (x7 + 1)) hF) (imps [] ⟨by kernel_rfl, by kernel_rfl, by kernel_rfl, by kernel_rfl, trivial⟩ trivial)
    refine aw_cond_f rfl hb15 ?_
    refine aw_exit ?_
    iterate 2 (refine post_then_exit ?_)
    obtain rfl := Option.some.inj hF
    exact post_lp_break _ ⟨_, rfl, rfl⟩ (imps [] trivial trivial)
  rintro _ ⟨⟨⟩, rfl, rfl⟩
  have hF := elim_next hK23
  clear hK23
  refine post_next ?_
  refine aw_seq ?_
  refine aw_region ?_
  refine ras ?_
  refine reg_nil ?_
  refine post_imp (s' := ⟨19, [(4, some (.pv (.int .i64 (-1))))], [], 0, [], [], 0, []⟩) (imps [] ⟨by kernel_rfl, trivial⟩ trivial) ?_
  refine post_next ?_
  refine aw_ret ?_
  obtain rfl := Option.some.inj hF
  exact post_ret rfl rfl (.cons _ _ _ _ _ (.tmp _ _ rfl) (.p _) .nil) (.inl rfl)
theorem slices_Contains_int_ok {a0 : List Int} {a1 : Int} {r : Bool} (hF : slices_Contains_int a0 a1 = some r) : Abs.Fn Try.prog 44 [.vs 1 (List.map eI a0), .int .i64 a1] [.p (.bool r)] := by
  unfold slices_Contains_int at hF
  refine fn_of_body (n := 9) Try.func44 rfl rfl rfl ?_
  intro w O
  refine aw_seq ?_
  refine aw_region ?_
  refine ras ?_
  refine reg_nil ?_
  refine post_imp (s' := ⟨9, [(0, some (.pv (.vs 1 (List.map eI a0)))), (1, some (.pv (.int .i64 a1)))], [], 0, [], [], 0, []⟩) (imps [] ⟨by kernel_rfl, by kernel_rfl, trivial⟩ trivial) ?_
  refine post_next ?_
  refine aw_seq ?_
  refine aw_region ?_
  iterate 2 (refine rmv ?_)
  obtain ⟨y1, h2, hF⟩ := bind_some hF
  refine reg_cons (guard_no rfl) (op_call 0 rfl (caps := []) (args := [.vs 1 (List.map eI a0), .int .i64 a1]) (rs := [.p (.int .i64 y1)]) rfl rfl rfl Try_cal_46 (slices_Index_int_ok h2) rfl rfl rfl) ?_
  refine reg_cons (guard_no rfl) (op_int (k := .i64) (m := y1) (n := 0) rfl rfl rfl rfl rfl rfl) ?_
  refine ras ?_
  refine reg_nil ?_
  refine post_imp (s' := ⟨9, [(4, some (.pv (.bool (decide (y1 ≥ 0)))))], [], 0, [], [], 0, []⟩) (imps [] ⟨by kernel_rfl, trivial⟩ trivial) ?_
  refine post_next ?_
  refine aw_ret ?_
  obtain rfl := Option.some.inj hF
  exact post_ret rfl rfl (.cons _ _ _ _ _ (.tmp _ _ rfl) (.p _) .nil) (.inl rfl)
theorem above_Chain_ok {a0 : List GClass} {a1 : List UInt8} {r : (List Int)} (hF : above_Chain a0 a1 = some r) : Abs.Fn Try.prog 42 [.vs 7 (List.map eGClass a0), .str a1] [.own 3 1 (List.map eI r)] := by
  unfold above_Chain at hF
  refine fn_of_body (n := 19) Try.func42 rfl rfl rfl ?_
  intro w O
  refine aw_seq ?_
  refine aw_region ?_
  refine ras ?_
  refine reg_nil ?_
  refine post_imp (s' := ⟨19, [(0, some (.pv (.vs 7 (List.map eGClass a0)))), (1, some (.pv (.str a1)))], [], 0, [], [], 0, []⟩) (imps [] ⟨by kernel_rfl, by kernel_rfl, trivial⟩ trivial) ?_
  refine post_next ?_
  refine aw_seq ?_
  refine aw_region ?_
  refine reg_cons (guard_no rfl) (op_alloc 0 rfl (ps := [.nils]) rfl Try_zer_73 (by exact ⟨rfl, trivial⟩) rfl rfl) ?_
  refine reg_imp (imp_nil_box 0 0 73 3 1 1 rfl rfl rfl) ?_
  refine reg_nil ?_
  refine post_imp (s' := ⟨19, [(0, some (.pv (.vs 7 (List.map eGClass a0)))), (1, some (.pv (.str a1))), (5, some (.lp 0 0))], [(0, some (.box 73 [.ls 1])), (1, some (.row 3 1 (List.map eI [])))], 2, [], [], 0, []⟩) (imps [0, 1] ⟨by kernel_rfl, by kernel_rfl, by kernel_rfl, trivial⟩ ⟨by kernel_rfl, by kernel_rfl, trivial⟩) ?_
  refine post_next ?_
  iterate 2 (refine aw_seq ?_)
  refine aw_region ?_
  iterate 2 (refine rmv ?_)
  obtain ⟨y3, h4, hF⟩ := bind_some hF
  refine reg_cons (guard_no rfl) (op_call 2 rfl (caps := []) (args := [.vs 7 (List.map eGClass a0), .str a1]) (rs := [.clo 45 [.vp ((eL 7 eGClass) y3.1)] 9 [.str y3.2] []]) rfl rfl rfl Try_cal_43 (above_up_ok h4) rfl rfl rfl) ?_
  refine reg_nil ?_
  refine post_imp (s' := ⟨19, [(5, some (.lp 0 0)), (9, some (.fn 45 [.pv (.vp ((eL 7 eGClass) y3.1)), .lp 2 0]))], [(0, some (.box 73 [.ls 1])), (1, some (.row 3 1 (List.map eI []))), (2, some (.box 9 [.pv (.str y3.2)]))], 3, [], [], 0, []⟩) (imps [0, 1, 2] ⟨by kernel_rfl, by kernel_rfl, trivial⟩ ⟨by kernel_rfl, by kernel_rfl, by kernel_rfl, trivial⟩) ?_
  refine post_next ?_
  refine aw_block ?_
  refine aw_imp (s' := ⟨19, [(5, some (.lp 0 0)), (9, some (.fn 45 [.pv (.vp ((eL 7 eGClass) y3.1)), .lp 2 0]))], [(0, some (.box 73 [.ls 1])), (1, some (.row 3 1 (List.map eI []))), (2, some (.box 9 [.pv (.str y3.2)]))], 3, [], [], 0, []⟩) (imps [0, 1, 2] ⟨by kernel_rfl, by kernel_rfl, trivial⟩ ⟨by kernel_rfl, by kernel_rfl, by kernel_rfl, trivial⟩) ?_
  obtain ⟨rows33, hR34, hF⟩ := bind_some hF
  obtain ⟨lr35, hL36, hF⟩ := bind_some hF
  refine aw_rangeFunc (X := Int) (Q := (List Int)) (E := (List Int)) (pre := [.vp ((eL 7 eGClass) y3.1)]) (bx := (some (9, [.str y3.2]))) (post := []) (kt := [5]) (psl := [10]) (some 2) (fun z : Int => ([.int .i64 z] : List PV)) rows33 above_Chain_B1 [] lr35 hL36 (fun q => ⟨19, [(5, some (.lp 0 0))], [(0, some (.box 73 [.ls 1])), (1, some (.row 3 1 (List.map eI q)))], 3, [], [], 0, []⟩) (fun z => ((.exit 0), ⟨19, [(5, some (.lp 0 0))], [(0, some (.box 73 [.ls 1])), (1, some (.row 3 1 (List.map eI z)))], 2, [], [], 0, []⟩)) ⟨_, _, rfl, rfl, rfl⟩ Try_cal_45 (fun sp => above_up_1_it (itR_up_ok hR34 sp)) (fun _ => rfl) rfl rfl (by decide) rfl (fun x q => ⟨19, [(5, some (.lp 0 0)), (6, some (.pv (.int .i64 x))), (10, some (.pv (.int .i64 x)))], [(0, some (.box 73 [.ls 1])), (1, some (.row 3 1 (List.map eI q)))], 3, [], [], 0, [5]⟩) (fun q => ⟨rfl, rfl, rfl, rfl⟩) (fun z => ⟨rfl, rfl, rfl, rfl⟩) (fun z => rfl) rfl rfl ⟨rfl, trivial⟩ ⟨⟨rfl, rfl, rfl⟩, ⟨rfl, rfl, rfl⟩, trivial⟩ ?_ ?_ ?_ ?_
  · rintro l37 c38 x23 x13 hc39
    refine aw_region ?_
    refine ras ?_
    refine reg_nil ?_
    exact post_cut1 (imps [0, 1, 2] ⟨by kernel_rfl, by kernel_rfl, by kernel_rfl, trivial⟩ ⟨by kernel_rfl, by kernel_rfl, trivial⟩)
  · rintro l37 c38 x23 x13 r40 hc39 hF
    refine aw_block ?_
    iterate 2 (refine aw_seq ?_)
    refine aw_region ?_
    refine reg_cons (guard_no rfl) (op_load_lp (v := .ls 1) rfl rfl rfl rfl Try_one_73 rfl rfl) ?_
    refine rmv ?_
    obtain ⟨y26, h27, hF⟩ := bind_some hF
    refine reg_cons (guard_no rfl) (op_callB 3 rfl (caps := []) (args := [.vs 1 (List.map eI x13), .int .i64 x23]) [(1, some (.row 3 1 (List.map eI x13)))] rfl rfl rfl (FzH.spec ⟨rfl, trivial⟩) rfl rfl Try_cal_44 (slices_Contains_int_ok h27) rfl rfl rfl) ?_
    refine reg_nil ?_
    refine post_imp (s' := ⟨19, [(5, some (.lp 0 0)), (6, some (.pv (.int .i64 x23))), (13, some (.pv (.bool y26)))], [(0, some (.box 73 [.ls 1])), (1, some (.row 3 1 (List.map eI x13)))], 2, [], [], 0, [5]⟩) (imps [0, 1] ⟨by kernel_rfl, by kernel_rfl, by kernel_rfl, trivial⟩ ⟨by kernel_rfl, by kernel_rfl, trivial⟩) ?_
    refine post_next ?_
    rcases ite_some hF with ⟨hb28, hF⟩ | ⟨hb28, hF⟩
    · refine aw_cond_t rfl hb28 ?_
      refine aw_exit ?_
      refine post_then_exit ?_
      refine post_block_other rfl ?_
      obtain rfl := Option.some.inj hF
      exact post_rnd_exit x13 rfl rfl (imps [0, 1] ⟨by kernel_rfl, trivial⟩ ⟨by kernel_rfl, by kernel_rfl, trivial⟩)
    refine aw_cond_f rfl hb28 ?_
    refine aw_skip ?_
    refine post_next ?_
    refine aw_region ?_
    refine reg_cons (guard_no rfl) (op_load_lp (v := .ls 1) rfl rfl rfl rfl Try_one_73 rfl rfl) ?_
    refine rmv ?_
    refine reg_cons (guard_no rfl) (op_lit (rows := List.map eI ([x23] : List Int)) (zs := [.int .i64 0]) rfl rfl Try_slc_73 Try_zer_3 (by exact ⟨rfl, trivial⟩) rfl rfl rfl rfl rfl rfl rfl rfl) ?_
    obtain ⟨u29, h30, hF⟩ := bind_some hF
    refine reg_cons (guard_no rfl) (op_append 2 rfl rfl rfl rfl rfl Try_slc_73 Try_elm_3 Try_zer_3 rfl rfl rfl (room_map (f := eI) (g := eI) h30) (List.map_append (f := eI) (l₁ := x13) (l₂ := [x23])).symm rfl rfl) ?_
    refine reg_cons (guard_no rfl) (op_store_lp (n := 1) rfl rfl rfl rfl rfl (or_one Try_one_73) (by rw [Try_one_73]; rfl) rfl rfl rfl) ?_
    refine reg_nil ?_
    refine post_imp (s' := ⟨19, [(5, some (.lp 0 0))], [(0, some (.box 73 [.ls 1])), (1, some (.row 3 1 (List.map eI (x13 ++ [x23]))))], 2, [], [], 0, [5]⟩) (imps [0, 2] ⟨by kernel_rfl, trivial⟩ ⟨by kernel_rfl, by kernel_rfl, trivial⟩) ?_
    refine post_block_normal ?_
    obtain rfl := Option.some.inj hF
    exact post_rnd (x13 ++ [x23]) rfl (imps [0, 1, 1000000] ⟨by kernel_rfl, trivial⟩ ⟨by kernel_rfl, by kernel_rfl, trivial⟩)
  · rintro x13 rfl
    have hF := elim_next hF
    refine post_block_normal ?_
    refine post_next ?_
    refine aw_seq ?_
    refine aw_region ?_
    refine reg_cons (guard_no rfl) (op_load_lp (v := .ls 1) rfl rfl rfl rfl Try_one_73 rfl rfl) ?_
    refine ras ?_
    refine reg_nil ?_
    refine post_imp (s' := ⟨19, [(4, some (.ls 0))], [(0, some (.row 3 1 (List.map eI x13)))], 1, [], [], 0, []⟩) (imps [1] ⟨by kernel_rfl, trivial⟩ ⟨by kernel_rfl, trivial⟩) ?_
    refine post_next ?_
    refine aw_ret ?_
    obtain rfl := Option.some.inj hF
    exact post_ret rfl rfl (.cons _ _ _ _ _ (.tmp _ _ rfl) (.own _ _ _ _ rfl nolent3) .nil) (.inl rfl)
  rintro x32 rfl
  have hF := elim_stop hF
  show Post _ _ (.exit 0) _
  refine post_block_exit ?_
  refine post_next ?_
  refine aw_seq ?_
  refine aw_region ?_
  refine reg_cons (guard_no rfl) (op_load_lp (v := .ls 1) rfl rfl rfl rfl Try_one_73 rfl rfl) ?_
  refine ras ?_
  refine reg_nil ?_
  refine post_imp (s' := ⟨19, [(4, some (.ls 0))], [(0, some (.row 3 1 (List.map eI x32)))], 1, [], [], 0, []⟩) (imps [1] ⟨by kernel_rfl, trivial⟩ ⟨by kernel_rfl, trivial⟩) ?_
  refine post_next ?_
  refine aw_ret ?_
  obtain rfl := Option.some.inj hF
  exact post_ret rfl rfl (.cons _ _ _ _ _ (.tmp _ _ rfl) (.own _ _ _ _ rfl nolent3) .nil) (.inl rfl)
theorem raise_raise_int__ok {a0 : List GClass} {a1 : List UInt8} {a2 : List Int} {a3 : List UInt8} {q4 : GOwner → (List Int) → Option Int} {r : (List Int) × Bool} {q4_f : Nat} {q4_c : List PV} (q4_b : callB Try.prog q4_f = true) (q4_h : ∀ (x0 : GOwner) (x1 : List Int) (r : Int), q4 x0 x1 = some r → Abs.Fn Try.prog q4_f ([.agg (eGOwner x0), .vs 1 (List.map eI x1)] ++ q4_c) [.p (.int .i64 r)]) (hF : raise_raise_int_ a0 a1 a2 a3 q4 = some r) : Abs.Fn Try.prog 39 [.vs 7 (List.map eGClass a0), .str a1, .vs 1 (List.map eI a2), .str a3, .fn q4_f q4_c] [.own 3 1 (List.map eI r.1), .p (.bool r.2)] := by
  unfold raise_raise_int_ at hF
  refine fn_of_body (n := 73) Try.func39 rfl rfl rfl ?_
  intro w O
  refine aw_seq ?_
  refine aw_region ?_
  iterate 2 (refine ras ?_)
  refine reg_nil ?_
  refine post_imp (s' := ⟨73, [(0, some (.pv (.vs 7 (List.map eGClass a0)))), (1, some (.pv (.str a1))), (2, some (.pv (.vs 1 (List.map eI a2)))), (3, some (.pv (.str a3))), (4, some (.pv (.fn q4_f q4_c)))], [], 0, [], [], 0, []⟩) (imps [] ⟨by kernel_rfl, by kernel_rfl, by kernel_rfl, by kernel_rfl, by kernel_rfl, trivial⟩ trivial) ?_
  refine post_next ?_
  refine aw_seq ?_
  refine aw_region ?_
  iterate 2 (refine rmv ?_)
  obtain ⟨y3, h4, hF⟩ := bind_some hF
  refine reg_cons (guard_no rfl) (op_call 0 rfl (caps := []) (args := [.vs 7 (List.map eGClass a0), .str a3]) (rs := [.p (.int .i64 y3)]) rfl rfl rfl Try_cal_26 (table_Find_ok h4) rfl rfl rfl) ?_
  refine ras ?_
  refine reg_nil ?_
  refine post_imp (s' := ⟨73, [(0, some (.pv (.vs 7 (List.map eGClass a0)))), (1, some (.pv (.str a1))), (2, some (.pv (.vs 1 (List.map eI a2)))), (4, some (.pv (.fn q4_f q4_c))), (12, some (.pv (.int .i64 y3)))], [], 0, [], [], 0, []⟩) (imps [] ⟨by kernel_rfl, by kernel_rfl, by kernel_rfl, by kernel_rfl, by kernel_rfl, trivial⟩ trivial) ?_
  refine post_next ?_
  iterate 2 (refine aw_seq ?_)
  obtain ⟨x9, hF, hK11⟩ := bind_some hF
  refine aw_cut (fun s1 => s1 = ⟨73, [(0, some (.pv (.vs 7 (List.map eGClass a0)))), (1, some (.pv (.str a1))), (2, some (.pv (.vs 1 (List.map eI a2)))), (4, some (.pv (.fn q4_f q4_c))), (12, some (.pv (.int .i64 y3))), (36, some (.pv (.bool x9)))], [], 0, [], [], 0, []⟩) ?_ ?_
  · refine aw_region ?_
    refine rmv ?_
    refine reg_cons (guard_no rfl) (op_int (k := .i64) (m := y3) (n := 0) rfl rfl rfl rfl rfl rfl) ?_
    refine rmv ?_
    rcases ite_some hF with ⟨hb5, hF⟩ | ⟨hb5, hF⟩
    · refine rgo_t hb5 ?_
      iterate 6 (refine rgo_t hb5 ?_)
      refine rpt hb5 ?_
      refine rmv ?_
      iterate 3 (refine rgo_t rfl ?_)
      refine rpt rfl ?_
      refine reg_nil ?_
      cases hF
      exact post_cut _ rfl (imps [] ⟨by kernel_rfl, by kernel_rfl, by kernel_rfl, by kernel_rfl, by kernel_rfl, by kernel_rfl, trivial⟩ trivial)
    refine reg_cons (guard_on rfl rfl rfl rfl hb5) (op_move rfl rfl rfl rfl) ?_
    refine reg_cons (guard_on rfl rfl rfl rfl hb5) (op_len_vs (n := a2.length) rfl rfl (List.length_map ..) Try_slc_73 rfl rfl) ?_
    iterate 2 (refine reg_cons (guard_on rfl rfl rfl rfl hb5) (op_move rfl rfl rfl rfl) ?_)
    obtain ⟨y6, h7, hF⟩ := bind_some hF
    refine reg_cons (guard_on rfl rfl rfl rfl hb5) (op_call 0 rfl (caps := []) (args := [.vs 7 (List.map eGClass a0), .str a1]) (rs := [.p (.int .i64 y6)]) rfl rfl rfl Try_cal_32 (table_Arity_ok h7) rfl rfl rfl) ?_
    refine reg_cons (guard_on rfl rfl rfl rfl hb5) (op_int (k := .i64) (m := y6) (n := 1) rfl rfl rfl rfl rfl rfl) ?_
    refine reg_cons (guard_on rfl rfl rfl rfl hb5) (op_int (k := .i64) (m := (a2.length : Int)) (n := w_i64 (y6 + 1)) rfl rfl rfl rfl rfl rfl) ?_
    refine rpf hb5 ?_
    refine rmv ?_
    rcases ite_some hF with ⟨hb8, hF⟩ | ⟨hb8, hF⟩
    · refine rgo_t hb8 ?_
      iterate 2 (refine rgo_t hb8 ?_)
      refine rpt hb8 ?_
      refine reg_nil ?_
      cases hF
      exact post_cut _ rfl (imps [] ⟨by kernel_rfl, by kernel_rfl, by kernel_rfl, by kernel_rfl, by kernel_rfl, by kernel_rfl, trivial⟩ trivial)
    refine reg_cons (guard_on rfl rfl rfl rfl hb8) (op_move rfl rfl rfl rfl) ?_
    refine reg_cons (guard_on rfl rfl rfl rfl hb8) (op_len_vs (n := a2.length) rfl rfl (List.length_map ..) Try_slc_73 rfl rfl) ?_
    refine reg_cons (guard_on rfl rfl rfl rfl hb8) (op_int (k := .i64) (m := (a2.length : Int)) (n := 0) rfl rfl rfl rfl rfl rfl) ?_
    refine rpf hb8 ?_
    refine reg_nil ?_
    cases hF
    exact post_cut _ rfl (imps [] ⟨by kernel_rfl, by kernel_rfl, by kernel_rfl, by kernel_rfl, by kernel_rfl, by kernel_rfl, trivial⟩ trivial)
  rintro _ rfl
  have hF := hK11
  clear hK11
  refine post_next ?_
  rcases ite_some hF with ⟨hb12, hF⟩ | ⟨hb12, hF⟩
  · refine aw_cond_t rfl hb12 ?_
    refine aw_seq ?_
    refine aw_region ?_
    iterate 2 (refine ras ?_)
    refine reg_nil ?_
    refine post_imp (s' := ⟨73, [(10, some (.pv .nils)), (11, some (.pv (.bool false)))], [], 0, [], [], 0, []⟩) (imps [] ⟨by kernel_rfl, by kernel_rfl, trivial⟩ trivial) ?_
    refine post_next ?_
    refine aw_ret ?_
    refine post_then_ret ?_
    refine post_imp (imp_nil_own 10 3 1 0 rfl rfl) ?_
    obtain rfl := Option.some.inj hF
    exact post_ret rfl rfl (.cons _ _ _ _ _ (.tmp _ _ rfl) (.own _ _ _ _ rfl nolent3) (.cons _ _ _ _ _ (.tmp _ _ rfl) (.p _) .nil)) (.inl rfl)
  refine aw_cond_f rfl hb12 ?_
  refine aw_skip ?_
  refine post_next ?_
  refine aw_seq ?_
  refine aw_region ?_
  refine rmv ?_
  obtain ⟨y15, h16, hF⟩ := bind_some hF
  refine reg_cons (guard_no rfl) (op_call 0 rfl (caps := []) (args := [.vs 1 (List.map eI a2)]) (rs := [.own 3 1 (List.map eI y15)]) rfl rfl rfl Try_cal_41 (slices_Clone_int_ok h16) rfl rfl rfl) ?_
  refine ras ?_
  refine reg_nil ?_
  refine post_imp (s' := ⟨73, [(0, some (.pv (.vs 7 (List.map eGClass a0)))), (1, some (.pv (.str a1))), (2, some (.ls 0)), (4, some (.pv (.fn q4_f q4_c))), (12, some (.pv (.int .i64 y3)))], [(0, some (.row 3 1 (List.map eI y15)))], 1, [], [], 0, []⟩) (imps [0] ⟨by kernel_rfl, by kernel_rfl, by kernel_rfl, by kernel_rfl, by kernel_rfl, trivial⟩ ⟨by kernel_rfl, trivial⟩) ?_
  refine post_next ?_
  iterate 2 (refine aw_seq ?_)
  refine aw_region ?_
  iterate 2 (refine rmv ?_)
  obtain ⟨y19, h20, hF⟩ := bind_some hF
  refine reg_cons (guard_no rfl) (op_call 1 rfl (caps := []) (args := [.vs 7 (List.map eGClass a0), .str a1]) (rs := [.p (.vs 1 (List.map eI y19))]) rfl rfl rfl Try_cal_42 (Fn.frozen (above_Chain_ok h20)) rfl rfl rfl) ?_
  refine reg_cons (guard_no rfl) (op_len_vs (n := y19.length) rfl rfl (List.length_map ..) Try_slc_73 rfl rfl) ?_
  refine rmv ?_
  refine reg_nil ?_
  refine post_imp (s' := ⟨73, [(0, some (.pv (.vs 7 (List.map eGClass a0)))), (2, some (.ls 0)), (4, some (.pv (.fn q4_f q4_c))), (12, some (.pv (.int .i64 y3))), (41, some (.pv (.vs 1 (List.map eI y19)))), (42, some (.pv (.int .i64 (y19.length : Int)))), (43, some (.pv (.int .i64 0)))], [(0, some (.row 3 1 (List.map eI y15)))], 1, [], [], 0, []⟩) (imps [0] ⟨by kernel_rfl, by kernel_rfl, by kernel_rfl, by kernel_rfl, by kernel_rfl, by kernel_rfl, by kernel_rfl, trivial⟩ ⟨by kernel_rfl, trivial⟩) ?_
  refine post_next ?_
  obtain ⟨lr252, hF, hK253⟩ := bind_some hF
  refine aw_for ((((y19.length : Int) : Int) - (0)).toNat + 1) (fun s1 => ∃ q, lr252 = .next q ∧ s1 = ⟨73, [], [], 0, [], [], 0, []⟩) ?_ ?_
  · refine rnd_loop (α := (List Int) × Int) (fun q => ⟨73, [(0, some (.pv (.vs 7 (List.map eGClass a0)))), (2, some (.ls 0)), (4, some (.pv (.fn q4_f q4_c))), (12, some (.pv (.int .i64 y3))), (41, some (.pv (.vs 1 (List.map eI y19)))), (42, some (.pv (.int .i64 (y19.length : Int)))), (43, some (.pv (.int .i64 q.2)))], [(0, some (.row 3 1 (List.map eI q.1)))], 1, [], [], 0, []⟩) (fun k q => raise_raise_int__L1 a0 q4 y3 y19 k q.1 q.2 = some lr252) (y15, 0) (imps [0] ⟨by kernel_rfl, by kernel_rfl, by kernel_rfl, by kernel_rfl, by kernel_rfl, by kernel_rfl, by kernel_rfl, trivial⟩ ⟨by kernel_rfl, trivial⟩) hF (fun q h => by cases h) ?_
    clear hF
    rintro k ⟨x96, x97⟩ hF ih
    refine rnd_succ ?_
    refine aw_seq ?_
    refine aw_region ?_
    refine reg_cons (guard_no rfl) (op_int (k := .i64) (m := x97) (n := (y19.length : Int)) rfl rfl rfl rfl rfl rfl) ?_
    refine reg_nil ?_
    refine post_imp (s' := ⟨73, [(0, some (.pv (.vs 7 (List.map eGClass a0)))), (2, some (.ls 0)), (4, some (.pv (.fn q4_f q4_c))), (12, some (.pv (.int .i64 y3))), (41, some (.pv (.vs 1 (List.map eI y19)))), (42, some (.pv (.int .i64 (y19.length : Int)))), (43, some (.pv (.int .i64 x97))), (44, some (.pv (.bool (decide (x97 < (y19.length : Int))))))], [(0, some (.row 3 1 (List.map eI x96)))], 1, [], [], 0, []⟩) (imps [0] ⟨by kernel_rfl, by kernel_rfl, by kernel_rfl, by kernel_rfl, by kernel_rfl, by kernel_rfl, by kernel_rfl, by kernel_rfl, trivial⟩ ⟨by kernel_rfl, trivial⟩) ?_
    refine post_next ?_
    refine aw_seq ?_
    rcases ite_some hF with ⟨hb175, hF⟩ | ⟨hb175, hF⟩
    · refine aw_cond_t rfl hb175 ?_
      refine aw_skip ?_
      refine post_next ?_
      refine aw_seq ?_
      refine aw_block ?_
      refine aw_seq ?_
      refine aw_region ?_
      obtain ⟨y178, h179, hF⟩ := bind_some hF
      refine reg_cons (guard_no rfl) (op_index_vs (k := .i64) rfl rfl rfl (idx_map eI h179) Try_slc_73 rfl rfl) ?_
      refine reg_cons (guard_no rfl) (op_load_vp (p := .int .i64 y178) rfl rfl rfl Try_one_3 rfl rfl) ?_
      refine ras ?_
      refine reg_nil ?_
      refine post_imp (s' := ⟨73, [(0, some (.pv (.vs 7 (List.map eGClass a0)))), (2, some (.ls 0)), (4, some (.pv (.fn q4_f q4_c))), (12, some (.pv (.int .i64 y3))), (14, some (.pv (.int .i64 y178))), (41, some (.pv (.vs 1 (List.map eI y19)))), (42, some (.pv (.int .i64 (y19.length : Int)))), (43, some (.pv (.int .i64 x97)))], [(0, some (.row 3 1 (List.map eI x96)))], 1, [], [], 0, []⟩) (imps [0] ⟨by kernel_rfl, by kernel_rfl, by kernel_rfl, by kernel_rfl, by kernel_rfl, by kernel_rfl, by kernel_rfl, by kernel_rfl, trivial⟩ ⟨by kernel_rfl, trivial⟩) ?_
      refine post_next ?_
      iterate 2 (refine aw_seq ?_)
      refine aw_region ?_
      iterate 2 (refine rmv ?_)
      refine reg_cons (guard_no rfl) (op_int (k := .i64) (m := y178) (n := y3) rfl rfl rfl rfl rfl rfl) ?_
      refine reg_nil ?_
      refine post_imp (s' := ⟨73, [(0, some (.pv (.vs 7 (List.map eGClass a0)))), (2, some (.ls 0)), (4, some (.pv (.fn q4_f q4_c))), (12, some (.pv (.int .i64 y3))), (14, some (.pv (.int .i64 y178))), (41, some (.pv (.vs 1 (List.map eI y19)))), (42, some (.pv (.int .i64 (y19.length : Int)))), (43, some (.pv (.int .i64 x97))), (49, some (.pv (.bool (y178 == y3))))], [(0, some (.row 3 1 (List.map eI x96)))], 1, [], [], 0, []⟩) (imps [0] ⟨by kernel_rfl, by kernel_rfl, by kernel_rfl, by kernel_rfl, by kernel_rfl, by kernel_rfl, by kernel_rfl, by kernel_rfl, by kernel_rfl, trivial⟩ ⟨by kernel_rfl, trivial⟩) ?_
      refine post_next ?_
      rcases ite_some hF with ⟨hb180, hF⟩ | ⟨hb180, hF⟩
      · refine aw_cond_t rfl hb180 ?_
        refine aw_seq ?_
        refine aw_region ?_
        refine rmv ?_
        iterate 2 (refine ras ?_)
        refine reg_nil ?_
        refine post_imp (s' := ⟨73, [(10, some (.ls 0)), (11, some (.pv (.bool true)))], [(0, some (.row 3 1 (List.map eI x96)))], 1, [], [], 0, []⟩) (imps [0] ⟨by kernel_rfl, by kernel_rfl, trivial⟩ ⟨by kernel_rfl, trivial⟩) ?_
        refine post_next ?_
        refine aw_ret ?_
        refine post_then_ret ?_
        refine post_block_ret ?_
        iterate 2 (refine post_then_ret ?_)
        refine post_lp_ret ?_
        obtain rfl := Option.some.inj hF
        have hF := elim_stop hK253
        refine post_then_ret ?_
        obtain rfl := Option.some.inj hF
        exact post_ret rfl rfl (.cons _ _ _ _ _ (.tmp _ _ rfl) (.own _ _ _ _ rfl nolent3) (.cons _ _ _ _ _ (.tmp _ _ rfl) (.p _) .nil)) (.inl rfl)
      refine aw_cond_f rfl hb180 ?_
      refine aw_skip ?_
      refine post_next ?_
      refine aw_seq ?_
      refine aw_region ?_
      refine rmv ?_
      obtain ⟨y183, h184, hF⟩ := bind_some hF
      refine reg_cons (guard_no rfl) (op_slice_ra (k := 1) rfl rfl rfl rfl rfl Try_slc_73 (cutL_map eI h184) rfl rfl rfl) ?_
      refine ras ?_
      refine reg_nil ?_
      refine post_imp (s' := ⟨73, [(0, some (.pv (.vs 7 (List.map eGClass a0)))), (2, some (.ls 0)), (4, some (.pv (.fn q4_f q4_c))), (12, some (.pv (.int .i64 y3))), (14, some (.pv (.int .i64 y178))), (15, some (.ra 0 (1 : Int).toNat)), (41, some (.pv (.vs 1 (List.map eI y19)))), (42, some (.pv (.int .i64 (y19.length : Int)))), (43, some (.pv (.int .i64 x97)))], [(0, some (.row 3 1 (List.map eI x96)))], 1, [], [], 0, []⟩) (imps [0] ⟨by kernel_rfl, by kernel_rfl, by kernel_rfl, by kernel_rfl, by kernel_rfl, by kernel_rfl, by kernel_rfl, by kernel_rfl, by kernel_rfl, trivial⟩ ⟨by kernel_rfl, trivial⟩) ?_
      refine post_next ?_
      iterate 2 (refine aw_seq ?_)
      refine aw_region ?_
      iterate 2 (refine rmv ?_)
      obtain ⟨y187, h188, hF⟩ := bind_some hF
      refine reg_cons (guard_no rfl) (op_index_vs (k := .i64) rfl rfl rfl (idx_map eGClass h188) Try_slc_22 rfl rfl) ?_
      refine reg_cons (guard_no rfl) (op_field_vp rfl rfl Try_fld_49_3 rfl rfl) ?_
      refine reg_cons (guard_no rfl) (op_load_vp (p := .vs 2 (List.map eGOwner y187.fAbove)) rfl rfl rfl Try_one_45 rfl rfl) ?_
      refine reg_cons (guard_no rfl) (op_len_vs (n := y187.fAbove.length) rfl rfl (List.length_map ..) Try_slc_45 rfl rfl) ?_
      refine rmv ?_
      refine reg_nil ?_
      refine post_imp (s' := ⟨73, [(0, some (.pv (.vs 7 (List.map eGClass a0)))), (2, some (.ls 0)), (4, some (.pv (.fn q4_f q4_c))), (12, some (.pv (.int .i64 y3))), (15, some (.ra 0 (1 : Int).toNat)), (41, some (.pv (.vs 1 (List.map eI y19)))), (42, some (.pv (.int .i64 (y19.length : Int)))), (43, some (.pv (.int .i64 x97))), (57, some (.pv (.vs 2 (List.map eGOwner y187.fAbove)))), (58, some (.pv (.int .i64 (y187.fAbove.length : Int)))), (59, some (.pv (.int .i64 0)))], [(0, some (.row 3 1 (List.map eI x96)))], 1, [], [], 0, []⟩) (imps [0] ⟨by kernel_rfl, by kernel_rfl, by kernel_rfl, by kernel_rfl, by kernel_rfl, by kernel_rfl, by kernel_rfl, by kernel_rfl, by kernel_rfl, by kernel_rfl, by kernel_rfl, trivial⟩ ⟨by kernel_rfl, trivial⟩) ?_
      refine post_next ?_
      obtain ⟨x248, hF, hK249⟩ := bind_some hF
      refine aw_for ((((y187.fAbove.length : Int) : Int) - ((w_i64 (0 + 1)))).toNat + 1 + 1) (fun s1 => s1 = ⟨73, [(0, some (.pv (.vs 7 (List.map eGClass a0)))), (4, some (.pv (.fn q4_f q4_c))), (12, some (.pv (.int .i64 y3))), (15, some (.ls 0)), (41, some (.pv (.vs 1 (List.map eI y19)))), (42, some (.pv (.int .i64 (y19.length : Int)))), (43, some (.pv (.int .i64 x97)))], [(0, some (.row 3 1 (List.map eI x248)))], 1, [], [], 0, []⟩) ?_ ?_
      · refine rnd_succ ?_
        refine aw_seq ?_
        refine aw_region ?_
        refine reg_cons (guard_no rfl) (op_int (k := .i64) (m := 0) (n := (y187.fAbove.length : Int)) rfl rfl rfl rfl rfl rfl) ?_
        refine reg_nil ?_
        refine post_imp (s' := ⟨73, [(0, some (.pv (.vs 7 (List.map eGClass a0)))), (2, some (.ls 0)), (4, some (.pv (.fn q4_f q4_c))), (12, some (.pv (.int .i64 y3))), (15, some (.ra 0 (1 : Int).toNat)), (41, some (.pv (.vs 1 (List.map eI y19)))), (42, some (.pv (.int .i64 (y19.length : Int)))), (43, some (.pv (.int .i64 x97))), (57, some (.pv (.vs 2 (List.map eGOwner y187.fAbove)))), (58, some (.pv (.int .i64 (y187.fAbove.length : Int)))), (59, some (.pv (.int .i64 0))), (60, some (.pv (.bool (decide (0 < (y187.fAbove.length : Int))))))], [(0, some (.row 3 1 (List.map eI x96)))], 1, [], [], 0, []⟩) (imps [0] ⟨by kernel_rfl, by kernel_rfl, by kernel_rfl, by kernel_rfl, by kernel_rfl, by kernel_rfl, by kernel_rfl, by kernel_rfl, by kernel_rfl, by kernel_rfl, by kernel_rfl, by kernel_rfl, trivial⟩ ⟨by kernel_rfl, trivial⟩) ?_
        refine post_next ?_
        refine aw_seq ?_
        rcases ite_some hF with ⟨hb189, hF⟩ | ⟨hb189, hF⟩
        · refine aw_cond_t rfl hb189 ?_
          refine aw_skip ?_
          refine post_next ?_
          refine aw_seq ?_
          refine aw_block ?_
          refine aw_seq ?_
          refine aw_region ?_
          obtain ⟨y192, h193, hF⟩ := bind_some hF
          refine reg_cons (guard_no rfl) (op_index_vs (k := .i64) rfl rfl rfl (idx_map eGOwner h193) Try_slc_45 rfl rfl) ?_
          refine reg_cons (guard_no rfl) (op_load_vp_agg (ps := eGOwner y192) rfl rfl rfl rfl Try_agg_51 rfl rfl) ?_
          refine reg_cons (guard_no rfl) (op_alloc 1 rfl (ps := (eGOwner zGOwner)) rfl Try_zer_51 (by exact ⟨rfl, rfl, trivial⟩) rfl rfl) ?_
          refine reg_cons (guard_no rfl) (op_store_lp (n := 2) rfl rfl rfl rfl rfl (or_agg Try_agg_51) (by rw [Try_non_51]; rfl) rfl rfl rfl) ?_
          refine reg_nil ?_
          refine post_imp (s' := ⟨73, [(0, some (.pv (.vs 7 (List.map eGClass a0)))), (2, some (.ls 0)), (4, some (.pv (.fn q4_f q4_c))), (12, some (.pv (.int .i64 y3))), (15, some (.ra 0 (1 : Int).toNat)), (17, some (.lp 1 0)), (41, some (.pv (.vs 1 (List.map eI y19)))), (42, some (.pv (.int .i64 (y19.length : Int)))), (43, some (.pv (.int .i64 x97))), (57, some (.pv (.vs 2 (List.map eGOwner y187.fAbove)))), (58, some (.pv (.int .i64 (y187.fAbove.length : Int)))), (59, some (.pv (.int .i64 0)))], [(0, some (.row 3 1 (List.map eI x96))), (1, some (.box 51 (bxv (eGOwner y192))))], 2, [], [], 0, []⟩) (imps [0, 1] ⟨by kernel_rfl, by kernel_rfl, by kernel_rfl, by kernel_rfl, by kernel_rfl, by kernel_rfl, by kernel_rfl, by kernel_rfl, by kernel_rfl, by kernel_rfl, by kernel_rfl, by kernel_rfl, trivial⟩ ⟨by kernel_rfl, by kernel_rfl, trivial⟩) ?_
          refine post_next ?_
          refine aw_region ?_
          iterate 2 (refine rmv ?_)
          refine reg_cons (guard_no rfl) (op_load_lp_agg (ps := eGOwner y192) rfl rfl rfl rfl rfl rfl Try_agg_51 rfl rfl) ?_
          refine rmv ?_
          obtain ⟨y198, h199, hF⟩ := bind_some hF
          refine reg_cons (guard_no rfl) (op_callB 2 rfl (caps := q4_c) (args := [.agg (eGOwner y192), .vs 1 (List.map eI x96)]) [(0, some (.row 3 1 (List.map eI x96)))] rfl rfl rfl (FzH.spec ⟨rfl, trivial⟩) rfl rfl q4_b (q4_h y192 x96 _ h199) rfl rfl rfl) ?_
          refine reg_cons (guard_no rfl) (op_lit (rows := List.map eI ([y198] : List Int)) (zs := [.int .i64 0]) rfl rfl Try_slc_73 Try_zer_3 (by exact ⟨rfl, trivial⟩) rfl rfl rfl rfl rfl rfl rfl rfl) ?_
          obtain ⟨u200, h201, hF⟩ := bind_some hF
          refine reg_cons (guard_no rfl) (op_append_ra 2 rfl rfl rfl rfl (cut_take eI h184) (cut_len eI h184) rfl rfl Try_slc_73 Try_elm_3 Try_zer_3 rfl rfl rfl (room_map (f := eI) (g := eI) h201) (List.map_append (f := eI) (l₁ := y183) (l₂ := [y198])).symm rfl rfl) ?_
          refine ras ?_
          refine reg_nil ?_
          refine post_imp (s' := ⟨73, [(0, some (.pv (.vs 7 (List.map eGClass a0)))), (2, some (.ls 0)), (4, some (.pv (.fn q4_f q4_c))), (12, some (.pv (.int .i64 y3))), (15, some (.ls 1)), (41, some (.pv (.vs 1 (List.map eI y19)))), (42, some (.pv (.int .i64 (y19.length : Int)))), (43, some (.pv (.int .i64 x97))), (57, some (.pv (.vs 2 (List.map eGOwner y187.fAbove)))), (58, some (.pv (.int .i64 (y187.fAbove.length : Int)))), (59, some (.pv (.int .i64 0)))], [(0, some (.row 3 1 (List.map eI x96))), (1, some (.row 3 1 (List.map eI (y183 ++ [y198]))))], 2, [], [], 0, []⟩) (imps [0, 2] ⟨by kernel_rfl, by kernel_rfl, by kernel_rfl, by kernel_rfl, by kernel_rfl, by kernel_rfl, by kernel_rfl, by kernel_rfl, by kernel_rfl, by kernel_rfl, by kernel_rfl, trivial⟩ ⟨by kernel_rfl, by kernel_rfl, trivial⟩) ?_
          refine post_block_normal ?_
          refine post_next ?_
          refine aw_region ?_
          refine reg_cons (guard_no rfl) (op_int (k := .i64) (m := 0) (n := 1) rfl rfl rfl rfl rfl rfl) ?_
          refine rmv ?_
          refine reg_nil ?_
          replace hF : raise_raise_int__L2 q4 x96 y187 ((((y187.fAbove.length : Int) : Int) - ((w_i64 (0 + 1)))).toNat + 1) (y183 ++ [y198]) (w_i64 (0 + 1)) = some x248 := hF
          refine post_round ?_
          refine rnd_loop (α := (List Int) × Int) (fun q => ⟨73, [(0, some (.pv (.vs 7 (List.map eGClass a0)))), (2, some (.ls 0)), (4, some (.pv (.fn q4_f q4_c))), (12, some (.pv (.int .i64 y3))), (15, some (.ls 1)), (41, some (.pv (.vs 1 (List.map eI y19)))), (42, some (.pv (.int .i64 (y19.length : Int)))), (43, some (.pv (.int .i64 x97))), (57, some (.pv (.vs 2 (List.map eGOwner y187.fAbove)))), (58, some (.pv (.int .i64 (y187.fAbove.length : Int)))), (59, some (.pv (.int .i64 q.2)))], [(0, some (.row 3 1 (List.map eI x96))), (1, some (.row 3 1 (List.map eI q.1)))], 2, [], [], 0, []⟩) (fun k q => raise_raise_int__L2 q4 x96 y187 k q.1 q.2 = some x248) ((y183 ++ [y198]), w_i64 (0 + 1)) (imps [0, 1] ⟨by kernel_rfl, by kernel_rfl, by kernel_rfl, by kernel_rfl, by kernel_rfl, by kernel_rfl, by kernel_rfl, by kernel_rfl, by kernel_rfl, by kernel_rfl, by kernel_rfl, trivial⟩ ⟨by kernel_rfl, by kernel_rfl, trivial⟩) (by exact hF) (fun q h => by cases h) ?_
          clear hF
          rintro k ⟨x216, x217⟩ hF ih
          refine rnd_succ ?_
          refine aw_seq ?_
          refine aw_region ?_
          refine reg_cons (guard_no rfl) (op_int (k := .i64) (m := x217) (n := (y187.fAbove.length : Int)) rfl rfl rfl rfl rfl rfl) ?_
          refine reg_nil ?_
          refine post_imp (s' := ⟨73, [(0, some (.pv (.vs 7 (List.map eGClass a0)))), (2, some (.ls 0)), (4, some (.pv (.fn q4_f q4_c))), (12, some (.pv (.int .i64 y3))), (15, some (.ls 1)), (41, some (.pv (.vs 1 (List.map eI y19)))), (42, some (.pv (.int .i64 (y19.length : Int)))), (43, some (.pv (.int .i64 x97))), (57, some (.pv (.vs 2 (List.map eGOwner y187.fAbove)))), (58, some (.pv (.int .i64 (y187.fAbove.length : Int)))), (59, some (.pv (.int .i64 x217))), (60, some (.pv (.bool (decide (x217 < (y187.fAbove.length : Int))))))], [(0, some (.row 3 1 (List.map eI x96))), (1, some (.row 3 1 (List.map eI x216)))], 2, [], [], 0, []⟩) (imps [0, 1] ⟨by kernel_rfl, by kernel_rfl, by kernel_rfl, by kernel_rfl, by kernel_rfl, by kernel_rfl, by kernel_rfl, by kernel_rfl, by kernel_rfl, by kernel_rfl, by kernel_rfl, by kernel_rfl, trivial⟩ ⟨by kernel_rfl, by kernel_rfl, trivial⟩) ?_
          refine post_next ?_
          refine aw_seq ?_
          rcases ite_some hF with ⟨hb233, hF⟩ | ⟨hb233, hF⟩
          · refine aw_cond_t rfl hb233 ?_
            refine aw_skip ?_
            refine post_next ?_
            refine aw_seq ?_
            refine aw_block ?_
            refine aw_seq ?_
            refine aw_region ?_
            obtain ⟨y236, h237, hF⟩ := bind_some hF
            refine reg_cons (guard_no rfl) (op_index_vs (k := .i64) rfl rfl rfl (idx_map eGOwner h237) Try_slc_45 rfl rfl) ?_
            refine reg_cons (guard_no rfl) (op_load_vp_agg (ps := eGOwner y236) rfl rfl rfl rfl Try_agg_51 rfl rfl) ?_
            refine reg_cons (guard_no rfl) (op_alloc 2 rfl (ps := (eGOwner zGOwner)) rfl Try_zer_51 (by exact ⟨rfl, rfl, trivial⟩) rfl rfl) ?_
            refine reg_cons (guard_no rfl) (op_store_lp (n := 2) rfl rfl rfl rfl rfl (or_agg Try_agg_51) (by rw [Try_non_51]; rfl) rfl rfl rfl) ?_
            refine reg_nil ?_
            refine post_imp (s' := ⟨73, [(0, some (.pv (.vs 7 (List.map eGClass a0)))), (2, some (.ls 0)), (4, some (.pv (.fn q4_f q4_c))), (12, some (.pv (.int .i64 y3))), (15, some (.ls 1)), (17, some (.lp 2 0)), (41, some (.pv (.vs 1 (List.map eI y19)))), (42, some (.pv (.int .i64 (y19.length : Int)))), (43, some (.pv (.int .i64 x97))), (57, some (.pv (.vs 2 (List.map eGOwner y187.fAbove)))), (58, some (.pv (.int .i64 (y187.fAbove.length : Int)))), (59, some (.pv (.int .i64 x217)))], [(0, some (.row 3 1 (List.map eI x96))), (1, some (.row 3 1 (List.map eI x216))), (2, some (.box 51 (bxv (eGOwner y236))))], 3, [], [], 0, []⟩) (imps [0, 1, 2] ⟨by kernel_rfl, by kernel_rfl, by kernel_rfl, by kernel_rfl, by kernel_rfl, by kernel_rfl, by kernel_rfl, by kernel_rfl, by kernel_rfl, by kernel_rfl, by kernel_rfl, by kernel_rfl, trivial⟩ ⟨by kernel_rfl, by kernel_rfl, by kernel_rfl, trivial⟩) ?_
            refine post_next ?_
            refine aw_region ?_
            iterate 2 (refine rmv ?_)
            refine reg_cons (guard_no rfl) (op_load_lp_agg (ps := eGOwner y236) rfl rfl rfl rfl rfl rfl Try_agg_51 rfl rfl) ?_
            refine rmv ?_
            obtain ⟨y242, h243, hF⟩ := bind_some hF
            refine reg_cons (guard_no rfl) (op_callB 3 rfl (caps := q4_c) (args := [.agg (eGOwner y236), .vs 1 (List.map eI x96)]) [(0, some (.row 3 1 (List.map eI x96)))] rfl rfl rfl (FzH.spec ⟨rfl, trivial⟩) rfl rfl q4_b (q4_h y236 x96 _ h243) rfl rfl rfl) ?_
            refine reg_cons (guard_no rfl) (op_lit (rows := List.map eI ([y242] : List Int)) (zs := [.int .i64 0]) rfl rfl Try_slc_73 Try_zer_3 (by exact ⟨rfl, trivial⟩) rfl rfl rfl rfl rfl rfl rfl rfl) ?_
            obtain ⟨u244, h245, hF⟩ := bind_some hF
            refine reg_cons (guard_no rfl) (op_append 3 rfl rfl rfl rfl rfl Try_slc_73 Try_elm_3 Try_zer_3 rfl rfl rfl (room_map (f := eI) (g := eI) h245) (List.map_append (f := eI) (l₁ := x216) (l₂ := [y242])).symm rfl rfl) ?_
            refine ras ?_
            refine reg_nil ?_
            refine post_imp (s' := ⟨73, [(0, some (.pv (.vs 7 (List.map eGClass a0)))), (2, some (.ls 0)), (4, some (.pv (.fn q4_f q4_c))), (12, some (.pv (.int .i64 y3))), (15, some (.ls 1)), (41, some (.pv (.vs 1 (List.map eI y19)))), (42, some (.pv (.int .i64 (y19.length : Int)))), (43, some (.pv (.int .i64 x97))), (57, some (.pv (.vs 2 (List.map eGOwner y187.fAbove)))), (58, some (.pv (.int .i64 (y187.fAbove.length : Int)))), (59, some (.pv (.int .i64 x217)))], [(0, some (.row 3 1 (List.map eI x96))), (1, some (.row 3 1 (List.map eI (x216 ++ [y242]))))], 2, [], [], 0, []⟩) (imps [0, 3] ⟨by kernel_rfl, by kernel_rfl, by kernel_rfl, by kernel_rfl, by kernel_rfl, by kernel_rfl, by kernel_rfl, by kernel_rfl, by kernel_rfl, by kernel_rfl, by kernel_rfl, trivial⟩ ⟨by kernel_rfl, by kernel_rfl, trivial⟩) ?_
            refine post_block_normal ?_
            refine post_next ?_
            refine aw_region ?_
            refine reg_cons (guard_no rfl) (op_int (k := .i64) (m := x217) (n := 1) rfl rfl rfl rfl rfl rfl) ?_
            refine rmv ?_
            refine reg_nil ?_
            refine post_round ?_
            exact rnd_back (ih ((x216 ++ [y242]), w_i64 (x217 + 1)) hF) (imps [0, 1] ⟨by kernel_rfl, by kernel_rfl, by kernel_rfl, by kernel_rfl, by kernel_rfl, by kernel_rfl, by kernel_rfl, by kernel_rfl, by kernel_rfl, by kernel_rfl, by kernel_rfl, trivial⟩ ⟨by kernel_rfl, by kernel_rfl, trivial⟩)
          refine aw_cond_f rfl hb233 ?_
          refine aw_exit ?_
          iterate 2 (refine post_then_exit ?_)
          obtain rfl := Option.some.inj hF
          exact post_lp_break _ rfl (imps [1] ⟨by kernel_rfl, by kernel_rfl, by kernel_rfl, by kernel_rfl, by kernel_rfl, by kernel_rfl, by kernel_rfl, trivial⟩ ⟨by kernel_rfl, trivial⟩)
        refine aw_cond_f rfl hb189 ?_
        refine aw_exit ?_
        iterate 2 (refine post_then_exit ?_)
        obtain rfl := Option.some.inj hF
        refine post_imp (imp_ra 15 0 1 rfl rfl rfl (cut_take eI h184) (cut_len eI h184)) ?_
        exact post_lp_break _ rfl (imps [1] ⟨by kernel_rfl, by kernel_rfl, by kernel_rfl, by kernel_rfl, by kernel_rfl, by kernel_rfl, by kernel_rfl, trivial⟩ ⟨by kernel_rfl, trivial⟩)
      rintro _ rfl
      have hF := hK249
      clear hK249
      refine post_next ?_
      refine aw_region ?_
      refine rmv ?_
      refine ras ?_
      refine reg_nil ?_
      refine post_imp (s' := ⟨73, [(0, some (.pv (.vs 7 (List.map eGClass a0)))), (2, some (.ls 0)), (4, some (.pv (.fn q4_f q4_c))), (12, some (.pv (.int .i64 y3))), (41, some (.pv (.vs 1 (List.map eI y19)))), (42, some (.pv (.int .i64 (y19.length : Int)))), (43, some (.pv (.int .i64 x97)))], [(0, some (.row 3 1 (List.map eI x248)))], 1, [], [], 0, []⟩) (imps [0] ⟨by kernel_rfl, by kernel_rfl, by kernel_rfl, by kernel_rfl, by kernel_rfl, by kernel_rfl, by kernel_rfl, trivial⟩ ⟨by kernel_rfl, trivial⟩) ?_
      refine post_block_normal ?_
      refine post_next ?_
      refine aw_region ?_
      refine reg_cons (guard_no rfl) (op_int (k := .i64) (m := x97) (n := 1) rfl rfl rfl rfl rfl rfl) ?_
      refine rmv ?_
      refine reg_nil ?_
      refine post_round ?_
      exact rnd_back (ih (x248, w_i64 (x97 + 1)) hF) (imps [0] ⟨by kernel_rfl, by kernel_rfl, by kernel_rfl, by kernel_rfl, by kernel_rfl, by kernel_rfl, by kernel_rfl, trivial⟩ ⟨by kernel_rfl, trivial⟩)
    refine aw_cond_f rfl hb175 ?_
    refine aw_exit ?_
    iterate 2 (refine post_then_exit ?_)
    obtain rfl := Option.some.inj hF
    exact post_lp_break _ ⟨_, rfl, rfl⟩ (imps [] trivial trivial)
  rintro _ ⟨⟨⟩, rfl, rfl⟩
  have hF := elim_next hK253
  clear hK253
  refine post_next ?_
  refine aw_seq ?_
  refine aw_region ?_
  iterate 2 (refine ras ?_)
  refine reg_nil ?_
  refine post_imp (s' := ⟨73, [(10, some (.pv .nils)), (11, some (.pv (.bool false)))], [], 0, [], [], 0, []⟩) (imps [] ⟨by kernel_rfl, by kernel_rfl, trivial⟩ trivial) ?_
  refine post_next ?_
  refine aw_ret ?_
  refine post_imp (imp_nil_own 10 3 1 0 rfl rfl) ?_
  obtain rfl := Option.some.inj hF
  exact post_ret rfl rfl (.cons _ _ _ _ _ (.tmp _ _ rfl) (.own _ _ _ _ rfl nolent3) (.cons _ _ _ _ _ (.tmp _ _ rfl) (.p _) .nil)) (.inl rfl)
theorem raise_place_ok {a0 : GOwner} {a1 : List Int} {r : Int} (hF : raise_place a0 a1 = some r) : Abs.Fn Try.prog 40 [.agg (eGOwner a0), .vs 1 (List.map eI a1)] [.p (.int .i64 r)] := by
  unfold raise_place at hF
  refine fn_of_body (n := 33) Try.func40 rfl rfl rfl ?_
  intro w O
  refine aw_seq ?_
  refine aw_region ?_
  refine reg_cons (guard_no rfl) (op_box 0 rfl rfl rfl rfl rfl rfl) ?_
  refine ras ?_
  refine reg_nil ?_
  refine post_imp (s' := ⟨33, [(1, some (.pv (.vs 1 (List.map eI a1)))), (2, some (.lp 0 0))], [(0, some (.box 51 (bxv (eGOwner a0))))], 1, [], [], 0, []⟩) (imps [0] ⟨by kernel_rfl, by kernel_rfl, trivial⟩ ⟨by kernel_rfl, trivial⟩) ?_
  refine post_next ?_
  refine aw_seq ?_
  refine aw_block ?_
  refine aw_seq ?_
  refine aw_region ?_
  refine reg_cons (guard_no rfl) (op_field_lp rfl rfl Try_fld_51_0 rfl rfl) ?_
  refine reg_cons (guard_no rfl) (op_load_lp (v := .pv (.int .i64 a0.fKind)) rfl rfl rfl rfl Try_one_3 rfl rfl) ?_
  refine reg_cons (guard_no rfl) (op_int (k := .i64) (m := a0.fKind) (n := 2) rfl rfl rfl rfl rfl rfl) ?_
  refine ras ?_
  refine reg_nil ?_
  refine post_imp (s' := ⟨33, [(1, some (.pv (.vs 1 (List.map eI a1)))), (2, some (.lp 0 0)), (5, some (.pv (.bool (a0.fKind == 2))))], [(0, some (.box 51 (bxv (eGOwner a0))))], 1, [], [], 0, []⟩) (imps [0] ⟨by kernel_rfl, by kernel_rfl, by kernel_rfl, trivial⟩ ⟨by kernel_rfl, trivial⟩) ?_
  refine post_next ?_
  rcases ite_some hF with ⟨hb1, hF⟩ | ⟨hb1, hF⟩
  · refine aw_cond_t rfl hb1 ?_
    refine aw_seq ?_
    refine aw_region ?_
    refine rmv ?_
    obtain ⟨y2, h3, hF⟩ := bind_some hF
    refine reg_cons (guard_no rfl) (op_index_vs (k := .i64) rfl rfl rfl (idx_map eI h3) Try_slc_73 rfl rfl) ?_
    refine reg_cons (guard_no rfl) (op_load_vp (p := .int .i64 y2) rfl rfl rfl Try_one_3 rfl rfl) ?_
    refine ras ?_
    refine reg_nil ?_
    refine post_imp (s' := ⟨33, [(4, some (.pv (.int .i64 y2)))], [], 0, [], [], 0, []⟩) (imps [] ⟨by kernel_rfl, trivial⟩ trivial) ?_
    refine post_next ?_
    refine aw_ret ?_
    refine post_block_ret ?_
    refine post_then_ret ?_
    obtain rfl := Option.some.inj hF
    exact post_ret rfl rfl (.cons _ _ _ _ _ (.tmp _ _ rfl) (.p _) .nil) (.inl rfl)
  refine aw_cond_f rfl hb1 ?_
  refine aw_seq ?_
  obtain ⟨x6, hF, hK8⟩ := bind_some hF
  refine aw_cut (fun s1 => s1 = ⟨33, [(1, some (.pv (.vs 1 (List.map eI a1)))), (2, some (.lp 0 0)), (12, some (.pv (.bool x6)))], [(0, some (.box 51 (bxv (eGOwner a0))))], 1, [], [], 0, []⟩) ?_ ?_
  · refine aw_region ?_
    refine reg_cons (guard_no rfl) (op_field_lp rfl rfl Try_fld_51_0 rfl rfl) ?_
    refine reg_cons (guard_no rfl) (op_load_lp (v := .pv (.int .i64 a0.fKind)) rfl rfl rfl rfl Try_one_3 rfl rfl) ?_
    refine reg_cons (guard_no rfl) (op_int (k := .i64) (m := a0.fKind) (n := 3) rfl rfl rfl rfl rfl rfl) ?_
    refine rmv ?_
    rcases ite_some hF with ⟨hb4, hF⟩ | ⟨hb4, hF⟩
    · refine reg_cons (guard_on rfl rfl rfl rfl hb4) (op_field_lp rfl rfl Try_fld_51_1 rfl rfl) ?_
      refine reg_cons (guard_on rfl rfl rfl rfl hb4) (op_load_lp (v := .pv (.int .i64 a0.fN)) rfl rfl rfl rfl Try_one_3 rfl rfl) ?_
      refine reg_cons (guard_on rfl rfl rfl rfl hb4) (op_int (k := .i64) (m := a0.fN) (n := 0) rfl rfl rfl rfl rfl rfl) ?_
      refine rpt hb4 ?_
      refine rmv ?_
      rcases ite_some hF with ⟨hb5, hF⟩ | ⟨hb5, hF⟩
      · refine reg_cons (guard_on rfl rfl rfl rfl hb5) (op_field_lp rfl rfl Try_fld_51_1 rfl rfl) ?_
        refine reg_cons (guard_on rfl rfl rfl rfl hb5) (op_load_lp (v := .pv (.int .i64 a0.fN)) rfl rfl rfl rfl Try_one_3 rfl rfl) ?_
        refine reg_cons (guard_on rfl rfl rfl rfl hb5) (op_move rfl rfl rfl rfl) ?_
        refine reg_cons (guard_on rfl rfl rfl rfl hb5) (op_len_vs (n := a1.length) rfl rfl (List.length_map ..) Try_slc_73 rfl rfl) ?_
        refine reg_cons (guard_on rfl rfl rfl rfl hb5) (op_int (k := .i64) (m := a0.fN) (n := (a1.length : Int)) rfl rfl rfl rfl rfl rfl) ?_
        refine rpt hb5 ?_
        refine ras ?_
        refine reg_nil ?_
        cases hF
        exact post_cut _ rfl (imps [0] ⟨by kernel_rfl, by kernel_rfl, by kernel_rfl, trivial⟩ ⟨by kernel_rfl, trivial⟩)
      iterate 5 (refine rgo_f hb5 ?_)
      refine rpf hb5 ?_
      refine ras ?_
      refine reg_nil ?_
      cases hF
      exact post_cut _ rfl (imps [0] ⟨by kernel_rfl, by kernel_rfl, by kernel_rfl, trivial⟩ ⟨by kernel_rfl, trivial⟩)
    iterate 3 (refine rgo_f hb4 ?_)
    refine rpf hb4 ?_
    refine rmv ?_
    iterate 5 (refine rgo_f rfl ?_)
    refine rpf rfl ?_
    refine ras ?_
    refine reg_nil ?_
    cases hF
    exact post_cut _ rfl (imps [0] ⟨by kernel_rfl, by kernel_rfl, by kernel_rfl, trivial⟩ ⟨by kernel_rfl, trivial⟩)
  rintro _ rfl
  have hF := hK8
  clear hK8
  refine post_next ?_
  rcases ite_some hF with ⟨hb9, hF⟩ | ⟨hb9, hF⟩
  · refine aw_cond_t rfl hb9 ?_
    refine aw_seq ?_
    refine aw_region ?_
    refine rmv ?_
    refine reg_cons (guard_no rfl) (op_field_lp rfl rfl Try_fld_51_1 rfl rfl) ?_
    refine reg_cons (guard_no rfl) (op_load_lp (v := .pv (.int .i64 a0.fN)) rfl rfl rfl rfl Try_one_3 rfl rfl) ?_
    obtain ⟨y10, h11, hF⟩ := bind_some hF
    refine reg_cons (guard_no rfl) (op_index_vs (k := .i64) rfl rfl rfl (idx_map eI h11) Try_slc_73 rfl rfl) ?_
    refine reg_cons (guard_no rfl) (op_load_vp (p := .int .i64 y10) rfl rfl rfl Try_one_3 rfl rfl) ?_
    refine ras ?_
    refine reg_nil ?_
    refine post_imp (s' := ⟨33, [(4, some (.pv (.int .i64 y10)))], [], 0, [], [], 0, []⟩) (imps [] ⟨by kernel_rfl, trivial⟩ trivial) ?_
    refine post_next ?_
    refine aw_ret ?_
    refine post_block_ret ?_
    refine post_then_ret ?_
    obtain rfl := Option.some.inj hF
    exact post_ret rfl rfl (.cons _ _ _ _ _ (.tmp _ _ rfl) (.p _) .nil) (.inl rfl)
  refine aw_cond_f rfl hb9 ?_
  refine aw_skip ?_
  refine post_block_normal ?_
  refine post_next ?_
  refine aw_seq ?_
  refine aw_region ?_
  refine ras ?_
  refine reg_nil ?_
  refine post_imp (s' := ⟨33, [(4, some (.pv (.int .i64 0)))], [], 0, [], [], 0, []⟩) (imps [] ⟨by kernel_rfl, trivial⟩ trivial) ?_
  refine post_next ?_
  refine aw_ret ?_
  obtain rfl := Option.some.inj hF
  exact post_ret rfl rfl (.cons _ _ _ _ _ (.tmp _ _ rfl) (.p _) .nil) (.inl rfl)
theorem raise_Places_ok {a0 : List GClass} {a1 : List UInt8} {a2 : List Int} {a3 : List UInt8} {r : (List Int) × Bool} (hF : raise_Places a0 a1 a2 a3 = some r) : Abs.Fn Try.prog 33 [.vs 7 (List.map eGClass a0), .str a1, .vs 1 (List.map eI a2), .str a3] [.p (.vs 1 (List.map eI r.1)), .p (.bool r.2)] := by
  unfold raise_Places at hF
  refine fn_of_body (n := 17) Try.func33 rfl rfl rfl ?_
  intro w O
  refine aw_seq ?_
  refine aw_region ?_
  iterate 2 (refine ras ?_)
  refine reg_nil ?_
  refine post_imp (s' := ⟨17, [(0, some (.pv (.vs 7 (List.map eGClass a0)))), (1, some (.pv (.str a1))), (2, some (.pv (.vs 1 (List.map eI a2)))), (3, some (.pv (.str a3)))], [], 0, [], [], 0, []⟩) (imps [] ⟨by kernel_rfl, by kernel_rfl, by kernel_rfl, by kernel_rfl, trivial⟩ trivial) ?_
  refine post_next ?_
  refine aw_seq ?_
  refine aw_region ?_
  iterate 4 (refine rmv ?_)
  obtain ⟨y3, h4, hF⟩ := bind_some hF
  refine reg_cons (guard_no rfl) (op_call 0 rfl (caps := []) (args := [.vs 7 (List.map eGClass a0), .str a1, .vs 1 (List.map eI a2), .str a3, .fn 40 []]) (rs := [.p (.vs 1 (List.map eI y3.1)), .p (.bool y3.2)]) rfl rfl rfl Try_cal_39 (Fn.frozen (raise_raise_int__ok (q4_f := 40) (q4_c := []) (q4_b := Try_cal_40) (q4_h := fun _ _ r h => (raise_place_ok h)) h4)) rfl rfl rfl) ?_
  iterate 2 (refine reg_cons (guard_no rfl) (op_extract rfl rfl rfl rfl rfl) ?_)
  iterate 2 (refine ras ?_)
  refine reg_nil ?_
  refine post_imp (s' := ⟨17, [(8, some (.pv (.vs 1 (List.map eI y3.1)))), (9, some (.pv (.bool y3.2)))], [], 0, [], [], 0, []⟩) (imps [] ⟨by kernel_rfl, by kernel_rfl, trivial⟩ trivial) ?_
  refine post_next ?_
  refine aw_ret ?_
  obtain rfl := Option.some.inj hF
  exact post_ret rfl rfl (.cons _ _ _ _ _ (.tmp _ _ rfl) (.p _) (.cons _ _ _ _ _ (.tmp _ _ rfl) (.p _) .nil)) (.inl rfl)
theorem frame_own_ok {a0 : List GClass} {a1 : List GCell} {a2 : Int} {a3 : List UInt8} {r : (List Int) × Bool} (hF : frame_own a0 a1 a2 a3 = some r) : Abs.Fn Try.prog 21 [.vs 7 (List.map eGClass a0), .vs 7 (List.map eGCell a1), .int .i64 a2, .str a3] [.p (.vs 1 (List.map eI r.1)), .p (.bool r.2)] := by
  unfold frame_own at hF
  refine fn_of_body (n := 46) Try.func21 rfl rfl rfl ?_
  intro w O
  refine aw_seq ?_
  refine aw_region ?_
  iterate 2 (refine ras ?_)
  refine reg_nil ?_
  refine post_imp (s' := ⟨46, [(0, some (.pv (.vs 7 (List.map eGClass a0)))), (1, some (.pv (.vs 7 (List.map eGCell a1)))), (2, some (.pv (.int .i64 a2))), (3, some (.pv (.str a3)))], [], 0, [], [], 0, []⟩) (imps [] ⟨by kernel_rfl, by kernel_rfl, by kernel_rfl, by kernel_rfl, trivial⟩ trivial) ?_
  refine post_next ?_
  iterate 2 (refine aw_seq ?_)
  obtain ⟨x2, hF, hK4⟩ := bind_some hF
  refine aw_cut (fun s1 => s1 = ⟨46, [(0, some (.pv (.vs 7 (List.map eGClass a0)))), (1, some (.pv (.vs 7 (List.map eGCell a1)))), (2, some (.pv (.int .i64 a2))), (3, some (.pv (.str a3))), (19, some (.pv (.bool x2)))], [], 0, [], [], 0, []⟩) ?_ ?_
  · refine aw_region ?_
    refine rmv ?_
    refine reg_cons (guard_no rfl) (op_int (k := .i64) (m := a2) (n := 1) rfl rfl rfl rfl rfl rfl) ?_
    refine rmv ?_
    rcases ite_some hF with ⟨hb1, hF⟩ | ⟨hb1, hF⟩
    · refine rgo_t hb1 ?_
      iterate 3 (refine rgo_t hb1 ?_)
      refine rpt hb1 ?_
      refine reg_nil ?_
      cases hF
      exact post_cut _ rfl (imps [] ⟨by kernel_rfl, by kernel_rfl, by kernel_rfl, by kernel_rfl, by kernel_rfl, trivial⟩ trivial)
    iterate 2 (refine reg_cons (guard_on rfl rfl rfl rfl hb1) (op_move rfl rfl rfl rfl) ?_)
    refine reg_cons (guard_on rfl rfl rfl rfl hb1) (op_len_vs (n := a1.length) rfl rfl (List.length_map ..) Try_slc_23 rfl rfl) ?_
    refine reg_cons (guard_on rfl rfl rfl rfl hb1) (op_int (k := .i64) (m := a2) (n := (a1.length : Int)) rfl rfl rfl rfl rfl rfl) ?_
    refine rpf hb1 ?_
    refine reg_nil ?_
    cases hF
    exact post_cut _ rfl (imps [] ⟨by kernel_rfl, by kernel_rfl, by kernel_rfl, by kernel_rfl, by kernel_rfl, trivial⟩ trivial)
  rintro _ rfl
  have hF := hK4
  clear hK4
  refine post_next ?_
  rcases ite_some hF with ⟨hb5, hF⟩ | ⟨hb5, hF⟩
  · refine aw_cond_t rfl hb5 ?_
    refine aw_seq ?_
    refine aw_region ?_
    iterate 2 (refine ras ?_)
    refine reg_nil ?_
    refine post_imp (s' := ⟨46, [(8, some (.pv .nils)), (9, some (.pv (.bool false)))], [], 0, [], [], 0, []⟩) (imps [] ⟨by kernel_rfl, by kernel_rfl, trivial⟩ trivial) ?_
    refine post_next ?_
    refine aw_ret ?_
    refine post_then_ret ?_
    refine post_imp (imp_nil_vs 8 1 rfl) ?_
    obtain rfl := Option.some.inj hF
    exact post_ret rfl rfl (.cons _ _ _ _ _ (.tmp _ _ rfl) (.p _) (.cons _ _ _ _ _ (.tmp _ _ rfl) (.p _) .nil)) (.inl rfl)
  refine aw_cond_f rfl hb5 ?_
  refine aw_skip ?_
  refine post_next ?_
  refine aw_seq ?_
  refine aw_region ?_
  iterate 2 (refine rmv ?_)
  refine reg_cons (guard_no rfl) (op_int (k := .i64) (m := a2) (n := 1) rfl rfl rfl rfl rfl rfl) ?_
  obtain ⟨y8, h9, hF⟩ := bind_some hF
  refine reg_cons (guard_no rfl) (op_index_vs (k := .i64) rfl rfl rfl (idx_map eGCell h9) Try_slc_23 rfl rfl) ?_
  refine reg_cons (guard_no rfl) (op_load_vp_agg (ps := eGCell y8) rfl rfl rfl rfl Try_agg_43 rfl rfl) ?_
  refine reg_cons (guard_no rfl) (op_alloc 0 rfl (ps := (eGCell zGCell)) rfl Try_zer_43 (by exact ⟨rfl, rfl, rfl, rfl, rfl, trivial, rfl, trivial⟩) rfl rfl) ?_
  refine reg_cons (guard_no rfl) (op_store_lp (n := 7) rfl rfl rfl rfl rfl (or_agg Try_agg_43) (by rw [Try_non_43]; rfl) rfl rfl rfl) ?_
  refine reg_nil ?_
  refine post_imp (s' := ⟨46, [(0, some (.pv (.vs 7 (List.map eGClass a0)))), (3, some (.pv (.str a3))), (10, some (.lp 0 0))], [(0, some (.box 43 (bxv (eGCell y8))))], 1, [], [], 0, []⟩) (imps [0] ⟨by kernel_rfl, by kernel_rfl, by kernel_rfl, trivial⟩ ⟨by kernel_rfl, trivial⟩) ?_
  refine post_next ?_
  refine aw_seq ?_
  refine aw_region ?_
  refine rmv ?_
  refine reg_cons (guard_no rfl) (op_field_lp rfl rfl Try_fld_43_0 rfl rfl) ?_
  refine reg_cons (guard_no rfl) (op_load_lp (v := .pv (.str y8.fClass)) rfl rfl rfl rfl Try_one_9 rfl rfl) ?_
  obtain ⟨y12, h13, hF⟩ := bind_some hF
  refine reg_cons (guard_no rfl) (op_call 1 rfl (caps := []) (args := [.vs 7 (List.map eGClass a0), .str y8.fClass]) (rs := [.p (.int .i64 y12)]) rfl rfl rfl Try_cal_32 (table_Arity_ok h13) rfl rfl rfl) ?_
  refine ras ?_
  refine reg_nil ?_
  refine post_imp (s' := ⟨46, [(0, some (.pv (.vs 7 (List.map eGClass a0)))), (3, some (.pv (.str a3))), (10, some (.lp 0 0)), (11, some (.pv (.int .i64 y12)))], [(0, some (.box 43 (bxv (eGCell y8))))], 1, [], [], 0, []⟩) (imps [0] ⟨by kernel_rfl, by kernel_rfl, by kernel_rfl, by kernel_rfl, trivial⟩ ⟨by kernel_rfl, trivial⟩) ?_
  refine post_next ?_
  iterate 2 (refine aw_seq ?_)
  obtain ⟨x15, hF, hK17⟩ := bind_some hF
  refine aw_cut (fun s1 => s1 = ⟨46, [(0, some (.pv (.vs 7 (List.map eGClass a0)))), (3, some (.pv (.str a3))), (10, some (.lp 0 0)), (11, some (.pv (.int .i64 y12))), (34, some (.pv (.bool x15)))], [(0, some (.box 43 (bxv (eGCell y8))))], 1, [], [], 0, []⟩) ?_ ?_
  · refine aw_region ?_
    refine rmv ?_
    refine reg_cons (guard_no rfl) (op_int (k := .i64) (m := y12) (n := 0) rfl rfl rfl rfl rfl rfl) ?_
    refine rmv ?_
    rcases ite_some hF with ⟨hb14, hF⟩ | ⟨hb14, hF⟩
    · refine rgo_t hb14 ?_
      refine rgo_t hb14 ?_
      refine rpt hb14 ?_
      refine reg_nil ?_
      cases hF
      exact post_cut _ rfl (imps [0] ⟨by kernel_rfl, by kernel_rfl, by kernel_rfl, by kernel_rfl, by kernel_rfl, trivial⟩ ⟨by kernel_rfl, trivial⟩)
    refine reg_cons (guard_on rfl rfl rfl rfl hb14) (op_move rfl rfl rfl rfl) ?_
    refine reg_cons (guard_on rfl rfl rfl rfl hb14) (op_int (k := .i64) (m := y12) (n := 4) rfl rfl rfl rfl rfl rfl) ?_
    refine rpf hb14 ?_
    refine reg_nil ?_
    cases hF
    exact post_cut _ rfl (imps [0] ⟨by kernel_rfl, by kernel_rfl, by kernel_rfl, by kernel_rfl, by kernel_rfl, trivial⟩ ⟨by kernel_rfl, trivial⟩)
  rintro _ rfl
  have hF := hK17
  clear hK17
  refine post_next ?_
  rcases ite_some hF with ⟨hb18, hF⟩ | ⟨hb18, hF⟩
  · refine aw_cond_t rfl hb18 ?_
    refine aw_seq ?_
    refine aw_region ?_
    iterate 2 (refine ras ?_)
    refine reg_nil ?_
    refine post_imp (s' := ⟨46, [(8, some (.pv .nils)), (9, some (.pv (.bool false)))], [], 0, [], [], 0, []⟩) (imps [] ⟨by kernel_rfl, by kernel_rfl, trivial⟩ trivial) ?_
    refine post_next ?_
    refine aw_ret ?_
    refine post_then_ret ?_
    refine post_imp (imp_nil_vs 8 1 rfl) ?_
    obtain rfl := Option.some.inj hF
    exact post_ret rfl rfl (.cons _ _ _ _ _ (.tmp _ _ rfl) (.p _) (.cons _ _ _ _ _ (.tmp _ _ rfl) (.p _) .nil)) (.inl rfl)
  refine aw_cond_f rfl hb18 ?_
  refine aw_skip ?_
  refine post_next ?_
  refine aw_seq ?_
  refine aw_imp (imp_freeze [(0, some (.box 43 (bxv (eGCell y8))))] [(10, some (.pv (.vp (eGCell y8))))] (FzH.spec ⟨rfl, trivial⟩) ⟨⟨_, rfl, rfl⟩, trivial⟩) ?_
  refine dr_start ⟨_, _, _⟩ rfl ?_
  refine drm ?_
  refine dr_cons { need := [(10, .pv (.vp (eGCell y8)))], dst := some 36, val := some (.pv (.vp (List.drop 0 (eGCell y8)))) } (fun m h => step_on (guard_no rfl) (op_field_vp rfl h.1.1 Try_fld_43_0 rfl rfl) rfl) ⟨⟨rfl, trivial⟩, trivial, trivial⟩ ?_
  refine dr_cons { need := [(36, .pv (.vp (List.drop 0 (eGCell y8))))], dst := some 37, val := some (.pv (.str y8.fClass)) } (fun m h => step_on (guard_no rfl) (op_load_vp (p := .str y8.fClass) rfl h.1.1 rfl Try_one_9 rfl rfl) rfl) ⟨⟨rfl, trivial⟩, trivial, trivial⟩ ?_
  refine dr_cons { need := [(10, .pv (.vp (eGCell y8)))], dst := some 38, val := some (.pv (.vp (List.drop 1 (eGCell y8)))) } (fun m h => step_on (guard_no rfl) (op_field_vp rfl h.1.1 Try_fld_43_1 rfl rfl) rfl) ⟨⟨rfl, trivial⟩, trivial, trivial⟩ ?_
  refine drm ?_
  refine dr_cons { need := [(39, .pv (.int .i64 y12))], dst := some 40, val := some (.pv (.int .i64 (w_i64 (y12 + 1)))) } (fun m h => step_on (guard_no rfl) (op_int (k := .i64) (m := y12) (n := 1) rfl h.1.1 rfl rfl rfl rfl) rfl) ⟨⟨rfl, trivial⟩, trivial, trivial⟩ ?_
  obtain ⟨y19, h20, hF⟩ := bind_some hF
  refine dr_cons { need := [(38, .pv (.vp (List.drop 1 (eGCell y8)))), (40, .pv (.int .i64 (w_i64 (y12 + 1))))], dst := some 41, val := some (.pv (.vs 1 (List.map eI y19))) } (fun m h => step_on (guard_no rfl) (op_sliceArr (f := eI) (l := (y8.fOwn).l) (nl := none) (nh := (some (w_i64 (y12 + 1)))) (nm := none) rfl h.1.1 rfl (evo_some h.1.2.1) rfl (.inl rfl) Try_arr_41 rfl (fun _ => rfl) rfl rfl h20 rfl rfl) rfl) ⟨⟨rfl, rfl, trivial⟩, trivial, trivial⟩ ?_
  refine drm ?_
  obtain ⟨y21, h22, hF⟩ := bind_some hF
  refine dr_cons { need := [(42, .pv (.str a3)), (41, .pv (.vs 1 (List.map eI y19))), (37, .pv (.str y8.fClass)), (35, .pv (.vs 7 (List.map eGClass a0)))], dst := some 43, val := some (.tup [.pv (.vs 1 (List.map eI y21.1)), .pv (.bool y21.2)]) } (fun m h => step_on (guard_no rfl) (op_call 1 rfl (caps := []) (args := [.vs 7 (List.map eGClass a0), .str y8.fClass, .vs 1 (List.map eI y19), .str a3]) (rs := [.p (.vs 1 (List.map eI y21.1)), .p (.bool y21.2)]) rfl rfl (evl_cons h.1.2.2.2.1 (evl_cons h.1.2.2.1 (evl_cons h.1.2.1 (evl_cons h.1.1 evl_nil)))) Try_cal_33 (raise_Places_ok h22) rfl rfl rfl) rfl) ⟨⟨rfl, rfl, rfl, rfl, trivial⟩, trivial, trivial⟩ ?_
  refine dr_cons { need := [(43, .tup [.pv (.vs 1 (List.map eI y21.1)), .pv (.bool y21.2)])], dst := some 44, val := some (.pv (.vs 1 (List.map eI y21.1))) } (fun m h => step_on (guard_no rfl) (op_extract rfl h.1.1 rfl rfl rfl) rfl) ⟨⟨rfl, trivial⟩, trivial, trivial⟩ ?_
  refine dr_cons { need := [(43, .tup [.pv (.vs 1 (List.map eI y21.1)), .pv (.bool y21.2)])], dst := some 45, val := some (.pv (.bool y21.2)) } (fun m h => step_on (guard_no rfl) (op_extract rfl h.1.1 rfl rfl rfl) rfl) ⟨⟨rfl, trivial⟩, trivial, trivial⟩ ?_
  refine dr_cons { need := [(44, .pv (.vs 1 (List.map eI y21.1)))], dst := some 8, val := some (.pv (.vs 1 (List.map eI y21.1))) } (fun m h => step_on (guard_no rfl) (op_assign rfl h.1.1 rfl rfl) rfl) ⟨⟨rfl, trivial⟩, trivial, trivial⟩ ?_
  refine dr_cons { need := [(45, .pv (.bool y21.2))], dst := some 9, val := some (.pv (.bool y21.2)) } (fun m h => step_on (guard_no rfl) (op_assign rfl h.1.1 rfl rfl) rfl) ⟨⟨rfl, trivial⟩, trivial, trivial⟩ ?_
  refine dr_nil Try_mixed rfl (by kernel_rfl) ?_
  refine post_imp (s' := ⟨46, [(8, some (.pv (.vs 1 (List.map eI y21.1)))), (9, some (.pv (.bool y21.2)))], [], 0, [], [], 0, []⟩) (imps [] ⟨by kernel_rfl, by kernel_rfl, trivial⟩ trivial) ?_
  refine post_next ?_
  refine aw_ret ?_
  obtain rfl := Option.some.inj hF
  exact post_ret rfl rfl (.cons _ _ _ _ _ (.tmp _ _ rfl) (.p _) (.cons _ _ _ _ _ (.tmp _ _ rfl) (.p _) .nil)) (.inl rfl)
theorem frame_teller_ok {a0 : List GClass} {a1 : List GCell} {a2 : GFrame} {r : Bool × GFrame × (List Int)} (hF : frame_teller a0 a1 a2 = some r) : Abs.Fn Try.prog 19 [.vs 7 (List.map eGClass a0), .vs 7 (List.map eGCell a1), .agg (eGFrame a2)] [.p (.fn 29 [.vp (eB r.1), .vp (eGFrame r.2.1), .vp ((eL 1 eI) r.2.2)])] := by
  unfold frame_teller at hF
  refine fn_of_body (n := 20) Try.func19 rfl rfl rfl ?_
  intro w O
  refine aw_seq ?_
  refine aw_region ?_
  refine reg_cons (guard_no rfl) (op_box 0 rfl rfl rfl rfl rfl rfl) ?_
  refine ras ?_
  refine reg_nil ?_
  refine post_imp (s' := ⟨20, [(0, some (.pv (.vs 7 (List.map eGClass a0)))), (1, some (.pv (.vs 7 (List.map eGCell a1)))), (5, some (.lp 0 0))], [(0, some (.box 26 (bxv (eGFrame a2))))], 1, [], [], 0, []⟩) (imps [0] ⟨by kernel_rfl, by kernel_rfl, by kernel_rfl, trivial⟩ ⟨by kernel_rfl, trivial⟩) ?_
  refine post_next ?_
  refine aw_seq ?_
  refine aw_region ?_
  iterate 2 (refine rmv ?_)
  refine reg_cons (guard_no rfl) (op_field_lp rfl rfl Try_fld_26_0 rfl rfl) ?_
  refine reg_cons (guard_no rfl) (op_load_lp (v := .pv (.int .i64 a2.fThis)) rfl rfl rfl rfl Try_one_3 rfl rfl) ?_
  refine reg_cons (guard_no rfl) (op_field_lp rfl rfl Try_fld_26_1 rfl rfl) ?_
  refine reg_cons (guard_no rfl) (op_load_lp (v := .pv (.str a2.fClass)) rfl rfl rfl rfl Try_one_9 rfl rfl) ?_
  obtain ⟨y1, h2, hF⟩ := bind_some hF
  refine reg_cons (guard_no rfl) (op_call 1 rfl (caps := []) (args := [.vs 7 (List.map eGClass a0), .vs 7 (List.map eGCell a1), .int .i64 a2.fThis, .str a2.fClass]) (rs := [.p (.vs 1 (List.map eI y1.1)), .p (.bool y1.2)]) rfl rfl rfl Try_cal_21 (frame_own_ok h2) rfl rfl rfl) ?_
  refine rmv ?_
  iterate 2 (refine reg_cons (guard_no rfl) (op_extract rfl rfl rfl rfl rfl) ?_)
  refine reg_cons (guard_no rfl) (op_alloc 1 rfl (ps := [.vs 1 (List.map eI [])]) rfl Try_zer_73 (by exact ⟨trivial, trivial⟩) rfl rfl) ?_
  refine reg_cons (guard_no rfl) (op_alloc 2 rfl (ps := [.bool false]) rfl Try_zer_4 (by exact ⟨rfl, trivial⟩) rfl rfl) ?_
  refine reg_cons (guard_no rfl) (op_store_lp (n := 1) rfl rfl rfl rfl rfl (or_one Try_one_73) (by rw [Try_one_73]; rfl) rfl rfl rfl) ?_
  refine reg_cons (guard_no rfl) (op_store_lp (n := 1) rfl rfl rfl rfl rfl (or_one Try_one_4) (by rw [Try_one_4]; rfl) rfl rfl rfl) ?_
  refine reg_nil ?_
  refine post_imp (s' := ⟨20, [(5, some (.lp 0 0)), (7, some (.lp 1 0)), (8, some (.lp 2 0))], [(0, some (.box 26 (bxv (eGFrame a2)))), (1, some (.box 73 [.pv (.vs 1 (List.map eI y1.1))])), (2, some (.box 4 [.pv (.bool y1.2)]))], 3, [], [], 0, []⟩) (imps [0, 1, 2] ⟨by kernel_rfl, by kernel_rfl, by kernel_rfl, trivial⟩ ⟨by kernel_rfl, by kernel_rfl, by kernel_rfl, trivial⟩) ?_
  refine post_next ?_
  refine aw_seq ?_
  refine aw_region ?_
  refine reg_cons (guard_no rfl) (op_makeFunc rfl rfl rfl rfl) ?_
  refine ras ?_
  refine reg_nil ?_
  refine post_imp (s' := ⟨20, [(6, some (.fn 29 [.lp 0 0, .lp 1 0, .lp 2 0]))], [(0, some (.box 4 [.pv (.bool y1.2)])), (1, some (.box 26 (bxv (eGFrame a2)))), (2, some (.box 73 [.pv (.vs 1 (List.map eI y1.1))]))], 3, [], [], 0, []⟩) (imps [2, 0, 1] ⟨by kernel_rfl, trivial⟩ ⟨by kernel_rfl, by kernel_rfl, by kernel_rfl, trivial⟩) ?_
  refine post_next ?_
  refine aw_ret ?_
  refine post_imp (imp_freeze_cap 6 0 [.pv (.vp (eB y1.2)), .lp 1 0, .lp 2 0] rfl rfl rfl rfl ⟨.inr ⟨rfl, rfl⟩, .inl rfl, .inl rfl, trivial⟩) ?_
  refine post_imp (imp_freeze_cap 6 1 [.pv (.vp (eB y1.2)), .pv (.vp (eGFrame a2)), .lp 2 0] rfl rfl rfl rfl ⟨.inl rfl, .inr ⟨rfl, rfl⟩, .inl rfl, trivial⟩) ?_
  refine post_imp (imp_freeze [(2, some (.box 73 [.pv (.vs 1 (List.map eI y1.1))]))] [(6, some (.pv (.fn 29 [.vp (eB y1.2), .vp (eGFrame a2), .vp ((eL 1 eI) y1.1)])))] (FzH.spec ⟨rfl, trivial⟩) ⟨⟨_, rfl, rfl⟩, trivial⟩) ?_
  obtain rfl := Option.some.inj hF
  exact post_ret rfl rfl (.cons _ _ _ _ _ (.tmp _ _ rfl) (.p _) .nil) (.inl rfl)
theorem frame_teller_1_ok {a0 : GOwner} {c0 : Bool} {c1 : GFrame} {c2 : List Int} {r : Int} (hF : frame_teller_1 a0 c0 c1 c2 = some r) : Abs.Fn Try.prog 29 [.agg (eGOwner a0), .vp (eB c0), .vp (eGFrame c1), .vp ((eL 1 eI) c2)] [.p (.int .i64 r)] := by
  unfold frame_teller_1 at hF
  refine fn_of_body (n := 43) Try.func29 rfl rfl rfl ?_
  intro w O
  refine aw_seq ?_
  refine aw_region ?_
  refine reg_cons (guard_no rfl) (op_box 0 rfl rfl rfl rfl rfl rfl) ?_
  refine ras ?_
  refine reg_nil ?_
  refine post_imp (s' := ⟨43, [(1, some (.pv (.vp (eB c0)))), (2, some (.pv (.vp (eGFrame c1)))), (3, some (.pv (.vp ((eL 1 eI) c2)))), (4, some (.lp 0 0))], [(0, some (.box 51 (bxv (eGOwner a0))))], 1, [], [], 0, []⟩) (imps [0] ⟨by kernel_rfl, by kernel_rfl, by kernel_rfl, by kernel_rfl, trivial⟩ ⟨by kernel_rfl, trivial⟩) ?_
  refine post_next ?_
  refine aw_seq ?_
  refine aw_block ?_
  refine aw_seq ?_
  refine aw_region ?_
  refine reg_cons (guard_no rfl) (op_load_vp (p := .bool c0) rfl rfl rfl Try_one_4 rfl rfl) ?_
  refine reg_cons (guard_no rfl) (op_not rfl rfl rfl rfl) ?_
  refine ras ?_
  refine reg_nil ?_
  refine post_imp (s' := ⟨43, [(2, some (.pv (.vp (eGFrame c1)))), (3, some (.pv (.vp ((eL 1 eI) c2)))), (4, some (.lp 0 0)), (6, some (.pv (.bool (!c0))))], [(0, some (.box 51 (bxv (eGOwner a0))))], 1, [], [], 0, []⟩) (imps [0] ⟨by kernel_rfl, by kernel_rfl, by kernel_rfl, by kernel_rfl, trivial⟩ ⟨by kernel_rfl, trivial⟩) ?_
  refine post_next ?_
  rcases ite_some hF with ⟨hb1, hF⟩ | ⟨hb1, hF⟩
  · refine aw_cond_t rfl hb1 ?_
    refine aw_seq ?_
    refine aw_region ?_
    refine ras ?_
    refine reg_nil ?_
    refine post_imp (s' := ⟨43, [(5, some (.pv (.int .i64 0)))], [], 0, [], [], 0, []⟩) (imps [] ⟨by kernel_rfl, trivial⟩ trivial) ?_
    refine post_next ?_
    refine aw_ret ?_
    refine post_block_ret ?_
    refine post_then_ret ?_
    obtain rfl := Option.some.inj hF
    exact post_ret rfl rfl (.cons _ _ _ _ _ (.tmp _ _ rfl) (.p _) .nil) (.inl rfl)
  refine aw_cond_f rfl hb1 ?_
  refine aw_seq ?_
  refine aw_region ?_
  refine reg_cons (guard_no rfl) (op_field_lp rfl rfl Try_fld_51_0 rfl rfl) ?_
  refine reg_cons (guard_no rfl) (op_load_lp (v := .pv (.int .i64 a0.fKind)) rfl rfl rfl rfl Try_one_3 rfl rfl) ?_
  refine reg_cons (guard_no rfl) (op_int (k := .i64) (m := a0.fKind) (n := 1) rfl rfl rfl rfl rfl rfl) ?_
  refine ras ?_
  refine reg_nil ?_
  refine post_imp (s' := ⟨43, [(2, some (.pv (.vp (eGFrame c1)))), (3, some (.pv (.vp ((eL 1 eI) c2)))), (4, some (.lp 0 0)), (9, some (.pv (.bool (a0.fKind == 1))))], [(0, some (.box 51 (bxv (eGOwner a0))))], 1, [], [], 0, []⟩) (imps [0] ⟨by kernel_rfl, by kernel_rfl, by kernel_rfl, by kernel_rfl, trivial⟩ ⟨by kernel_rfl, trivial⟩) ?_
  refine post_next ?_
  rcases ite_some hF with ⟨hb2, hF⟩ | ⟨hb2, hF⟩
  · refine aw_cond_t rfl hb2 ?_
    refine aw_seq ?_
    refine aw_region ?_
    refine reg_cons (guard_no rfl) (op_field_vp rfl rfl Try_fld_26_0 rfl rfl) ?_
    refine reg_cons (guard_no rfl) (op_load_vp (p := .int .i64 c1.fThis) rfl rfl rfl Try_one_3 rfl rfl) ?_
    refine ras ?_
    refine reg_nil ?_
    refine post_imp (s' := ⟨43, [(5, some (.pv (.int .i64 c1.fThis)))], [], 0, [], [], 0, []⟩) (imps [] ⟨by kernel_rfl, trivial⟩ trivial) ?_
    refine post_next ?_
    refine aw_ret ?_
    refine post_block_ret ?_
    refine post_then_ret ?_
    obtain rfl := Option.some.inj hF
    exact post_ret rfl rfl (.cons _ _ _ _ _ (.tmp _ _ rfl) (.p _) .nil) (.inl rfl)
  refine aw_cond_f rfl hb2 ?_
  refine aw_seq ?_
  refine aw_region ?_
  refine reg_cons (guard_no rfl) (op_field_lp rfl rfl Try_fld_51_0 rfl rfl) ?_
  refine reg_cons (guard_no rfl) (op_load_lp (v := .pv (.int .i64 a0.fKind)) rfl rfl rfl rfl Try_one_3 rfl rfl) ?_
  refine reg_cons (guard_no rfl) (op_int (k := .i64) (m := a0.fKind) (n := 2) rfl rfl rfl rfl rfl rfl) ?_
  refine ras ?_
  refine reg_nil ?_
  refine post_imp (s' := ⟨43, [(3, some (.pv (.vp ((eL 1 eI) c2)))), (4, some (.lp 0 0)), (15, some (.pv (.bool (a0.fKind == 2))))], [(0, some (.box 51 (bxv (eGOwner a0))))], 1, [], [], 0, []⟩) (imps [0] ⟨by kernel_rfl, by kernel_rfl, by kernel_rfl, trivial⟩ ⟨by kernel_rfl, trivial⟩) ?_
  refine post_next ?_
  rcases ite_some hF with ⟨hb3, hF⟩ | ⟨hb3, hF⟩
  · refine aw_cond_t rfl hb3 ?_
    refine aw_seq ?_
    refine aw_region ?_
    refine reg_cons (guard_no rfl) (op_load_vp (p := .vs 1 (List.map eI c2)) rfl rfl rfl Try_one_73 rfl rfl) ?_
    obtain ⟨y4, h5, hF⟩ := bind_some hF
    refine reg_cons (guard_no rfl) (op_index_vs (k := .i64) rfl rfl rfl (idx_map eI h5) Try_slc_73 rfl rfl) ?_
    refine reg_cons (guard_no rfl) (op_load_vp (p := .int .i64 y4) rfl rfl rfl Try_one_3 rfl rfl) ?_
    refine ras ?_
    refine reg_nil ?_
    refine post_imp (s' := ⟨43, [(5, some (.pv (.int .i64 y4)))], [], 0, [], [], 0, []⟩) (imps [] ⟨by kernel_rfl, trivial⟩ trivial) ?_
    refine post_next ?_
    refine aw_ret ?_
    refine post_block_ret ?_
    refine post_then_ret ?_
    obtain rfl := Option.some.inj hF
    exact post_ret rfl rfl (.cons _ _ _ _ _ (.tmp _ _ rfl) (.p _) .nil) (.inl rfl)
  refine aw_cond_f rfl hb3 ?_
  refine aw_seq ?_
  obtain ⟨x8, hF, hK10⟩ := bind_some hF
  refine aw_cut (fun s1 => s1 = ⟨43, [(3, some (.pv (.vp ((eL 1 eI) c2)))), (4, some (.lp 0 0)), (22, some (.pv (.bool x8)))], [(0, some (.box 51 (bxv (eGOwner a0))))], 1, [], [], 0, []⟩) ?_ ?_
  · refine aw_region ?_
    refine reg_cons (guard_no rfl) (op_field_lp rfl rfl Try_fld_51_0 rfl rfl) ?_
    refine reg_cons (guard_no rfl) (op_load_lp (v := .pv (.int .i64 a0.fKind)) rfl rfl rfl rfl Try_one_3 rfl rfl) ?_
    refine reg_cons (guard_no rfl) (op_int (k := .i64) (m := a0.fKind) (n := 3) rfl rfl rfl rfl rfl rfl) ?_
    refine rmv ?_
    rcases ite_some hF with ⟨hb6, hF⟩ | ⟨hb6, hF⟩
    · refine reg_cons (guard_on rfl rfl rfl rfl hb6) (op_field_lp rfl rfl Try_fld_51_1 rfl rfl) ?_
      refine reg_cons (guard_on rfl rfl rfl rfl hb6) (op_load_lp (v := .pv (.int .i64 a0.fN)) rfl rfl rfl rfl Try_one_3 rfl rfl) ?_
      refine reg_cons (guard_on rfl rfl rfl rfl hb6) (op_int (k := .i64) (m := a0.fN) (n := 0) rfl rfl rfl rfl rfl rfl) ?_
      refine rpt hb6 ?_
      refine rmv ?_
      rcases ite_some hF with ⟨hb7, hF⟩ | ⟨hb7, hF⟩
      · refine reg_cons (guard_on rfl rfl rfl rfl hb7) (op_field_lp rfl rfl Try_fld_51_1 rfl rfl) ?_
        refine reg_cons (guard_on rfl rfl rfl rfl hb7) (op_load_lp (v := .pv (.int .i64 a0.fN)) rfl rfl rfl rfl Try_one_3 rfl rfl) ?_
        refine reg_cons (guard_on rfl rfl rfl rfl hb7) (op_load_vp (p := .vs 1 (List.map eI c2)) rfl rfl rfl Try_one_73 rfl rfl) ?_
        refine reg_cons (guard_on rfl rfl rfl rfl hb7) (op_len_vs (n := c2.length) rfl rfl (List.length_map ..) Try_slc_73 rfl rfl) ?_
        refine reg_cons (guard_on rfl rfl rfl rfl hb7) (op_int (k := .i64) (m := a0.fN) (n := (c2.length : Int)) rfl rfl rfl rfl rfl rfl) ?_
        refine rpt hb7 ?_
        refine ras ?_
        refine reg_nil ?_
        cases hF
        exact post_cut _ rfl (imps [0] ⟨by kernel_rfl, by kernel_rfl, by kernel_rfl, trivial⟩ ⟨by kernel_rfl, trivial⟩)
      iterate 5 (refine rgo_f hb7 ?_)
      refine rpf hb7 ?_
      refine ras ?_
      refine reg_nil ?_
      cases hF
      exact post_cut _ rfl (imps [0] ⟨by kernel_rfl, by kernel_rfl, by kernel_rfl, trivial⟩ ⟨by kernel_rfl, trivial⟩)
    iterate 3 (refine rgo_f hb6 ?_)
    refine rpf hb6 ?_
    refine rmv ?_
    iterate 5 (refine rgo_f rfl ?_)
    refine rpf rfl ?_
    refine ras ?_
    refine reg_nil ?_
    cases hF
    exact post_cut _ rfl (imps [0] ⟨by kernel_rfl, by kernel_rfl, by kernel_rfl, trivial⟩ ⟨by kernel_rfl, trivial⟩)
  rintro _ rfl
  have hF := hK10
  clear hK10
  refine post_next ?_
  rcases ite_some hF with ⟨hb11, hF⟩ | ⟨hb11, hF⟩
  · refine aw_cond_t rfl hb11 ?_
    refine aw_seq ?_
    refine aw_region ?_
    refine reg_cons (guard_no rfl) (op_load_vp (p := .vs 1 (List.map eI c2)) rfl rfl rfl Try_one_73 rfl rfl) ?_
    refine reg_cons (guard_no rfl) (op_field_lp rfl rfl Try_fld_51_1 rfl rfl) ?_
    refine reg_cons (guard_no rfl) (op_load_lp (v := .pv (.int .i64 a0.fN)) rfl rfl rfl rfl Try_one_3 rfl rfl) ?_
    obtain ⟨y12, h13, hF⟩ := bind_some hF
    refine reg_cons (guard_no rfl) (op_index_vs (k := .i64) rfl rfl rfl (idx_map eI h13) Try_slc_73 rfl rfl) ?_
    refine reg_cons (guard_no rfl) (op_load_vp (p := .int .i64 y12) rfl rfl rfl Try_one_3 rfl rfl) ?_
    refine ras ?_
    refine reg_nil ?_
    refine post_imp (s' := ⟨43, [(5, some (.pv (.int .i64 y12)))], [], 0, [], [], 0, []⟩) (imps [] ⟨by kernel_rfl, trivial⟩ trivial) ?_
    refine post_next ?_
    refine aw_ret ?_
    refine post_block_ret ?_
    refine post_then_ret ?_
    obtain rfl := Option.some.inj hF
    exact post_ret rfl rfl (.cons _ _ _ _ _ (.tmp _ _ rfl) (.p _) .nil) (.inl rfl)
  refine aw_cond_f rfl hb11 ?_
  refine aw_skip ?_
  refine post_block_normal ?_
  refine post_next ?_
  refine aw_seq ?_
  refine aw_region ?_
  refine ras ?_
  refine reg_nil ?_
  refine post_imp (s' := ⟨43, [(5, some (.pv (.int .i64 0)))], [], 0, [], [], 0, []⟩) (imps [] ⟨by kernel_rfl, trivial⟩ trivial) ?_
  refine post_next ?_
  refine aw_ret ?_
  obtain rfl := Option.some.inj hF
  exact post_ret rfl rfl (.cons _ _ _ _ _ (.tmp _ _ rfl) (.p _) .nil) (.inl rfl)
theorem frame_Owner_ok {a0 : List GClass} {a1 : List GCell} {a2 : GFrame} {a3 : GOwner} {r : Int} (hF : frame_Owner a0 a1 a2 a3 = some r) : Abs.Fn Try.prog 14 [.vs 7 (List.map eGClass a0), .vs 7 (List.map eGCell a1), .agg (eGFrame a2), .agg (eGOwner a3)] [.p (.int .i64 r)] := by
  unfold frame_Owner at hF
  refine fn_of_body (n := 15) Try.func14 rfl rfl rfl ?_
  intro w O
  refine aw_seq ?_
  refine aw_region ?_
  refine reg_cons (guard_no rfl) (op_box 0 rfl rfl rfl rfl rfl rfl) ?_
  refine reg_cons (guard_no rfl) (op_box 1 rfl rfl rfl rfl rfl rfl) ?_
  refine ras ?_
  refine reg_nil ?_
  refine post_imp (s' := ⟨15, [(0, some (.pv (.vs 7 (List.map eGClass a0)))), (1, some (.pv (.vs 7 (List.map eGCell a1)))), (6, some (.lp 0 0)), (7, some (.lp 1 0))], [(0, some (.box 26 (bxv (eGFrame a2)))), (1, some (.box 51 (bxv (eGOwner a3))))], 2, [], [], 0, []⟩) (imps [0, 1] ⟨by kernel_rfl, by kernel_rfl, by kernel_rfl, by kernel_rfl, trivial⟩ ⟨by kernel_rfl, by kernel_rfl, trivial⟩) ?_
  refine post_next ?_
  refine aw_seq ?_
  refine dr_start ⟨_, _, _⟩ rfl ?_
  iterate 2 (refine drm ?_)
  refine dr_cons { need := [(6, .lp 0 0)], hneed := [(0, .box 26 (bxv (eGFrame a2)))], dst := some 11, val := some (.pv (.agg (eGFrame a2))) } (fun m h => step_on (guard_no rfl) (op_load_lp_agg (ps := eGFrame a2) rfl h.1.1 h.2.1.1 rfl rfl rfl Try_agg_26 rfl rfl) rfl) ⟨⟨rfl, trivial⟩, ⟨rfl, trivial⟩, trivial⟩ ?_
  obtain ⟨y1, h2, hF⟩ := bind_some hF
  refine dr_cons { need := [(11, .pv (.agg (eGFrame a2))), (10, .pv (.vs 7 (List.map eGCell a1))), (9, .pv (.vs 7 (List.map eGClass a0)))], dst := some 12, val := some (.pv (.fn 29 [.vp (eB y1.1), .vp (eGFrame y1.2.1), .vp ((eL 1 eI) y1.2.2)])) } (fun m h => step_on (guard_no rfl) (op_call 2 rfl (caps := []) (args := [.vs 7 (List.map eGClass a0), .vs 7 (List.map eGCell a1), .agg (eGFrame a2)]) (rs := [.p (.fn 29 [.vp (eB y1.1), .vp (eGFrame y1.2.1), .vp ((eL 1 eI) y1.2.2)])]) rfl rfl (evl_cons h.1.2.2.1 (evl_cons h.1.2.1 (evl_cons h.1.1 evl_nil))) Try_cal_19 (frame_teller_ok h2) rfl rfl rfl) rfl) ⟨⟨rfl, rfl, rfl, trivial⟩, trivial, trivial⟩ ?_
  refine dr_cons { need := [(7, .lp 1 0)], hneed := [(1, .box 51 (bxv (eGOwner a3)))], dst := some 13, val := some (.pv (.agg (eGOwner a3))) } (fun m h => step_on (guard_no rfl) (op_load_lp_agg (ps := eGOwner a3) rfl h.1.1 h.2.1.1 rfl rfl rfl Try_agg_51 rfl rfl) rfl) ⟨⟨rfl, trivial⟩, ⟨rfl, trivial⟩, trivial⟩ ?_
  obtain ⟨y3, h4, hF⟩ := bind_some hF
  refine dr_cons { need := [(12, .pv (.fn 29 [.vp (eB y1.1), .vp (eGFrame y1.2.1), .vp ((eL 1 eI) y1.2.2)])), (13, .pv (.agg (eGOwner a3)))], dst := some 14, val := some (.pv (.int .i64 y3)) } (fun m h => step_on (guard_no rfl) (op_call 2 rfl (caps := [.vp (eB y1.1), .vp (eGFrame y1.2.1), .vp ((eL 1 eI) y1.2.2)]) (args := [.agg (eGOwner a3)]) (rs := [.p (.int .i64 y3)]) rfl h.1.1 (evl_cons h.1.2.1 evl_nil) Try_cal_29 (frame_teller_1_ok h4) rfl rfl rfl) rfl) ⟨⟨rfl, rfl, trivial⟩, trivial, trivial⟩ ?_
  refine dr_cons { need := [(14, .pv (.int .i64 y3))], dst := some 8, val := some (.pv (.int .i64 y3)) } (fun m h => step_on (guard_no rfl) (op_assign rfl h.1.1 rfl rfl) rfl) ⟨⟨rfl, trivial⟩, trivial, trivial⟩ ?_
  refine dr_nil Try_mixed rfl (by kernel_rfl) ?_
  refine post_imp (s' := ⟨15, [(8, some (.pv (.int .i64 y3)))], [], 0, [], [], 0, []⟩) (imps [] ⟨by kernel_rfl, trivial⟩ trivial) ?_
  refine post_next ?_
  refine aw_ret ?_
  obtain rfl := Option.some.inj hF
  exact post_ret rfl rfl (.cons _ _ _ _ _ (.tmp _ _ rfl) (.p _) .nil) (.inl rfl)
theorem law38_awake_ok  {r : Bool} (hF : law38_awake = some r) : Abs.Fn Try.prog 5 [] [.p (.bool r)] := by
  unfold law38_awake at hF
  refine fn_of_body (n := 14) Try.func5 rfl rfl rfl ?_
  intro w O
  refine aw_seq ?_
  refine aw_region ?_
  refine ras ?_
  refine reg_nil ?_
  refine post_imp (s' := ⟨14, [], [], 0, [], [], 0, []⟩) (imps [] trivial trivial) ?_
  refine post_next ?_
  refine aw_seq ?_
  refine aw_region ?_
  refine reg_cons (guard_no rfl) (op_build (zs := (eGClass zGClass)) (r := eGClass ({ fName := [65], fParams := [], fSuper := [], fAbove := [], fFields := [], fMethods := [], fAt := 0 } : GClass)) rfl Try_zer_49 (by exact ⟨rfl, trivial, rfl, trivial, trivial, trivial, rfl, trivial⟩) Try_plc_49 rfl rfl rfl rfl) ?_
  refine reg_cons (guard_no rfl) (op_lit (rows := List.map eGClass ([({ fName := [65], fParams := [], fSuper := [], fAbove := [], fFields := [], fMethods := [], fAt := 0 } : GClass)] : List GClass)) (zs := (eGClass zGClass)) rfl rfl Try_slc_22 Try_zer_49 (by exact ⟨rfl, trivial, rfl, trivial, trivial, trivial, rfl, trivial⟩) rfl rfl rfl rfl rfl rfl rfl rfl) ?_
  refine ras ?_
  refine reg_nil ?_
  refine post_imp (s' := ⟨14, [(1, some (.pv (.vs 7 (List.map eGClass [({ fName := [65], fParams := [], fSuper := [], fAbove := [], fFields := [], fMethods := [], fAt := 0 } : GClass)]))))], [], 0, [], [], 0, []⟩) (imps [] ⟨by kernel_rfl, trivial⟩ trivial) ?_
  refine post_next ?_
  refine aw_seq ?_
  refine aw_region ?_
  refine reg_cons (guard_no rfl) (op_buildArr (zs := ((eA4 eI) (⟨0, 0, 0, 0⟩ : A4 Int))) (r := (eA4 eI) (⟨3, 0, 0, 0⟩ : A4 Int)) rfl Try_zer_41 (by exact ⟨rfl, rfl, rfl, rfl, trivial⟩) Try_arr_41 rfl rfl rfl rfl) ?_
  refine reg_cons (guard_no rfl) (op_build (zs := (eGCell zGCell)) (r := eGCell ({ fClass := [65], fOwn := (⟨3, 0, 0, 0⟩ : A4 Int), fFields := [], fDead := false } : GCell)) rfl Try_zer_43 (by exact ⟨rfl, rfl, rfl, rfl, rfl, trivial, rfl, trivial⟩) Try_plc_43 rfl rfl rfl rfl) ?_
  refine reg_cons (guard_no rfl) (op_lit (rows := List.map eGCell ([({ fClass := [65], fOwn := (⟨3, 0, 0, 0⟩ : A4 Int), fFields := [], fDead := false } : GCell)] : List GCell)) (zs := (eGCell zGCell)) rfl rfl Try_slc_23 Try_zer_43 (by exact ⟨rfl, rfl, rfl, rfl, rfl, trivial, rfl, trivial⟩) rfl rfl rfl rfl rfl rfl rfl rfl) ?_
  refine ras ?_
  refine reg_nil ?_
  refine post_imp (s' := ⟨14, [(1, some (.pv (.vs 7 (List.map eGClass [({ fName := [65], fParams := [], fSuper := [], fAbove := [], fFields := [], fMethods := [], fAt := 0 } : GClass)])))), (2, some (.pv (.vs 7 (List.map eGCell [({ fClass := [65], fOwn := (⟨3, 0, 0, 0⟩ : A4 Int), fFields := [], fDead := false } : GCell)]))))], [], 0, [], [], 0, []⟩) (imps [] ⟨by kernel_rfl, by kernel_rfl, trivial⟩ trivial) ?_
  refine post_next ?_
  refine aw_seq ?_
  refine aw_region ?_
  iterate 2 (refine rmv ?_)
  refine reg_cons (guard_no rfl) (op_build (zs := (eGFrame zGFrame)) (r := eGFrame ({ fThis := 1, fClass := [65], fMethod := [], fVars := [], fPC := 0, fInto := 0 } : GFrame)) rfl Try_zer_26 (by exact ⟨rfl, rfl, rfl, trivial, rfl, rfl, trivial⟩) Try_plc_26 rfl rfl rfl rfl) ?_
  refine reg_cons (guard_no rfl) (op_build (zs := (eGOwner zGOwner)) (r := eGOwner ({ fKind := 2, fN := 0 } : GOwner)) rfl Try_zer_51 (by exact ⟨rfl, rfl, trivial⟩) Try_plc_51 rfl rfl rfl rfl) ?_
  obtain ⟨y1, h2, hF⟩ := bind_some hF
  refine reg_cons (guard_no rfl) (op_call 0 rfl (caps := []) (args := [.vs 7 (List.map eGClass [({ fName := [65], fParams := [], fSuper := [], fAbove := [], fFields := [], fMethods := [], fAt := 0 } : GClass)]), .vs 7 (List.map eGCell [({ fClass := [65], fOwn := (⟨3, 0, 0, 0⟩ : A4 Int), fFields := [], fDead := false } : GCell)]), .agg (eGFrame ({ fThis := 1, fClass := [65], fMethod := [], fVars := [], fPC := 0, fInto := 0 } : GFrame)), .agg (eGOwner ({ fKind := 2, fN := 0 } : GOwner))]) (rs := [.p (.int .i64 y1)]) rfl rfl rfl Try_cal_14 (frame_Owner_ok h2) rfl rfl rfl) ?_
  refine reg_cons (guard_no rfl) (op_int (k := .i64) (m := y1) (n := 3) rfl rfl rfl rfl rfl rfl) ?_
  refine ras ?_
  refine reg_nil ?_
  refine post_imp (s' := ⟨14, [(0, some (.pv (.bool (y1 == 3))))], [], 0, [], [], 0, []⟩) (imps [] ⟨by kernel_rfl, trivial⟩ trivial) ?_
  refine post_next ?_
  refine aw_ret ?_
  obtain rfl := Option.some.inj hF
  exact post_ret rfl rfl (.cons _ _ _ _ _ (.tmp _ _ rfl) (.p _) .nil) (.inl rfl)
theorem slices_IndexFunc_api_Method_ok {a0 : List GMethod} {q1 : GMethod → Option Bool} {r : Int} {q1_f : Nat} {q1_c : List PV} (q1_b : callB Try.prog q1_f = true) (q1_h : ∀ (x0 : GMethod) (r : Bool), q1 x0 = some r → Abs.Fn Try.prog q1_f ([.agg (eGMethod x0)] ++ q1_c) [.p (.bool r)]) (hF : slices_IndexFunc_api_Method a0 q1 = some r) : Abs.Fn Try.prog 27 [.vs 17 (List.map eGMethod a0), .fn q1_f q1_c] [.p (.int .i64 r)] := by
  unfold slices_IndexFunc_api_Method at hF
  refine fn_of_body (n := 19) Try.func27 rfl rfl rfl ?_
  intro w O
  refine aw_seq ?_
  refine aw_region ?_
  refine ras ?_
  refine reg_nil ?_
  refine post_imp (s' := ⟨19, [(0, some (.pv (.vs 17 (List.map eGMethod a0)))), (1, some (.pv (.fn q1_f q1_c)))], [], 0, [], [], 0, []⟩) (imps [] ⟨by kernel_rfl, by kernel_rfl, trivial⟩ trivial) ?_
  refine post_next ?_
  iterate 2 (refine aw_seq ?_)
  refine aw_region ?_
  refine rmv ?_
  refine reg_cons (guard_no rfl) (op_len_vs (n := a0.length) rfl rfl (List.length_map ..) Try_slc_47 rfl rfl) ?_
  refine rmv ?_
  refine reg_nil ?_
  refine post_imp (s' := ⟨19, [(0, some (.pv (.vs 17 (List.map eGMethod a0)))), (1, some (.pv (.fn q1_f q1_c))), (7, some (.pv (.int .i64 (a0.length : Int)))), (8, some (.pv (.int .i64 0)))], [], 0, [], [], 0, []⟩) (imps [] ⟨by kernel_rfl, by kernel_rfl, by kernel_rfl, by kernel_rfl, trivial⟩ trivial) ?_
  refine post_next ?_
  obtain ⟨lr34, hF, hK35⟩ := bind_some hF
  refine aw_for ((((a0.length : Int) : Int) - (0)).toNat + 1) (fun s1 => ∃ q, lr34 = .next q ∧ s1 = ⟨19, [], [], 0, [], [], 0, []⟩) ?_ ?_
  · refine rnd_loop (α := Int) (fun q => ⟨19, [(0, some (.pv (.vs 17 (List.map eGMethod a0)))), (1, some (.pv (.fn q1_f q1_c))), (7, some (.pv (.int .i64 (a0.length : Int)))), (8, some (.pv (.int .i64 q)))], [], 0, [], [], 0, []⟩) (fun k q => slices_IndexFunc_api_Method_L1 a0 q1 k q = some lr34) 0 (imps [] ⟨by kernel_rfl, by kernel_rfl, by kernel_rfl, by kernel_rfl, trivial⟩ trivial) hF (fun q h => by cases h) ?_
    clear hF
    rintro k x11 hF ih
    refine rnd_succ ?_
    refine aw_seq ?_
    refine aw_region ?_
    refine reg_cons (guard_no rfl) (op_int (k := .i64) (m := x11) (n := (a0.length : Int)) rfl rfl rfl rfl rfl rfl) ?_
    refine reg_nil ?_
    refine post_imp (s' := ⟨19, [(0, some (.pv (.vs 17 (List.map eGMethod a0)))), (1, some (.pv (.fn q1_f q1_c))), (7, some (.pv (.int .i64 (a0.length : Int)))), (8, some (.pv (.int .i64 x11))), (9, some (.pv (.bool (decide (x11 < (a0.length : Int))))))], [], 0, [], [], 0, []⟩) (imps [] ⟨by kernel_rfl, by kernel_rfl, by kernel_rfl, by kernel_rfl, by kernel_rfl, trivial⟩ trivial) ?_
    refine post_next ?_
    refine aw_seq ?_
    rcases ite_some hF with ⟨hb23, hF⟩ | ⟨hb23, hF⟩
    · refine aw_cond_t rfl hb23 ?_
      refine aw_skip ?_
      refine post_next ?_
      refine aw_seq ?_
      refine aw_block ?_
      refine aw_seq ?_
      refine aw_region ?_
      refine rmv ?_
      refine ras ?_
      refine reg_nil ?_
      refine post_imp (s' := ⟨19, [(0, some (.pv (.vs 17 (List.map eGMethod a0)))), (1, some (.pv (.fn q1_f q1_c))), (5, some (.pv (.int .i64 x11))), (7, some (.pv (.int .i64 (a0.length : Int)))), (8, some (.pv (.int .i64 x11)))], [], 0, [], [], 0, []⟩) (imps [] ⟨by kernel_rfl, by kernel_rfl, by kernel_rfl, by kernel_rfl, by kernel_rfl, trivial⟩ trivial) ?_
      refine post_next ?_
      refine aw_seq ?_
      refine aw_region ?_
      iterate 3 (refine rmv ?_)
      obtain ⟨y28, h29, hF⟩ := bind_some hF
      refine reg_cons (guard_no rfl) (op_index_vs (k := .i64) rfl rfl rfl (idx_map eGMethod h29) Try_slc_47 rfl rfl) ?_
      refine reg_cons (guard_no rfl) (op_load_vp_agg (ps := eGMethod y28) rfl rfl rfl rfl Try_agg_66 rfl rfl) ?_
      obtain ⟨y30, h31, hF⟩ := bind_some hF
      refine reg_cons (guard_no rfl) (op_call 0 rfl (caps := q1_c) (args := [.agg (eGMethod y28)]) (rs := [.p (.bool y30)]) rfl rfl rfl q1_b (q1_h y28 _ h31) rfl rfl rfl) ?_
      refine reg_nil ?_
      refine post_imp (s' := ⟨19, [(0, some (.pv (.vs 17 (List.map eGMethod a0)))), (1, some (.pv (.fn q1_f q1_c))), (5, some (.pv (.int .i64 x11))), (7, some (.pv (.int .i64 (a0.length : Int)))), (8, some (.pv (.int .i64 x11))), (16, some (.pv (.bool y30)))], [], 0, [], [], 0, []⟩) (imps [] ⟨by kernel_rfl, by kernel_rfl, by kernel_rfl, by kernel_rfl, by kernel_rfl, by kernel_rfl, trivial⟩ trivial) ?_
      refine post_next ?_
      rcases ite_some hF with ⟨hb32, hF⟩ | ⟨hb32, hF⟩
      · refine aw_cond_t rfl hb32 ?_
        refine aw_seq ?_
        refine aw_region ?_
        refine rmv ?_
        refine ras ?_
        refine reg_nil ?_
        refine post_imp (s' := ⟨19, [(4, some (.pv (.int .i64 x11)))], [], 0, [], [], 0, []⟩) (imps [] ⟨by kernel_rfl, trivial⟩ trivial) ?_
        refine post_next ?_
        refine aw_ret ?_
        refine post_block_ret ?_
        iterate 2 (refine post_then_ret ?_)
        refine post_lp_ret ?_
        obtain rfl := Option.some.inj hF
        have hF := elim_stop hK35
        refine post_then_ret ?_
        obtain rfl := Option.some.inj hF
        exact post_ret rfl rfl (.cons _ _ _ _ _ (.tmp _ _ rfl) (.p _) .nil) (.inl rfl)
      refine aw_cond_f rfl hb32 ?_
      refine aw_skip ?_
      refine post_block_normal ?_
      refine post_next ?_
      refine aw_region ?_
      refine reg_cons (guard_no rfl) (op_int (k := .i64) (m := x11) (n := 1) rfl rfl rfl rfl rfl rfl) ?_
      refine rmv ?_
      refine reg_nil ?_
      refine post_round ?_
      exact rnd_back (ih (w_i64 (x11 + 1)) hF) (imps [] ⟨by kernel_rfl, by kernel_rfl, by kernel_rfl, by kernel_rfl, trivial⟩ trivial)
    refine aw_cond_f rfl hb23 ?_
    refine aw_exit ?_
    iterate 2 (refine post_then_exit ?_)
    obtain rfl := Option.some.inj hF
    exact post_lp_break _ ⟨_, rfl, rfl⟩ (imps [] trivial trivial)
  rintro _ ⟨⟨⟩, rfl, rfl⟩
  have hF := elim_next hK35
  clear hK35
  refine post_next ?_
  refine aw_seq ?_
  refine aw_region ?_
  refine ras ?_
  refine reg_nil ?_
  refine post_imp (s' := ⟨19, [(4, some (.pv (.int .i64 (-1))))], [], 0, [], [], 0, []⟩) (imps [] ⟨by kernel_rfl, trivial⟩ trivial) ?_
  refine post_next ?_
  refine aw_ret ?_
  obtain rfl := Option.some.inj hF
  exact post_ret rfl rfl (.cons _ _ _ _ _ (.tmp _ _ rfl) (.p _) .nil) (.inl rfl)
theorem frame_Method_1_ok {a0 : GMethod} {c0 : GFrame} {r : Bool} (hF : frame_Method_1 a0 c0 = some r) : Abs.Fn Try.prog 28 [.agg (eGMethod a0), .vp (eGFrame c0)] [.p (.bool r)] := by
  unfold frame_Method_1 at hF
  refine fn_of_body (n := 9) Try.func28 rfl rfl rfl ?_
  intro w O
  refine aw_seq ?_
  refine aw_region ?_
  refine reg_cons (guard_no rfl) (op_box 0 rfl rfl rfl rfl rfl rfl) ?_
  refine ras ?_
  refine reg_nil ?_
  refine post_imp (s' := ⟨9, [(1, some (.pv (.vp (eGFrame c0)))), (2, some (.lp 0 0))], [(0, some (.box 66 (bxv (eGMethod a0))))], 1, [], [], 0, []⟩) (imps [0] ⟨by kernel_rfl, by kernel_rfl, trivial⟩ ⟨by kernel_rfl, trivial⟩) ?_
  refine post_next ?_
  refine aw_seq ?_
  refine aw_region ?_
  refine reg_cons (guard_no rfl) (op_field_lp rfl rfl Try_fld_66_0 rfl rfl) ?_
  refine reg_cons (guard_no rfl) (op_load_lp (v := .pv (.str a0.fName)) rfl rfl rfl rfl Try_one_9 rfl rfl) ?_
  refine reg_cons (guard_no rfl) (op_field_vp rfl rfl Try_fld_26_2 rfl rfl) ?_
  refine reg_cons (guard_no rfl) (op_load_vp (p := .str c0.fMethod) rfl rfl rfl Try_one_9 rfl rfl) ?_
  refine reg_cons (guard_no rfl) (op_str rfl rfl rfl rfl rfl rfl) ?_
  refine ras ?_
  refine reg_nil ?_
  refine post_imp (s' := ⟨9, [(3, some (.pv (.bool (a0.fName == c0.fMethod))))], [], 0, [], [], 0, []⟩) (imps [] ⟨by kernel_rfl, trivial⟩ trivial) ?_
  refine post_next ?_
  refine aw_ret ?_
  obtain rfl := Option.some.inj hF
  exact post_ret rfl rfl (.cons _ _ _ _ _ (.tmp _ _ rfl) (.p _) .nil) (.inl rfl)
theorem frame_Method_ok {a0 : List GClass} {a1 : GFrame} {r : GClass × GMethod × Bool} (hF : frame_Method a0 a1 = some r) : Abs.Fn Try.prog 17 [.vs 7 (List.map eGClass a0), .agg (eGFrame a1)] [.p (.agg (eGClass r.1)), .p (.agg (eGMethod r.2.1)), .p (.bool r.2.2)] := by
  unfold frame_Method at hF
  refine fn_of_body (n := 40) Try.func17 rfl rfl rfl ?_
  intro w O
  refine aw_seq ?_
  refine aw_region ?_
  refine reg_cons (guard_no rfl) (op_box 0 rfl rfl rfl rfl rfl rfl) ?_
  refine reg_cons (guard_no rfl) (op_alloc 1 rfl (ps := (eGClass zGClass)) rfl Try_zer_49 (by exact ⟨rfl, trivial, rfl, trivial, trivial, trivial, rfl, trivial⟩) rfl rfl) ?_
  refine reg_cons (guard_no rfl) (op_alloc 2 rfl (ps := (eGMethod zGMethod)) rfl Try_zer_66 (by exact ⟨rfl, rfl, rfl, rfl, rfl, rfl, rfl, rfl, rfl, rfl, rfl, rfl, rfl, trivial, trivial, trivial, rfl, trivial⟩) rfl rfl) ?_
  refine ras ?_
  refine reg_nil ?_
  refine post_imp (s' := ⟨40, [(0, some (.pv (.vs 7 (List.map eGClass a0)))), (3, some (.lp 0 0)), (4, some (.lp 1 0)), (5, some (.lp 2 0))], [(0, some (.box 26 (bxv (eGFrame a1)))), (1, some (.box 49 (bxv (eGClass zGClass)))), (2, some (.box 66 (bxv (eGMethod zGMethod))))], 3, [], [], 0, []⟩) (imps [0, 1, 2] ⟨by kernel_rfl, by kernel_rfl, by kernel_rfl, by kernel_rfl, trivial⟩ ⟨by kernel_rfl, by kernel_rfl, by kernel_rfl, trivial⟩) ?_
  refine post_next ?_
  refine aw_seq ?_
  refine aw_region ?_
  refine rmv ?_
  refine reg_cons (guard_no rfl) (op_field_lp rfl rfl Try_fld_26_1 rfl rfl) ?_
  refine reg_cons (guard_no rfl) (op_load_lp (v := .pv (.str a1.fClass)) rfl rfl rfl rfl Try_one_9 rfl rfl) ?_
  obtain ⟨y3, h4, hF⟩ := bind_some hF
  refine reg_cons (guard_no rfl) (op_call 3 rfl (caps := []) (args := [.vs 7 (List.map eGClass a0), .str a1.fClass]) (rs := [.p (.int .i64 y3)]) rfl rfl rfl Try_cal_26 (table_Find_ok h4) rfl rfl rfl) ?_
  refine ras ?_
  refine reg_nil ?_
  refine post_imp (s' := ⟨40, [(0, some (.pv (.vs 7 (List.map eGClass a0)))), (3, some (.lp 0 0)), (4, some (.lp 1 0)), (5, some (.lp 2 0)), (7, some (.pv (.int .i64 y3)))], [(0, some (.box 26 (bxv (eGFrame a1)))), (1, some (.box 49 (bxv (eGClass zGClass)))), (2, some (.box 66 (bxv (eGMethod zGMethod))))], 3, [], [], 0, []⟩) (imps [0, 1, 2] ⟨by kernel_rfl, by kernel_rfl, by kernel_rfl, by kernel_rfl, by kernel_rfl, trivial⟩ ⟨by kernel_rfl, by kernel_rfl, by kernel_rfl, trivial⟩) ?_
  refine post_next ?_
  iterate 2 (refine aw_seq ?_)
  refine aw_region ?_
  refine rmv ?_
  refine reg_cons (guard_no rfl) (op_int (k := .i64) (m := y3) (n := 0) rfl rfl rfl rfl rfl rfl) ?_
  refine reg_nil ?_
  refine post_imp (s' := ⟨40, [(0, some (.pv (.vs 7 (List.map eGClass a0)))), (3, some (.lp 0 0)), (4, some (.lp 1 0)), (5, some (.lp 2 0)), (7, some (.pv (.int .i64 y3))), (14, some (.pv (.bool (decide (y3 < 0)))))], [(0, some (.box 26 (bxv (eGFrame a1)))), (1, some (.box 49 (bxv (eGClass zGClass)))), (2, some (.box 66 (bxv (eGMethod zGMethod))))], 3, [], [], 0, []⟩) (imps [0, 1, 2] ⟨by kernel_rfl, by kernel_rfl, by kernel_rfl, by kernel_rfl, by kernel_rfl, by kernel_rfl, trivial⟩ ⟨by kernel_rfl, by kernel_rfl, by kernel_rfl, trivial⟩) ?_
  refine post_next ?_
  rcases ite_some hF with ⟨hb5, hF⟩ | ⟨hb5, hF⟩
  · refine aw_cond_t rfl hb5 ?_
    refine aw_seq ?_
    refine aw_region ?_
    refine reg_cons (guard_no rfl) (op_build (zs := (eGClass zGClass)) (r := eGClass ({ fName := [], fParams := [], fSuper := [], fAbove := [], fFields := [], fMethods := [], fAt := 0 } : GClass)) rfl Try_zer_49 (by exact ⟨rfl, trivial, rfl, trivial, trivial, trivial, rfl, trivial⟩) Try_plc_49 rfl rfl rfl rfl) ?_
    refine reg_cons (guard_no rfl) (op_build (zs := (eGMethod zGMethod)) (r := eGMethod ({ fName := [], fPure := false, fRet := zGType, fParams := [], fLocals := [], fBody := [], fAt := 0 } : GMethod)) rfl Try_zer_66 (by exact ⟨rfl, rfl, rfl, rfl, rfl, rfl, rfl, rfl, rfl, rfl, rfl, rfl, rfl, trivial, trivial, trivial, rfl, trivial⟩) Try_plc_66 rfl rfl rfl rfl) ?_
    refine reg_cons (guard_no rfl) (op_store_lp (n := 7) rfl rfl rfl rfl rfl (or_agg Try_agg_49) (by rw [Try_non_49]; rfl) rfl rfl rfl) ?_
    refine reg_cons (guard_no rfl) (op_store_lp (n := 17) rfl rfl rfl rfl rfl (or_agg Try_agg_66) (by rw [Try_non_66]; rfl) rfl rfl rfl) ?_
    refine ras ?_
    refine reg_nil ?_
    refine post_imp (s' := ⟨40, [(4, some (.lp 0 0)), (5, some (.lp 1 0)), (6, some (.pv (.bool false)))], [(0, some (.box 49 (bxv (eGClass ({ fName := [], fParams := [], fSuper := [], fAbove := [], fFields := [], fMethods := [], fAt := 0 } : GClass))))), (1, some (.box 66 (bxv (eGMethod ({ fName := [], fPure := false, fRet := zGType, fParams := [], fLocals := [], fBody := [], fAt := 0 } : GMethod)))))], 2, [], [], 0, []⟩) (imps [1, 2] ⟨by kernel_rfl, by kernel_rfl, by kernel_rfl, trivial⟩ ⟨by kernel_rfl, by kernel_rfl, trivial⟩) ?_
    refine post_next ?_
    refine aw_ret ?_
    refine post_then_ret ?_
    obtain rfl := Option.some.inj hF
    exact post_ret rfl rfl (.cons _ _ _ _ _ (.agg _ _ _ _ _ 7 _ _ rfl rfl Try_agg_49 rfl rfl rfl) (.p _) (.cons _ _ _ _ _ (.agg _ _ _ _ _ 17 _ _ rfl rfl Try_agg_66 rfl rfl rfl) (.p _) (.cons _ _ _ _ _ (.tmp _ _ rfl) (.p _) .nil))) (.inl rfl)
  refine aw_cond_f rfl hb5 ?_
  refine aw_skip ?_
  refine post_next ?_
  refine aw_seq ?_
  refine aw_region ?_
  iterate 2 (refine rmv ?_)
  obtain ⟨y11, h12, hF⟩ := bind_some hF
  refine reg_cons (guard_no rfl) (op_index_vs (k := .i64) rfl rfl rfl (idx_map eGClass h12) Try_slc_22 rfl rfl) ?_
  refine reg_cons (guard_no rfl) (op_field_vp rfl rfl Try_fld_49_5 rfl rfl) ?_
  refine reg_cons (guard_no rfl) (op_load_vp (p := .vs 17 (List.map eGMethod y11.fMethods)) rfl rfl rfl Try_one_47 rfl rfl) ?_
  refine reg_cons (guard_no rfl) (op_makeFunc rfl rfl rfl rfl) ?_
  obtain ⟨y14, h15, hF⟩ := bind_some hF
  refine reg_cons (guard_no rfl) (op_callB 3 rfl (caps := []) (args := [.vs 17 (List.map eGMethod y11.fMethods), .fn 28 [.vp (eGFrame a1)]]) [(0, some (.box 26 (bxv (eGFrame a1))))] rfl rfl rfl (FzH.spec ⟨rfl, trivial⟩) rfl rfl Try_cal_27 (slices_IndexFunc_api_Method_ok (q1_f := 28) (q1_c := [.vp (eGFrame a1)]) (q1_b := Try_cal_28) (q1_h := fun _ r h => (frame_Method_1_ok h)) h15) rfl rfl rfl) ?_
  refine ras ?_
  refine reg_nil ?_
  refine post_imp (s' := ⟨40, [(0, some (.pv (.vs 7 (List.map eGClass a0)))), (4, some (.lp 0 0)), (5, some (.lp 1 0)), (7, some (.pv (.int .i64 y3))), (8, some (.pv (.int .i64 y14)))], [(0, some (.box 49 (bxv (eGClass zGClass)))), (1, some (.box 66 (bxv (eGMethod zGMethod))))], 2, [], [], 0, []⟩) (imps [1, 2] ⟨by kernel_rfl, by kernel_rfl, by kernel_rfl, by kernel_rfl, by kernel_rfl, trivial⟩ ⟨by kernel_rfl, by kernel_rfl, trivial⟩) ?_
  refine post_next ?_
  iterate 2 (refine aw_seq ?_)
  refine aw_region ?_
  refine rmv ?_
  refine reg_cons (guard_no rfl) (op_int (k := .i64) (m := y14) (n := 0) rfl rfl rfl rfl rfl rfl) ?_
  refine reg_nil ?_
  refine post_imp (s' := ⟨40, [(0, some (.pv (.vs 7 (List.map eGClass a0)))), (4, some (.lp 0 0)), (5, some (.lp 1 0)), (7, some (.pv (.int .i64 y3))), (8, some (.pv (.int .i64 y14))), (25, some (.pv (.bool (decide (y14 < 0)))))], [(0, some (.box 49 (bxv (eGClass zGClass)))), (1, some (.box 66 (bxv (eGMethod zGMethod))))], 2, [], [], 0, []⟩) (imps [0, 1] ⟨by kernel_rfl, by kernel_rfl, by kernel_rfl, by kernel_rfl, by kernel_rfl, by kernel_rfl, trivial⟩ ⟨by kernel_rfl, by kernel_rfl, trivial⟩) ?_
  refine post_next ?_
  rcases ite_some hF with ⟨hb16, hF⟩ | ⟨hb16, hF⟩
  · refine aw_cond_t rfl hb16 ?_
    refine aw_seq ?_
    refine aw_region ?_
    refine reg_cons (guard_no rfl) (op_build (zs := (eGClass zGClass)) (r := eGClass ({ fName := [], fParams := [], fSuper := [], fAbove := [], fFields := [], fMethods := [], fAt := 0 } : GClass)) rfl Try_zer_49 (by exact ⟨rfl, trivial, rfl, trivial, trivial, trivial, rfl, trivial⟩) Try_plc_49 rfl rfl rfl rfl) ?_
    refine reg_cons (guard_no rfl) (op_build (zs := (eGMethod zGMethod)) (r := eGMethod ({ fName := [], fPure := false, fRet := zGType, fParams := [], fLocals := [], fBody := [], fAt := 0 } : GMethod)) rfl Try_zer_66 (by exact ⟨rfl, rfl, rfl, rfl, rfl, rfl, rfl, rfl, rfl, rfl, rfl, rfl, rfl, trivial, trivial, trivial, rfl, trivial⟩) Try_plc_66 rfl rfl rfl rfl) ?_
    refine reg_cons (guard_no rfl) (op_store_lp (n := 7) rfl rfl rfl rfl rfl (or_agg Try_agg_49) (by rw [Try_non_49]; rfl) rfl rfl rfl) ?_
    refine reg_cons (guard_no rfl) (op_store_lp (n := 17) rfl rfl rfl rfl rfl (or_agg Try_agg_66) (by rw [Try_non_66]; rfl) rfl rfl rfl) ?_
    refine ras ?_
    refine reg_nil ?_
    refine post_imp (s' := ⟨40, [(4, some (.lp 0 0)), (5, some (.lp 1 0)), (6, some (.pv (.bool false)))], [(0, some (.box 49 (bxv (eGClass ({ fName := [], fParams := [], fSuper := [], fAbove := [], fFields := [], fMethods := [], fAt := 0 } : GClass))))), (1, some (.box 66 (bxv (eGMethod ({ fName := [], fPure := false, fRet := zGType, fParams := [], fLocals := [], fBody := [], fAt := 0 } : GMethod)))))], 2, [], [], 0, []⟩) (imps [0, 1] ⟨by kernel_rfl, by kernel_rfl, by kernel_rfl, trivial⟩ ⟨by kernel_rfl, by kernel_rfl, trivial⟩) ?_
    refine post_next ?_
    refine aw_ret ?_
    refine post_then_ret ?_
    obtain rfl := Option.some.inj hF
    exact post_ret rfl rfl (.cons _ _ _ _ _ (.agg _ _ _ _ _ 7 _ _ rfl rfl Try_agg_49 rfl rfl rfl) (.p _) (.cons _ _ _ _ _ (.agg _ _ _ _ _ 17 _ _ rfl rfl Try_agg_66 rfl rfl rfl) (.p _) (.cons _ _ _ _ _ (.tmp _ _ rfl) (.p _) .nil))) (.inl rfl)
  refine aw_cond_f rfl hb16 ?_
  refine aw_skip ?_
  refine post_next ?_
  refine aw_seq ?_
  refine dr_start ⟨_, _, _⟩ rfl ?_
  iterate 2 (refine drm ?_)
  obtain ⟨y17, h18, hF⟩ := bind_some hF
  refine dr_cons { need := [(28, .pv (.vs 7 (List.map eGClass a0))), (29, .pv (.int .i64 y3))], dst := some 30, val := some (.pv (.vp (eGClass y17))) } (fun m h => step_on (guard_no rfl) (op_index_vs (k := .i64) rfl h.1.1 h.1.2.1 (idx_map eGClass h18) Try_slc_22 rfl rfl) rfl) ⟨⟨rfl, rfl, trivial⟩, trivial, trivial⟩ ?_
  refine dr_cons { need := [(30, .pv (.vp (eGClass y17)))], dst := some 31, val := some (.pv (.agg (eGClass y17))) } (fun m h => step_on (guard_no rfl) (op_load_vp_agg (ps := eGClass y17) rfl h.1.1 rfl rfl Try_agg_49 rfl rfl) rfl) ⟨⟨rfl, trivial⟩, trivial, trivial⟩ ?_
  iterate 2 (refine drm ?_)
  obtain ⟨y19, h20, hF⟩ := bind_some hF
  refine dr_cons { need := [(32, .pv (.vs 7 (List.map eGClass a0))), (33, .pv (.int .i64 y3))], dst := some 34, val := some (.pv (.vp (eGClass y19))) } (fun m h => step_on (guard_no rfl) (op_index_vs (k := .i64) rfl h.1.1 h.1.2.1 (idx_map eGClass h20) Try_slc_22 rfl rfl) rfl) ⟨⟨rfl, rfl, trivial⟩, trivial, trivial⟩ ?_
  refine dr_cons { need := [(34, .pv (.vp (eGClass y19)))], dst := some 35, val := some (.pv (.vp (List.drop 5 (eGClass y19)))) } (fun m h => step_on (guard_no rfl) (op_field_vp rfl h.1.1 Try_fld_49_5 rfl rfl) rfl) ⟨⟨rfl, trivial⟩, trivial, trivial⟩ ?_
  refine dr_cons { need := [(35, .pv (.vp (List.drop 5 (eGClass y19))))], dst := some 36, val := some (.pv (.vs 17 (List.map eGMethod y19.fMethods))) } (fun m h => step_on (guard_no rfl) (op_load_vp (p := .vs 17 (List.map eGMethod y19.fMethods)) rfl h.1.1 rfl Try_one_47 rfl rfl) rfl) ⟨⟨rfl, trivial⟩, trivial, trivial⟩ ?_
  refine drm ?_
  obtain ⟨y21, h22, hF⟩ := bind_some hF
  refine dr_cons { need := [(36, .pv (.vs 17 (List.map eGMethod y19.fMethods))), (37, .pv (.int .i64 y14))], dst := some 38, val := some (.pv (.vp (eGMethod y21))) } (fun m h => step_on (guard_no rfl) (op_index_vs (k := .i64) rfl h.1.1 h.1.2.1 (idx_map eGMethod h22) Try_slc_47 rfl rfl) rfl) ⟨⟨rfl, rfl, trivial⟩, trivial, trivial⟩ ?_
  refine dr_cons { need := [(38, .pv (.vp (eGMethod y21)))], dst := some 39, val := some (.pv (.agg (eGMethod y21))) } (fun m h => step_on (guard_no rfl) (op_load_vp_agg (ps := eGMethod y21) rfl h.1.1 rfl rfl Try_agg_66 rfl rfl) rfl) ⟨⟨rfl, trivial⟩, trivial, trivial⟩ ?_
  refine dr_cons { need := [(4, .lp 0 0), (31, .pv (.agg (eGClass y17)))], hneed := [(0, .box 49 (bxv (eGClass zGClass)))], upd := [(0, some (.box 49 (bxv (eGClass y17))))] } (fun m h => step_on (guard_no rfl) (op_store_lp (n := 7) rfl h.1.1 h.1.2.1 rfl h.2.1.1 (or_agg Try_agg_49) (by rw [Try_non_49]; rfl) rfl rfl rfl) rfl) ⟨⟨rfl, rfl, trivial⟩, ⟨rfl, trivial⟩, trivial⟩ ?_
  refine dr_cons { need := [(5, .lp 1 0), (39, .pv (.agg (eGMethod y21)))], hneed := [(1, .box 66 (bxv (eGMethod zGMethod)))], upd := [(1, some (.box 66 (bxv (eGMethod y21))))] } (fun m h => step_on (guard_no rfl) (op_store_lp (n := 17) rfl h.1.1 h.1.2.1 rfl h.2.1.1 (or_agg Try_agg_66) (by rw [Try_non_66]; rfl) rfl rfl rfl) rfl) ⟨⟨rfl, rfl, trivial⟩, ⟨rfl, trivial⟩, trivial⟩ ?_
  refine dr_cons { dst := some 6, val := some (.pv (.bool true)) } (fun m h => step_on (guard_no rfl) (op_assign rfl rfl rfl rfl) rfl) ⟨trivial, trivial, trivial⟩ ?_
  refine dr_nil Try_mixed rfl (by kernel_rfl) ?_
  refine post_imp (s' := ⟨40, [(4, some (.lp 0 0)), (5, some (.lp 1 0)), (6, some (.pv (.bool true)))], [(0, some (.box 49 (bxv (eGClass y17)))), (1, some (.box 66 (bxv (eGMethod y21))))], 2, [], [], 0, []⟩) (imps [0, 1] ⟨by kernel_rfl, by kernel_rfl, by kernel_rfl, trivial⟩ ⟨by kernel_rfl, by kernel_rfl, trivial⟩) ?_
  refine post_next ?_
  refine aw_ret ?_
  obtain rfl := Option.some.inj hF
  exact post_ret rfl rfl (.cons _ _ _ _ _ (.agg _ _ _ _ _ 7 _ _ rfl rfl Try_agg_49 rfl rfl rfl) (.p _) (.cons _ _ _ _ _ (.agg _ _ _ _ _ 17 _ _ rfl rfl Try_agg_66 rfl rfl rfl) (.p _) (.cons _ _ _ _ _ (.tmp _ _ rfl) (.p _) .nil))) (.inl rfl)
theorem slices_IndexFunc_api_Var_ok {a0 : List GVar} {q1 : GVar → Option Bool} {r : Int} {q1_f : Nat} {q1_c : List PV} (q1_b : callB Try.prog q1_f = true) (q1_h : ∀ (x0 : GVar) (r : Bool), q1 x0 = some r → Abs.Fn Try.prog q1_f ([.agg (eGVar x0)] ++ q1_c) [.p (.bool r)]) (hF : slices_IndexFunc_api_Var a0 q1 = some r) : Abs.Fn Try.prog 36 [.vs 13 (List.map eGVar a0), .fn q1_f q1_c] [.p (.int .i64 r)] := by
  unfold slices_IndexFunc_api_Var at hF
  refine fn_of_body (n := 19) Try.func36 rfl rfl rfl ?_
  intro w O
  refine aw_seq ?_
  refine aw_region ?_
  refine ras ?_
  refine reg_nil ?_
  refine post_imp (s' := ⟨19, [(0, some (.pv (.vs 13 (List.map eGVar a0)))), (1, some (.pv (.fn q1_f q1_c)))], [], 0, [], [], 0, []⟩) (imps [] ⟨by kernel_rfl, by kernel_rfl, trivial⟩ trivial) ?_
  refine post_next ?_
  iterate 2 (refine aw_seq ?_)
  refine aw_region ?_
  refine rmv ?_
  refine reg_cons (guard_no rfl) (op_len_vs (n := a0.length) rfl rfl (List.length_map ..) Try_slc_46 rfl rfl) ?_
  refine rmv ?_
  refine reg_nil ?_
  refine post_imp (s' := ⟨19, [(0, some (.pv (.vs 13 (List.map eGVar a0)))), (1, some (.pv (.fn q1_f q1_c))), (7, some (.pv (.int .i64 (a0.length : Int)))), (8, some (.pv (.int .i64 0)))], [], 0, [], [], 0, []⟩) (imps [] ⟨by kernel_rfl, by kernel_rfl, by kernel_rfl, by kernel_rfl, trivial⟩ trivial) ?_
  refine post_next ?_
  obtain ⟨lr34, hF, hK35⟩ := bind_some hF
  refine aw_for ((((a0.length : Int) : Int) - (0)).toNat + 1) (fun s1 => ∃ q, lr34 = .next q ∧ s1 = ⟨19, [], [], 0, [], [], 0, []⟩) ?_ ?_
  · refine rnd_loop (α := Int) (fun q => ⟨19, [(0, some (.pv (.vs 13 (List.map eGVar a0)))), (1, some (.pv (.fn q1_f q1_c))), (7, some (.pv (.int .i64 (a0.length : Int)))), (8, some (.pv (.int .i64 q)))], [], 0, [], [], 0, []⟩) (fun k q => slices_IndexFunc_api_Var_L1 a0 q1 k q = some lr34) 0 (imps [] ⟨by kernel_rfl, by kernel_rfl, by kernel_rfl, by kernel_rfl, trivial⟩ trivial) hF (fun q h => by cases h) ?_
    clear hF
    rintro k x11 hF ih
    refine rnd_succ ?_
    refine aw_seq ?_
    refine aw_region ?_
    refine reg_cons (guard_no rfl) (op_int (k := .i64) (m := x11) (n := (a0.length : Int)) rfl rfl rfl rfl rfl rfl) ?_
    refine reg_nil ?_
    refine post_imp (s' := ⟨19, [(0, some (.pv (.vs 13 (List.map eGVar a0)))), (1, some (.pv (.fn q1_f q1_c))), (7, some (.pv (.int .i64 (a0.length : Int)))), (8, some (.pv (.int .i64 x11))), (9, some (.pv (.bool (decide (x11 < (a0.length : Int))))))], [], 0, [], [], 0, []⟩) (imps [] ⟨by kernel_rfl, by kernel_rfl, by kernel_rfl, by kernel_rfl, by kernel_rfl, trivial⟩ trivial) ?_
    refine post_next ?_
    refine aw_seq ?_
    rcases ite_some hF with ⟨hb23, hF⟩ | ⟨hb23, hF⟩
    · refine aw_cond_t rfl hb23 ?_
      refine aw_skip ?_
      refine post_next ?_
      refine aw_seq ?_
      refine aw_block ?_
      refine aw_seq ?_
      refine aw_region ?_
      refine rmv ?_
      refine ras ?_
      refine reg_nil ?_
      refine post_imp (s' := ⟨19, [(0, some (.pv (.vs 13 (List.map eGVar a0)))), (1, some (.pv (.fn q1_f q1_c))), (5, some (.pv (.int .i64 x11))), (7, some (.pv (.int .i64 (a0.length : Int)))), (8, some (.pv (.int .i64 x11)))], [], 0, [], [], 0, []⟩) (imps [] ⟨by kernel_rfl, by kernel_rfl, by kernel_rfl, by kernel_rfl, by kernel_rfl, trivial⟩ trivial) ?_
      refine post_next ?_
      refine aw_seq ?_
      refine aw_region ?_
      iterate 3 (refine rmv ?_)
      obtain ⟨y28, h29, hF⟩ := bind_some hF
      refine reg_cons (guard_no rfl) (op_index_vs (k := .i64) rfl rfl rfl (idx_map eGVar h29) Try_slc_46 rfl rfl) ?_
      refine reg_cons (guard_no rfl) (op_load_vp_agg (ps := eGVar y28) rfl rfl rfl rfl Try_agg_92 rfl rfl) ?_
      obtain ⟨y30, h31, hF⟩ := bind_some hF
      refine reg_cons (guard_no rfl) (op_call 0 rfl (caps := q1_c) (args := [.agg (eGVar y28)]) (rs := [.p (.bool y30)]) rfl rfl rfl q1_b (q1_h y28 _ h31) rfl rfl rfl) ?_
      refine reg_nil ?_
      refine post_imp (s' := ⟨19, [(0, some (.pv (.vs 13 (List.map eGVar a0)))), (1, some (.pv (.fn q1_f q1_c))), (5, some (.pv (.int .i64 x11))), (7, some (.pv (.int .i64 (a0.length : Int)))), (8, some (.pv (.int .i64 x11))), (16, some (.pv (.bool y30)))], [], 0, [], [], 0, []⟩) (imps [] ⟨by kernel_rfl, by kernel_rfl, by kernel_rfl, by kernel_rfl, by kernel_rfl, by kernel_rfl, trivial⟩ trivial) ?_
      refine post_next ?_
      rcases ite_some hF with ⟨hb32, hF⟩ | ⟨hb32, hF⟩
      · refine aw_cond_t rfl hb32 ?_
        refine aw_seq ?_
        refine aw_region ?_
        refine rmv ?_
        refine ras ?_
        refine reg_nil ?_
        refine post_imp (s' := ⟨19, [(4, some (.pv (.int .i64 x11)))], [], 0, [], [], 0, []⟩) (imps [] ⟨by kernel_rfl, trivial⟩ trivial) ?_
        refine post_next ?_
        refine aw_ret ?_
        refine post_block_ret ?_
        iterate 2 (refine post_then_ret ?_)
        refine post_lp_ret ?_
        obtain rfl := Option.some.inj hF
        have hF := elim_stop hK35
        refine post_then_ret ?_
        obtain rfl := Option.some.inj hF
        exact post_ret rfl rfl (.cons _ _ _ _ _ (.tmp _ _ rfl) (.p _) .nil) (.inl rfl)
      refine aw_cond_f rfl hb32 ?_
      refine aw_skip ?_
      refine post_block_normal ?_
      refine post_next ?_
      refine aw_region ?_
      refine reg_cons (guard_no rfl) (op_int (k := .i64) (m := x11) (n := 1) rfl rfl rfl rfl rfl rfl) ?_
      refine rmv ?_
      refine reg_nil ?_
      refine post_round ?_
      exact rnd_back (ih (w_i64 (x11 + 1)) hF) (imps [] ⟨by kernel_rfl, by kernel_rfl, by kernel_rfl, by kernel_rfl, trivial⟩ trivial)
    refine aw_cond_f rfl hb23 ?_
    refine aw_exit ?_
    iterate 2 (refine post_then_exit ?_)
    obtain rfl := Option.some.inj hF
    exact post_lp_break _ ⟨_, rfl, rfl⟩ (imps [] trivial trivial)
  rintro _ ⟨⟨⟩, rfl, rfl⟩
  have hF := elim_next hK35
  clear hK35
  refine post_next ?_
  refine aw_seq ?_
  refine aw_region ?_
  refine ras ?_
  refine reg_nil ?_
  refine post_imp (s' := ⟨19, [(4, some (.pv (.int .i64 (-1))))], [], 0, [], [], 0, []⟩) (imps [] ⟨by kernel_rfl, trivial⟩ trivial) ?_
  refine post_next ?_
  refine aw_ret ?_
  obtain rfl := Option.some.inj hF
  exact post_ret rfl rfl (.cons _ _ _ _ _ (.tmp _ _ rfl) (.p _) .nil) (.inl rfl)
theorem scope_Place_1_ok {a0 : GVar} {c0 : List UInt8} {r : Bool} (hF : scope_Place_1 a0 c0 = some r) : Abs.Fn Try.prog 35 [.agg (eGVar a0), .vp (eS c0)] [.p (.bool r)] := by
  unfold scope_Place_1 at hF
  refine fn_of_body (n := 8) Try.func35 rfl rfl rfl ?_
  intro w O
  refine aw_seq ?_
  refine aw_region ?_
  refine reg_cons (guard_no rfl) (op_box 0 rfl rfl rfl rfl rfl rfl) ?_
  refine ras ?_
  refine reg_nil ?_
  refine post_imp (s' := ⟨8, [(1, some (.pv (.vp (eS c0)))), (2, some (.lp 0 0))], [(0, some (.box 92 (bxv (eGVar a0))))], 1, [], [], 0, []⟩) (imps [0] ⟨by kernel_rfl, by kernel_rfl, trivial⟩ ⟨by kernel_rfl, trivial⟩) ?_
  refine post_next ?_
  refine aw_seq ?_
  refine aw_region ?_
  refine reg_cons (guard_no rfl) (op_field_lp rfl rfl Try_fld_92_0 rfl rfl) ?_
  refine reg_cons (guard_no rfl) (op_load_lp (v := .pv (.str a0.fName)) rfl rfl rfl rfl Try_one_9 rfl rfl) ?_
  refine reg_cons (guard_no rfl) (op_load_vp (p := .str c0) rfl rfl rfl Try_one_9 rfl rfl) ?_
  refine reg_cons (guard_no rfl) (op_str rfl rfl rfl rfl rfl rfl) ?_
  refine ras ?_
  refine reg_nil ?_
  refine post_imp (s' := ⟨8, [(3, some (.pv (.bool (a0.fName == c0))))], [], 0, [], [], 0, []⟩) (imps [] ⟨by kernel_rfl, trivial⟩ trivial) ?_
  refine post_next ?_
  refine aw_ret ?_
  obtain rfl := Option.some.inj hF
  exact post_ret rfl rfl (.cons _ _ _ _ _ (.tmp _ _ rfl) (.p _) .nil) (.inl rfl)
end Go.Proofs.Ytelohaajmagpbaa
