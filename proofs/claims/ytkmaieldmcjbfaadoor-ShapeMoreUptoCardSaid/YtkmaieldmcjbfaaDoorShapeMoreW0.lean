/- A part of the proof that the law ShapeMore gives true for every input. -/
import Derived.Test.YtkmaieldmcjbfaaDoorShapeMoreT
import Derived.Test.YtkmaieldmcjbfaaDoorShapeMoreX
import Derived.Test.YtkmaieldmcjbfaaDoorShapeMoreI
/- Each Go function computes its plain function. -/
namespace Go.Proofs.YtkmaieldmcjbfaaDoor
open Go.RowKit Go.Abs
set_option maxRecDepth 100000
set_option maxHeartbeats 4000000
theorem ref06_Size_ring : ∀ n : Nat, (∀ (a0 : GExpr) (r : Int), ref06_Size n a0 = some r → Abs.Fn globs_Tryd Tryd.prog 17 [.agg (eGExpr a0)] [.p (.int .i64 r)]) := by
  intro n
  induction n with
  | zero => exact (fun _ _ h => by simp [ref06_Size] at h)
  | succ n ih =>
    have ref06_Size_ih := ih
    clear ih
    intro a0 r hF
    unfold ref06_Size at hF
    revert hF ref06_Size_ih
    generalize ref06_Size n = ref06_Size_rec
    intro ref06_Size_ih hF
    refine fn_of_body (n := 25) Tryd.func17 rfl rfl rfl ?_
    intro w O
    refine aw_seq ?_
    refine aw_region ?_
    refine rgp (op_box 0 rfl rfl rfl rfl rfl rfl) ?_
    refine ras ?_
    refine reg_nil ?_
    refine post_imp (s' := ⟨25, [(1, some (.lp 0 0))], [(0, some (.box 45 (bxv (eGExpr a0))))], 1, [], [], 0, []⟩) (imps [0] ⟨by kernel_rfl, trivial⟩ ⟨by kernel_rfl, trivial⟩) ?_
    refine post_next ?_
    refine aw_seq ?_
    refine aw_region ?_
    refine ras ?_
    refine reg_nil ?_
    refine post_imp (s' := ⟨25, [(1, some (.lp 0 0)), (3, some (.pv (.int .i64 1)))], [(0, some (.box 45 (bxv (eGExpr a0))))], 1, [], [], 0, []⟩) (imps [0] ⟨by kernel_rfl, by kernel_rfl, trivial⟩ ⟨by kernel_rfl, trivial⟩) ?_
    refine post_next ?_
    iterate 2 (refine aw_seq ?_)
    refine aw_region ?_
    refine ras ?_
    refine reg_nil ?_
    refine post_imp (s' := ⟨25, [(1, some (.lp 0 0)), (3, some (.pv (.int .i64 1))), (4, some (.pv (.int .i64 0)))], [(0, some (.box 45 (bxv (eGExpr a0))))], 1, [], [], 0, []⟩) (imps [0] ⟨by kernel_rfl, by kernel_rfl, by kernel_rfl, trivial⟩ ⟨by kernel_rfl, trivial⟩) ?_
    refine post_next ?_
    obtain ⟨x46, hF, hK47⟩ := bind_some hF
    refine aw_for (a0.fKids.length + 1) (fun s1 => s1 = ⟨25, [(3, some (.pv (.int .i64 x46)))], [], 0, [], [], 0, []⟩) ?_ ?_
    · refine rnd_loop (α := Int × Int) (fun q => ⟨25, [(1, some (.lp 0 0)), (3, some (.pv (.int .i64 q.1))), (4, some (.pv (.int .i64 q.2)))], [(0, some (.box 45 (bxv (eGExpr a0))))], 1, [], [], 0, []⟩) (fun k q => ref06_Size_L1 a0 ref06_Size_rec k q.1 q.2 = some x46) (1, 0) (imps [0] ⟨by kernel_rfl, by kernel_rfl, by kernel_rfl, trivial⟩ ⟨by kernel_rfl, trivial⟩) hF (fun q h => by cases h) ?_
      clear hF
      rintro k ⟨x14, x15⟩ hF ih
      refine rnd_succ ?_
      iterate 2 (refine aw_seq ?_)
      obtain ⟨x32, hF, hK34⟩ := bind_some hF
      refine aw_cut (fun s1 => s1 = ⟨25, [(1, some (.lp 0 0)), (3, some (.pv (.int .i64 x14))), (4, some (.pv (.int .i64 x15))), (13, some (.pv (.bool x32)))], [(0, some (.box 45 (bxv (eGExpr a0))))], 1, [], [], 0, []⟩) ?_ ?_
      · refine aw_region ?_
        refine rmv ?_
        refine rgp (op_field_lp rfl rfl Tryd_fld_45_3 rfl rfl) ?_
        refine rgp (op_load_lp (v := .pv (.vs 4 (eLGExpr a0.fKids))) rfl rfl rfl rfl Tryd_one_43 rfl rfl) ?_
        refine rgp (op_len_vs (n := a0.fKids.length) rfl rfl (lenR eLGExpr_map) Tryd_slc_43 rfl rfl) ?_
        refine rgp (op_int (k := .i64) (m := x15) (n := (a0.fKids.length : Int)) rfl rfl rfl rfl rfl rfl) ?_
        refine rmv ?_
        rcases ite_some hF with ⟨hb31, hF⟩ | ⟨hb31, hF⟩
        · refine rgn hb31 (op_move rfl rfl rfl rfl) ?_
          refine rgn hb31 (op_int (k := .i64) (m := x14) (n := 1000) rfl rfl rfl rfl rfl rfl) ?_
          refine rpt hb31 ?_
          refine reg_nil ?_
          cases hF
          exact post_cut _ rfl (imps [0] ⟨by kernel_rfl, by kernel_rfl, by kernel_rfl, by kernel_rfl, trivial⟩ ⟨by kernel_rfl, trivial⟩)
        iterate 2 (refine rgo_f hb31 ?_)
        refine rpf hb31 ?_
        refine reg_nil ?_
        cases hF
        exact post_cut _ rfl (imps [0] ⟨by kernel_rfl, by kernel_rfl, by kernel_rfl, by kernel_rfl, trivial⟩ ⟨by kernel_rfl, trivial⟩)
      rintro _ rfl
      have hF := hK34
      clear hK34
      refine post_next ?_
      rcases ite_some hF with ⟨hb35, hF⟩ | ⟨hb35, hF⟩
      · refine aw_cond_t rfl hb35 ?_
        refine aw_skip ?_
        refine post_next ?_
        refine aw_seq ?_
        refine aw_block ?_
        refine aw_region ?_
        refine rmv ?_
        refine rgp (op_field_lp rfl rfl Tryd_fld_45_3 rfl rfl) ?_
        refine rgp (op_load_lp (v := .pv (.vs 4 (eLGExpr a0.fKids))) rfl rfl rfl rfl Tryd_one_43 rfl rfl) ?_
        refine rmv ?_
        obtain ⟨y40, h41, hF⟩ := bind_some hF
        refine rgp (op_index_vs (k := .i64) rfl rfl rfl (idxR eLGExpr_map h41) Tryd_slc_43 rfl rfl) ?_
        refine rgp (op_load_vp_agg (ps := eGExpr y40) rfl rfl rfl rfl Tryd_agg_45 rfl rfl) ?_
        obtain ⟨y42, h43, hF⟩ := bind_some hF
        refine rgp (op_call 1 rfl (caps := []) (args := [.agg (eGExpr y40)]) (rs := [.p (.int .i64 y42)]) rfl rfl rfl Tryd_cal_17 (ref06_Size_ih _ _ h43) rfl rfl rfl) ?_
        refine rgp (op_int (k := .i64) (m := x14) (n := y42) rfl rfl rfl rfl rfl rfl) ?_
        refine ras ?_
        refine reg_nil ?_
        refine post_imp (s' := ⟨25, [(1, some (.lp 0 0)), (3, some (.pv (.int .i64 (w_i64 (x14 + y42))))), (4, some (.pv (.int .i64 x15)))], [(0, some (.box 45 (bxv (eGExpr a0))))], 1, [], [], 0, []⟩) (imps [0] ⟨by kernel_rfl, by kernel_rfl, by kernel_rfl, trivial⟩ ⟨by kernel_rfl, trivial⟩) ?_
        refine post_block_normal ?_
        refine post_next ?_
        refine aw_region ?_
        refine rmv ?_
        refine rgp (op_int (k := .i64) (m := x15) (n := 1) rfl rfl rfl rfl rfl rfl) ?_
        refine ras ?_
        refine reg_nil ?_
        refine post_round ?_
        exact rnd_back (ih (w_i64 (x14 + y42), w_i64 (x15 + 1)) hF) (imps [0] ⟨by kernel_rfl, by kernel_rfl, by kernel_rfl, trivial⟩ ⟨by kernel_rfl, trivial⟩)
      refine aw_cond_f rfl hb35 ?_
      refine aw_exit ?_
      iterate 2 (refine post_then_exit ?_)
      obtain rfl := Option.some.inj hF
      exact post_lp_break _ rfl (imps [] ⟨by kernel_rfl, trivial⟩ trivial)
    rintro _ rfl
    have hF := hK47
    clear hK47
    refine post_next ?_
    refine aw_seq ?_
    refine aw_region ?_
    refine rmv ?_
    refine ras ?_
    refine reg_nil ?_
    refine post_imp (s' := ⟨25, [(2, some (.pv (.int .i64 x46)))], [], 0, [], [], 0, []⟩) (imps [] ⟨by kernel_rfl, trivial⟩ trivial) ?_
    refine post_next ?_
    refine aw_ret ?_
    obtain rfl := Option.some.inj hF
    exact prt
theorem ref06_Size_ok {n : Nat} {a0 : GExpr} {r : Int} (hF : ref06_Size n a0 = some r) : Abs.Fn globs_Tryd Tryd.prog 17 [.agg (eGExpr a0)] [.p (.int .i64 r)] := (ref06_Size_ring n) _ _ hF

theorem slices_IndexFunc_api_Expr_ok {a0 : List GExpr} {q1 : GExpr → Option Bool} {r : Int} {q1_f : Nat} {q1_c : List PV} (q1_b : callB Tryd.prog q1_f = true) (q1_h : ∀ (x0 : GExpr) (r : Bool), q1 x0 = some r → Abs.Fn globs_Tryd Tryd.prog q1_f ([.agg (eGExpr x0)] ++ q1_c) [.p (.bool r)]) (hF : slices_IndexFunc_api_Expr a0 q1 = some r) : Abs.Fn globs_Tryd Tryd.prog 102 [.vs 4 (eLGExpr a0), .fn q1_f q1_c] [.p (.int .i64 r)] := by
  unfold slices_IndexFunc_api_Expr at hF
  refine fn_of_body (n := 19) Tryd.func102 rfl rfl rfl ?_
  intro w O
  refine aw_seq ?_
  refine aw_region ?_
  refine ras ?_
  refine reg_nil ?_
  refine post_imp (s' := ⟨19, [(0, some (.pv (.vs 4 (eLGExpr a0)))), (1, some (.pv (.fn q1_f q1_c)))], [], 0, [], [], 0, []⟩) (imps [] ⟨by kernel_rfl, by kernel_rfl, trivial⟩ trivial) ?_
  refine post_next ?_
  iterate 2 (refine aw_seq ?_)
  refine aw_region ?_
  refine rmv ?_
  refine rgp (op_len_vs (n := a0.length) rfl rfl (lenR eLGExpr_map) Tryd_slc_43 rfl rfl) ?_
  refine rmv ?_
  refine reg_nil ?_
  refine post_imp (s' := ⟨19, [(0, some (.pv (.vs 4 (eLGExpr a0)))), (1, some (.pv (.fn q1_f q1_c))), (7, some (.pv (.int .i64 (a0.length : Int)))), (8, some (.pv (.int .i64 0)))], [], 0, [], [], 0, []⟩) (imps [] ⟨by kernel_rfl, by kernel_rfl, by kernel_rfl, by kernel_rfl, trivial⟩ trivial) ?_
  refine post_next ?_
  obtain ⟨lr34, hF, hK35⟩ := bind_some hF
  refine aw_for ((((a0.length : Int) : Int) - (0)).toNat + 1) (fun s1 => ∃ q, lr34 = .next q ∧ s1 = ⟨19, [], [], 0, [], [], 0, []⟩) ?_ ?_
  · refine rnd_loop (α := Int) (fun q => ⟨19, [(0, some (.pv (.vs 4 (eLGExpr a0)))), (1, some (.pv (.fn q1_f q1_c))), (7, some (.pv (.int .i64 (a0.length : Int)))), (8, some (.pv (.int .i64 q)))], [], 0, [], [], 0, []⟩) (fun k q => slices_IndexFunc_api_Expr_L1 a0 q1 k q = some lr34) 0 (imps [] ⟨by kernel_rfl, by kernel_rfl, by kernel_rfl, by kernel_rfl, trivial⟩ trivial) hF (fun q h => by cases h) ?_
    clear hF
    rintro k x11 hF ih
    refine rnd_succ ?_
    refine aw_seq ?_
    refine aw_region ?_
    refine rgp (op_int (k := .i64) (m := x11) (n := (a0.length : Int)) rfl rfl rfl rfl rfl rfl) ?_
    refine reg_nil ?_
    refine post_imp (s' := ⟨19, [(0, some (.pv (.vs 4 (eLGExpr a0)))), (1, some (.pv (.fn q1_f q1_c))), (7, some (.pv (.int .i64 (a0.length : Int)))), (8, some (.pv (.int .i64 x11))), (9, some (.pv (.bool (decide (x11 < (a0.length : Int))))))], [], 0, [], [], 0, []⟩) (imps [] ⟨by kernel_rfl, by kernel_rfl, by kernel_rfl, by kernel_rfl, by kernel_rfl, trivial⟩ trivial) ?_
    refine post_next ?_
    refine aw_seq ?_
    rcases ite_some hF with ⟨hb23, hF⟩ | ⟨hb23, hF⟩
    · refine aw_cond_t rfl hb23 ?_
      refine aw_skip ?_
      refine post_next ?_
      refine aw_seq ?_
      refine aw_block ?_
      refine aw_seq ?_
      refine aw_region ?_
      refine rmv ?_
      refine ras ?_
      refine reg_nil ?_
      refine post_imp (s' := ⟨19, [(0, some (.pv (.vs 4 (eLGExpr a0)))), (1, some (.pv (.fn q1_f q1_c))), (5, some (.pv (.int .i64 x11))), (7, some (.pv (.int .i64 (a0.length : Int)))), (8, some (.pv (.int .i64 x11)))], [], 0, [], [], 0, []⟩) (imps [] ⟨by kernel_rfl, by kernel_rfl, by kernel_rfl, by kernel_rfl, by kernel_rfl, trivial⟩ trivial) ?_
      refine post_next ?_
      refine aw_seq ?_
      refine aw_region ?_
      iterate 3 (refine rmv ?_)
      obtain ⟨y28, h29, hF⟩ := bind_some hF
      refine rgp (op_index_vs (k := .i64) rfl rfl rfl (idxR eLGExpr_map h29) Tryd_slc_43 rfl rfl) ?_
      refine rgp (op_load_vp_agg (ps := eGExpr y28) rfl rfl rfl rfl Tryd_agg_45 rfl rfl) ?_
      obtain ⟨y30, h31, hF⟩ := bind_some hF
      refine rgp (op_call 0 rfl (caps := q1_c) (args := [.agg (eGExpr y28)]) (rs := [.p (.bool y30)]) rfl rfl rfl q1_b (q1_h y28 _ h31) rfl rfl rfl) ?_
      refine reg_nil ?_
      refine post_imp (s' := ⟨19, [(0, some (.pv (.vs 4 (eLGExpr a0)))), (1, some (.pv (.fn q1_f q1_c))), (5, some (.pv (.int .i64 x11))), (7, some (.pv (.int .i64 (a0.length : Int)))), (8, some (.pv (.int .i64 x11))), (16, some (.pv (.bool y30)))], [], 0, [], [], 0, []⟩) (imps [] ⟨by kernel_rfl, by kernel_rfl, by kernel_rfl, by kernel_rfl, by kernel_rfl, by kernel_rfl, trivial⟩ trivial) ?_
      refine post_next ?_
      rcases ite_some hF with ⟨hb32, hF⟩ | ⟨hb32, hF⟩
      · refine aw_cond_t rfl hb32 ?_
        refine aw_seq ?_
        refine aw_region ?_
        refine rmv ?_
        refine ras ?_
        refine reg_nil ?_
        refine post_imp (s' := ⟨19, [(4, some (.pv (.int .i64 x11)))], [], 0, [], [], 0, []⟩) (imps [] ⟨by kernel_rfl, trivial⟩ trivial) ?_
        refine post_next ?_
        refine aw_ret ?_
        refine post_block_ret ?_
        iterate 2 (refine post_then_ret ?_)
        refine post_lp_ret ?_
        obtain rfl := Option.some.inj hF
        have hF := elim_stop hK35
        refine post_then_ret ?_
        obtain rfl := Option.some.inj hF
        exact prt
      refine aw_cond_f rfl hb32 ?_
      refine aw_skip ?_
      refine post_block_normal ?_
      refine post_next ?_
      refine aw_region ?_
      refine rgp (op_int (k := .i64) (m := x11) (n := 1) rfl rfl rfl rfl rfl rfl) ?_
      refine rmv ?_
      refine reg_nil ?_
      refine post_round ?_
      exact rnd_back (ih (w_i64 (x11 + 1)) hF) (imps [] ⟨by kernel_rfl, by kernel_rfl, by kernel_rfl, by kernel_rfl, trivial⟩ trivial)
    refine aw_cond_f rfl hb23 ?_
    refine aw_exit ?_
    iterate 2 (refine post_then_exit ?_)
    obtain rfl := Option.some.inj hF
    exact post_lp_break _ ⟨_, rfl, rfl⟩ (imps [] trivial trivial)
  rintro _ ⟨⟨⟩, rfl, rfl⟩
  have hF := elim_next hK35
  clear hK35
  refine post_next ?_
  refine aw_seq ?_
  refine aw_region ?_
  refine ras ?_
  refine reg_nil ?_
  refine post_imp (s' := ⟨19, [(4, some (.pv (.int .i64 (-1))))], [], 0, [], [], 0, []⟩) (imps [] ⟨by kernel_rfl, trivial⟩ trivial) ?_
  refine post_next ?_
  refine aw_ret ?_
  obtain rfl := Option.some.inj hF
  exact prt
theorem slices_ContainsFunc_api_Expr_ok {a0 : List GExpr} {q1 : GExpr → Option Bool} {r : Bool} {q1_f : Nat} {q1_c : List PV} (q1_b : callB Tryd.prog q1_f = true) (q1_h : ∀ (x0 : GExpr) (r : Bool), q1 x0 = some r → Abs.Fn globs_Tryd Tryd.prog q1_f ([.agg (eGExpr x0)] ++ q1_c) [.p (.bool r)]) (hF : slices_ContainsFunc_api_Expr a0 q1 = some r) : Abs.Fn globs_Tryd Tryd.prog 83 [.vs 4 (eLGExpr a0), .fn q1_f q1_c] [.p (.bool r)] := by
  unfold slices_ContainsFunc_api_Expr at hF
  refine fn_of_body (n := 9) Tryd.func83 rfl rfl rfl ?_
  intro w O
  refine aw_seq ?_
  refine aw_region ?_
  refine ras ?_
  refine reg_nil ?_
  refine post_imp (s' := ⟨9, [(0, some (.pv (.vs 4 (eLGExpr a0)))), (1, some (.pv (.fn q1_f q1_c)))], [], 0, [], [], 0, []⟩) (imps [] ⟨by kernel_rfl, by kernel_rfl, trivial⟩ trivial) ?_
  refine post_next ?_
  refine aw_seq ?_
  refine aw_region ?_
  iterate 2 (refine rmv ?_)
  obtain ⟨y1, h2, hF⟩ := bind_some hF
  refine rgp (op_call 0 rfl (caps := []) (args := [.vs 4 (eLGExpr a0), .fn q1_f q1_c]) (rs := [.p (.int .i64 y1)]) rfl rfl rfl Tryd_cal_102 (slices_IndexFunc_api_Expr_ok (q1_b := q1_b) (q1_h := q1_h) h2) rfl rfl rfl) ?_
  refine rgp (op_int (k := .i64) (m := y1) (n := 0) rfl rfl rfl rfl rfl rfl) ?_
  refine ras ?_
  refine reg_nil ?_
  refine post_imp (s' := ⟨9, [(4, some (.pv (.bool (decide (y1 ≥ 0)))))], [], 0, [], [], 0, []⟩) (imps [] ⟨by kernel_rfl, trivial⟩ trivial) ?_
  refine post_next ?_
  refine aw_ret ?_
  obtain rfl := Option.some.inj hF
  exact prt
theorem expr_deep_ring : ∀ n : Nat, (∀ (a0 : GExpr) (a1 : Int) (r : Bool), expr_deep n a0 a1 = some r → Abs.Fn globs_Tryd Tryd.prog 62 [.agg (eGExpr a0), .int .i64 a1] [.p (.bool r)]) ∧ (∀ (a0 : GExpr) (c0 : Int) (r : Bool), expr_deep_1 n a0 c0 = some r → Abs.Fn globs_Tryd Tryd.prog 84 [.agg (eGExpr a0), .vp (eI c0)] [.p (.bool r)]) := by
  intro n
  induction n with
  | zero => exact ⟨fun _ _ _ h => by simp [expr_deep] at h, fun _ _ _ h => by simp [expr_deep_1] at h⟩
  | succ n ih =>
    obtain ⟨expr_deep_ih, expr_deep_1_ih⟩ := ih
    refine ⟨?_, ?_⟩
    · intro a0 a1 r hF
      unfold expr_deep at hF
      revert hF expr_deep_ih expr_deep_1_ih
      generalize expr_deep n = expr_deep_rec
      generalize expr_deep_1 n = expr_deep_1_rec
      intro expr_deep_ih expr_deep_1_ih hF
      refine fn_of_body (n := 12) Tryd.func62 rfl rfl rfl ?_
      intro w O
      refine aw_seq ?_
      refine aw_region ?_
      refine rgp (op_box 0 rfl rfl rfl rfl rfl rfl) ?_
      refine rgp (op_box 1 rfl rfl rfl rfl rfl rfl) ?_
      refine ras ?_
      refine reg_nil ?_
      refine post_imp (s' := ⟨12, [(2, some (.lp 0 0)), (3, some (.lp 1 0))], [(0, some (.box 45 (bxv (eGExpr a0)))), (1, some (.box 3 [.pv (.int .i64 a1)]))], 2, [], [], 0, []⟩) (imps [0, 1] ⟨by kernel_rfl, by kernel_rfl, trivial⟩ ⟨by kernel_rfl, by kernel_rfl, trivial⟩) ?_
      refine post_next ?_
      iterate 2 (refine aw_seq ?_)
      refine aw_region ?_
      refine rgp (op_load_lp (v := .pv (.int .i64 a1)) rfl rfl rfl rfl Tryd_one_3 rfl rfl) ?_
      refine rgp (op_int (k := .i64) (m := a1) (n := 0) rfl rfl rfl rfl rfl rfl) ?_
      refine reg_nil ?_
      refine post_imp (s' := ⟨12, [(2, some (.lp 0 0)), (3, some (.lp 1 0)), (6, some (.pv (.bool (a1 == 0))))], [(0, some (.box 45 (bxv (eGExpr a0)))), (1, some (.box 3 [.pv (.int .i64 a1)]))], 2, [], [], 0, []⟩) (imps [0, 1] ⟨by kernel_rfl, by kernel_rfl, by kernel_rfl, trivial⟩ ⟨by kernel_rfl, by kernel_rfl, trivial⟩) ?_
      refine post_next ?_
      rcases ite_some hF with ⟨hb1, hF⟩ | ⟨hb1, hF⟩
      · refine aw_cond_t rfl hb1 ?_
        refine aw_seq ?_
        refine aw_region ?_
        refine ras ?_
        refine reg_nil ?_
        refine post_imp (s' := ⟨12, [(4, some (.pv (.bool false)))], [], 0, [], [], 0, []⟩) (imps [] ⟨by kernel_rfl, trivial⟩ trivial) ?_
        refine post_next ?_
        refine aw_ret ?_
        refine post_then_ret ?_
        obtain rfl := Option.some.inj hF
        exact prt
      refine aw_cond_f rfl hb1 ?_
      refine aw_skip ?_
      refine post_next ?_
      refine aw_seq ?_
      refine aw_region ?_
      refine rgp (op_field_lp rfl rfl Tryd_fld_45_3 rfl rfl) ?_
      refine rgp (op_load_lp (v := .pv (.vs 4 (eLGExpr a0.fKids))) rfl rfl rfl rfl Tryd_one_43 rfl rfl) ?_
      refine rgp (op_makeFunc rfl rfl rfl rfl) ?_
      obtain ⟨y3, h4, hF⟩ := bind_some hF
      refine rgp (op_callB 2 rfl (caps := []) (args := [.vs 4 (eLGExpr a0.fKids), .fn 84 [.vp (eI a1)]]) [(1, some (.box 3 [.pv (.int .i64 a1)]))] rfl rfl rfl (FzH.spec ⟨rfl, trivial⟩) rfl rfl Tryd_cal_83 (slices_ContainsFunc_api_Expr_ok (q1_f := 84) (q1_c := [.vp (eI a1)]) (q1_b := Tryd_cal_84) (q1_h := fun _ r h => (expr_deep_1_ih _ _ _ h)) h4) rfl rfl rfl) ?_
      refine rgp (op_not rfl rfl rfl rfl) ?_
      refine ras ?_
      refine reg_nil ?_
      refine post_imp (s' := ⟨12, [(4, some (.pv (.bool (!y3))))], [], 0, [], [], 0, []⟩) (imps [] ⟨by kernel_rfl, trivial⟩ trivial) ?_
      refine post_next ?_
      refine aw_ret ?_
      obtain rfl := Option.some.inj hF
      exact prt
    · intro a0 c0 r hF
      unfold expr_deep_1 at hF
      revert hF expr_deep_ih expr_deep_1_ih
      generalize expr_deep n = expr_deep_rec
      generalize expr_deep_1 n = expr_deep_1_rec
      intro expr_deep_ih expr_deep_1_ih hF
      refine fn_of_body (n := 9) Tryd.func84 rfl rfl rfl ?_
      intro w O
      refine aw_seq ?_
      refine aw_region ?_
      refine rgp (op_box 0 rfl rfl rfl rfl rfl rfl) ?_
      refine ras ?_
      refine reg_nil ?_
      refine post_imp (s' := ⟨9, [(1, some (.pv (.vp (eI c0)))), (2, some (.lp 0 0))], [(0, some (.box 45 (bxv (eGExpr a0))))], 1, [], [], 0, []⟩) (imps [0] ⟨by kernel_rfl, by kernel_rfl, trivial⟩ ⟨by kernel_rfl, trivial⟩) ?_
      refine post_next ?_
      refine aw_seq ?_
      refine aw_region ?_
      refine rgp (op_load_lp_agg (ps := eGExpr a0) rfl rfl rfl rfl rfl rfl Tryd_agg_45 rfl rfl) ?_
      refine rgp (op_load_vp (p := .int .i64 c0) rfl rfl rfl Tryd_one_3 rfl rfl) ?_
      refine rgp (op_int (k := .i64) (m := c0) (n := 1) rfl rfl rfl rfl rfl rfl) ?_
      obtain ⟨y1, h2, hF⟩ := bind_some hF
      refine rgp (op_call 1 rfl (caps := []) (args := [.agg (eGExpr a0), .int .i64 (w_i64 (c0 - 1))]) (rs := [.p (.bool y1)]) rfl rfl rfl Tryd_cal_62 (expr_deep_ih _ _ _ h2) rfl rfl rfl) ?_
      refine rgp (op_not rfl rfl rfl rfl) ?_
      refine ras ?_
      refine reg_nil ?_
      refine post_imp (s' := ⟨9, [(3, some (.pv (.bool (!y1))))], [], 0, [], [], 0, []⟩) (imps [] ⟨by kernel_rfl, trivial⟩ trivial) ?_
      refine post_next ?_
      refine aw_ret ?_
      obtain rfl := Option.some.inj hF
      exact prt
theorem expr_deep_ok {n : Nat} {a0 : GExpr} {a1 : Int} {r : Bool} (hF : expr_deep n a0 a1 = some r) : Abs.Fn globs_Tryd Tryd.prog 62 [.agg (eGExpr a0), .int .i64 a1] [.p (.bool r)] := (expr_deep_ring n).1 _ _ _ hF
theorem expr_deep_1_ok {n : Nat} {a0 : GExpr} {c0 : Int} {r : Bool} (hF : expr_deep_1 n a0 c0 = some r) : Abs.Fn globs_Tryd Tryd.prog 84 [.agg (eGExpr a0), .vp (eI c0)] [.p (.bool r)] := (expr_deep_ring n).2 _ _ _ hF


theorem expr_all_ok {a0 : GExpr} {r : GExpr} (hF : expr_all a0 = some r) : Abs.Fn globs_Tryd Tryd.prog 63 [.agg (eGExpr a0)] [.p (.fn 85 [.vp (eGExpr r)])] := by
  unfold expr_all at hF
  refine fn_of_body (n := 4) Tryd.func63 rfl rfl rfl ?_
  intro w O
  refine aw_seq ?_
  refine aw_region ?_
  refine rgp (op_box 0 rfl rfl rfl rfl rfl rfl) ?_
  refine ras ?_
  refine reg_nil ?_
  refine post_imp (s' := ⟨4, [(1, some (.lp 0 0))], [(0, some (.box 45 (bxv (eGExpr a0))))], 1, [], [], 0, []⟩) (imps [0] ⟨by kernel_rfl, trivial⟩ ⟨by kernel_rfl, trivial⟩) ?_
  refine post_next ?_
  refine aw_seq ?_
  refine aw_region ?_
  refine rgp (op_makeFunc rfl rfl rfl rfl) ?_
  refine ras ?_
  refine reg_nil ?_
  refine post_imp (s' := ⟨4, [(2, some (.fn 85 [.lp 0 0]))], [(0, some (.box 45 (bxv (eGExpr a0))))], 1, [], [], 0, []⟩) (imps [0] ⟨by kernel_rfl, trivial⟩ ⟨by kernel_rfl, trivial⟩) ?_
  refine post_next ?_
  refine aw_ret ?_
  refine post_imp (imp_freeze [(0, some (.box 45 (bxv (eGExpr a0))))] [(2, some (.pv (.fn 85 [.vp (eGExpr a0)])))] (FzH.spec ⟨rfl, trivial⟩) ⟨⟨_, rfl, rfl⟩, trivial⟩) ?_
  obtain rfl := Option.some.inj hF
  exact post_ret rfl rfl (.cons _ _ _ _ _ (.tmp _ _ rfl) (.p _) .nil) (.inl rfl)
theorem slices_Backward_api_Expr_ok {a0 : List GExpr} {r : (List GExpr)} (hF : slices_Backward_api_Expr a0 = some r) : Abs.Fn globs_Tryd Tryd.prog 86 [.vs 4 (eLGExpr a0)] [.p (.fn 103 [.vp ((fun x => ([.vs 4 (eLGExpr x)] : List PV)) r)])] := by
  unfold slices_Backward_api_Expr at hF
  refine fn_of_body (n := 4) Tryd.func86 rfl rfl rfl ?_
  intro w O
  refine aw_seq ?_
  refine aw_region ?_
  refine rgp (op_box 0 rfl rfl rfl rfl rfl rfl) ?_
  refine ras ?_
  refine reg_nil ?_
  refine post_imp (s' := ⟨4, [(1, some (.lp 0 0))], [(0, some (.box 43 [.pv (.vs 4 (eLGExpr a0))]))], 1, [], [], 0, []⟩) (imps [0] ⟨by kernel_rfl, trivial⟩ ⟨by kernel_rfl, trivial⟩) ?_
  refine post_next ?_
  refine aw_seq ?_
  refine aw_region ?_
  refine rgp (op_makeFunc rfl rfl rfl rfl) ?_
  refine ras ?_
  refine reg_nil ?_
  refine post_imp (s' := ⟨4, [(2, some (.fn 103 [.lp 0 0]))], [(0, some (.box 43 [.pv (.vs 4 (eLGExpr a0))]))], 1, [], [], 0, []⟩) (imps [0] ⟨by kernel_rfl, trivial⟩ ⟨by kernel_rfl, trivial⟩) ?_
  refine post_next ?_
  refine aw_ret ?_
  refine post_imp (imp_freeze [(0, some (.box 43 [.pv (.vs 4 (eLGExpr a0))]))] [(2, some (.pv (.fn 103 [.vp ((fun x => ([.vs 4 (eLGExpr x)] : List PV)) a0)])))] (FzH.spec ⟨rfl, trivial⟩) ⟨⟨_, rfl, rfl⟩, trivial⟩) ?_
  obtain rfl := Option.some.inj hF
  exact post_ret rfl rfl (.cons _ _ _ _ _ (.tmp _ _ rfl) (.p _) .nil) (.inl rfl)
theorem slices_Backward_api_Expr_1_it {rows : List (Int × GExpr)} {sp : Nat} {c0 : List GExpr} (hF : slices_Backward_api_Expr_1 rows sp c0 = some (min (sp + 1) rows.length)) : It globs_Tryd Tryd.prog 103 2 [.vp ((fun x => ([.vs 4 (eLGExpr x)] : List PV)) c0)] none [] (rows.map (fun z : Int × GExpr => ([.int .i64 z.1, .agg (eGExpr z.2)] : List PV))) sp := by
  unfold slices_Backward_api_Expr_1 at hF
  refine it_of_body (n := 19) Tryd.func103 rfl rfl rfl ?_
  intro l c hcx
  refine aw_seq ?_
  refine aw_region ?_
  refine rgp (op_load_vp (p := .vs 4 (eLGExpr c0)) rfl rfl rfl Tryd_one_43 rfl rfl) ?_
  refine rgp (op_len_vs (n := c0.length) rfl rfl (lenR eLGExpr_map) Tryd_slc_43 rfl rfl) ?_
  refine rgp (op_int (k := .i64) (m := (c0.length : Int)) (n := 1) rfl rfl rfl rfl rfl rfl) ?_
  refine ras ?_
  refine reg_nil ?_
  refine post_imp (s' := ⟨19, [(0, some (.pv (.yld l))), (1, some (.pv (.vp ((fun x => ([.vs 4 (eLGExpr x)] : List PV)) c0)))), (3, some (.pv (.int .i64 (w_i64 ((c0.length : Int) - 1)))))], [], 0, [], [], 0, []⟩) (imps [] ⟨by kernel_rfl, by kernel_rfl, by kernel_rfl, trivial⟩ trivial) ?_
  refine post_next ?_
  obtain ⟨lr38, hF, hK39⟩ := bind_some hF
  refine aw_for ((((w_i64 ((c0.length : Int) - 1)) : Int) - (0)).toNat + 2) (fun s1 => ∃ q, lr38 = .next q ∧ s1 = ⟨19, [], [], 0, [], [], q, []⟩) ?_ ?_
  · refine rnd_loop (α := Nat × Int) (fun q => ⟨19, [(0, some (.pv (.yld l))), (1, some (.pv (.vp ((fun x => ([.vs 4 (eLGExpr x)] : List PV)) c0)))), (3, some (.pv (.int .i64 q.2)))], [], 0, [], [], q.1, []⟩) (fun k q => slices_Backward_api_Expr_1_L1 c0 sp rows k q.1 q.2 = some lr38) (0, w_i64 ((c0.length : Int) - 1)) (imps [] ⟨by kernel_rfl, by kernel_rfl, by kernel_rfl, trivial⟩ trivial) hF (fun q h => by cases h) ?_
    clear hF
    rintro k ⟨x11, x12⟩ hF ih
    refine rnd_succ ?_
    iterate 2 (refine aw_seq ?_)
    refine aw_region ?_
    refine rmv ?_
    refine rgp (op_int (k := .i64) (m := x12) (n := 0) rfl rfl rfl rfl rfl rfl) ?_
    refine reg_nil ?_
    refine post_imp (s' := ⟨19, [(0, some (.pv (.yld l))), (1, some (.pv (.vp ((fun x => ([.vs 4 (eLGExpr x)] : List PV)) c0)))), (3, some (.pv (.int .i64 x12))), (8, some (.pv (.bool (decide (x12 ≥ 0)))))], [], 0, [], [], x11, []⟩) (imps [] ⟨by kernel_rfl, by kernel_rfl, by kernel_rfl, by kernel_rfl, trivial⟩ trivial) ?_
    refine post_next ?_
    rcases ite_some hF with ⟨hb25, hF⟩ | ⟨hb25, hF⟩
    · refine aw_cond_t rfl hb25 ?_
      refine aw_skip ?_
      refine post_next ?_
      refine aw_seq ?_
      refine aw_block ?_
      refine aw_seq ?_
      refine aw_region ?_
      iterate 2 (refine rmv ?_)
      refine rgp (op_load_vp (p := .vs 4 (eLGExpr c0)) rfl rfl rfl Tryd_one_43 rfl rfl) ?_
      refine rmv ?_
      obtain ⟨y30, h31, hF⟩ := bind_some hF
      refine rgp (op_index_vs (k := .i64) rfl rfl rfl (idxR eLGExpr_map h31) Tryd_slc_43 rfl rfl) ?_
      refine rgp (op_load_vp_agg (ps := eGExpr y30) rfl rfl rfl rfl Tryd_agg_45 rfl rfl) ?_
      obtain ⟨u32, h33, hF⟩ := bind_some hF
      refine rgp (op_yield (row := (fun z : Int × GExpr => ([.int .i64 z.1, .agg (eGExpr z.2)] : List PV)) (x12, y30)) hcx rfl rfl rfl rfl (yck_row (fun z : Int × GExpr => ([.int .i64 z.1, .agg (eGExpr z.2)] : List PV)) h33) (yck_spec h33).2 rfl rfl) ?_
      refine rgp (op_not rfl rfl rfl rfl) ?_
      refine reg_nil ?_
      refine post_imp (s' := ⟨19, [(0, some (.pv (.yld l))), (1, some (.pv (.vp ((fun x => ([.vs 4 (eLGExpr x)] : List PV)) c0)))), (3, some (.pv (.int .i64 x12))), (18, some (.pv (.bool (!(!(x11 == sp))))))], [], 0, [], [], (x11 + 1), []⟩) (imps [] ⟨by kernel_rfl, by kernel_rfl, by kernel_rfl, by kernel_rfl, trivial⟩ trivial) ?_
      refine post_next ?_
      rcases ite_some hF with ⟨hb34, hF⟩ | ⟨hb34, hF⟩
      · refine aw_cond_t rfl hb34 ?_
        refine aw_ret ?_
        refine post_block_ret ?_
        iterate 2 (refine post_then_ret ?_)
        refine post_lp_ret ?_
        obtain rfl := Option.some.inj hF
        have hF := elim_stop hK39
        exact post_it (it_len hF) rfl (.inl rfl)
      refine aw_cond_f rfl hb34 ?_
      refine aw_skip ?_
      refine post_block_normal ?_
      refine post_next ?_
      refine aw_region ?_
      refine rmv ?_
      refine rgp (op_int (k := .i64) (m := x12) (n := 1) rfl rfl rfl rfl rfl rfl) ?_
      refine ras ?_
      refine reg_nil ?_
      refine post_round ?_
      exact rnd_back (ih ((x11 + 1), w_i64 (x12 - 1)) hF) (imps [] ⟨by kernel_rfl, by kernel_rfl, by kernel_rfl, trivial⟩ trivial)
    refine aw_cond_f rfl hb25 ?_
    refine aw_exit ?_
    iterate 2 (refine post_then_exit ?_)
    obtain rfl := Option.some.inj hF
    exact post_lp_break _ ⟨_, rfl, rfl⟩ (imps [] trivial trivial)
  rintro _ ⟨x37, rfl, rfl⟩
  have hF := elim_next hK39
  clear hK39
  exact post_it (it_len hF) rfl (.inr rfl)

theorem expr_all_1_it {rows : List (GExpr)} {sp : Nat} {c0 : GExpr} (hF : expr_all_1 rows sp c0 = some (min (sp + 1) rows.length)) : It globs_Tryd Tryd.prog 85 1 [.vp (eGExpr c0)] none [] (rows.map (fun z : GExpr => ([.agg (eGExpr z)] : List PV))) sp := by
  unfold expr_all_1 at hF
  refine it_of_body (n := 38) Tryd.func85 rfl rfl rfl ?_
  intro l c hcx
  refine aw_seq ?_
  refine aw_region ?_
  refine rgp (op_load_vp_agg (ps := eGExpr c0) rfl rfl rfl rfl Tryd_agg_45 rfl rfl) ?_
  refine rgp (op_litOwnR 0 rfl (rows := List.map eGExpr ([c0] : List GExpr)) (rows' := eLGExpr ([c0] : List GExpr)) (zs := (eGExpr zGExpr)) rfl rfl Tryd_slc_43 Tryd_zer_45 (by exact ⟨rfl, rfl, rfl, trivial, trivial⟩) rfl rfl rfl rfl rfl rfl (eLGExpr_map _) rfl rfl) ?_
  refine rgp (op_alloc 1 rfl (ps := [.nils]) rfl Tryd_zer_43 (by exact ⟨rfl, trivial⟩) rfl rfl) ?_
  refine reg_imp (imp_nil_box 1 0 43 45 4 2 rfl rfl rfl) ?_
  refine rgp (op_store_lp (n := 1) rfl rfl rfl rfl rfl (or_one Tryd_one_43) (by rw [Tryd_one_43]; rfl) rfl rfl rfl) ?_
  refine reg_nil ?_
  refine post_imp (s' := ⟨38, [(0, some (.pv (.yld l))), (3, some (.lp 0 0))], [(0, some (.box 43 [.ls 1])), (1, some (.row 45 4 (eLGExpr [c0])))], 2, [], [], 0, []⟩) (imps [1, 0] ⟨by kernel_rfl, by kernel_rfl, trivial⟩ ⟨by kernel_rfl, by kernel_rfl, trivial⟩) ?_
  refine post_next ?_
  obtain ⟨lr149, hF, hK150⟩ := bind_some hF
  refine aw_for (mGExpr c0 + 2) (fun s1 => ∃ q, lr149 = .next q ∧ s1 = ⟨38, [], [], 0, [], [], q, []⟩) ?_ ?_
  · refine rnd_loop (α := Nat × (List GExpr)) (fun q => ⟨38, [(0, some (.pv (.yld l))), (3, some (.lp 0 0))], [(0, some (.box 43 [.ls 1])), (1, some (.row 45 4 (eLGExpr q.2)))], 2, [], [], q.1, []⟩) (fun k q => expr_all_1_L1 sp rows k q.1 q.2 = some lr149) (0, [c0]) (imps [0, 1] ⟨by kernel_rfl, by kernel_rfl, trivial⟩ ⟨by kernel_rfl, by kernel_rfl, trivial⟩) hF (fun q h => by cases h) ?_
    clear hF
    rintro k ⟨x48, x49⟩ hF ih
    refine rnd_succ ?_
    iterate 2 (refine aw_seq ?_)
    refine aw_region ?_
    refine rgp (op_load_lp (v := .ls 1) rfl rfl rfl rfl Tryd_one_43 rfl rfl) ?_
    refine rgp (op_len_ls (n := x49.length) rfl rfl rfl (lenR eLGExpr_map) Tryd_slc_43 rfl rfl) ?_
    refine rgp (op_int (k := .i64) (m := (x49.length : Int)) (n := 0) rfl rfl rfl rfl rfl rfl) ?_
    refine reg_nil ?_
    refine post_imp (s' := ⟨38, [(0, some (.pv (.yld l))), (3, some (.lp 0 0)), (11, some (.pv (.bool (decide ((x49.length : Int) > 0)))))], [(0, some (.box 43 [.ls 1])), (1, some (.row 45 4 (eLGExpr x49)))], 2, [], [], x48, []⟩) (imps [0, 1] ⟨by kernel_rfl, by kernel_rfl, by kernel_rfl, trivial⟩ ⟨by kernel_rfl, by kernel_rfl, trivial⟩) ?_
    refine post_next ?_
    rcases ite_some hF with ⟨hb99, hF⟩ | ⟨hb99, hF⟩
    · refine aw_cond_t rfl hb99 ?_
      refine aw_skip ?_
      refine post_next ?_
      refine aw_block ?_
      refine aw_seq ?_
      refine aw_region ?_
      iterate 2 (refine rgp (op_load_lp (v := .ls 1) rfl rfl rfl rfl Tryd_one_43 rfl rfl) ?_)
      refine rgp (op_len_ls (n := x49.length) rfl rfl rfl (lenR eLGExpr_map) Tryd_slc_43 rfl rfl) ?_
      refine rgp (op_int (k := .i64) (m := (x49.length : Int)) (n := 1) rfl rfl rfl rfl rfl rfl) ?_
      obtain ⟨y102, h103, hF⟩ := bind_some hF
      refine rgp (op_index_ls (k := .i64) rfl rfl rfl rfl (idxR eLGExpr_map h103) Tryd_slc_43 rfl rfl) ?_
      refine rgp (op_load_le_agg (ps := eGExpr y102) rfl rfl rfl (getR eLGExpr_map h103) rfl rfl Tryd_agg_45 rfl rfl) ?_
      refine rgp (op_alloc 2 rfl (ps := (eGExpr zGExpr)) rfl Tryd_zer_45 (by exact ⟨rfl, rfl, rfl, trivial, trivial⟩) rfl rfl) ?_
      refine rgp (op_store_lp (n := 4) rfl rfl rfl rfl rfl (or_agg Tryd_agg_45) (by rw [Tryd_non_45]; rfl) rfl rfl rfl) ?_
      refine reg_nil ?_
      refine post_imp (s' := ⟨38, [(0, some (.pv (.yld l))), (3, some (.lp 0 0)), (4, some (.lp 2 0))], [(0, some (.box 43 [.ls 1])), (1, some (.row 45 4 (eLGExpr x49))), (2, some (.box 45 (bxv (eGExpr y102))))], 3, [], [], x48, []⟩) (imps [0, 1, 2] ⟨by kernel_rfl, by kernel_rfl, by kernel_rfl, trivial⟩ ⟨by kernel_rfl, by kernel_rfl, by kernel_rfl, trivial⟩) ?_
      refine post_next ?_
      refine aw_seq ?_
      refine aw_region ?_
      iterate 2 (refine rgp (op_load_lp (v := .ls 1) rfl rfl rfl rfl Tryd_one_43 rfl rfl) ?_)
      refine rgp (op_len_ls (n := x49.length) rfl rfl rfl (lenR eLGExpr_map) Tryd_slc_43 rfl rfl) ?_
      refine rgp (op_int (k := .i64) (m := (x49.length : Int)) (n := 1) rfl rfl rfl rfl rfl rfl) ?_
      obtain ⟨y106, h107, hF⟩ := bind_some hF
      refine rgp (op_slice_own 3 rfl rfl rfl rfl rfl Tryd_slc_43 (cutR0 eLGExpr_map h107) rfl rfl) ?_
      refine rgp (op_store_lp (n := 1) rfl rfl rfl rfl rfl (or_one Tryd_one_43) (by rw [Tryd_one_43]; rfl) rfl rfl rfl) ?_
      refine reg_nil ?_
      refine post_imp (s' := ⟨38, [(0, some (.pv (.yld l))), (3, some (.lp 0 0)), (4, some (.lp 2 0))], [(0, some (.box 43 [.ls 1])), (1, some (.row 45 4 (eLGExpr y106))), (2, some (.box 45 (bxv (eGExpr y102))))], 3, [], [], x48, []⟩) (imps [0, 3, 2] ⟨by kernel_rfl, by kernel_rfl, by kernel_rfl, trivial⟩ ⟨by kernel_rfl, by kernel_rfl, by kernel_rfl, trivial⟩) ?_
      refine post_next ?_
      iterate 2 (refine aw_seq ?_)
      refine aw_region ?_
      refine rmv ?_
      refine rgp (op_load_lp_agg (ps := eGExpr y102) rfl rfl rfl rfl rfl rfl Tryd_agg_45 rfl rfl) ?_
      obtain ⟨u110, h111, hF⟩ := bind_some hF
      refine rgp (op_yield (row := (fun z : GExpr => ([.agg (eGExpr z)] : List PV)) y102) hcx rfl rfl rfl rfl (yck_row (fun z : GExpr => ([.agg (eGExpr z)] : List PV)) h111) (yck_spec h111).2 rfl rfl) ?_
      refine rgp (op_not rfl rfl rfl rfl) ?_
      refine reg_nil ?_
      refine post_imp (s' := ⟨38, [(0, some (.pv (.yld l))), (3, some (.lp 0 0)), (4, some (.lp 2 0)), (26, some (.pv (.bool (!(!(x48 == sp))))))], [(0, some (.box 43 [.ls 1])), (1, some (.row 45 4 (eLGExpr y106))), (2, some (.box 45 (bxv (eGExpr y102))))], 3, [], [], (x48 + 1), []⟩) (imps [0, 1, 2] ⟨by kernel_rfl, by kernel_rfl, by kernel_rfl, by kernel_rfl, trivial⟩ ⟨by kernel_rfl, by kernel_rfl, by kernel_rfl, trivial⟩) ?_
      refine post_next ?_
      rcases ite_some hF with ⟨hb112, hF⟩ | ⟨hb112, hF⟩
      · refine aw_cond_t rfl hb112 ?_
        refine aw_ret ?_
        refine post_then_ret ?_
        refine post_block_ret ?_
        refine post_then_ret ?_
        refine post_lp_ret ?_
        obtain rfl := Option.some.inj hF
        have hF := elim_stop hK150
        exact post_it (it_len hF) rfl (.inl rfl)
      refine aw_cond_f rfl hb112 ?_
      refine aw_skip ?_
      refine post_next ?_
      refine aw_seq ?_
      refine aw_region ?_
      refine rgp (op_field_lp rfl rfl Tryd_fld_45_3 rfl rfl) ?_
      refine rgp (op_load_lp (v := .pv (.vs 4 (eLGExpr y102.fKids))) rfl rfl rfl rfl Tryd_one_43 rfl rfl) ?_
      obtain ⟨y115, h116, hF⟩ := bind_some hF
      refine rgp (op_call 3 rfl (caps := []) (args := [.vs 4 (eLGExpr y102.fKids)]) (rs := [.p (.fn 103 [.vp ((fun x => ([.vs 4 (eLGExpr x)] : List PV)) y115)])]) rfl rfl rfl Tryd_cal_86 (slices_Backward_api_Expr_ok h116) rfl rfl rfl) ?_
      refine reg_nil ?_
      refine post_imp (s' := ⟨38, [(0, some (.pv (.yld l))), (3, some (.lp 0 0)), (29, some (.pv (.fn 103 [.vp ((fun x => ([.vs 4 (eLGExpr x)] : List PV)) y115)])))], [(0, some (.box 43 [.ls 1])), (1, some (.row 45 4 (eLGExpr y106)))], 2, [], [], (x48 + 1), []⟩) (imps [0, 1] ⟨by kernel_rfl, by kernel_rfl, by kernel_rfl, trivial⟩ ⟨by kernel_rfl, by kernel_rfl, trivial⟩) ?_
      refine post_next ?_
      refine aw_block ?_
      refine aw_imp (s' := ⟨38, [(0, some (.pv (.yld l))), (3, some (.lp 0 0)), (29, some (.pv (.fn 103 [.vp ((fun x => ([.vs 4 (eLGExpr x)] : List PV)) y115)])))], [(0, some (.box 43 [.ls 1])), (1, some (.row 45 4 (eLGExpr y106)))], 2, [], [], (x48 + 1), []⟩) (imps [0, 1] ⟨by kernel_rfl, by kernel_rfl, by kernel_rfl, trivial⟩ ⟨by kernel_rfl, by kernel_rfl, trivial⟩) ?_
      obtain ⟨rows138, hR139, hF⟩ := bind_some hF
      obtain ⟨lr140, hL141, hF⟩ := bind_some hF
      refine aw_rangeFunc (X := (Int × GExpr)) (Q := (List GExpr)) (E := Unit) (pre := [.vp ((fun x => ([.vs 4 (eLGExpr x)] : List PV)) y115)]) (bx := none) (post := []) (kt := [0, 3]) (psl := [30, 31]) none (fun z : Int × GExpr => ([.int .i64 z.1, .agg (eGExpr z.2)] : List PV)) rows138 expr_all_1_B2 y106 lr140 hL141 (fun q => ⟨38, [(0, some (.pv (.yld l))), (3, some (.lp 0 0))], [(0, some (.box 43 [.ls 1])), (1, some (.row 45 4 (eLGExpr q)))], 2, [], [], (x48 + 1), []⟩) (fun _ => (.ret, ⟨38, [], [], 0, [], [], 0, []⟩)) ⟨rfl, rfl⟩ Tryd_cal_103 (fun sp => slices_Backward_api_Expr_1_it (itR_back_api_Expr_ok hR139 sp)) (fun _ => rfl) rfl rfl (by decide) rfl (fun x q => ⟨38, [(0, some (.pv (.yld l))), (3, some (.lp 0 0)), (6, some (.lp 2 0)), (30, some (.pv (.int .i64 x.1))), (31, some (.pv (.agg (eGExpr x.2))))], [(0, some (.box 43 [.ls 1])), (1, some (.row 45 4 (eLGExpr q))), (2, some (.box 45 (bxv (eGExpr x.2))))], 3, [], [], (x48 + 1), [0, 3]⟩) (fun q => ⟨rfl, rfl, rfl, rfl⟩) (fun z => ⟨rfl, rfl, rfl, rfl⟩) (fun z => rfl) rfl rfl ⟨rfl, rfl, trivial⟩ ⟨⟨rfl, rfl, rfl⟩, ⟨rfl, rfl, rfl⟩, trivial⟩ ?_ ?_ ?_ ?_
      · rintro l142 c143 ⟨x131, x132⟩ x123 hc144
        refine aw_region ?_
        refine rgp (op_alloc 2 rfl (ps := (eGExpr zGExpr)) rfl Tryd_zer_45 (by exact ⟨rfl, rfl, rfl, trivial, trivial⟩) rfl rfl) ?_
        refine rgp (op_store_lp (n := 4) rfl rfl rfl rfl rfl (or_agg Tryd_agg_45) (by rw [Tryd_non_45]; rfl) rfl rfl rfl) ?_
        refine reg_nil ?_
        exact post_cut1 (imps [0, 1, 2] ⟨by kernel_rfl, by kernel_rfl, by kernel_rfl, by kernel_rfl, by kernel_rfl, trivial⟩ ⟨by kernel_rfl, by kernel_rfl, by kernel_rfl, trivial⟩)
      · rintro l142 c143 ⟨x131, x132⟩ x123 r145 hc144 hF
        rw [expr_all_1_B2] at hF
        have hcx := hcx.round hc144
        refine aw_block ?_
        refine aw_imp (imp_names 1) ?_
        refine dr_start ⟨_, _, _⟩ rfl ?_
        refine dr_cons { need := [(3, .lp 0 0)], hneed := [(0, .box 43 [.ls 1])], dst := some 32, val := some (.ls 1) } (fun m h => step_on (guard_no rfl) (op_load_lp (v := .ls 1) rfl h.1.1 h.2.1.1 rfl Tryd_one_43 rfl rfl) rfl) ⟨⟨rfl, trivial⟩, ⟨rfl, trivial⟩, trivial⟩ ?_
        refine dr_cons { need := [(6, .lp 2 0)], hneed := [(2, .box 45 (bxv (eGExpr x132)))], dst := some 33, val := some (.pv (.agg (eGExpr x132))) } (fun m h => step_on (guard_no rfl) (op_load_lp_agg (ps := eGExpr x132) rfl h.1.1 h.2.1.1 rfl rfl rfl Tryd_agg_45 rfl rfl) rfl) ⟨⟨rfl, trivial⟩, ⟨rfl, trivial⟩, trivial⟩ ?_
        refine dr_cons { need := [(32, .ls 1)], hneed := [(1, .row 45 4 (eLGExpr x123))], dst := some 34, val := some (.pv (.int .i64 (x123.length : Int))) } (fun m h => step_on (guard_no rfl) (op_len_ls (n := x123.length) rfl h.1.1 h.2.1.1 (lenR eLGExpr_map) Tryd_slc_43 rfl rfl) rfl) ⟨⟨rfl, trivial⟩, ⟨rfl, trivial⟩, trivial⟩ ?_
        refine dr_cons { dst := some 35, val := some (.pv (.vs 4 (eLGExpr ([zGExpr] : List GExpr)))) } (fun m h => step_on (guard_no rfl) (op_litZ (zs := (eGExpr zGExpr)) (rows := eLGExpr ([zGExpr] : List GExpr)) rfl Tryd_slc_43 Tryd_zer_45 (by exact ⟨rfl, rfl, rfl, trivial, trivial⟩) (by exact ⟨rfl, rfl, rfl, trivial, trivial⟩) rfl rfl rfl rfl rfl rfl rfl) rfl) ⟨trivial, trivial, trivial⟩ ?_
        obtain ⟨u133, h134, hF⟩ := bind_some hF
        refine dr_cons { need := [(32, .ls 1), (35, .pv (.vs 4 (eLGExpr ([zGExpr] : List GExpr))))], hneed := [(1, .row 45 4 (eLGExpr x123))], names := [3], dst := some 36, val := some (.ls 3), upd := [(3, some (.row 45 4 (eLGExpr (x123 ++ ([zGExpr] : List GExpr))))), (1, none)] } (fun m h => step_on (guard_no rfl) (op_append 3 (fresh_free h.2.2.1) rfl h.1.1 h.2.1.1 h.1.2.1 Tryd_slc_43 Tryd_elm_45 Tryd_zer_45 rfl rfl rfl (roomR eLGExpr_map h134) (appR eLGExpr_map _ _) rfl rfl) rfl) ⟨⟨rfl, rfl, trivial⟩, ⟨rfl, trivial⟩, ⟨rfl, trivial⟩⟩ ?_
        obtain ⟨y135, h136, hF⟩ := bind_some hF
        refine dr_cons { need := [(36, .ls 3), (34, .pv (.int .i64 (x123.length : Int)))], hneed := [(3, .row 45 4 (eLGExpr (x123 ++ ([zGExpr] : List GExpr))))], dst := some 37, val := some (.le 3 4 ((x123.length : Int) : Int).toNat 0) } (fun m h => step_on (guard_no rfl) (op_index_ls (k := .i64) rfl h.1.1 h.1.2.1 h.2.1.1 (idxR eLGExpr_map h136) Tryd_slc_43 rfl rfl) rfl) ⟨⟨rfl, rfl, trivial⟩, ⟨rfl, trivial⟩, trivial⟩ ?_
        refine dr_cons { need := [(37, .le 3 4 ((x123.length : Int) : Int).toNat 0), (33, .pv (.agg (eGExpr x132)))], hneed := [(3, .row 45 4 (eLGExpr (x123 ++ ([zGExpr] : List GExpr))))], upd := [(3, some (.row 45 4 (eLGExpr ((x123 ++ ([zGExpr] : List GExpr)).set ((x123.length : Int) : Int).toNat x132))))] } (fun m h => step_on (guard_no rfl) (op_store_le (n := 4) rfl h.1.1 h.1.2.1 rfl h.2.1.1 (getR eLGExpr_map h136) (or_agg Tryd_agg_45) (by rw [Tryd_non_45]; rfl) rfl (setR eLGExpr_map (x123 ++ ([zGExpr] : List GExpr)) _ x132) rfl rfl) rfl) ⟨⟨rfl, rfl, trivial⟩, ⟨rfl, trivial⟩, trivial⟩ ?_
        refine dr_cons { need := [(3, .lp 0 0), (36, .ls 3)], hneed := [(0, .box 43 [.ls 1])], upd := [(0, some (.box 43 [.ls 3]))] } (fun m h => step_on (guard_no rfl) (op_store_lp (n := 1) rfl h.1.1 h.1.2.1 rfl h.2.1.1 (or_one Tryd_one_43) (by rw [Tryd_one_43]; rfl) rfl rfl rfl) rfl) ⟨⟨rfl, rfl, trivial⟩, ⟨rfl, trivial⟩, trivial⟩ ?_
        refine dr_nil Tryd_mixed rfl (by kernel_rfl) ?_
        refine post_imp (s' := ⟨38, [(0, some (.pv (.yld l))), (3, some (.lp 0 0))], [(0, some (.box 43 [.ls 1])), (1, some (.row 45 4 (eLGExpr ((x123 ++ ([zGExpr] : List GExpr)).set ((x123.length : Int) : Int).toNat x132))))], 2, [], [], (x48 + 1), [0, 3]⟩) (imps [0, 3] ⟨by kernel_rfl, by kernel_rfl, trivial⟩ ⟨by kernel_rfl, by kernel_rfl, trivial⟩) ?_
        refine post_block_normal ?_
        obtain rfl := Option.some.inj hF
        exact post_rnd ((x123 ++ ([zGExpr] : List GExpr)).set ((x123.length : Int) : Int).toNat x132) rfl (imps [0, 1] ⟨by kernel_rfl, by kernel_rfl, trivial⟩ ⟨by kernel_rfl, by kernel_rfl, trivial⟩)
      · rintro x123 rfl
        have hF := elim_next hF
        iterate 2 (refine post_block_normal ?_)
        refine post_round ?_
        exact rnd_back (ih ((x48 + 1), x123) hF) (imps [0, 1] ⟨by kernel_rfl, by kernel_rfl, trivial⟩ ⟨by kernel_rfl, by kernel_rfl, trivial⟩)
      rintro ⟨⟩ rfl
      have hF := elim_stop hF
      cases hF
    refine aw_cond_f rfl hb99 ?_
    refine aw_exit ?_
    iterate 2 (refine post_then_exit ?_)
    obtain rfl := Option.some.inj hF
    exact post_lp_break _ ⟨_, rfl, rfl⟩ (imps [] trivial trivial)
  rintro _ ⟨x148, rfl, rfl⟩
  have hF := elim_next hK150
  clear hK150
  exact post_it (it_len hF) rfl (.inr rfl)

theorem expr_kids_ok {a0 : Int} {r : Int} (hF : expr_kids a0 = some r) : Abs.Fn globs_Tryd Tryd.prog 87 [.int .i64 a0] [.p (.int .i64 r)] := by
  unfold expr_kids at hF
  refine fn_of_body (n := 21) Tryd.func87 rfl rfl rfl ?_
  intro w O
  refine aw_seq ?_
  refine aw_region ?_
  refine ras ?_
  refine reg_nil ?_
  refine post_imp (s' := ⟨21, [(0, some (.pv (.int .i64 a0)))], [], 0, [], [], 0, []⟩) (imps [] ⟨by kernel_rfl, trivial⟩ trivial) ?_
  refine post_next ?_
  iterate 2 (refine aw_seq ?_)
  refine aw_region ?_
  refine rmv ?_
  refine reg_nil ?_
  refine post_imp (s' := ⟨21, [(3, some (.pv (.int .i64 a0)))], [], 0, [], [], 0, []⟩) (imps [] ⟨by kernel_rfl, trivial⟩ trivial) ?_
  refine post_next ?_
  refine aw_block ?_
  refine aw_seq ?_
  obtain ⟨x5, hF, hK7⟩ := bind_some hF
  refine aw_cut (fun s1 => s1 = ⟨21, [(3, some (.pv (.int .i64 a0))), (4, some (.pv (.bool x5)))], [], 0, [], [], 0, []⟩) ?_ ?_
  · refine aw_seq ?_
    refine aw_region ?_
    refine rgp (op_int (k := .i64) (m := a0) (n := 1) rfl rfl rfl rfl rfl rfl) ?_
    refine ras ?_
    refine reg_nil ?_
    refine post_imp (s' := ⟨21, [(3, some (.pv (.int .i64 a0))), (4, some (.pv (.bool (a0 == 1))))], [], 0, [], [], 0, []⟩) (imps [] ⟨by kernel_rfl, by kernel_rfl, trivial⟩ trivial) ?_
    refine post_next ?_
    rcases ite_some hF with ⟨hb1, hF⟩ | ⟨hb1, hF⟩
    · refine aw_cond_t rfl hb1 ?_
      refine aw_skip ?_
      cases hF
      exact post_cut _ rfl (imps [] ⟨by kernel_rfl, by kernel_rfl, trivial⟩ trivial)
    refine aw_cond_f rfl hb1 ?_
    refine aw_seq ?_
    refine aw_region ?_
    refine rgp (op_int (k := .i64) (m := a0) (n := 2) rfl rfl rfl rfl rfl rfl) ?_
    refine ras ?_
    refine reg_nil ?_
    refine post_imp (s' := ⟨21, [(3, some (.pv (.int .i64 a0))), (4, some (.pv (.bool (a0 == 2))))], [], 0, [], [], 0, []⟩) (imps [] ⟨by kernel_rfl, by kernel_rfl, trivial⟩ trivial) ?_
    refine post_next ?_
    rcases ite_some hF with ⟨hb2, hF⟩ | ⟨hb2, hF⟩
    · refine aw_cond_t rfl hb2 ?_
      refine aw_skip ?_
      cases hF
      exact post_cut _ rfl (imps [] ⟨by kernel_rfl, by kernel_rfl, trivial⟩ trivial)
    refine aw_cond_f rfl hb2 ?_
    refine aw_seq ?_
    refine aw_region ?_
    refine rgp (op_int (k := .i64) (m := a0) (n := 3) rfl rfl rfl rfl rfl rfl) ?_
    refine ras ?_
    refine reg_nil ?_
    refine post_imp (s' := ⟨21, [(3, some (.pv (.int .i64 a0))), (4, some (.pv (.bool (a0 == 3))))], [], 0, [], [], 0, []⟩) (imps [] ⟨by kernel_rfl, by kernel_rfl, trivial⟩ trivial) ?_
    refine post_next ?_
    rcases ite_some hF with ⟨hb3, hF⟩ | ⟨hb3, hF⟩
    · refine aw_cond_t rfl hb3 ?_
      refine aw_skip ?_
      cases hF
      exact post_cut _ rfl (imps [] ⟨by kernel_rfl, by kernel_rfl, trivial⟩ trivial)
    refine aw_cond_f rfl hb3 ?_
    refine aw_seq ?_
    refine aw_region ?_
    refine rgp (op_int (k := .i64) (m := a0) (n := 4) rfl rfl rfl rfl rfl rfl) ?_
    refine ras ?_
    refine reg_nil ?_
    refine post_imp (s' := ⟨21, [(3, some (.pv (.int .i64 a0))), (4, some (.pv (.bool (a0 == 4))))], [], 0, [], [], 0, []⟩) (imps [] ⟨by kernel_rfl, by kernel_rfl, trivial⟩ trivial) ?_
    refine post_next ?_
    rcases ite_some hF with ⟨hb4, hF⟩ | ⟨hb4, hF⟩
    · refine aw_cond_t rfl hb4 ?_
      refine aw_skip ?_
      cases hF
      exact post_cut _ rfl (imps [] ⟨by kernel_rfl, by kernel_rfl, trivial⟩ trivial)
    refine aw_cond_f rfl hb4 ?_
    refine aw_region ?_
    refine rgp (op_int (k := .i64) (m := a0) (n := 5) rfl rfl rfl rfl rfl rfl) ?_
    refine ras ?_
    refine reg_nil ?_
    cases hF
    exact post_cut _ rfl (imps [] ⟨by kernel_rfl, by kernel_rfl, trivial⟩ trivial)
  rintro _ rfl
  have hF := hK7
  clear hK7
  refine post_next ?_
  rcases ite_some hF with ⟨hb8, hF⟩ | ⟨hb8, hF⟩
  · refine aw_cond_t rfl hb8 ?_
    refine aw_seq ?_
    refine aw_region ?_
    refine ras ?_
    refine reg_nil ?_
    refine post_imp (s' := ⟨21, [(2, some (.pv (.int .i64 0)))], [], 0, [], [], 0, []⟩) (imps [] ⟨by kernel_rfl, trivial⟩ trivial) ?_
    refine post_next ?_
    refine aw_ret ?_
    refine post_block_ret ?_
    refine post_then_ret ?_
    obtain rfl := Option.some.inj hF
    exact prt
  refine aw_cond_f rfl hb8 ?_
  refine aw_seq ?_
  obtain ⟨x10, hF, hK12⟩ := bind_some hF
  refine aw_cut (fun s1 => s1 = ⟨21, [(3, some (.pv (.int .i64 a0))), (10, some (.pv (.bool x10)))], [], 0, [], [], 0, []⟩) ?_ ?_
  · refine aw_seq ?_
    refine aw_region ?_
    refine rgp (op_int (k := .i64) (m := a0) (n := 12) rfl rfl rfl rfl rfl rfl) ?_
    refine ras ?_
    refine reg_nil ?_
    refine post_imp (s' := ⟨21, [(3, some (.pv (.int .i64 a0))), (10, some (.pv (.bool (a0 == 12))))], [], 0, [], [], 0, []⟩) (imps [] ⟨by kernel_rfl, by kernel_rfl, trivial⟩ trivial) ?_
    refine post_next ?_
    rcases ite_some hF with ⟨hb9, hF⟩ | ⟨hb9, hF⟩
    · refine aw_cond_t rfl hb9 ?_
      refine aw_skip ?_
      cases hF
      exact post_cut _ rfl (imps [] ⟨by kernel_rfl, by kernel_rfl, trivial⟩ trivial)
    refine aw_cond_f rfl hb9 ?_
    refine aw_region ?_
    refine rgp (op_int (k := .i64) (m := a0) (n := 13) rfl rfl rfl rfl rfl rfl) ?_
    refine ras ?_
    refine reg_nil ?_
    cases hF
    exact post_cut _ rfl (imps [] ⟨by kernel_rfl, by kernel_rfl, trivial⟩ trivial)
  rintro _ rfl
  have hF := hK12
  clear hK12
  refine post_next ?_
  rcases ite_some hF with ⟨hb13, hF⟩ | ⟨hb13, hF⟩
  · refine aw_cond_t rfl hb13 ?_
    refine aw_seq ?_
    refine aw_region ?_
    refine ras ?_
    refine reg_nil ?_
    refine post_imp (s' := ⟨21, [(2, some (.pv (.int .i64 1)))], [], 0, [], [], 0, []⟩) (imps [] ⟨by kernel_rfl, trivial⟩ trivial) ?_
    refine post_next ?_
    refine aw_ret ?_
    refine post_block_ret ?_
    refine post_then_ret ?_
    obtain rfl := Option.some.inj hF
    exact prt
  refine aw_cond_f rfl hb13 ?_
  refine aw_seq ?_
  obtain ⟨x20, hF, hK22⟩ := bind_some hF
  refine aw_cut (fun s1 => s1 = ⟨21, [(13, some (.pv (.bool x20)))], [], 0, [], [], 0, []⟩) ?_ ?_
  · refine aw_seq ?_
    refine aw_region ?_
    refine rgp (op_int (k := .i64) (m := a0) (n := 6) rfl rfl rfl rfl rfl rfl) ?_
    refine ras ?_
    refine reg_nil ?_
    refine post_imp (s' := ⟨21, [(3, some (.pv (.int .i64 a0))), (13, some (.pv (.bool (a0 == 6))))], [], 0, [], [], 0, []⟩) (imps [] ⟨by kernel_rfl, by kernel_rfl, trivial⟩ trivial) ?_
    refine post_next ?_
    rcases ite_some hF with ⟨hb14, hF⟩ | ⟨hb14, hF⟩
    · refine aw_cond_t rfl hb14 ?_
      refine aw_skip ?_
      cases hF
      exact post_cut _ rfl (imps [] ⟨by kernel_rfl, trivial⟩ trivial)
    refine aw_cond_f rfl hb14 ?_
    refine aw_seq ?_
    refine aw_region ?_
    refine rgp (op_int (k := .i64) (m := a0) (n := 7) rfl rfl rfl rfl rfl rfl) ?_
    refine ras ?_
    refine reg_nil ?_
    refine post_imp (s' := ⟨21, [(3, some (.pv (.int .i64 a0))), (13, some (.pv (.bool (a0 == 7))))], [], 0, [], [], 0, []⟩) (imps [] ⟨by kernel_rfl, by kernel_rfl, trivial⟩ trivial) ?_
    refine post_next ?_
    rcases ite_some hF with ⟨hb15, hF⟩ | ⟨hb15, hF⟩
    · refine aw_cond_t rfl hb15 ?_
      refine aw_skip ?_
      cases hF
      exact post_cut _ rfl (imps [] ⟨by kernel_rfl, trivial⟩ trivial)
    refine aw_cond_f rfl hb15 ?_
    refine aw_seq ?_
    refine aw_region ?_
    refine rgp (op_int (k := .i64) (m := a0) (n := 8) rfl rfl rfl rfl rfl rfl) ?_
    refine ras ?_
    refine reg_nil ?_
    refine post_imp (s' := ⟨21, [(3, some (.pv (.int .i64 a0))), (13, some (.pv (.bool (a0 == 8))))], [], 0, [], [], 0, []⟩) (imps [] ⟨by kernel_rfl, by kernel_rfl, trivial⟩ trivial) ?_
    refine post_next ?_
    rcases ite_some hF with ⟨hb16, hF⟩ | ⟨hb16, hF⟩
    · refine aw_cond_t rfl hb16 ?_
      refine aw_skip ?_
      cases hF
      exact post_cut _ rfl (imps [] ⟨by kernel_rfl, trivial⟩ trivial)
    refine aw_cond_f rfl hb16 ?_
    refine aw_seq ?_
    refine aw_region ?_
    refine rgp (op_int (k := .i64) (m := a0) (n := 9) rfl rfl rfl rfl rfl rfl) ?_
    refine ras ?_
    refine reg_nil ?_
    refine post_imp (s' := ⟨21, [(3, some (.pv (.int .i64 a0))), (13, some (.pv (.bool (a0 == 9))))], [], 0, [], [], 0, []⟩) (imps [] ⟨by kernel_rfl, by kernel_rfl, trivial⟩ trivial) ?_
    refine post_next ?_
    rcases ite_some hF with ⟨hb17, hF⟩ | ⟨hb17, hF⟩
    · refine aw_cond_t rfl hb17 ?_
      refine aw_skip ?_
      cases hF
      exact post_cut _ rfl (imps [] ⟨by kernel_rfl, trivial⟩ trivial)
    refine aw_cond_f rfl hb17 ?_
    refine aw_seq ?_
    refine aw_region ?_
    refine rgp (op_int (k := .i64) (m := a0) (n := 10) rfl rfl rfl rfl rfl rfl) ?_
    refine ras ?_
    refine reg_nil ?_
    refine post_imp (s' := ⟨21, [(3, some (.pv (.int .i64 a0))), (13, some (.pv (.bool (a0 == 10))))], [], 0, [], [], 0, []⟩) (imps [] ⟨by kernel_rfl, by kernel_rfl, trivial⟩ trivial) ?_
    refine post_next ?_
    rcases ite_some hF with ⟨hb18, hF⟩ | ⟨hb18, hF⟩
    · refine aw_cond_t rfl hb18 ?_
      refine aw_skip ?_
      cases hF
      exact post_cut _ rfl (imps [] ⟨by kernel_rfl, trivial⟩ trivial)
    refine aw_cond_f rfl hb18 ?_
    refine aw_seq ?_
    refine aw_region ?_
    refine rgp (op_int (k := .i64) (m := a0) (n := 11) rfl rfl rfl rfl rfl rfl) ?_
    refine ras ?_
    refine reg_nil ?_
    refine post_imp (s' := ⟨21, [(3, some (.pv (.int .i64 a0))), (13, some (.pv (.bool (a0 == 11))))], [], 0, [], [], 0, []⟩) (imps [] ⟨by kernel_rfl, by kernel_rfl, trivial⟩ trivial) ?_
    refine post_next ?_
    rcases ite_some hF with ⟨hb19, hF⟩ | ⟨hb19, hF⟩
    · refine aw_cond_t rfl hb19 ?_
      refine aw_skip ?_
      cases hF
      exact post_cut _ rfl (imps [] ⟨by kernel_rfl, trivial⟩ trivial)
    refine aw_cond_f rfl hb19 ?_
    refine aw_region ?_
    refine rgp (op_int (k := .i64) (m := a0) (n := 14) rfl rfl rfl rfl rfl rfl) ?_
    refine ras ?_
    refine reg_nil ?_
    cases hF
    exact post_cut _ rfl (imps [] ⟨by kernel_rfl, trivial⟩ trivial)
  rintro _ rfl
  have hF := hK22
  clear hK22
  refine post_next ?_
  rcases ite_some hF with ⟨hb23, hF⟩ | ⟨hb23, hF⟩
  · refine aw_cond_t rfl hb23 ?_
    refine aw_seq ?_
    refine aw_region ?_
    refine ras ?_
    refine reg_nil ?_
    refine post_imp (s' := ⟨21, [(2, some (.pv (.int .i64 2)))], [], 0, [], [], 0, []⟩) (imps [] ⟨by kernel_rfl, trivial⟩ trivial) ?_
    refine post_next ?_
    refine aw_ret ?_
    refine post_block_ret ?_
    refine post_then_ret ?_
    obtain rfl := Option.some.inj hF
    exact prt
  refine aw_cond_f rfl hb23 ?_
  refine aw_skip ?_
  refine post_block_normal ?_
  refine post_next ?_
  refine aw_seq ?_
  refine aw_region ?_
  refine ras ?_
  refine reg_nil ?_
  refine post_imp (s' := ⟨21, [(2, some (.pv (.int .i64 (-1))))], [], 0, [], [], 0, []⟩) (imps [] ⟨by kernel_rfl, trivial⟩ trivial) ?_
  refine post_next ?_
  refine aw_ret ?_
  obtain rfl := Option.some.inj hF
  exact prt
theorem word_Letter_ok {a0 : Int} {r : Bool} (hF : word_Letter a0 = some r) : Abs.Fn globs_Tryd Tryd.prog 55 [.int .u8 a0] [.p (.bool r)] := by
  unfold word_Letter at hF
  refine fn_of_body (n := 12) Tryd.func55 rfl rfl rfl ?_
  intro w O
  refine aw_seq ?_
  refine aw_region ?_
  refine ras ?_
  refine reg_nil ?_
  refine post_imp (s' := ⟨12, [(0, some (.pv (.int .u8 a0)))], [], 0, [], [], 0, []⟩) (imps [] ⟨by kernel_rfl, trivial⟩ trivial) ?_
  refine post_next ?_
  refine aw_seq ?_
  refine aw_region ?_
  refine rmv ?_
  refine rgp (op_int2 (k := .u8) (m := a0) (n := 32) rfl rfl rfl rfl rfl rfl) ?_
  refine ras ?_
  refine reg_nil ?_
  refine post_imp (s' := ⟨12, [(3, some (.pv (.int .u8 (orI .u8 a0 32))))], [], 0, [], [], 0, []⟩) (imps [] ⟨by kernel_rfl, trivial⟩ trivial) ?_
  refine post_next ?_
  refine aw_seq ?_
  refine aw_region ?_
  refine rmv ?_
  refine rgp (op_int (k := .u8) (m := orI .u8 a0 32) (n := 97) rfl rfl rfl rfl rfl rfl) ?_
  refine rmv ?_
  rcases ite_some hF with ⟨hb1, hF⟩ | ⟨hb1, hF⟩
  · refine rgn hb1 (op_move rfl rfl rfl rfl) ?_
    refine rgn hb1 (op_int (k := .u8) (m := orI .u8 a0 32) (n := 122) rfl rfl rfl rfl rfl rfl) ?_
    refine rpt hb1 ?_
    refine ras ?_
    refine reg_nil ?_
    refine post_imp (s' := ⟨12, [(2, some (.pv (.bool (decide ((orI .u8 a0 32) ≤ 122)))))], [], 0, [], [], 0, []⟩) (imps [] ⟨by kernel_rfl, trivial⟩ trivial) ?_
    refine post_next ?_
    refine aw_ret ?_
    obtain rfl := Option.some.inj hF
    exact prt
  iterate 2 (refine rgo_f hb1 ?_)
  refine rpf hb1 ?_
  refine ras ?_
  refine reg_nil ?_
  refine post_imp (s' := ⟨12, [(2, some (.pv (.bool false)))], [], 0, [], [], 0, []⟩) (imps [] ⟨by kernel_rfl, trivial⟩ trivial) ?_
  refine post_next ?_
  refine aw_ret ?_
  obtain rfl := Option.some.inj hF
  exact prt
theorem word_Digit_ok {a0 : Int} {r : Bool} (hF : word_Digit a0 = some r) : Abs.Fn globs_Tryd Tryd.prog 56 [.int .u8 a0] [.p (.bool r)] := by
  unfold word_Digit at hF
  refine fn_of_body (n := 6) Tryd.func56 rfl rfl rfl ?_
  intro w O
  refine aw_seq ?_
  refine aw_region ?_
  refine ras ?_
  refine reg_nil ?_
  refine post_imp (s' := ⟨6, [(0, some (.pv (.int .u8 a0)))], [], 0, [], [], 0, []⟩) (imps [] ⟨by kernel_rfl, trivial⟩ trivial) ?_
  refine post_next ?_
  refine aw_seq ?_
  refine aw_region ?_
  refine rmv ?_
  refine rgp (op_int (k := .u8) (m := a0) (n := 48) rfl rfl rfl rfl rfl rfl) ?_
  refine rgp (op_int (k := .u8) (m := w_u8 (a0 - 48)) (n := 10) rfl rfl rfl rfl rfl rfl) ?_
  refine ras ?_
  refine reg_nil ?_
  refine post_imp (s' := ⟨6, [(2, some (.pv (.bool (decide ((w_u8 (a0 - 48)) < 10)))))], [], 0, [], [], 0, []⟩) (imps [] ⟨by kernel_rfl, trivial⟩ trivial) ?_
  refine post_next ?_
  refine aw_ret ?_
  obtain rfl := Option.some.inj hF
  exact prt

theorem word_is_ok {a0 : List UInt8} {r : (List UInt8)} (hF : word_is a0 = some r) : Abs.Fn globs_Tryd Tryd.prog 80 [.str a0] [.p (.fn 99 [.vp (eS r)])] := by
  unfold word_is at hF
  refine fn_of_body (n := 4) Tryd.func80 rfl rfl rfl ?_
  intro w O
  refine aw_seq ?_
  refine aw_region ?_
  refine rgp (op_box 0 rfl rfl rfl rfl rfl rfl) ?_
  refine ras ?_
  refine reg_nil ?_
  refine post_imp (s' := ⟨4, [(1, some (.lp 0 0))], [(0, some (.box 9 [.pv (.str a0)]))], 1, [], [], 0, []⟩) (imps [0] ⟨by kernel_rfl, trivial⟩ ⟨by kernel_rfl, trivial⟩) ?_
  refine post_next ?_
  refine aw_seq ?_
  refine aw_region ?_
  refine rgp (op_makeFunc rfl rfl rfl rfl) ?_
  refine ras ?_
  refine reg_nil ?_
  refine post_imp (s' := ⟨4, [(2, some (.fn 99 [.lp 0 0]))], [(0, some (.box 9 [.pv (.str a0)]))], 1, [], [], 0, []⟩) (imps [0] ⟨by kernel_rfl, trivial⟩ ⟨by kernel_rfl, trivial⟩) ?_
  refine post_next ?_
  refine aw_ret ?_
  refine post_imp (imp_freeze [(0, some (.box 9 [.pv (.str a0)]))] [(2, some (.pv (.fn 99 [.vp (eS a0)])))] (FzH.spec ⟨rfl, trivial⟩) ⟨⟨_, rfl, rfl⟩, trivial⟩) ?_
  obtain rfl := Option.some.inj hF
  exact post_ret rfl rfl (.cons _ _ _ _ _ (.tmp _ _ rfl) (.p _) .nil) (.inl rfl)
theorem slices_IndexFunc_string_ok {a0 : List (List UInt8)} {q1 : (List UInt8) → Option Bool} {r : Int} {q1_f : Nat} {q1_c : List PV} (q1_b : callB Tryd.prog q1_f = true) (q1_h : ∀ (x0 : List UInt8) (r : Bool), q1 x0 = some r → Abs.Fn globs_Tryd Tryd.prog q1_f ([.str x0] ++ q1_c) [.p (.bool r)]) (hF : slices_IndexFunc_string a0 q1 = some r) : Abs.Fn globs_Tryd Tryd.prog 79 [.vs 1 (List.map eS a0), .fn q1_f q1_c] [.p (.int .i64 r)] := by
  unfold slices_IndexFunc_string at hF
  refine fn_of_body (n := 19) Tryd.func79 rfl rfl rfl ?_
  intro w O
  refine aw_seq ?_
  refine aw_region ?_
  refine ras ?_
  refine reg_nil ?_
  refine post_imp (s' := ⟨19, [(0, some (.pv (.vs 1 (List.map eS a0)))), (1, some (.pv (.fn q1_f q1_c)))], [], 0, [], [], 0, []⟩) (imps [] ⟨by kernel_rfl, by kernel_rfl, trivial⟩ trivial) ?_
  refine post_next ?_
  iterate 2 (refine aw_seq ?_)
  refine aw_region ?_
  refine rmv ?_
  refine rgp (op_len_vs (n := a0.length) rfl rfl (List.length_map ..) Tryd_slc_27 rfl rfl) ?_
  refine rmv ?_
  refine reg_nil ?_
  refine post_imp (s' := ⟨19, [(0, some (.pv (.vs 1 (List.map eS a0)))), (1, some (.pv (.fn q1_f q1_c))), (7, some (.pv (.int .i64 (a0.length : Int)))), (8, some (.pv (.int .i64 0)))], [], 0, [], [], 0, []⟩) (imps [] ⟨by kernel_rfl, by kernel_rfl, by kernel_rfl, by kernel_rfl, trivial⟩ trivial) ?_
  refine post_next ?_
  obtain ⟨lr34, hF, hK35⟩ := bind_some hF
  refine aw_for ((((a0.length : Int) : Int) - (0)).toNat + 1) (fun s1 => ∃ q, lr34 = .next q ∧ s1 = ⟨19, [], [], 0, [], [], 0, []⟩) ?_ ?_
  · refine rnd_loop (α := Int) (fun q => ⟨19, [(0, some (.pv (.vs 1 (List.map eS a0)))), (1, some (.pv (.fn q1_f q1_c))), (7, some (.pv (.int .i64 (a0.length : Int)))), (8, some (.pv (.int .i64 q)))], [], 0, [], [], 0, []⟩) (fun k q => slices_IndexFunc_string_L1 a0 q1 k q = some lr34) 0 (imps [] ⟨by kernel_rfl, by kernel_rfl, by kernel_rfl, by kernel_rfl, trivial⟩ trivial) hF (fun q h => by cases h) ?_
    clear hF
    rintro k x11 hF ih
    refine rnd_succ ?_
    refine aw_seq ?_
    refine aw_region ?_
    refine rgp (op_int (k := .i64) (m := x11) (n := (a0.length : Int)) rfl rfl rfl rfl rfl rfl) ?_
    refine reg_nil ?_
    refine post_imp (s' := ⟨19, [(0, some (.pv (.vs 1 (List.map eS a0)))), (1, some (.pv (.fn q1_f q1_c))), (7, some (.pv (.int .i64 (a0.length : Int)))), (8, some (.pv (.int .i64 x11))), (9, some (.pv (.bool (decide (x11 < (a0.length : Int))))))], [], 0, [], [], 0, []⟩) (imps [] ⟨by kernel_rfl, by kernel_rfl, by kernel_rfl, by kernel_rfl, by kernel_rfl, trivial⟩ trivial) ?_
    refine post_next ?_
    refine aw_seq ?_
    rcases ite_some hF with ⟨hb23, hF⟩ | ⟨hb23, hF⟩
    · refine aw_cond_t rfl hb23 ?_
      refine aw_skip ?_
      refine post_next ?_
      refine aw_seq ?_
      refine aw_block ?_
      refine aw_seq ?_
      refine aw_region ?_
      refine rmv ?_
      refine ras ?_
      refine reg_nil ?_
      refine post_imp (s' := ⟨19, [(0, some (.pv (.vs 1 (List.map eS a0)))), (1, some (.pv (.fn q1_f q1_c))), (5, some (.pv (.int .i64 x11))), (7, some (.pv (.int .i64 (a0.length : Int)))), (8, some (.pv (.int .i64 x11)))], [], 0, [], [], 0, []⟩) (imps [] ⟨by kernel_rfl, by kernel_rfl, by kernel_rfl, by kernel_rfl, by kernel_rfl, trivial⟩ trivial) ?_
      refine post_next ?_
      refine aw_seq ?_
      refine aw_region ?_
      iterate 3 (refine rmv ?_)
      obtain ⟨y28, h29, hF⟩ := bind_some hF
      refine rgp (op_index_vs (k := .i64) rfl rfl rfl (idx_map eS h29) Tryd_slc_27 rfl rfl) ?_
      refine rgp (op_load_vp (p := .str y28) rfl rfl rfl Tryd_one_9 rfl rfl) ?_
      obtain ⟨y30, h31, hF⟩ := bind_some hF
      refine rgp (op_call 0 rfl (caps := q1_c) (args := [.str y28]) (rs := [.p (.bool y30)]) rfl rfl rfl q1_b (q1_h y28 _ h31) rfl rfl rfl) ?_
      refine reg_nil ?_
      refine post_imp (s' := ⟨19, [(0, some (.pv (.vs 1 (List.map eS a0)))), (1, some (.pv (.fn q1_f q1_c))), (5, some (.pv (.int .i64 x11))), (7, some (.pv (.int .i64 (a0.length : Int)))), (8, some (.pv (.int .i64 x11))), (16, some (.pv (.bool y30)))], [], 0, [], [], 0, []⟩) (imps [] ⟨by kernel_rfl, by kernel_rfl, by kernel_rfl, by kernel_rfl, by kernel_rfl, by kernel_rfl, trivial⟩ trivial) ?_
      refine post_next ?_
      rcases ite_some hF with ⟨hb32, hF⟩ | ⟨hb32, hF⟩
      · refine aw_cond_t rfl hb32 ?_
        refine aw_seq ?_
        refine aw_region ?_
        refine rmv ?_
        refine ras ?_
        refine reg_nil ?_
        refine post_imp (s' := ⟨19, [(4, some (.pv (.int .i64 x11)))], [], 0, [], [], 0, []⟩) (imps [] ⟨by kernel_rfl, trivial⟩ trivial) ?_
        refine post_next ?_
        refine aw_ret ?_
        refine post_block_ret ?_
        iterate 2 (refine post_then_ret ?_)
        refine post_lp_ret ?_
        obtain rfl := Option.some.inj hF
        have hF := elim_stop hK35
        refine post_then_ret ?_
        obtain rfl := Option.some.inj hF
        exact prt
      refine aw_cond_f rfl hb32 ?_
      refine aw_skip ?_
      refine post_block_normal ?_
      refine post_next ?_
      refine aw_region ?_
      refine rgp (op_int (k := .i64) (m := x11) (n := 1) rfl rfl rfl rfl rfl rfl) ?_
      refine rmv ?_
      refine reg_nil ?_
      refine post_round ?_
      exact rnd_back (ih (w_i64 (x11 + 1)) hF) (imps [] ⟨by kernel_rfl, by kernel_rfl, by kernel_rfl, by kernel_rfl, trivial⟩ trivial)
    refine aw_cond_f rfl hb23 ?_
    refine aw_exit ?_
    iterate 2 (refine post_then_exit ?_)
    obtain rfl := Option.some.inj hF
    exact post_lp_break _ ⟨_, rfl, rfl⟩ (imps [] trivial trivial)
  rintro _ ⟨⟨⟩, rfl, rfl⟩
  have hF := elim_next hK35
  clear hK35
  refine post_next ?_
  refine aw_seq ?_
  refine aw_region ?_
  refine ras ?_
  refine reg_nil ?_
  refine post_imp (s' := ⟨19, [(4, some (.pv (.int .i64 (-1))))], [], 0, [], [], 0, []⟩) (imps [] ⟨by kernel_rfl, trivial⟩ trivial) ?_
  refine post_next ?_
  refine aw_ret ?_
  obtain rfl := Option.some.inj hF
  exact prt
theorem word_is_1_ok {a0 : List UInt8} {c0 : List UInt8} {r : Bool} (hF : word_is_1 a0 c0 = some r) : Abs.Fn globs_Tryd Tryd.prog 99 [.str a0, .vp (eS c0)] [.p (.bool r)] := by
  unfold word_is_1 at hF
  refine fn_of_body (n := 7) Tryd.func99 rfl rfl rfl ?_
  intro w O
  refine aw_seq ?_
  refine aw_region ?_
  refine ras ?_
  refine reg_nil ?_
  refine post_imp (s' := ⟨7, [(0, some (.pv (.str a0))), (1, some (.pv (.vp (eS c0))))], [], 0, [], [], 0, []⟩) (imps [] ⟨by kernel_rfl, by kernel_rfl, trivial⟩ trivial) ?_
  refine post_next ?_
  refine aw_seq ?_
  refine aw_region ?_
  refine rmv ?_
  refine rgp (op_load_vp (p := .str c0) rfl rfl rfl Tryd_one_9 rfl rfl) ?_
  refine rgp (op_str rfl rfl rfl rfl rfl rfl) ?_
  refine ras ?_
  refine reg_nil ?_
  refine post_imp (s' := ⟨7, [(3, some (.pv (.bool (a0 == c0))))], [], 0, [], [], 0, []⟩) (imps [] ⟨by kernel_rfl, trivial⟩ trivial) ?_
  refine post_next ?_
  refine aw_ret ?_
  obtain rfl := Option.some.inj hF
  exact prt
theorem word_Find_ok {a0 : List UInt8} {r : Int} (hF : word_Find a0 = some r) : Abs.Fn globs_Tryd Tryd.prog 57 [.str a0] [.p (.int .i64 r)] := by
  unfold word_Find at hF
  refine fn_of_body (n := 8) Tryd.func57 rfl rfl rfl ?_
  intro w O
  refine aw_seq ?_
  refine aw_region ?_
  refine ras ?_
  refine reg_nil ?_
  refine post_imp (s' := ⟨8, [(0, some (.pv (.str a0)))], [], 0, [], [], 0, []⟩) (imps [] ⟨by kernel_rfl, trivial⟩ trivial) ?_
  refine post_next ?_
  refine aw_seq ?_
  refine dr_start ⟨_, _, _⟩ rfl ?_
  refine dr_cons { dst := some 3, val := some (.pv (.vs 1 (List.map eS glob_0))) } (fun m h => step_on (guard_no rfl) (op_glob_slice (l := glob_0) (f := eS) rfl globm_0 Tryd_arr_107 globe_0 (fun _ => rfl) rfl rfl rfl rfl) rfl) ⟨trivial, trivial, trivial⟩ ?_
  refine drm ?_
  obtain ⟨y1, h2, hF⟩ := bind_some hF
  refine dr_cons { need := [(4, .pv (.str a0))], dst := some 5, val := some (.pv (.fn 99 [.vp (eS y1)])) } (fun m h => step_on (guard_no rfl) (op_call 0 rfl (caps := []) (args := [.str a0]) (rs := [.p (.fn 99 [.vp (eS y1)])]) rfl rfl (evl_cons h.1.1 evl_nil) Tryd_cal_80 (word_is_ok h2) rfl rfl rfl) rfl) ⟨⟨rfl, trivial⟩, trivial, trivial⟩ ?_
  obtain ⟨y4, h5, hF⟩ := bind_some hF
  refine dr_cons { need := [(5, .pv (.fn 99 [.vp (eS y1)])), (3, .pv (.vs 1 (List.map eS glob_0)))], dst := some 6, val := some (.pv (.int .i64 y4)) } (fun m h => step_on (guard_no rfl) (op_call 0 rfl (caps := []) (args := [.vs 1 (List.map eS glob_0), .fn 99 [.vp (eS y1)]]) (rs := [.p (.int .i64 y4)]) rfl rfl (evl_cons h.1.2.1 (evl_cons h.1.1 evl_nil)) Tryd_cal_79 (slices_IndexFunc_string_ok (q1_f := 99) (q1_c := [.vp (eS y1)]) (q1_b := Tryd_cal_99) (q1_h := fun _ r h => (word_is_1_ok h)) h5) rfl rfl rfl) rfl) ⟨⟨rfl, rfl, trivial⟩, trivial, trivial⟩ ?_
  refine dr_cons { need := [(6, .pv (.int .i64 y4))], dst := some 7, val := some (.pv (.int .i64 (w_i64 (y4 + 1)))) } (fun m h => step_on (guard_no rfl) (op_int (k := .i64) (m := y4) (n := 1) rfl h.1.1 rfl rfl rfl rfl) rfl) ⟨⟨rfl, trivial⟩, trivial, trivial⟩ ?_
  refine dr_cons { need := [(7, .pv (.int .i64 (w_i64 (y4 + 1))))], dst := some 2, val := some (.pv (.int .i64 (w_i64 (y4 + 1)))) } (fun m h => step_on (guard_no rfl) (op_assign rfl h.1.1 rfl rfl) rfl) ⟨⟨rfl, trivial⟩, trivial, trivial⟩ ?_
  refine dr_nil Tryd_mixed rfl (by kernel_rfl) ?_
  refine post_imp (s' := ⟨8, [(2, some (.pv (.int .i64 (w_i64 (y4 + 1)))))], [], 0, [], [], 0, []⟩) (imps [] ⟨by kernel_rfl, trivial⟩ trivial) ?_
  refine post_next ?_
  refine aw_ret ?_
  obtain rfl := Option.some.inj hF
  exact prt
theorem word_Name_ok {a0 : List UInt8} {r : Bool} (hF : word_Name a0 = some r) : Abs.Fn globs_Tryd Tryd.prog 32 [.str a0] [.p (.bool r)] := by
  unfold word_Name at hF
  refine fn_of_body (n := 37) Tryd.func32 rfl rfl rfl ?_
  intro w O
  refine aw_seq ?_
  refine aw_region ?_
  refine ras ?_
  refine reg_nil ?_
  refine post_imp (s' := ⟨37, [(0, some (.pv (.str a0)))], [], 0, [], [], 0, []⟩) (imps [] ⟨by kernel_rfl, trivial⟩ trivial) ?_
  refine post_next ?_
  iterate 2 (refine aw_seq ?_)
  obtain ⟨x7, hF, hK9⟩ := bind_some hF
  refine aw_cut (fun s1 => s1 = ⟨37, [(0, some (.pv (.str a0))), (17, some (.pv (.bool x7)))], [], 0, [], [], 0, []⟩) ?_ ?_
  · refine aw_region ?_
    refine rmv ?_
    refine rgp (op_str rfl rfl rfl rfl rfl rfl) ?_
    refine rmv ?_
    rcases ite_some hF with ⟨hb1, hF⟩ | ⟨hb1, hF⟩
    · refine rgo_t hb1 ?_
      iterate 2 (refine rgo_t hb1 ?_)
      refine rpt hb1 ?_
      refine rmv ?_
      iterate 4 (refine rgo_t rfl ?_)
      refine rpt rfl ?_
      refine reg_nil ?_
      cases hF
      exact post_cut _ rfl (imps [] ⟨by kernel_rfl, by kernel_rfl, trivial⟩ trivial)
    refine rgn hb1 (op_move rfl rfl rfl rfl) ?_
    refine rgn hb1 (op_len_str rfl rfl Tryd_und_9 rfl rfl) ?_
    refine rgn hb1 (op_int (k := .i64) (m := (a0.length : Int)) (n := 20) rfl rfl rfl rfl rfl rfl) ?_
    refine rpf hb1 ?_
    refine rmv ?_
    rcases ite_some hF with ⟨hb2, hF⟩ | ⟨hb2, hF⟩
    · refine rgo_t hb2 ?_
      iterate 3 (refine rgo_t hb2 ?_)
      refine rpt hb2 ?_
      refine reg_nil ?_
      cases hF
      exact post_cut _ rfl (imps [] ⟨by kernel_rfl, by kernel_rfl, trivial⟩ trivial)
    refine rgn hb2 (op_move rfl rfl rfl rfl) ?_
    obtain ⟨y3, h4, hF⟩ := bind_some hF
    refine rgn hb2 (op_index_str (k := .i64) rfl rfl rfl h4 Tryd_und_9 rfl rfl) ?_
    obtain ⟨y5, h6, hF⟩ := bind_some hF
    refine rgn hb2 (op_call 0 rfl (caps := []) (args := [.int .u8 (y3.toNat : Int)]) (rs := [.p (.bool y5)]) rfl rfl rfl Tryd_cal_55 (word_Letter_ok h6) rfl rfl rfl) ?_
    refine rgn hb2 (op_not rfl rfl rfl rfl) ?_
    refine rpf hb2 ?_
    refine reg_nil ?_
    cases hF
    exact post_cut _ rfl (imps [] ⟨by kernel_rfl, by kernel_rfl, trivial⟩ trivial)
  rintro _ rfl
  have hF := hK9
  clear hK9
  refine post_next ?_
  rcases ite_some hF with ⟨hb10, hF⟩ | ⟨hb10, hF⟩
  · refine aw_cond_t rfl hb10 ?_
    refine aw_seq ?_
    refine aw_region ?_
    refine ras ?_
    refine reg_nil ?_
    refine post_imp (s' := ⟨37, [(2, some (.pv (.bool false)))], [], 0, [], [], 0, []⟩) (imps [] ⟨by kernel_rfl, trivial⟩ trivial) ?_
    refine post_next ?_
    refine aw_ret ?_
    refine post_then_ret ?_
    obtain rfl := Option.some.inj hF
    exact prt
  refine aw_cond_f rfl hb10 ?_
  refine aw_skip ?_
  refine post_next ?_
  iterate 2 (refine aw_seq ?_)
  refine aw_region ?_
  refine rmv ?_
  obtain ⟨u13, h14, hF⟩ := bind_some hF
  refine rgp (op_strBytes (E := eI_u8) rfl rfl Tryd_und_9 Tryd_und_80 Tryd_und_5 h14 rfl rfl rfl) ?_
  refine rgp (op_len_vs (n := (bytesL a0).length) rfl rfl (List.length_map ..) Tryd_slc_80 rfl rfl) ?_
  refine rmv ?_
  refine reg_nil ?_
  refine post_imp (s' := ⟨37, [(0, some (.pv (.str a0))), (19, some (.pv (.vs 1 (List.map eI_u8 (bytesL a0))))), (20, some (.pv (.int .i64 ((bytesL a0).length : Int)))), (21, some (.pv (.int .i64 0)))], [], 0, [], [], 0, []⟩) (imps [] ⟨by kernel_rfl, by kernel_rfl, by kernel_rfl, by kernel_rfl, trivial⟩ trivial) ?_
  refine post_next ?_
  obtain ⟨lr66, hF, hK67⟩ := bind_some hF
  refine aw_for (((((bytesL a0).length : Int) : Int) - (0)).toNat + 1) (fun s1 => ∃ q, lr66 = .next q ∧ s1 = ⟨37, [(0, some (.pv (.str a0)))], [], 0, [], [], 0, []⟩) ?_ ?_
  · refine rnd_loop (α := Int) (fun q => ⟨37, [(0, some (.pv (.str a0))), (19, some (.pv (.vs 1 (List.map eI_u8 (bytesL a0))))), (20, some (.pv (.int .i64 ((bytesL a0).length : Int)))), (21, some (.pv (.int .i64 q)))], [], 0, [], [], 0, []⟩) (fun k q => word_Name_L1 a0 k q = some lr66) 0 (imps [] ⟨by kernel_rfl, by kernel_rfl, by kernel_rfl, by kernel_rfl, trivial⟩ trivial) hF (fun q h => by cases h) ?_
    clear hF
    rintro k x31 hF ih
    refine rnd_succ ?_
    refine aw_seq ?_
    refine aw_region ?_
    refine rgp (op_int (k := .i64) (m := x31) (n := ((bytesL a0).length : Int)) rfl rfl rfl rfl rfl rfl) ?_
    refine reg_nil ?_
    refine post_imp (s' := ⟨37, [(0, some (.pv (.str a0))), (19, some (.pv (.vs 1 (List.map eI_u8 (bytesL a0))))), (20, some (.pv (.int .i64 ((bytesL a0).length : Int)))), (21, some (.pv (.int .i64 x31))), (22, some (.pv (.bool (decide (x31 < ((bytesL a0).length : Int))))))], [], 0, [], [], 0, []⟩) (imps [] ⟨by kernel_rfl, by kernel_rfl, by kernel_rfl, by kernel_rfl, by kernel_rfl, trivial⟩ trivial) ?_
    refine post_next ?_
    refine aw_seq ?_
    rcases ite_some hF with ⟨hb49, hF⟩ | ⟨hb49, hF⟩
    · refine aw_cond_t rfl hb49 ?_
      refine aw_skip ?_
      refine post_next ?_
      refine aw_seq ?_
      refine aw_block ?_
      refine aw_seq ?_
      refine aw_region ?_
      obtain ⟨y52, h53, hF⟩ := bind_some hF
      refine rgp (op_index_vs (k := .i64) rfl rfl rfl (idx_map eI_u8 h53) Tryd_slc_80 rfl rfl) ?_
      refine rgp (op_load_vp (p := .int .u8 y52) rfl rfl rfl Tryd_one_5 rfl rfl) ?_
      refine ras ?_
      refine reg_nil ?_
      refine post_imp (s' := ⟨37, [(0, some (.pv (.str a0))), (4, some (.pv (.int .u8 y52))), (19, some (.pv (.vs 1 (List.map eI_u8 (bytesL a0))))), (20, some (.pv (.int .i64 ((bytesL a0).length : Int)))), (21, some (.pv (.int .i64 x31)))], [], 0, [], [], 0, []⟩) (imps [] ⟨by kernel_rfl, by kernel_rfl, by kernel_rfl, by kernel_rfl, by kernel_rfl, trivial⟩ trivial) ?_
      refine post_next ?_
      refine aw_seq ?_
      obtain ⟨x61, hF, hK63⟩ := bind_some hF
      refine aw_cut (fun s1 => s1 = ⟨37, [(0, some (.pv (.str a0))), (19, some (.pv (.vs 1 (List.map eI_u8 (bytesL a0))))), (20, some (.pv (.int .i64 ((bytesL a0).length : Int)))), (21, some (.pv (.int .i64 x31))), (32, some (.pv (.bool x61)))], [], 0, [], [], 0, []⟩) ?_ ?_
      · refine aw_region ?_
        refine rmv ?_
        obtain ⟨y56, h57, hF⟩ := bind_some hF
        refine rgp (op_call 0 rfl (caps := []) (args := [.int .u8 y52]) (rs := [.p (.bool y56)]) rfl rfl rfl Tryd_cal_55 (word_Letter_ok h57) rfl rfl rfl) ?_
        refine rgp (op_not rfl rfl rfl rfl) ?_
        refine rmv ?_
        rcases ite_some hF with ⟨hb58, hF⟩ | ⟨hb58, hF⟩
        · refine rgn hb58 (op_move rfl rfl rfl rfl) ?_
          obtain ⟨y59, h60, hF⟩ := bind_some hF
          refine rgn hb58 (op_call 0 rfl (caps := []) (args := [.int .u8 y52]) (rs := [.p (.bool y59)]) rfl rfl rfl Tryd_cal_56 (word_Digit_ok h60) rfl rfl rfl) ?_
          refine rgn hb58 (op_not rfl rfl rfl rfl) ?_
          refine rpt hb58 ?_
          refine reg_nil ?_
          cases hF
          exact post_cut _ rfl (imps [] ⟨by kernel_rfl, by kernel_rfl, by kernel_rfl, by kernel_rfl, by kernel_rfl, trivial⟩ trivial)
        iterate 3 (refine rgo_f hb58 ?_)
        refine rpf hb58 ?_
        refine reg_nil ?_
        cases hF
        exact post_cut _ rfl (imps [] ⟨by kernel_rfl, by kernel_rfl, by kernel_rfl, by kernel_rfl, by kernel_rfl, trivial⟩ trivial)
      rintro _ rfl
      have hF := hK63
      clear hK63
      refine post_next ?_
      rcases ite_some hF with ⟨hb64, hF⟩ | ⟨hb64, hF⟩
      · refine aw_cond_t rfl hb64 ?_
        refine aw_seq ?_
        refine aw_region ?_
        refine ras ?_
        refine reg_nil ?_
        refine post_imp (s' := ⟨37, [(2, some (.pv (.bool false)))], [], 0, [], [], 0, []⟩) (imps [] ⟨by kernel_rfl, trivial⟩ trivial) ?_
        refine post_next ?_
        refine aw_ret ?_
        refine post_block_ret ?_
        iterate 2 (refine post_then_ret ?_)
        refine post_lp_ret ?_
        obtain rfl := Option.some.inj hF
        have hF := elim_stop hK67
        refine post_then_ret ?_
        obtain rfl := Option.some.inj hF
        exact prt
      refine aw_cond_f rfl hb64 ?_
      refine aw_skip ?_
      refine post_block_normal ?_
      refine post_next ?_
      refine aw_region ?_
      refine rgp (op_int (k := .i64) (m := x31) (n := 1) rfl rfl rfl rfl rfl rfl) ?_
      refine rmv ?_
      refine reg_nil ?_
      refine post_round ?_
      exact rnd_back (ih (w_i64 (x31 + 1)) hF) (imps [] ⟨by kernel_rfl, by kernel_rfl, by kernel_rfl, by kernel_rfl, trivial⟩ trivial)
    refine aw_cond_f rfl hb49 ?_
    refine aw_exit ?_
    iterate 2 (refine post_then_exit ?_)
    obtain rfl := Option.some.inj hF
    exact post_lp_break _ ⟨_, rfl, rfl⟩ (imps [] ⟨by kernel_rfl, trivial⟩ trivial)
  rintro _ ⟨⟨⟩, rfl, rfl⟩
  have hF := elim_next hK67
  clear hK67
  refine post_next ?_
  refine aw_seq ?_
  refine aw_region ?_
  refine rmv ?_
  obtain ⟨y68, h69, hF⟩ := bind_some hF
  refine rgp (op_call 0 rfl (caps := []) (args := [.str a0]) (rs := [.p (.int .i64 y68)]) rfl rfl rfl Tryd_cal_57 (word_Find_ok h69) rfl rfl rfl) ?_
  refine rgp (op_int (k := .i64) (m := y68) (n := 0) rfl rfl rfl rfl rfl rfl) ?_
  refine ras ?_
  refine reg_nil ?_
  refine post_imp (s' := ⟨37, [(2, some (.pv (.bool (y68 == 0))))], [], 0, [], [], 0, []⟩) (imps [] ⟨by kernel_rfl, trivial⟩ trivial) ?_
  refine post_next ?_
  refine aw_ret ?_
  obtain rfl := Option.some.inj hF
  exact prt
theorem expr_plain_1_ok {a0 : GExpr} {c0 : GExpr} {r : Bool} (hF : expr_plain_1 a0 c0 = some r) : Abs.Fn globs_Tryd Tryd.prog 88 [.agg (eGExpr a0), .vp (eGExpr c0)] [.p (.bool r)] := by
  unfold expr_plain_1 at hF
  refine fn_of_body (n := 22) Tryd.func88 rfl rfl rfl ?_
  intro w O
  refine aw_seq ?_
  refine aw_region ?_
  refine rgp (op_box 0 rfl rfl rfl rfl rfl rfl) ?_
  refine ras ?_
  refine reg_nil ?_
  refine post_imp (s' := ⟨22, [(1, some (.pv (.vp (eGExpr c0)))), (2, some (.lp 0 0))], [(0, some (.box 45 (bxv (eGExpr a0))))], 1, [], [], 0, []⟩) (imps [0] ⟨by kernel_rfl, by kernel_rfl, trivial⟩ ⟨by kernel_rfl, trivial⟩) ?_
  refine post_next ?_
  refine aw_seq ?_
  refine aw_region ?_
  refine rgp (op_field_lp rfl rfl Tryd_fld_45_0 rfl rfl) ?_
  refine rgp (op_load_lp (v := .pv (.int .i64 a0.fKind)) rfl rfl rfl rfl Tryd_one_3 rfl rfl) ?_
  refine rgp (op_int (k := .i64) (m := a0.fKind) (n := 2) rfl rfl rfl rfl rfl rfl) ?_
  refine rmv ?_
  rcases ite_some hF with ⟨hb1, hF⟩ | ⟨hb1, hF⟩
  · refine rgn hb1 (op_field_lp rfl rfl Tryd_fld_45_0 rfl rfl) ?_
    refine rgn hb1 (op_load_lp (v := .pv (.int .i64 a0.fKind)) rfl rfl rfl rfl Tryd_one_3 rfl rfl) ?_
    refine rgn hb1 (op_int (k := .i64) (m := a0.fKind) (n := 3) rfl rfl rfl rfl rfl rfl) ?_
    refine rpt hb1 ?_
    refine rmv ?_
    rcases ite_some hF with ⟨hb2, hF⟩ | ⟨hb2, hF⟩
    · refine rgn hb2 (op_field_lp rfl rfl Tryd_fld_45_0 rfl rfl) ?_
      refine rgn hb2 (op_load_lp (v := .pv (.int .i64 a0.fKind)) rfl rfl rfl rfl Tryd_one_3 rfl rfl) ?_
      refine rgn hb2 (op_int (k := .i64) (m := a0.fKind) (n := 4) rfl rfl rfl rfl rfl rfl) ?_
      refine rgn hb2 (op_move rfl rfl rfl rfl) ?_
      rcases ite_some hF with ⟨hb3, hF⟩ | ⟨hb3, hF⟩
      · refine rgo_t hb3 ?_
        iterate 2 (refine rgo_t hb3 ?_)
        refine rgn hb2 (op_pick_t rfl rfl hb3 rfl rfl rfl) ?_
        refine rpt hb2 ?_
        refine ras ?_
        refine reg_nil ?_
        refine post_imp (s' := ⟨22, [(3, some (.pv (.bool true)))], [], 0, [], [], 0, []⟩) (imps [] ⟨by kernel_rfl, trivial⟩ trivial) ?_
        refine post_next ?_
        refine aw_ret ?_
        obtain rfl := Option.some.inj hF
        exact prt
      refine rgn hb3 (op_field_vp rfl rfl Tryd_fld_45_0 rfl rfl) ?_
      refine rgn hb3 (op_load_vp (p := .int .i64 c0.fKind) rfl rfl rfl Tryd_one_3 rfl rfl) ?_
      refine rgn hb3 (op_int (k := .i64) (m := c0.fKind) (n := 13) rfl rfl rfl rfl rfl rfl) ?_
      refine rgn hb2 (op_pick_f rfl rfl hb3 rfl rfl rfl) ?_
      refine rpt hb2 ?_
      refine ras ?_
      refine reg_nil ?_
      refine post_imp (s' := ⟨22, [(3, some (.pv (.bool (c0.fKind == 13))))], [], 0, [], [], 0, []⟩) (imps [] ⟨by kernel_rfl, trivial⟩ trivial) ?_
      refine post_next ?_
      refine aw_ret ?_
      obtain rfl := Option.some.inj hF
      exact prt
    iterate 4 (refine rgo_f hb2 ?_)
    iterate 3 (refine rgu ?_)
    refine rgo_f hb2 ?_
    refine rpf hb2 ?_
    refine ras ?_
    refine reg_nil ?_
    refine post_imp (s' := ⟨22, [(3, some (.pv (.bool false)))], [], 0, [], [], 0, []⟩) (imps [] ⟨by kernel_rfl, trivial⟩ trivial) ?_
    refine post_next ?_
    refine aw_ret ?_
    obtain rfl := Option.some.inj hF
    exact prt
  iterate 3 (refine rgo_f hb1 ?_)
  refine rpf hb1 ?_
  refine rmv ?_
  iterate 4 (refine rgo_f rfl ?_)
  iterate 3 (refine rgu ?_)
  refine rgo_f rfl ?_
  refine rpf rfl ?_
  refine ras ?_
  refine reg_nil ?_
  refine post_imp (s' := ⟨22, [(3, some (.pv (.bool false)))], [], 0, [], [], 0, []⟩) (imps [] ⟨by kernel_rfl, trivial⟩ trivial) ?_
  refine post_next ?_
  refine aw_ret ?_
  obtain rfl := Option.some.inj hF
  exact prt
abbrev expr_plain_e60 (a0 : GExpr) : Eff := { need := [(24, .pv (.bool (a0.fKind != 2))), (25, .lp 0 2)], hneed := [(0, .box 45 (bxv (eGExpr a0)))], dst := some 26, val := some (.pv (.str a0.fName)) }
abbrev expr_plain_e61 (a0 : GExpr) : Eff := { need := [(24, .pv (.bool (a0.fKind != 2))), (26, .pv (.str a0.fName))], dst := some 27, val := some (.pv (.bool (!(a0.fName == [])))) }
theorem expr_plain_ok {a0 : GExpr} {r : Bool} (hF : expr_plain a0 = some r) : Abs.Fn globs_Tryd Tryd.prog 64 [.agg (eGExpr a0)] [.p (.bool r)] := by
  unfold expr_plain at hF
  refine fn_of_body (n := 55) Tryd.func64 rfl rfl rfl ?_
  intro w O
  refine aw_seq ?_
  refine aw_region ?_
  refine rgp (op_box 0 rfl rfl rfl rfl rfl rfl) ?_
  refine ras ?_
  refine reg_nil ?_
  refine post_imp (s' := ⟨55, [(1, some (.lp 0 0))], [(0, some (.box 45 (bxv (eGExpr a0))))], 1, [], [], 0, []⟩) (imps [0] ⟨by kernel_rfl, trivial⟩ ⟨by kernel_rfl, trivial⟩) ?_
  refine post_next ?_
  iterate 2 (refine aw_seq ?_)
  obtain ⟨x10, hF, hK12⟩ := bind_some hF
  refine aw_cut (fun s1 => s1 = ⟨55, [(1, some (.lp 0 0)), (29, some (.pv (.bool x10)))], [(0, some (.box 45 (bxv (eGExpr a0))))], 1, [], [], 0, []⟩) ?_ ?_
  · refine dr_start ⟨_, _, _⟩ rfl ?_
    refine dr_cons { need := [(1, .lp 0 0)], dst := some 3, val := some (.lp 0 3) } (fun m h => step_on (guard_no rfl) (op_field_lp rfl h.1.1 Tryd_fld_45_3 rfl rfl) rfl) ⟨⟨rfl, trivial⟩, trivial, trivial⟩ ?_
    refine dr_cons { need := [(3, .lp 0 3)], hneed := [(0, .box 45 (bxv (eGExpr a0)))], dst := some 4, val := some (.pv (.vs 4 (eLGExpr a0.fKids))) } (fun m h => step_on (guard_no rfl) (op_load_lp (v := .pv (.vs 4 (eLGExpr a0.fKids))) rfl h.1.1 h.2.1.1 rfl Tryd_one_43 rfl rfl) rfl) ⟨⟨rfl, trivial⟩, ⟨rfl, trivial⟩, trivial⟩ ?_
    refine dr_cons { need := [(4, .pv (.vs 4 (eLGExpr a0.fKids)))], dst := some 5, val := some (.pv (.int .i64 (a0.fKids.length : Int))) } (fun m h => step_on (guard_no rfl) (op_len_vs (n := a0.fKids.length) rfl h.1.1 (lenR eLGExpr_map) Tryd_slc_43 rfl rfl) rfl) ⟨⟨rfl, trivial⟩, trivial, trivial⟩ ?_
    refine dr_cons { need := [(1, .lp 0 0)], dst := some 6, val := some (.lp 0 0) } (fun m h => step_on (guard_no rfl) (op_field_lp rfl h.1.1 Tryd_fld_45_0 rfl rfl) rfl) ⟨⟨rfl, trivial⟩, trivial, trivial⟩ ?_
    refine dr_cons { need := [(6, .lp 0 0)], hneed := [(0, .box 45 (bxv (eGExpr a0)))], dst := some 7, val := some (.pv (.int .i64 a0.fKind)) } (fun m h => step_on (guard_no rfl) (op_load_lp (v := .pv (.int .i64 a0.fKind)) rfl h.1.1 h.2.1.1 rfl Tryd_one_3 rfl rfl) rfl) ⟨⟨rfl, trivial⟩, ⟨rfl, trivial⟩, trivial⟩ ?_
    obtain ⟨y3, h4, hF⟩ := bind_some hF
    refine dr_cons { need := [(7, .pv (.int .i64 a0.fKind))], dst := some 8, val := some (.pv (.int .i64 y3)) } (fun m h => step_on (guard_no rfl) (op_call 1 rfl (caps := []) (args := [.int .i64 a0.fKind]) (rs := [.p (.int .i64 y3)]) rfl rfl (evl_cons h.1.1 evl_nil) Tryd_cal_87 (expr_kids_ok h4) rfl rfl rfl) rfl) ⟨⟨rfl, trivial⟩, trivial, trivial⟩ ?_
    refine dr_cons { need := [(5, .pv (.int .i64 (a0.fKids.length : Int))), (8, .pv (.int .i64 y3))], dst := some 9, val := some (.pv (.bool ((a0.fKids.length : Int) != y3))) } (fun m h => step_on (guard_no rfl) (op_int (k := .i64) (m := (a0.fKids.length : Int)) (n := y3) rfl h.1.1 h.1.2.1 rfl rfl rfl) rfl) ⟨⟨rfl, rfl, trivial⟩, trivial, trivial⟩ ?_
    refine drm ?_
    rcases ite_some hF with ⟨hb5, hF⟩ | ⟨hb5, hF⟩
    · refine dro_t hb5 ?_
      iterate 3 (refine dro_t hb5 ?_)
      iterate 3 (refine dru ?_)
      refine dro_t hb5 ?_
      refine drpt hb5 ?_
      refine drm ?_
      iterate 4 (refine dro_t rfl ?_)
      iterate 3 (refine dru ?_)
      refine dro_t rfl ?_
      refine drpt rfl ?_
      refine dr_nil Tryd_mixed rfl (by kernel_rfl) ?_
      refine post_imp (s' := ⟨55, [(1, some (.lp 0 0)), (29, some (.pv (.bool true)))], [(0, some (.box 45 (bxv (eGExpr a0))))], 1, [], [], 0, []⟩) (imps [0] ⟨by kernel_rfl, by kernel_rfl, trivial⟩ ⟨by kernel_rfl, trivial⟩) ?_
      cases hF
      exact post_cut _ rfl (imps [0] ⟨by kernel_rfl, by kernel_rfl, trivial⟩ ⟨by kernel_rfl, trivial⟩)
    refine dr_cons { need := [(10, .pv (.bool ((a0.fKids.length : Int) != y3))), (1, .lp 0 0)], dst := some 11, val := some (.lp 0 0) } (fun m h => step_on (guard_on rfl rfl rfl h.1.1 hb5) (op_field_lp rfl h.1.2.1 Tryd_fld_45_0 rfl rfl) rfl) ⟨⟨rfl, rfl, trivial⟩, trivial, trivial⟩ ?_
    refine dr_cons { need := [(10, .pv (.bool ((a0.fKids.length : Int) != y3))), (11, .lp 0 0)], hneed := [(0, .box 45 (bxv (eGExpr a0)))], dst := some 12, val := some (.pv (.int .i64 a0.fKind)) } (fun m h => step_on (guard_on rfl rfl rfl h.1.1 hb5) (op_load_lp (v := .pv (.int .i64 a0.fKind)) rfl h.1.2.1 h.2.1.1 rfl Tryd_one_3 rfl rfl) rfl) ⟨⟨rfl, rfl, trivial⟩, ⟨rfl, trivial⟩, trivial⟩ ?_
    refine dr_cons { need := [(10, .pv (.bool ((a0.fKids.length : Int) != y3))), (12, .pv (.int .i64 a0.fKind))], dst := some 13, val := some (.pv (.bool (a0.fKind != 1))) } (fun m h => step_on (guard_on rfl rfl rfl h.1.1 hb5) (op_int (k := .i64) (m := a0.fKind) (n := 1) rfl h.1.2.1 rfl rfl rfl rfl) rfl) ⟨⟨rfl, rfl, trivial⟩, trivial, trivial⟩ ?_
    refine dr_cons { need := [(10, .pv (.bool ((a0.fKids.length : Int) != y3))), (13, .pv (.bool (a0.fKind != 1)))], dst := some 14, val := some (.pv (.bool (a0.fKind != 1))) } (fun m h => step_on (guard_on rfl rfl rfl h.1.1 hb5) (op_move rfl h.1.2.1 rfl rfl) rfl) ⟨⟨rfl, rfl, trivial⟩, trivial, trivial⟩ ?_
    rcases ite_some hF with ⟨hb6, hF⟩ | ⟨hb6, hF⟩
    · refine dr_cons { need := [(14, .pv (.bool (a0.fKind != 1))), (1, .lp 0 0)], dst := some 15, val := some (.lp 0 1) } (fun m h => step_on (guard_on rfl rfl rfl h.1.1 hb6) (op_field_lp rfl h.1.2.1 Tryd_fld_45_1 rfl rfl) rfl) ⟨⟨rfl, rfl, trivial⟩, trivial, trivial⟩ ?_
      refine dr_cons { need := [(14, .pv (.bool (a0.fKind != 1))), (15, .lp 0 1)], hneed := [(0, .box 45 (bxv (eGExpr a0)))], dst := some 16, val := some (.pv (.int .i64 a0.fNum)) } (fun m h => step_on (guard_on rfl rfl rfl h.1.1 hb6) (op_load_lp (v := .pv (.int .i64 a0.fNum)) rfl h.1.2.1 h.2.1.1 rfl Tryd_one_3 rfl rfl) rfl) ⟨⟨rfl, rfl, trivial⟩, ⟨rfl, trivial⟩, trivial⟩ ?_
      refine dr_cons { need := [(14, .pv (.bool (a0.fKind != 1))), (16, .pv (.int .i64 a0.fNum))], dst := some 17, val := some (.pv (.bool (a0.fNum != 0))) } (fun m h => step_on (guard_on rfl rfl rfl h.1.1 hb6) (op_int (k := .i64) (m := a0.fNum) (n := 0) rfl h.1.2.1 rfl rfl rfl rfl) rfl) ⟨⟨rfl, rfl, trivial⟩, trivial, trivial⟩ ?_
      refine dr_cons { need := [(10, .pv (.bool ((a0.fKids.length : Int) != y3))), (14, .pv (.bool (a0.fKind != 1))), (17, .pv (.bool (a0.fNum != 0)))], dst := some 18, val := some (.pv (.bool (a0.fNum != 0))) } (fun m h => step_on (guard_on rfl rfl rfl h.1.1 hb5) (op_pick_t rfl h.1.2.1 hb6 h.1.2.2.1 rfl rfl) rfl) ⟨⟨rfl, rfl, rfl, trivial⟩, trivial, trivial⟩ ?_
      refine dr_cons { need := [(10, .pv (.bool ((a0.fKids.length : Int) != y3))), (18, .pv (.bool (a0.fNum != 0)))], dst := some 19, val := some (.pv (.bool (a0.fNum != 0))) } (fun m h => step_on (guard_no rfl) (op_pick_f rfl h.1.1 hb5 h.1.2.1 rfl rfl) rfl) ⟨⟨rfl, rfl, trivial⟩, trivial, trivial⟩ ?_
      refine drm ?_
      rcases ite_some hF with ⟨hb7, hF⟩ | ⟨hb7, hF⟩
      · refine dro_t hb7 ?_
        iterate 3 (refine dro_t hb7 ?_)
        iterate 3 (refine dru ?_)
        refine dro_t hb7 ?_
        refine drpt hb7 ?_
        refine dr_nil Tryd_mixed rfl (by kernel_rfl) ?_
        refine post_imp (s' := ⟨55, [(1, some (.lp 0 0)), (29, some (.pv (.bool true)))], [(0, some (.box 45 (bxv (eGExpr a0))))], 1, [], [], 0, []⟩) (imps [0] ⟨by kernel_rfl, by kernel_rfl, trivial⟩ ⟨by kernel_rfl, trivial⟩) ?_
        cases hF
        exact post_cut _ rfl (imps [0] ⟨by kernel_rfl, by kernel_rfl, trivial⟩ ⟨by kernel_rfl, trivial⟩)
      refine dr_cons { need := [(20, .pv (.bool (a0.fNum != 0))), (1, .lp 0 0)], dst := some 21, val := some (.lp 0 0) } (fun m h => step_on (guard_on rfl rfl rfl h.1.1 hb7) (op_field_lp rfl h.1.2.1 Tryd_fld_45_0 rfl rfl) rfl) ⟨⟨rfl, rfl, trivial⟩, trivial, trivial⟩ ?_
      refine dr_cons { need := [(20, .pv (.bool (a0.fNum != 0))), (21, .lp 0 0)], hneed := [(0, .box 45 (bxv (eGExpr a0)))], dst := some 22, val := some (.pv (.int .i64 a0.fKind)) } (fun m h => step_on (guard_on rfl rfl rfl h.1.1 hb7) (op_load_lp (v := .pv (.int .i64 a0.fKind)) rfl h.1.2.1 h.2.1.1 rfl Tryd_one_3 rfl rfl) rfl) ⟨⟨rfl, rfl, trivial⟩, ⟨rfl, trivial⟩, trivial⟩ ?_
      refine dr_cons { need := [(20, .pv (.bool (a0.fNum != 0))), (22, .pv (.int .i64 a0.fKind))], dst := some 23, val := some (.pv (.bool (a0.fKind != 2))) } (fun m h => step_on (guard_on rfl rfl rfl h.1.1 hb7) (op_int (k := .i64) (m := a0.fKind) (n := 2) rfl h.1.2.1 rfl rfl rfl rfl) rfl) ⟨⟨rfl, rfl, trivial⟩, trivial, trivial⟩ ?_
      refine dr_cons { need := [(20, .pv (.bool (a0.fNum != 0))), (23, .pv (.bool (a0.fKind != 2)))], dst := some 24, val := some (.pv (.bool (a0.fKind != 2))) } (fun m h => step_on (guard_on rfl rfl rfl h.1.1 hb7) (op_move rfl h.1.2.1 rfl rfl) rfl) ⟨⟨rfl, rfl, trivial⟩, trivial, trivial⟩ ?_
      rcases ite_some hF with ⟨hb8, hF⟩ | ⟨hb8, hF⟩
      · refine dr_cons { need := [(24, .pv (.bool (a0.fKind != 2))), (1, .lp 0 0)], dst := some 25, val := some (.lp 0 2) } (fun m h => step_on (guard_on rfl rfl rfl h.1.1 hb8) (op_field_lp rfl h.1.2.1 Tryd_fld_45_2 rfl rfl) rfl) ⟨⟨rfl, rfl, trivial⟩, trivial, trivial⟩ ?_
        refine dr_cons (expr_plain_e60 a0) (fun m h => step_on (guard_on rfl rfl rfl h.1.1 hb8) (op_load_lp (v := .pv (.str a0.fName)) rfl h.1.2.1 h.2.1.1 rfl Tryd_one_9 rfl rfl) rfl) ⟨⟨rfl, rfl, trivial⟩, ⟨rfl, trivial⟩, trivial⟩ ?_
        refine dr_cons (expr_plain_e61 a0) (fun m h => step_on (guard_on rfl rfl rfl h.1.1 hb8) (op_str rfl h.1.2.1 rfl rfl rfl rfl) rfl) ⟨⟨rfl, rfl, trivial⟩, trivial, trivial⟩ ?_
        refine dr_cons { need := [(20, .pv (.bool (a0.fNum != 0))), (24, .pv (.bool (a0.fKind != 2))), (27, .pv (.bool (!(a0.fName == []))))], dst := some 28, val := some (.pv (.bool (!(a0.fName == [])))) } (fun m h => step_on (guard_on rfl rfl rfl h.1.1 hb7) (op_pick_t rfl h.1.2.1 hb8 h.1.2.2.1 rfl rfl) rfl) ⟨⟨rfl, rfl, rfl, trivial⟩, trivial, trivial⟩ ?_
        refine dr_cons { need := [(20, .pv (.bool (a0.fNum != 0))), (28, .pv (.bool (!(a0.fName == []))))], dst := some 29, val := some (.pv (.bool (!(a0.fName == [])))) } (fun m h => step_on (guard_no rfl) (op_pick_f rfl h.1.1 hb7 h.1.2.1 rfl rfl) rfl) ⟨⟨rfl, rfl, trivial⟩, trivial, trivial⟩ ?_
        refine dr_nil Tryd_mixed rfl (by kernel_rfl) ?_
        refine post_imp (s' := ⟨55, [(1, some (.lp 0 0)), (29, some (.pv (.bool (!(a0.fName == [])))))], [(0, some (.box 45 (bxv (eGExpr a0))))], 1, [], [], 0, []⟩) (imps [0] ⟨by kernel_rfl, by kernel_rfl, trivial⟩ ⟨by kernel_rfl, trivial⟩) ?_
        cases hF
        exact post_cut _ rfl (imps [0] ⟨by kernel_rfl, by kernel_rfl, trivial⟩ ⟨by kernel_rfl, trivial⟩)
      iterate 3 (refine dro_f hb8 ?_)
      refine dr_cons { need := [(20, .pv (.bool (a0.fNum != 0))), (24, .pv (.bool (a0.fKind != 2)))], dst := some 28, val := some (.pv (.bool false)) } (fun m h => step_on (guard_on rfl rfl rfl h.1.1 hb7) (op_pick_f rfl h.1.2.1 hb8 rfl rfl rfl) rfl) ⟨⟨rfl, rfl, trivial⟩, trivial, trivial⟩ ?_
      refine dr_cons { need := [(20, .pv (.bool (a0.fNum != 0))), (28, .pv (.bool false))], dst := some 29, val := some (.pv (.bool false)) } (fun m h => step_on (guard_no rfl) (op_pick_f rfl h.1.1 hb7 h.1.2.1 rfl rfl) rfl) ⟨⟨rfl, rfl, trivial⟩, trivial, trivial⟩ ?_
      refine dr_nil Tryd_mixed rfl (by kernel_rfl) ?_
      refine post_imp (s' := ⟨55, [(1, some (.lp 0 0)), (29, some (.pv (.bool false)))], [(0, some (.box 45 (bxv (eGExpr a0))))], 1, [], [], 0, []⟩) (imps [0] ⟨by kernel_rfl, by kernel_rfl, trivial⟩ ⟨by kernel_rfl, trivial⟩) ?_
      cases hF
      exact post_cut _ rfl (imps [0] ⟨by kernel_rfl, by kernel_rfl, trivial⟩ ⟨by kernel_rfl, trivial⟩)
    iterate 3 (refine dro_f hb6 ?_)
    refine dr_cons { need := [(10, .pv (.bool ((a0.fKids.length : Int) != y3))), (14, .pv (.bool (a0.fKind != 1)))], dst := some 18, val := some (.pv (.bool false)) } (fun m h => step_on (guard_on rfl rfl rfl h.1.1 hb5) (op_pick_f rfl h.1.2.1 hb6 rfl rfl rfl) rfl) ⟨⟨rfl, rfl, trivial⟩, trivial, trivial⟩ ?_
    refine dr_cons { need := [(10, .pv (.bool ((a0.fKids.length : Int) != y3))), (18, .pv (.bool false))], dst := some 19, val := some (.pv (.bool false)) } (fun m h => step_on (guard_no rfl) (op_pick_f rfl h.1.1 hb5 h.1.2.1 rfl rfl) rfl) ⟨⟨rfl, rfl, trivial⟩, trivial, trivial⟩ ?_
    refine drm ?_
    refine dr_cons { need := [(20, .pv (.bool false)), (1, .lp 0 0)], dst := some 21, val := some (.lp 0 0) } (fun m h => step_on (guard_on rfl rfl rfl h.1.1 rfl) (op_field_lp rfl h.1.2.1 Tryd_fld_45_0 rfl rfl) rfl) ⟨⟨rfl, rfl, trivial⟩, trivial, trivial⟩ ?_
    refine dr_cons { need := [(20, .pv (.bool false)), (21, .lp 0 0)], hneed := [(0, .box 45 (bxv (eGExpr a0)))], dst := some 22, val := some (.pv (.int .i64 a0.fKind)) } (fun m h => step_on (guard_on rfl rfl rfl h.1.1 rfl) (op_load_lp (v := .pv (.int .i64 a0.fKind)) rfl h.1.2.1 h.2.1.1 rfl Tryd_one_3 rfl rfl) rfl) ⟨⟨rfl, rfl, trivial⟩, ⟨rfl, trivial⟩, trivial⟩ ?_
    refine dr_cons { need := [(20, .pv (.bool false)), (22, .pv (.int .i64 a0.fKind))], dst := some 23, val := some (.pv (.bool (a0.fKind != 2))) } (fun m h => step_on (guard_on rfl rfl rfl h.1.1 rfl) (op_int (k := .i64) (m := a0.fKind) (n := 2) rfl h.1.2.1 rfl rfl rfl rfl) rfl) ⟨⟨rfl, rfl, trivial⟩, trivial, trivial⟩ ?_
    refine dr_cons { need := [(20, .pv (.bool false)), (23, .pv (.bool (a0.fKind != 2)))], dst := some 24, val := some (.pv (.bool (a0.fKind != 2))) } (fun m h => step_on (guard_on rfl rfl rfl h.1.1 rfl) (op_move rfl h.1.2.1 rfl rfl) rfl) ⟨⟨rfl, rfl, trivial⟩, trivial, trivial⟩ ?_
    rcases ite_some hF with ⟨hb9, hF⟩ | ⟨hb9, hF⟩
    · refine dr_cons { need := [(24, .pv (.bool (a0.fKind != 2))), (1, .lp 0 0)], dst := some 25, val := some (.lp 0 2) } (fun m h => step_on (guard_on rfl rfl rfl h.1.1 hb9) (op_field_lp rfl h.1.2.1 Tryd_fld_45_2 rfl rfl) rfl) ⟨⟨rfl, rfl, trivial⟩, trivial, trivial⟩ ?_
      refine dr_cons (expr_plain_e60 a0) (fun m h => step_on (guard_on rfl rfl rfl h.1.1 hb9) (op_load_lp (v := .pv (.str a0.fName)) rfl h.1.2.1 h.2.1.1 rfl Tryd_one_9 rfl rfl) rfl) ⟨⟨rfl, rfl, trivial⟩, ⟨rfl, trivial⟩, trivial⟩ ?_
      refine dr_cons (expr_plain_e61 a0) (fun m h => step_on (guard_on rfl rfl rfl h.1.1 hb9) (op_str rfl h.1.2.1 rfl rfl rfl rfl) rfl) ⟨⟨rfl, rfl, trivial⟩, trivial, trivial⟩ ?_
      refine dr_cons { need := [(20, .pv (.bool false)), (24, .pv (.bool (a0.fKind != 2))), (27, .pv (.bool (!(a0.fName == []))))], dst := some 28, val := some (.pv (.bool (!(a0.fName == [])))) } (fun m h => step_on (guard_on rfl rfl rfl h.1.1 rfl) (op_pick_t rfl h.1.2.1 hb9 h.1.2.2.1 rfl rfl) rfl) ⟨⟨rfl, rfl, rfl, trivial⟩, trivial, trivial⟩ ?_
      refine dr_cons { need := [(20, .pv (.bool false)), (28, .pv (.bool (!(a0.fName == []))))], dst := some 29, val := some (.pv (.bool (!(a0.fName == [])))) } (fun m h => step_on (guard_no rfl) (op_pick_f rfl h.1.1 rfl h.1.2.1 rfl rfl) rfl) ⟨⟨rfl, rfl, trivial⟩, trivial, trivial⟩ ?_
      refine dr_nil Tryd_mixed rfl (by kernel_rfl) ?_
      refine post_imp (s' := ⟨55, [(1, some (.lp 0 0)), (29, some (.pv (.bool (!(a0.fName == [])))))], [(0, some (.box 45 (bxv (eGExpr a0))))], 1, [], [], 0, []⟩) (imps [0] ⟨by kernel_rfl, by kernel_rfl, trivial⟩ ⟨by kernel_rfl, trivial⟩) ?_
      cases hF
      exact post_cut _ rfl (imps [0] ⟨by kernel_rfl, by kernel_rfl, trivial⟩ ⟨by kernel_rfl, trivial⟩)
    iterate 3 (refine dro_f hb9 ?_)
    refine dr_cons { need := [(20, .pv (.bool false)), (24, .pv (.bool (a0.fKind != 2)))], dst := some 28, val := some (.pv (.bool false)) } (fun m h => step_on (guard_on rfl rfl rfl h.1.1 rfl) (op_pick_f rfl h.1.2.1 hb9 rfl rfl rfl) rfl) ⟨⟨rfl, rfl, trivial⟩, trivial, trivial⟩ ?_
    refine dr_cons { need := [(20, .pv (.bool false)), (28, .pv (.bool false))], dst := some 29, val := some (.pv (.bool false)) } (fun m h => step_on (guard_no rfl) (op_pick_f rfl h.1.1 rfl h.1.2.1 rfl rfl) rfl) ⟨⟨rfl, rfl, trivial⟩, trivial, trivial⟩ ?_
    refine dr_nil Tryd_mixed rfl (by kernel_rfl) ?_
    refine post_imp (s' := ⟨55, [(1, some (.lp 0 0)), (29, some (.pv (.bool false)))], [(0, some (.box 45 (bxv (eGExpr a0))))], 1, [], [], 0, []⟩) (imps [0] ⟨by kernel_rfl, by kernel_rfl, trivial⟩ ⟨by kernel_rfl, trivial⟩) ?_
    cases hF
    exact post_cut _ rfl (imps [0] ⟨by kernel_rfl, by kernel_rfl, trivial⟩ ⟨by kernel_rfl, trivial⟩)
  rintro _ rfl
  have hF := hK12
  clear hK12
  refine post_next ?_
  rcases ite_some hF with ⟨hb13, hF⟩ | ⟨hb13, hF⟩
  · refine aw_cond_t rfl hb13 ?_
    refine aw_seq ?_
    refine aw_region ?_
    refine ras ?_
    refine reg_nil ?_
    refine post_imp (s' := ⟨55, [(2, some (.pv (.bool false)))], [], 0, [], [], 0, []⟩) (imps [] ⟨by kernel_rfl, trivial⟩ trivial) ?_
    refine post_next ?_
    refine aw_ret ?_
    refine post_then_ret ?_
    obtain rfl := Option.some.inj hF
    exact prt
  refine aw_cond_f rfl hb13 ?_
  refine aw_skip ?_
  refine post_next ?_
  iterate 2 (refine aw_seq ?_)
  refine aw_region ?_
  refine rgp (op_field_lp rfl rfl Tryd_fld_45_0 rfl rfl) ?_
  refine rgp (op_load_lp (v := .pv (.int .i64 a0.fKind)) rfl rfl rfl rfl Tryd_one_3 rfl rfl) ?_
  refine reg_nil ?_
  refine post_imp (s' := ⟨55, [(1, some (.lp 0 0)), (31, some (.pv (.int .i64 a0.fKind)))], [(0, some (.box 45 (bxv (eGExpr a0))))], 1, [], [], 0, []⟩) (imps [0] ⟨by kernel_rfl, by kernel_rfl, trivial⟩ ⟨by kernel_rfl, trivial⟩) ?_
  refine post_next ?_
  refine aw_block ?_
  refine aw_seq ?_
  refine aw_region ?_
  refine rgp (op_int (k := .i64) (m := a0.fKind) (n := 1) rfl rfl rfl rfl rfl rfl) ?_
  refine ras ?_
  refine reg_nil ?_
  refine post_imp (s' := ⟨55, [(1, some (.lp 0 0)), (31, some (.pv (.int .i64 a0.fKind))), (32, some (.pv (.bool (a0.fKind == 1))))], [(0, some (.box 45 (bxv (eGExpr a0))))], 1, [], [], 0, []⟩) (imps [0] ⟨by kernel_rfl, by kernel_rfl, by kernel_rfl, trivial⟩ ⟨by kernel_rfl, trivial⟩) ?_
  refine post_next ?_
  rcases ite_some hF with ⟨hb14, hF⟩ | ⟨hb14, hF⟩
  · refine aw_cond_t rfl hb14 ?_
    refine aw_seq ?_
    refine aw_region ?_
    refine rgp (op_field_lp rfl rfl Tryd_fld_45_1 rfl rfl) ?_
    refine rgp (op_load_lp (v := .pv (.int .i64 a0.fNum)) rfl rfl rfl rfl Tryd_one_3 rfl rfl) ?_
    refine rgp (op_int (k := .i64) (m := a0.fNum) (n := 0) rfl rfl rfl rfl rfl rfl) ?_
    refine rmv ?_
    rcases ite_some hF with ⟨hb15, hF⟩ | ⟨hb15, hF⟩
    · refine rgn hb15 (op_field_lp rfl rfl Tryd_fld_45_1 rfl rfl) ?_
      refine rgn hb15 (op_load_lp (v := .pv (.int .i64 a0.fNum)) rfl rfl rfl rfl Tryd_one_3 rfl rfl) ?_
      refine rgn hb15 (op_int (k := .i64) (m := a0.fNum) (n := 999999999) rfl rfl rfl rfl rfl rfl) ?_
      refine rpt hb15 ?_
      refine ras ?_
      refine reg_nil ?_
      refine post_imp (s' := ⟨55, [(2, some (.pv (.bool (decide (a0.fNum ≤ 999999999)))))], [], 0, [], [], 0, []⟩) (imps [] ⟨by kernel_rfl, trivial⟩ trivial) ?_
      refine post_next ?_
      refine aw_ret ?_
      refine post_block_ret ?_
      refine post_then_ret ?_
      obtain rfl := Option.some.inj hF
      exact prt
    iterate 3 (refine rgo_f hb15 ?_)
    refine rpf hb15 ?_
    refine ras ?_
    refine reg_nil ?_
    refine post_imp (s' := ⟨55, [(2, some (.pv (.bool false)))], [], 0, [], [], 0, []⟩) (imps [] ⟨by kernel_rfl, trivial⟩ trivial) ?_
    refine post_next ?_
    refine aw_ret ?_
    refine post_block_ret ?_
    refine post_then_ret ?_
    obtain rfl := Option.some.inj hF
    exact prt
  refine aw_cond_f rfl hb14 ?_
  refine aw_seq ?_
  refine aw_region ?_
  refine rgp (op_int (k := .i64) (m := a0.fKind) (n := 2) rfl rfl rfl rfl rfl rfl) ?_
  refine ras ?_
  refine reg_nil ?_
  refine post_imp (s' := ⟨55, [(1, some (.lp 0 0)), (31, some (.pv (.int .i64 a0.fKind))), (42, some (.pv (.bool (a0.fKind == 2))))], [(0, some (.box 45 (bxv (eGExpr a0))))], 1, [], [], 0, []⟩) (imps [0] ⟨by kernel_rfl, by kernel_rfl, by kernel_rfl, trivial⟩ ⟨by kernel_rfl, trivial⟩) ?_
  refine post_next ?_
  rcases ite_some hF with ⟨hb16, hF⟩ | ⟨hb16, hF⟩
  · refine aw_cond_t rfl hb16 ?_
    refine aw_seq ?_
    refine aw_region ?_
    refine rgp (op_field_lp rfl rfl Tryd_fld_45_2 rfl rfl) ?_
    refine rgp (op_load_lp (v := .pv (.str a0.fName)) rfl rfl rfl rfl Tryd_one_9 rfl rfl) ?_
    obtain ⟨y17, h18, hF⟩ := bind_some hF
    refine rgp (op_call 1 rfl (caps := []) (args := [.str a0.fName]) (rs := [.p (.bool y17)]) rfl rfl rfl Tryd_cal_32 (word_Name_ok h18) rfl rfl rfl) ?_
    refine ras ?_
    refine reg_nil ?_
    refine post_imp (s' := ⟨55, [(2, some (.pv (.bool y17)))], [], 0, [], [], 0, []⟩) (imps [] ⟨by kernel_rfl, trivial⟩ trivial) ?_
    refine post_next ?_
    refine aw_ret ?_
    refine post_block_ret ?_
    refine post_then_ret ?_
    obtain rfl := Option.some.inj hF
    exact prt
  refine aw_cond_f rfl hb16 ?_
  refine aw_seq ?_
  obtain ⟨x20, hF, hK22⟩ := bind_some hF
  refine aw_cut (fun s1 => s1 = ⟨55, [(1, some (.lp 0 0)), (47, some (.pv (.bool x20)))], [(0, some (.box 45 (bxv (eGExpr a0))))], 1, [], [], 0, []⟩) ?_ ?_
  · refine aw_seq ?_
    refine aw_region ?_
    refine rgp (op_int (k := .i64) (m := a0.fKind) (n := 13) rfl rfl rfl rfl rfl rfl) ?_
    refine ras ?_
    refine reg_nil ?_
    refine post_imp (s' := ⟨55, [(1, some (.lp 0 0)), (31, some (.pv (.int .i64 a0.fKind))), (47, some (.pv (.bool (a0.fKind == 13))))], [(0, some (.box 45 (bxv (eGExpr a0))))], 1, [], [], 0, []⟩) (imps [0] ⟨by kernel_rfl, by kernel_rfl, by kernel_rfl, trivial⟩ ⟨by kernel_rfl, trivial⟩) ?_
    refine post_next ?_
    rcases ite_some hF with ⟨hb19, hF⟩ | ⟨hb19, hF⟩
    · refine aw_cond_t rfl hb19 ?_
      refine aw_skip ?_
      cases hF
      exact post_cut _ rfl (imps [0] ⟨by kernel_rfl, by kernel_rfl, trivial⟩ ⟨by kernel_rfl, trivial⟩)
    refine aw_cond_f rfl hb19 ?_
    refine aw_region ?_
    refine rgp (op_int (k := .i64) (m := a0.fKind) (n := 14) rfl rfl rfl rfl rfl rfl) ?_
    refine ras ?_
    refine reg_nil ?_
    cases hF
    exact post_cut _ rfl (imps [0] ⟨by kernel_rfl, by kernel_rfl, trivial⟩ ⟨by kernel_rfl, trivial⟩)
  rintro _ rfl
  have hF := hK22
  clear hK22
  refine post_next ?_
  rcases ite_some hF with ⟨hb23, hF⟩ | ⟨hb23, hF⟩
  · refine aw_cond_t rfl hb23 ?_
    refine aw_seq ?_
    refine aw_region ?_
    refine rgp (op_field_lp rfl rfl Tryd_fld_45_3 rfl rfl) ?_
    refine rgp (op_load_lp (v := .pv (.vs 4 (eLGExpr a0.fKids))) rfl rfl rfl rfl Tryd_one_43 rfl rfl) ?_
    refine rgp (op_makeFunc rfl rfl rfl rfl) ?_
    obtain ⟨y25, h26, hF⟩ := bind_some hF
    refine rgp (op_callB 1 rfl (caps := []) (args := [.vs 4 (eLGExpr a0.fKids), .fn 88 [.vp (eGExpr a0)]]) [(0, some (.box 45 (bxv (eGExpr a0))))] rfl rfl rfl (FzH.spec ⟨rfl, trivial⟩) rfl rfl Tryd_cal_83 (slices_ContainsFunc_api_Expr_ok (q1_f := 88) (q1_c := [.vp (eGExpr a0)]) (q1_b := Tryd_cal_88) (q1_h := fun _ r h => (expr_plain_1_ok h)) h26) rfl rfl rfl) ?_
    refine rgp (op_not rfl rfl rfl rfl) ?_
    refine ras ?_
    refine reg_nil ?_
    refine post_imp (s' := ⟨55, [(2, some (.pv (.bool (!y25))))], [], 0, [], [], 0, []⟩) (imps [] ⟨by kernel_rfl, trivial⟩ trivial) ?_
    refine post_next ?_
    refine aw_ret ?_
    refine post_block_ret ?_
    refine post_then_ret ?_
    obtain rfl := Option.some.inj hF
    exact prt
  refine aw_cond_f rfl hb23 ?_
  refine aw_skip ?_
  refine post_block_normal ?_
  refine post_next ?_
  refine aw_seq ?_
  refine aw_region ?_
  refine ras ?_
  refine reg_nil ?_
  refine post_imp (s' := ⟨55, [(2, some (.pv (.bool true)))], [], 0, [], [], 0, []⟩) (imps [] ⟨by kernel_rfl, trivial⟩ trivial) ?_
  refine post_next ?_
  refine aw_ret ?_
  obtain rfl := Option.some.inj hF
  exact prt
theorem expr_Right_ok {a0 : GExpr} {r : Bool} (hF : expr_Right a0 = some r) : Abs.Fn globs_Tryd Tryd.prog 42 [.agg (eGExpr a0)] [.p (.bool r)] := by
  unfold expr_Right at hF
  refine fn_of_body (n := 13) Tryd.func42 rfl rfl rfl ?_
  intro w O
  refine aw_seq ?_
  refine aw_region ?_
  refine rgp (op_box 0 rfl rfl rfl rfl rfl rfl) ?_
  refine rgp (op_alloc 1 rfl (ps := [.bool false]) rfl Tryd_zer_4 (by exact ⟨rfl, trivial⟩) rfl rfl) ?_
  refine reg_nil ?_
  refine post_imp (s' := ⟨13, [(1, some (.lp 0 0)), (2, some (.lp 1 0))], [(0, some (.box 45 (bxv (eGExpr a0)))), (1, some (.box 4 [.pv (.bool false)]))], 2, [], [], 0, []⟩) (imps [0, 1] ⟨by kernel_rfl, by kernel_rfl, trivial⟩ ⟨by kernel_rfl, by kernel_rfl, trivial⟩) ?_
  refine post_next ?_
  iterate 2 (refine aw_seq ?_)
  refine aw_region ?_
  refine rgp (op_load_lp_agg (ps := eGExpr a0) rfl rfl rfl rfl rfl rfl Tryd_agg_45 rfl rfl) ?_
  obtain ⟨y3, h4, hF⟩ := bind_some hF
  refine rgp (op_call 2 rfl (caps := []) (args := [.agg (eGExpr a0), .int .i64 20]) (rs := [.p (.bool y3)]) rfl rfl rfl Tryd_cal_62 (expr_deep_ok h4) rfl rfl rfl) ?_
  refine rgp (op_not rfl rfl rfl rfl) ?_
  refine reg_nil ?_
  refine post_imp (s' := ⟨13, [(1, some (.lp 0 0)), (2, some (.lp 1 0)), (6, some (.pv (.bool (!y3))))], [(0, some (.box 45 (bxv (eGExpr a0)))), (1, some (.box 4 [.pv (.bool false)]))], 2, [], [], 0, []⟩) (imps [0, 1] ⟨by kernel_rfl, by kernel_rfl, by kernel_rfl, trivial⟩ ⟨by kernel_rfl, by kernel_rfl, trivial⟩) ?_
  refine post_next ?_
  rcases ite_some hF with ⟨hb5, hF⟩ | ⟨hb5, hF⟩
  · refine aw_cond_t rfl hb5 ?_
    refine aw_seq ?_
    refine aw_region ?_
    refine rgp (op_store_lp (n := 1) rfl rfl rfl rfl rfl (or_one Tryd_one_4) (by rw [Tryd_one_4]; rfl) rfl rfl rfl) ?_
    refine reg_nil ?_
    refine post_imp (s' := ⟨13, [(2, some (.lp 0 0))], [(0, some (.box 4 [.pv (.bool false)]))], 1, [], [], 0, []⟩) (imps [1] ⟨by kernel_rfl, trivial⟩ ⟨by kernel_rfl, trivial⟩) ?_
    refine post_next ?_
    refine aw_ret ?_
    refine post_then_ret ?_
    obtain rfl := Option.some.inj hF
    exact post_ret rfl rfl (.cons _ _ _ _ _ (.one _ _ _ _ _ _ _ rfl rfl Tryd_one_4 rfl) (.p _) .nil) (.inl rfl)
  refine aw_cond_f rfl hb5 ?_
  refine aw_skip ?_
  refine post_next ?_
  iterate 2 (refine aw_seq ?_)
  refine aw_region ?_
  refine rgp (op_load_lp_agg (ps := eGExpr a0) rfl rfl rfl rfl rfl rfl Tryd_agg_45 rfl rfl) ?_
  obtain ⟨y8, h9, hF⟩ := bind_some hF
  refine rgp (op_call 2 rfl (caps := []) (args := [.agg (eGExpr a0)]) (rs := [.p (.fn 85 [.vp (eGExpr y8)])]) rfl rfl rfl Tryd_cal_63 (expr_all_ok h9) rfl rfl rfl) ?_
  refine reg_nil ?_
  refine post_imp (s' := ⟨13, [(2, some (.lp 0 0)), (8, some (.pv (.fn 85 [.vp (eGExpr y8)])))], [(0, some (.box 4 [.pv (.bool false)]))], 1, [], [], 0, []⟩) (imps [1] ⟨by kernel_rfl, by kernel_rfl, trivial⟩ ⟨by kernel_rfl, trivial⟩) ?_
  refine post_next ?_
  refine aw_block ?_
  refine aw_imp (s' := ⟨13, [(2, some (.lp 0 0)), (8, some (.pv (.fn 85 [.vp (eGExpr y8)])))], [(0, some (.box 4 [.pv (.bool false)]))], 1, [], [], 0, []⟩) (imps [0] ⟨by kernel_rfl, by kernel_rfl, trivial⟩ ⟨by kernel_rfl, trivial⟩) ?_
  obtain ⟨rows28, hR29, hF⟩ := bind_some hF
  obtain ⟨lr30, hL31, hF⟩ := bind_some hF
  refine aw_rangeFunc (X := GExpr) (Q := Unit) (E := Unit) (pre := [.vp (eGExpr y8)]) (bx := none) (post := []) (kt := [2]) (psl := [9]) none (fun z : GExpr => ([.agg (eGExpr z)] : List PV)) rows28 expr_Right_B1 () lr30 hL31 (fun q => ⟨13, [(2, some (.lp 0 0))], [(0, some (.box 4 [.pv (.bool false)]))], 1, [], [], 0, []⟩) (fun z => (.ret, ⟨13, [(2, some (.lp 0 0))], [(0, some (.box 4 [.pv (.bool false)]))], 1, [], [], 0, []⟩)) ⟨rfl, rfl⟩ Tryd_cal_85 (fun sp => expr_all_1_it (itR_all_ok hR29 sp)) (fun _ => rfl) rfl rfl (by decide) rfl (fun x q => ⟨13, [(2, some (.lp 0 0)), (3, some (.lp 1 0)), (9, some (.pv (.agg (eGExpr x))))], [(0, some (.box 4 [.pv (.bool false)])), (1, some (.box 45 (bxv (eGExpr x))))], 2, [], [], 0, [2]⟩) (fun q => ⟨rfl, rfl, rfl, rfl⟩) (fun z => ⟨rfl, rfl, rfl, rfl⟩) (fun z => rfl) rfl rfl ⟨rfl, trivial⟩ ⟨⟨rfl, rfl, rfl⟩, trivial⟩ ?_ ?_ ?_ ?_
  · rintro l32 c33 x22 ⟨⟩ hc34
    refine aw_region ?_
    refine rgp (op_alloc 1 rfl (ps := (eGExpr zGExpr)) rfl Tryd_zer_45 (by exact ⟨rfl, rfl, rfl, trivial, trivial⟩) rfl rfl) ?_
    refine rgp (op_store_lp (n := 4) rfl rfl rfl rfl rfl (or_agg Tryd_agg_45) (by rw [Tryd_non_45]; rfl) rfl rfl rfl) ?_
    refine reg_nil ?_
    exact post_cut1 (imps [0, 1] ⟨by kernel_rfl, by kernel_rfl, by kernel_rfl, trivial⟩ ⟨by kernel_rfl, by kernel_rfl, trivial⟩)
  · rintro l32 c33 x22 ⟨⟩ r35 hc34 hF
    refine aw_block ?_
    refine aw_seq ?_
    refine aw_region ?_
    refine rgp (op_load_lp_agg (ps := eGExpr x22) rfl rfl rfl rfl rfl rfl Tryd_agg_45 rfl rfl) ?_
    obtain ⟨y25, h26, hF⟩ := bind_some hF
    refine rgp (op_call 2 rfl (caps := []) (args := [.agg (eGExpr x22)]) (rs := [.p (.bool y25)]) rfl rfl rfl Tryd_cal_64 (expr_plain_ok h26) rfl rfl rfl) ?_
    refine rgp (op_not rfl rfl rfl rfl) ?_
    refine reg_nil ?_
    refine post_imp (s' := ⟨13, [(2, some (.lp 0 0)), (12, some (.pv (.bool (!y25))))], [(0, some (.box 4 [.pv (.bool false)]))], 1, [], [], 0, [2]⟩) (imps [0] ⟨by kernel_rfl, by kernel_rfl, trivial⟩ ⟨by kernel_rfl, trivial⟩) ?_
    refine post_next ?_
    rcases ite_some hF with ⟨hb27, hF⟩ | ⟨hb27, hF⟩
    · refine aw_cond_t rfl hb27 ?_
      refine aw_seq ?_
      refine aw_region ?_
      refine rgp (op_store_lp (n := 1) rfl rfl rfl rfl rfl (or_one Tryd_one_4) (by rw [Tryd_one_4]; rfl) rfl rfl rfl) ?_
      refine reg_nil ?_
      refine post_imp (s' := ⟨13, [(2, some (.lp 0 0))], [(0, some (.box 4 [.pv (.bool false)]))], 1, [], [], 0, [2]⟩) (imps [0] ⟨by kernel_rfl, trivial⟩ ⟨by kernel_rfl, trivial⟩) ?_
      refine post_next ?_
      refine aw_ret ?_
      refine post_block_ret ?_
      obtain rfl := Option.some.inj hF
      exact post_rnd_ret () rfl rfl (imps [0] ⟨by kernel_rfl, trivial⟩ ⟨by kernel_rfl, trivial⟩)
    refine aw_cond_f rfl hb27 ?_
    refine aw_skip ?_
    refine post_block_normal ?_
    obtain rfl := Option.some.inj hF
    exact post_rnd () rfl (imps [0] ⟨by kernel_rfl, trivial⟩ ⟨by kernel_rfl, trivial⟩)
  · rintro ⟨⟩ rfl
    have hF := elim_next hF
    refine post_block_normal ?_
    refine post_next ?_
    refine aw_seq ?_
    refine aw_region ?_
    refine rgp (op_store_lp (n := 1) rfl rfl rfl rfl rfl (or_one Tryd_one_4) (by rw [Tryd_one_4]; rfl) rfl rfl rfl) ?_
    refine reg_nil ?_
    refine post_imp (s' := ⟨13, [(2, some (.lp 0 0))], [(0, some (.box 4 [.pv (.bool true)]))], 1, [], [], 0, []⟩) (imps [0] ⟨by kernel_rfl, trivial⟩ ⟨by kernel_rfl, trivial⟩) ?_
    refine post_next ?_
    refine aw_ret ?_
    obtain rfl := Option.some.inj hF
    exact post_ret rfl rfl (.cons _ _ _ _ _ (.one _ _ _ _ _ _ _ rfl rfl Tryd_one_4 rfl) (.p _) .nil) (.inl rfl)
  rintro ⟨⟩ rfl
  have hF := elim_stop hF
  show Post _ _ .ret _
  refine post_block_ret ?_
  refine post_then_ret ?_
  obtain rfl := Option.some.inj hF
  exact post_ret rfl rfl (.cons _ _ _ _ _ (.one _ _ _ _ _ _ _ rfl rfl Tryd_one_4 rfl) (.p _) .nil) (.inl rfl)
theorem shape_Of_ok {a0 : GClass} {a1 : GMethod} {a2 : GExpr} {r : GType × Int} (hF : shape_Of a0 a1 a2 = some r) : Abs.Fn globs_Tryd Tryd.prog 19 [.agg (eGClass a0), .agg (eGMethod a1), .agg (eGExpr a2)] [.p (.agg (eGType r.1)), .p (.int .i64 r.2)] := by
  unfold shape_Of at hF
  refine fn_of_body (n := 19) Tryd.func19 rfl rfl rfl ?_
  intro w O
  refine aw_seq ?_
  refine aw_region ?_
  refine rgp (op_box 0 rfl rfl rfl rfl rfl rfl) ?_
  refine rgp (op_box 1 rfl rfl rfl rfl rfl rfl) ?_
  refine rgp (op_box 2 rfl rfl rfl rfl rfl rfl) ?_
  refine rgp (op_alloc 3 rfl (ps := (eGType zGType)) rfl Tryd_zer_26 (by exact ⟨rfl, rfl, rfl, rfl, rfl, rfl, rfl, rfl, rfl, rfl, rfl, trivial⟩) rfl rfl) ?_
  refine ras ?_
  refine reg_nil ?_
  refine post_imp (s' := ⟨19, [(3, some (.lp 0 0)), (4, some (.lp 1 0)), (5, some (.lp 2 0)), (6, some (.lp 3 0))], [(0, some (.box 39 (bxv (eGClass a0)))), (1, some (.box 42 (bxv (eGMethod a1)))), (2, some (.box 45 (bxv (eGExpr a2)))), (3, some (.box 26 (bxv (eGType zGType))))], 4, [], [], 0, []⟩) (imps [0, 1, 2, 3] ⟨by kernel_rfl, by kernel_rfl, by kernel_rfl, by kernel_rfl, trivial⟩ ⟨by kernel_rfl, by kernel_rfl, by kernel_rfl, by kernel_rfl, trivial⟩) ?_
  refine post_next ?_
  iterate 2 (refine aw_seq ?_)
  refine aw_region ?_
  refine rgp (op_load_lp_agg (ps := eGExpr a2) rfl rfl rfl rfl rfl rfl Tryd_agg_45 rfl rfl) ?_
  obtain ⟨y3, h4, hF⟩ := bind_some hF
  refine rgp (op_call 4 rfl (caps := []) (args := [.agg (eGExpr a2)]) (rs := [.p (.bool y3)]) rfl rfl rfl Tryd_cal_42 (expr_Right_ok h4) rfl rfl rfl) ?_
  refine rgp (op_not rfl rfl rfl rfl) ?_
  refine reg_nil ?_
  refine post_imp (s' := ⟨19, [(3, some (.lp 0 0)), (4, some (.lp 1 0)), (5, some (.lp 2 0)), (6, some (.lp 3 0)), (11, some (.pv (.bool (!y3))))], [(0, some (.box 39 (bxv (eGClass a0)))), (1, some (.box 42 (bxv (eGMethod a1)))), (2, some (.box 45 (bxv (eGExpr a2)))), (3, some (.box 26 (bxv (eGType zGType))))], 4, [], [], 0, []⟩) (imps [0, 1, 2, 3] ⟨by kernel_rfl, by kernel_rfl, by kernel_rfl, by kernel_rfl, by kernel_rfl, trivial⟩ ⟨by kernel_rfl, by kernel_rfl, by kernel_rfl, by kernel_rfl, trivial⟩) ?_
  refine post_next ?_
  rcases ite_some hF with ⟨hb5, hF⟩ | ⟨hb5, hF⟩
  · refine aw_cond_t rfl hb5 ?_
    refine aw_seq ?_
    refine aw_region ?_
    refine rgp (op_build (zs := (eGType zGType)) (r := eGType ({ fKind := 0, fClass := [], fN := 0, fOwn := (⟨zGOwner, zGOwner, zGOwner, zGOwner⟩ : A4 GOwner) } : GType)) rfl Tryd_zer_26 (by exact ⟨rfl, rfl, rfl, rfl, rfl, rfl, rfl, rfl, rfl, rfl, rfl, trivial⟩) Tryd_plc_26 rfl rfl rfl rfl) ?_
    refine rgp (op_store_lp (n := 11) rfl rfl rfl rfl rfl (or_agg Tryd_agg_26) (by rw [Tryd_non_26]; rfl) rfl rfl rfl) ?_
    refine ras ?_
    refine reg_nil ?_
    refine post_imp (s' := ⟨19, [(6, some (.lp 0 0)), (7, some (.pv (.int .i64 28)))], [(0, some (.box 26 (bxv (eGType ({ fKind := 0, fClass := [], fN := 0, fOwn := (⟨zGOwner, zGOwner, zGOwner, zGOwner⟩ : A4 GOwner) } : GType)))))], 1, [], [], 0, []⟩) (imps [3] ⟨by kernel_rfl, by kernel_rfl, trivial⟩ ⟨by kernel_rfl, trivial⟩) ?_
    refine post_next ?_
    refine aw_ret ?_
    refine post_then_ret ?_
    obtain rfl := Option.some.inj hF
    exact post_ret rfl rfl (.cons _ _ _ _ _ (.agg _ _ _ _ _ 11 _ _ rfl rfl Tryd_agg_26 rfl rfl rfl) (.p _) (.cons _ _ _ _ _ (.tmp _ _ rfl) (.p _) .nil)) (.inl rfl)
  refine aw_cond_f rfl hb5 ?_
  refine aw_skip ?_
  refine post_next ?_
  refine aw_seq ?_
  refine aw_region ?_
  refine rgp (op_alloc 4 rfl (ps := [.nilf]) rfl Tryd_zer_71 (by exact ⟨rfl, trivial⟩) rfl rfl) ?_
  refine reg_nil ?_
  refine post_imp (s' := ⟨19, [(3, some (.lp 0 0)), (4, some (.lp 1 0)), (5, some (.lp 2 0)), (6, some (.lp 3 0)), (8, some (.lp 4 0))], [(0, some (.box 39 (bxv (eGClass a0)))), (1, some (.box 42 (bxv (eGMethod a1)))), (2, some (.box 45 (bxv (eGExpr a2)))), (3, some (.box 26 (bxv (eGType zGType)))), (4, some (.box 71 [.pv .nilf]))], 5, [], [], 0, []⟩) (imps [0, 1, 2, 3, 4] ⟨by kernel_rfl, by kernel_rfl, by kernel_rfl, by kernel_rfl, by kernel_rfl, trivial⟩ ⟨by kernel_rfl, by kernel_rfl, by kernel_rfl, by kernel_rfl, by kernel_rfl, trivial⟩) ?_
  refine post_next ?_
  refine aw_seq ?_
  refine aw_region ?_
  refine reg_imp (imp_freeze [(0, some (.box 39 (bxv (eGClass a0))))] [(3, some (.pv (.vp (eGClass a0))))] (FzH.spec ⟨rfl, trivial⟩) ⟨⟨_, rfl, rfl⟩, trivial⟩) ?_
  refine reg_imp (imp_freeze [(1, some (.box 42 (bxv (eGMethod a1))))] [(4, some (.pv (.vp (eGMethod a1))))] (FzH.spec ⟨rfl, trivial⟩) ⟨⟨_, rfl, rfl⟩, trivial⟩) ?_
  refine rgp (op_makeFunc rfl rfl rfl rfl) ?_
  refine rgp (op_store_lp (n := 1) rfl rfl rfl rfl rfl (or_one Tryd_one_71) (by rw [Tryd_one_71]; rfl) rfl rfl rfl) ?_
  refine reg_nil ?_
  refine post_imp (s' := ⟨19, [(5, some (.lp 0 0)), (6, some (.lp 1 0)), (8, some (.lp 2 0))], [(0, some (.box 45 (bxv (eGExpr a2)))), (1, some (.box 26 (bxv (eGType zGType)))), (2, some (.box 71 [.fn 43 [.pv (.vp (eGClass a0)), .pv (.vp (eGMethod a1)), .lp 2 0]]))], 3, [], [], 0, []⟩) (imps [2, 3, 4] ⟨by kernel_rfl, by kernel_rfl, by kernel_rfl, trivial⟩ ⟨by kernel_rfl, by kernel_rfl, by kernel_rfl, trivial⟩) ?_
  refine post_next ?_
  refine aw_seq ?_
  refine aw_region ?_
  refine reg_imp (imp_knot 8 2 ((mGExpr a2 + 1) + 1) _ (shape_Of_1_knot_row a0 a1 (mGExpr a2 + 1)) rfl rfl) ?_
  refine rgp (op_load_vp (p := .fn (shape_Of_1_knot a0 a1 (mGExpr a2 + 1)).f (shape_Of_1_knot a0 a1 (mGExpr a2 + 1)).c) rfl rfl rfl Tryd_one_71 rfl rfl) ?_
  refine rgp (op_load_lp_agg (ps := eGExpr a2) rfl rfl rfl rfl rfl rfl Tryd_agg_45 rfl rfl) ?_
  obtain ⟨y6, h7, hF⟩ := bind_some hF
  refine rgp (op_call 3 rfl (caps := (shape_Of_1_knot a0 a1 (mGExpr a2 + 1)).c) (args := [.agg (eGExpr a2)]) (rs := [.p (.agg (eGType y6.1)), .p (.int .i64 y6.2)]) rfl rfl rfl (shape_Of_1_knot a0 a1 (mGExpr a2 + 1)).b ((shape_Of_1_knot a0 a1 (mGExpr a2 + 1)).h a2 _ h7) rfl rfl rfl) ?_
  iterate 2 (refine rgp (op_extract rfl rfl rfl rfl rfl) ?_)
  refine rgp (op_store_lp (n := 11) rfl rfl rfl rfl rfl (or_agg Tryd_agg_26) (by rw [Tryd_non_26]; rfl) rfl rfl rfl) ?_
  refine ras ?_
  refine reg_nil ?_
  refine post_imp (s' := ⟨19, [(6, some (.lp 0 0)), (7, some (.pv (.int .i64 y6.2)))], [(0, some (.box 26 (bxv (eGType y6.1))))], 1, [], [], 0, []⟩) (imps [1] ⟨by kernel_rfl, by kernel_rfl, trivial⟩ ⟨by kernel_rfl, trivial⟩) ?_
  refine post_next ?_
  refine aw_ret ?_
  obtain rfl := Option.some.inj hF
  exact post_ret rfl rfl (.cons _ _ _ _ _ (.agg _ _ _ _ _ 11 _ _ rfl rfl Tryd_agg_26 rfl rfl rfl) (.p _) (.cons _ _ _ _ _ (.tmp _ _ rfl) (.p _) .nil)) (.inl rfl)
theorem law19_awake_ok  {r : Bool} (hF : law19_awake = some r) : Abs.Fn globs_Tryd Tryd.prog 18 [] [.p (.bool r)] := by
  unfold law19_awake at hF
  refine fn_of_body (n := 38) Tryd.func18 rfl rfl rfl ?_
  intro w O
  refine aw_seq ?_
  refine aw_region ?_
  refine ras ?_
  refine reg_nil ?_
  refine post_imp (s' := ⟨38, [], [], 0, [], [], 0, []⟩) (imps [] trivial trivial) ?_
  refine post_next ?_
  refine aw_seq ?_
  refine aw_region ?_
  refine rgp (op_build (zs := (eGType zGType)) (r := eGType ({ fKind := 1, fClass := [], fN := 0, fOwn := (⟨zGOwner, zGOwner, zGOwner, zGOwner⟩ : A4 GOwner) } : GType)) rfl Tryd_zer_26 (by exact ⟨rfl, rfl, rfl, rfl, rfl, rfl, rfl, rfl, rfl, rfl, rfl, trivial⟩) Tryd_plc_26 rfl rfl rfl rfl) ?_
  refine rgp (op_build (zs := (eGVar zGVar)) (r := eGVar ({ fName := [97], fType := ({ fKind := 1, fClass := [], fN := 0, fOwn := (⟨zGOwner, zGOwner, zGOwner, zGOwner⟩ : A4 GOwner) } : GType), fAt := 0 } : GVar)) rfl Tryd_zer_52 (by exact ⟨rfl, rfl, rfl, rfl, rfl, rfl, rfl, rfl, rfl, rfl, rfl, rfl, rfl, trivial⟩) Tryd_plc_52 rfl rfl rfl rfl) ?_
  refine rgp (op_lit (rows := List.map eGVar ([({ fName := [97], fType := ({ fKind := 1, fClass := [], fN := 0, fOwn := (⟨zGOwner, zGOwner, zGOwner, zGOwner⟩ : A4 GOwner) } : GType), fAt := 0 } : GVar)] : List GVar)) (zs := (eGVar zGVar)) rfl rfl Tryd_slc_36 Tryd_zer_52 (by exact ⟨rfl, rfl, rfl, rfl, rfl, rfl, rfl, rfl, rfl, rfl, rfl, rfl, rfl, trivial⟩) rfl rfl rfl rfl rfl rfl rfl rfl) ?_
  refine rgp (op_build (zs := (eGMethod zGMethod)) (r := eGMethod ({ fName := [], fPure := false, fRet := zGType, fParams := [({ fName := [97], fType := ({ fKind := 1, fClass := [], fN := 0, fOwn := (⟨zGOwner, zGOwner, zGOwner, zGOwner⟩ : A4 GOwner) } : GType), fAt := 0 } : GVar)], fLocals := [], fBody := [], fAt := 0 } : GMethod)) rfl Tryd_zer_42 (by exact ⟨rfl, rfl, rfl, rfl, rfl, rfl, rfl, rfl, rfl, rfl, rfl, rfl, rfl, trivial, trivial, trivial, rfl, trivial⟩) Tryd_plc_42 rfl rfl rfl rfl) ?_
  refine rgp (op_alloc 0 rfl (ps := (eGMethod zGMethod)) rfl Tryd_zer_42 (by exact ⟨rfl, rfl, rfl, rfl, rfl, rfl, rfl, rfl, rfl, rfl, rfl, rfl, rfl, trivial, trivial, trivial, rfl, trivial⟩) rfl rfl) ?_
  refine rgp (op_store_lp (n := 17) rfl rfl rfl rfl rfl (or_agg Tryd_agg_42) (by rw [Tryd_non_42]; rfl) rfl rfl rfl) ?_
  refine reg_nil ?_
  refine post_imp (s' := ⟨38, [(1, some (.lp 0 0))], [(0, some (.box 42 (bxv (eGMethod ({ fName := [], fPure := false, fRet := zGType, fParams := [({ fName := [97], fType := ({ fKind := 1, fClass := [], fN := 0, fOwn := (⟨zGOwner, zGOwner, zGOwner, zGOwner⟩ : A4 GOwner) } : GType), fAt := 0 } : GVar)], fLocals := [], fBody := [], fAt := 0 } : GMethod)))))], 1, [], [], 0, []⟩) (imps [0] ⟨by kernel_rfl, trivial⟩ ⟨by kernel_rfl, trivial⟩) ?_
  refine post_next ?_
  refine aw_seq ?_
  refine aw_region ?_
  refine rgp (op_build (zs := (eGClass zGClass)) (r := eGClass ({ fName := [], fParams := [], fSuper := [], fAbove := [], fFields := [], fMethods := [], fAt := 0 } : GClass)) rfl Tryd_zer_39 (by exact ⟨rfl, trivial, rfl, trivial, trivial, trivial, rfl, trivial⟩) Tryd_plc_39 rfl rfl rfl rfl) ?_
  refine rgp (op_load_lp_agg (ps := eGMethod ({ fName := [], fPure := false, fRet := zGType, fParams := [({ fName := [97], fType := ({ fKind := 1, fClass := [], fN := 0, fOwn := (⟨zGOwner, zGOwner, zGOwner, zGOwner⟩ : A4 GOwner) } : GType), fAt := 0 } : GVar)], fLocals := [], fBody := [], fAt := 0 } : GMethod)) rfl rfl rfl rfl rfl rfl Tryd_agg_42 rfl rfl) ?_
  refine rgp (op_build (zs := (eGExpr zGExpr)) (r := eGExpr ({ fKind := 2, fNum := 0, fName := [97], fKids := [] } : GExpr)) rfl Tryd_zer_45 (by exact ⟨rfl, rfl, rfl, trivial, trivial⟩) Tryd_plc_45 rfl rfl rfl rfl) ?_
  refine rgp (op_build (zs := (eGExpr zGExpr)) (r := eGExpr ({ fKind := 4, fNum := 0, fName := [], fKids := [] } : GExpr)) rfl Tryd_zer_45 (by exact ⟨rfl, rfl, rfl, trivial, trivial⟩) Tryd_plc_45 rfl rfl rfl rfl) ?_
  refine rgp (op_litR (rows := List.map eGExpr ([({ fKind := 2, fNum := 0, fName := [97], fKids := [] } : GExpr), ({ fKind := 4, fNum := 0, fName := [], fKids := [] } : GExpr)] : List GExpr)) (rows' := eLGExpr ([({ fKind := 2, fNum := 0, fName := [97], fKids := [] } : GExpr), ({ fKind := 4, fNum := 0, fName := [], fKids := [] } : GExpr)] : List GExpr)) (zs := (eGExpr zGExpr)) rfl rfl Tryd_slc_43 Tryd_zer_45 (by exact ⟨rfl, rfl, rfl, trivial, trivial⟩) rfl rfl rfl rfl rfl rfl (eLGExpr_map _) rfl rfl) ?_
  refine rgp (op_build (zs := (eGExpr zGExpr)) (r := eGExpr ({ fKind := 6, fNum := 0, fName := [], fKids := [({ fKind := 2, fNum := 0, fName := [97], fKids := [] } : GExpr), ({ fKind := 4, fNum := 0, fName := [], fKids := [] } : GExpr)] } : GExpr)) rfl Tryd_zer_45 (by exact ⟨rfl, rfl, rfl, trivial, trivial⟩) Tryd_plc_45 rfl rfl rfl rfl) ?_
  obtain ⟨y3, h4, hF⟩ := bind_some hF
  refine rgp (op_call 1 rfl (caps := []) (args := [.agg (eGClass ({ fName := [], fParams := [], fSuper := [], fAbove := [], fFields := [], fMethods := [], fAt := 0 } : GClass)), .agg (eGMethod ({ fName := [], fPure := false, fRet := zGType, fParams := [({ fName := [97], fType := ({ fKind := 1, fClass := [], fN := 0, fOwn := (⟨zGOwner, zGOwner, zGOwner, zGOwner⟩ : A4 GOwner) } : GType), fAt := 0 } : GVar)], fLocals := [], fBody := [], fAt := 0 } : GMethod)), .agg (eGExpr ({ fKind := 6, fNum := 0, fName := [], fKids := [({ fKind := 2, fNum := 0, fName := [97], fKids := [] } : GExpr), ({ fKind := 4, fNum := 0, fName := [], fKids := [] } : GExpr)] } : GExpr))]) (rs := [.p (.agg (eGType y3.1)), .p (.int .i64 y3.2)]) rfl rfl rfl Tryd_cal_19 (shape_Of_ok h4) rfl rfl rfl) ?_
  refine rmv ?_
  iterate 2 (refine rgp (op_extract rfl rfl rfl rfl rfl) ?_)
  refine rgp (op_alloc 1 rfl (ps := (eGType zGType)) rfl Tryd_zer_26 (by exact ⟨rfl, rfl, rfl, rfl, rfl, rfl, rfl, rfl, rfl, rfl, rfl, trivial⟩) rfl rfl) ?_
  refine rgp (op_store_lp (n := 11) rfl rfl rfl rfl rfl (or_agg Tryd_agg_26) (by rw [Tryd_non_26]; rfl) rfl rfl rfl) ?_
  refine ras ?_
  refine reg_nil ?_
  refine post_imp (s' := ⟨38, [(1, some (.lp 0 0)), (3, some (.pv (.int .i64 y3.2)))], [(0, some (.box 42 (bxv (eGMethod ({ fName := [], fPure := false, fRet := zGType, fParams := [({ fName := [97], fType := ({ fKind := 1, fClass := [], fN := 0, fOwn := (⟨zGOwner, zGOwner, zGOwner, zGOwner⟩ : A4 GOwner) } : GType), fAt := 0 } : GVar)], fLocals := [], fBody := [], fAt := 0 } : GMethod)))))], 1, [], [], 0, []⟩) (imps [0] ⟨by kernel_rfl, by kernel_rfl, trivial⟩ ⟨by kernel_rfl, trivial⟩) ?_
  refine post_next ?_
  refine aw_seq ?_
  refine aw_region ?_
  refine rgp (op_build (zs := (eGClass zGClass)) (r := eGClass ({ fName := [], fParams := [], fSuper := [], fAbove := [], fFields := [], fMethods := [], fAt := 0 } : GClass)) rfl Tryd_zer_39 (by exact ⟨rfl, trivial, rfl, trivial, trivial, trivial, rfl, trivial⟩) Tryd_plc_39 rfl rfl rfl rfl) ?_
  refine rgp (op_load_lp_agg (ps := eGMethod ({ fName := [], fPure := false, fRet := zGType, fParams := [({ fName := [97], fType := ({ fKind := 1, fClass := [], fN := 0, fOwn := (⟨zGOwner, zGOwner, zGOwner, zGOwner⟩ : A4 GOwner) } : GType), fAt := 0 } : GVar)], fLocals := [], fBody := [], fAt := 0 } : GMethod)) rfl rfl rfl rfl rfl rfl Tryd_agg_42 rfl rfl) ?_
  refine rgp (op_build (zs := (eGExpr zGExpr)) (r := eGExpr ({ fKind := 2, fNum := 0, fName := [97], fKids := [] } : GExpr)) rfl Tryd_zer_45 (by exact ⟨rfl, rfl, rfl, trivial, trivial⟩) Tryd_plc_45 rfl rfl rfl rfl) ?_
  obtain ⟨y7, h8, hF⟩ := bind_some hF
  refine rgp (op_call 1 rfl (caps := []) (args := [.agg (eGClass ({ fName := [], fParams := [], fSuper := [], fAbove := [], fFields := [], fMethods := [], fAt := 0 } : GClass)), .agg (eGMethod ({ fName := [], fPure := false, fRet := zGType, fParams := [({ fName := [97], fType := ({ fKind := 1, fClass := [], fN := 0, fOwn := (⟨zGOwner, zGOwner, zGOwner, zGOwner⟩ : A4 GOwner) } : GType), fAt := 0 } : GVar)], fLocals := [], fBody := [], fAt := 0 } : GMethod)), .agg (eGExpr ({ fKind := 2, fNum := 0, fName := [97], fKids := [] } : GExpr))]) (rs := [.p (.agg (eGType y7.1)), .p (.int .i64 y7.2)]) rfl rfl rfl Tryd_cal_19 (shape_Of_ok h8) rfl rfl rfl) ?_
  refine rmv ?_
  iterate 2 (refine rgp (op_extract rfl rfl rfl rfl rfl) ?_)
  refine rgp (op_alloc 1 rfl (ps := (eGType zGType)) rfl Tryd_zer_26 (by exact ⟨rfl, rfl, rfl, rfl, rfl, rfl, rfl, rfl, rfl, rfl, rfl, trivial⟩) rfl rfl) ?_
  refine rgp (op_store_lp (n := 11) rfl rfl rfl rfl rfl (or_agg Tryd_agg_26) (by rw [Tryd_non_26]; rfl) rfl rfl rfl) ?_
  refine ras ?_
  refine reg_nil ?_
  refine post_imp (s' := ⟨38, [(3, some (.pv (.int .i64 y3.2))), (4, some (.lp 0 0)), (5, some (.pv (.int .i64 y7.2)))], [(0, some (.box 26 (bxv (eGType y7.1))))], 1, [], [], 0, []⟩) (imps [1] ⟨by kernel_rfl, by kernel_rfl, by kernel_rfl, trivial⟩ ⟨by kernel_rfl, trivial⟩) ?_
  refine post_next ?_
  refine aw_seq ?_
  refine aw_region ?_
  refine rmv ?_
  refine rgp (op_int (k := .i64) (m := y3.2) (n := 14) rfl rfl rfl rfl rfl rfl) ?_
  refine rmv ?_
  rcases ite_some hF with ⟨hb9, hF⟩ | ⟨hb9, hF⟩
  · refine rgn hb9 (op_move rfl rfl rfl rfl) ?_
    refine rgn hb9 (op_int (k := .i64) (m := y7.2) (n := 0) rfl rfl rfl rfl rfl rfl) ?_
    refine rpt hb9 ?_
    refine rmv ?_
    rcases ite_some hF with ⟨hb10, hF⟩ | ⟨hb10, hF⟩
    · refine rgn hb10 (op_load_lp_agg (ps := eGType y7.1) rfl rfl rfl rfl rfl rfl Tryd_agg_26 rfl rfl) ?_
      refine rgn hb10 (op_build (zs := (eGType zGType)) (r := eGType ({ fKind := 1, fClass := [], fN := 0, fOwn := (⟨zGOwner, zGOwner, zGOwner, zGOwner⟩ : A4 GOwner) } : GType)) rfl Tryd_zer_26 (by exact ⟨rfl, rfl, rfl, rfl, rfl, rfl, rfl, rfl, rfl, rfl, rfl, trivial⟩) Tryd_plc_26 rfl rfl rfl rfl) ?_
      refine rgn hb10 (op_eqAgg_eql (r := bGType y7.1 ({ fKind := 1, fClass := [], fN := 0, fOwn := (⟨zGOwner, zGOwner, zGOwner, zGOwner⟩ : A4 GOwner) } : GType)) rfl rfl rfl Tryd_eqt_26 rfl rfl rfl rfl rfl) ?_
      refine rpt hb10 ?_
      refine ras ?_
      refine reg_nil ?_
      refine post_imp (s' := ⟨38, [(0, some (.pv (.bool (bGType y7.1 ({ fKind := 1, fClass := [], fN := 0, fOwn := (⟨zGOwner, zGOwner, zGOwner, zGOwner⟩ : A4 GOwner) } : GType)))))], [], 0, [], [], 0, []⟩) (imps [] ⟨by kernel_rfl, trivial⟩ trivial) ?_
      refine post_next ?_
      refine aw_ret ?_
      obtain rfl := Option.some.inj hF
      exact prt
    iterate 3 (refine rgo_f hb10 ?_)
    refine rpf hb10 ?_
    refine ras ?_
    refine reg_nil ?_
    refine post_imp (s' := ⟨38, [(0, some (.pv (.bool false)))], [], 0, [], [], 0, []⟩) (imps [] ⟨by kernel_rfl, trivial⟩ trivial) ?_
    refine post_next ?_
    refine aw_ret ?_
    obtain rfl := Option.some.inj hF
    exact prt
  iterate 2 (refine rgo_f hb9 ?_)
  refine rpf hb9 ?_
  refine rmv ?_
  iterate 3 (refine rgo_f rfl ?_)
  refine rpf rfl ?_
  refine ras ?_
  refine reg_nil ?_
  refine post_imp (s' := ⟨38, [(0, some (.pv (.bool false)))], [], 0, [], [], 0, []⟩) (imps [] ⟨by kernel_rfl, trivial⟩ trivial) ?_
  refine post_next ?_
  refine aw_ret ?_
  obtain rfl := Option.some.inj hF
  exact prt
end Go.Proofs.YtkmaieldmcjbfaaDoor
