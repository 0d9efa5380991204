/- A part of the proof that the law ScopeMore gives true for every input. -/
import Derived.Test.YtiblofbgibjobaaScopeMoreT
import Derived.Test.YtiblofbgibjobaaScopeMoreX
import Derived.Test.YtiblofbgibjobaaScopeMoreI
/- Each Go function computes its plain function. -/
namespace Go.Proofs.Ytiblofbgibjobaa
open Go.RowKit Go.Abs
set_option maxRecDepth 100000
set_option maxHeartbeats 4000000
theorem law18_great_ok {a0 : GMethod} {r : Bool} (hF : law18_great a0 = some r) : Abs.Fn globs_Try Try.prog 5 [.agg (eGMethod a0)] [.p (.bool r)] := by
  unfold law18_great at hF
  refine fn_of_body (n := 13) Try.func5 rfl rfl rfl ?_
  intro w O
  refine aw_seq ?_
  refine aw_region ?_
  refine rgp (op_box 0 rfl rfl rfl rfl rfl rfl) ?_
  refine ras ?_
  refine reg_nil ?_
  refine post_imp (s' := ⟨13, [(1, some (.lp 0 0))], [(0, some (.box 35 (bxv (eGMethod a0))))], 1, [], [], 0, []⟩) (imps [0] ⟨by kernel_rfl, trivial⟩ ⟨by kernel_rfl, trivial⟩) ?_
  refine post_next ?_
  refine aw_seq ?_
  refine aw_region ?_
  refine rgp (op_field_lp rfl rfl Try_fld_35_3 rfl rfl) ?_
  refine rgp (op_load_lp (v := .pv (.vs 13 (List.map eGVar a0.fParams))) rfl rfl rfl rfl Try_one_24 rfl rfl) ?_
  refine rgp (op_len_vs (n := a0.fParams.length) rfl rfl (List.length_map ..) Try_slc_24 rfl rfl) ?_
  refine rgp (op_int (k := .i64) (m := (a0.fParams.length : Int)) (n := 60) rfl rfl rfl rfl rfl rfl) ?_
  refine rmv ?_
  rcases ite_some hF with ⟨hb1, hF⟩ | ⟨hb1, hF⟩
  · refine rgo_t hb1 ?_
    iterate 3 (refine rgo_t hb1 ?_)
    refine rpt hb1 ?_
    refine ras ?_
    refine reg_nil ?_
    refine post_imp (s' := ⟨13, [(2, some (.pv (.bool true)))], [], 0, [], [], 0, []⟩) (imps [] ⟨by kernel_rfl, trivial⟩ trivial) ?_
    refine post_next ?_
    refine aw_ret ?_
    obtain rfl := Option.some.inj hF
    exact prt
  refine rgn hb1 (op_field_lp rfl rfl Try_fld_35_4 rfl rfl) ?_
  refine rgn hb1 (op_load_lp (v := .pv (.vs 13 (List.map eGVar a0.fLocals))) rfl rfl rfl rfl Try_one_24 rfl rfl) ?_
  refine rgn hb1 (op_len_vs (n := a0.fLocals.length) rfl rfl (List.length_map ..) Try_slc_24 rfl rfl) ?_
  refine rgn hb1 (op_int (k := .i64) (m := (a0.fLocals.length : Int)) (n := 60) rfl rfl rfl rfl rfl rfl) ?_
  refine rpf hb1 ?_
  refine ras ?_
  refine reg_nil ?_
  refine post_imp (s' := ⟨13, [(2, some (.pv (.bool (decide ((a0.fLocals.length : Int) > 60)))))], [], 0, [], [], 0, []⟩) (imps [] ⟨by kernel_rfl, trivial⟩ trivial) ?_
  refine post_next ?_
  refine aw_ret ?_
  obtain rfl := Option.some.inj hF
  exact prt
theorem slices_IndexFunc_api_Var_ok {a0 : List GVar} {q1 : GVar → Option Bool} {r : Int} {q1_f : Nat} {q1_c : List PV} (q1_b : callB Try.prog q1_f = true) (q1_h : ∀ (x0 : GVar) (r : Bool), q1 x0 = some r → Abs.Fn globs_Try Try.prog q1_f ([.agg (eGVar x0)] ++ q1_c) [.p (.bool r)]) (hF : slices_IndexFunc_api_Var a0 q1 = some r) : Abs.Fn globs_Try Try.prog 18 [.vs 13 (List.map eGVar a0), .fn q1_f q1_c] [.p (.int .i64 r)] := by
  unfold slices_IndexFunc_api_Var at hF
  refine fn_of_body (n := 19) Try.func18 rfl rfl rfl ?_
  intro w O
  refine aw_seq ?_
  refine aw_region ?_
  refine ras ?_
  refine reg_nil ?_
  refine post_imp (s' := ⟨19, [(0, some (.pv (.vs 13 (List.map eGVar a0)))), (1, some (.pv (.fn q1_f q1_c)))], [], 0, [], [], 0, []⟩) (imps [] ⟨by kernel_rfl, by kernel_rfl, trivial⟩ trivial) ?_
  refine post_next ?_
  iterate 2 (refine aw_seq ?_)
  refine aw_region ?_
  refine rmv ?_
  refine rgp (op_len_vs (n := a0.length) rfl rfl (List.length_map ..) Try_slc_24 rfl rfl) ?_
  refine rmv ?_
  refine reg_nil ?_
  refine post_imp (s' := ⟨19, [(0, some (.pv (.vs 13 (List.map eGVar a0)))), (1, some (.pv (.fn q1_f q1_c))), (7, some (.pv (.int .i64 (a0.length : Int)))), (8, some (.pv (.int .i64 0)))], [], 0, [], [], 0, []⟩) (imps [] ⟨by kernel_rfl, by kernel_rfl, by kernel_rfl, by kernel_rfl, trivial⟩ trivial) ?_
  refine post_next ?_
  obtain ⟨lr34, hF, hK35⟩ := bind_some hF
  refine aw_for ((((a0.length : Int) : Int) - (0)).toNat + 1) (fun s1 => ∃ q, lr34 = .next q ∧ s1 = ⟨19, [], [], 0, [], [], 0, []⟩) ?_ ?_
  · refine rnd_loop (α := Int) (fun q => ⟨19, [(0, some (.pv (.vs 13 (List.map eGVar a0)))), (1, some (.pv (.fn q1_f q1_c))), (7, some (.pv (.int .i64 (a0.length : Int)))), (8, some (.pv (.int .i64 q)))], [], 0, [], [], 0, []⟩) (fun k q => slices_IndexFunc_api_Var_L1 a0 q1 k q = some lr34) 0 (imps [] ⟨by kernel_rfl, by kernel_rfl, by kernel_rfl, by kernel_rfl, trivial⟩ trivial) hF (fun q h => by cases h) ?_
    clear hF
    rintro k x11 hF ih
    refine rnd_succ ?_
    refine aw_seq ?_
    refine aw_region ?_
    refine rgp (op_int (k := .i64) (m := x11) (n := (a0.length : Int)) rfl rfl rfl rfl rfl rfl) ?_
    refine reg_nil ?_
    refine post_imp (s' := ⟨19, [(0, some (.pv (.vs 13 (List.map eGVar a0)))), (1, some (.pv (.fn q1_f q1_c))), (7, some (.pv (.int .i64 (a0.length : Int)))), (8, some (.pv (.int .i64 x11))), (9, some (.pv (.bool (decide (x11 < (a0.length : Int))))))], [], 0, [], [], 0, []⟩) (imps [] ⟨by kernel_rfl, by kernel_rfl, by kernel_rfl, by kernel_rfl, by kernel_rfl, trivial⟩ trivial) ?_
    refine post_next ?_
    refine aw_seq ?_
    rcases ite_some hF with ⟨hb23, hF⟩ | ⟨hb23, hF⟩
    · refine aw_cond_t rfl hb23 ?_
      refine aw_skip ?_
      refine post_next ?_
      refine aw_seq ?_
      refine aw_block ?_
      refine aw_seq ?_
      refine aw_region ?_
      refine rmv ?_
      refine ras ?_
      refine reg_nil ?_
      refine post_imp (s' := ⟨19, [(0, some (.pv (.vs 13 (List.map eGVar a0)))), (1, some (.pv (.fn q1_f q1_c))), (5, some (.pv (.int .i64 x11))), (7, some (.pv (.int .i64 (a0.length : Int)))), (8, some (.pv (.int .i64 x11)))], [], 0, [], [], 0, []⟩) (imps [] ⟨by kernel_rfl, by kernel_rfl, by kernel_rfl, by kernel_rfl, by kernel_rfl, trivial⟩ trivial) ?_
      refine post_next ?_
      refine aw_seq ?_
      refine aw_region ?_
      iterate 3 (refine rmv ?_)
      obtain ⟨y28, h29, hF⟩ := bind_some hF
      refine rgp (op_index_vs (k := .i64) rfl rfl rfl (idx_map eGVar h29) Try_slc_24 rfl rfl) ?_
      refine rgp (op_load_vp_agg (ps := eGVar y28) rfl rfl rfl rfl Try_agg_44 rfl rfl) ?_
      obtain ⟨y30, h31, hF⟩ := bind_some hF
      refine rgp (op_call 0 rfl (caps := q1_c) (args := [.agg (eGVar y28)]) (rs := [.p (.bool y30)]) rfl rfl rfl q1_b (q1_h y28 _ h31) rfl rfl rfl) ?_
      refine reg_nil ?_
      refine post_imp (s' := ⟨19, [(0, some (.pv (.vs 13 (List.map eGVar a0)))), (1, some (.pv (.fn q1_f q1_c))), (5, some (.pv (.int .i64 x11))), (7, some (.pv (.int .i64 (a0.length : Int)))), (8, some (.pv (.int .i64 x11))), (16, some (.pv (.bool y30)))], [], 0, [], [], 0, []⟩) (imps [] ⟨by kernel_rfl, by kernel_rfl, by kernel_rfl, by kernel_rfl, by kernel_rfl, by kernel_rfl, trivial⟩ trivial) ?_
      refine post_next ?_
      rcases ite_some hF with ⟨hb32, hF⟩ | ⟨hb32, hF⟩
      · refine aw_cond_t rfl hb32 ?_
        refine aw_seq ?_
        refine aw_region ?_
        refine rmv ?_
        refine ras ?_
        refine reg_nil ?_
        refine post_imp (s' := ⟨19, [(4, some (.pv (.int .i64 x11)))], [], 0, [], [], 0, []⟩) (imps [] ⟨by kernel_rfl, trivial⟩ trivial) ?_
        refine post_next ?_
        refine aw_ret ?_
        refine post_block_ret ?_
        iterate 2 (refine post_then_ret ?_)
        refine post_lp_ret ?_
        obtain rfl := Option.some.inj hF
        have hF := elim_stop hK35
        refine post_then_ret ?_
        obtain rfl := Option.some.inj hF
        exact prt
      refine aw_cond_f rfl hb32 ?_
      refine aw_skip ?_
      refine post_block_normal ?_
      refine post_next ?_
      refine aw_region ?_
      refine rgp (op_int (k := .i64) (m := x11) (n := 1) rfl rfl rfl rfl rfl rfl) ?_
      refine rmv ?_
      refine reg_nil ?_
      refine post_round ?_
      exact rnd_back (ih (w_i64 (x11 + 1)) hF) (imps [] ⟨by kernel_rfl, by kernel_rfl, by kernel_rfl, by kernel_rfl, trivial⟩ trivial)
    refine aw_cond_f rfl hb23 ?_
    refine aw_exit ?_
    iterate 2 (refine post_then_exit ?_)
    obtain rfl := Option.some.inj hF
    exact post_lp_break _ ⟨_, rfl, rfl⟩ (imps [] trivial trivial)
  rintro _ ⟨⟨⟩, rfl, rfl⟩
  have hF := elim_next hK35
  clear hK35
  refine post_next ?_
  refine aw_seq ?_
  refine aw_region ?_
  refine ras ?_
  refine reg_nil ?_
  refine post_imp (s' := ⟨19, [(4, some (.pv (.int .i64 (-1))))], [], 0, [], [], 0, []⟩) (imps [] ⟨by kernel_rfl, trivial⟩ trivial) ?_
  refine post_next ?_
  refine aw_ret ?_
  obtain rfl := Option.some.inj hF
  exact prt
theorem scope_Place_1_ok {a0 : GVar} {c0 : List UInt8} {r : Bool} (hF : scope_Place_1 a0 c0 = some r) : Abs.Fn globs_Try Try.prog 17 [.agg (eGVar a0), .vp (eS c0)] [.p (.bool r)] := by
  unfold scope_Place_1 at hF
  refine fn_of_body (n := 8) Try.func17 rfl rfl rfl ?_
  intro w O
  refine aw_seq ?_
  refine aw_region ?_
  refine rgp (op_box 0 rfl rfl rfl rfl rfl rfl) ?_
  refine ras ?_
  refine reg_nil ?_
  refine post_imp (s' := ⟨8, [(1, some (.pv (.vp (eS c0)))), (2, some (.lp 0 0))], [(0, some (.box 44 (bxv (eGVar a0))))], 1, [], [], 0, []⟩) (imps [0] ⟨by kernel_rfl, by kernel_rfl, trivial⟩ ⟨by kernel_rfl, trivial⟩) ?_
  refine post_next ?_
  refine aw_seq ?_
  refine aw_region ?_
  refine rgp (op_field_lp rfl rfl Try_fld_44_0 rfl rfl) ?_
  refine rgp (op_load_lp (v := .pv (.str a0.fName)) rfl rfl rfl rfl Try_one_9 rfl rfl) ?_
  refine rgp (op_load_vp (p := .str c0) rfl rfl rfl Try_one_9 rfl rfl) ?_
  refine rgp (op_str rfl rfl rfl rfl rfl rfl) ?_
  refine ras ?_
  refine reg_nil ?_
  refine post_imp (s' := ⟨8, [(3, some (.pv (.bool (a0.fName == c0))))], [], 0, [], [], 0, []⟩) (imps [] ⟨by kernel_rfl, trivial⟩ trivial) ?_
  refine post_next ?_
  refine aw_ret ?_
  obtain rfl := Option.some.inj hF
  exact prt
theorem scope_Place_ok {a0 : GMethod} {a1 : List UInt8} {r : Int} (hF : scope_Place a0 a1 = some r) : Abs.Fn globs_Try Try.prog 9 [.agg (eGMethod a0), .str a1] [.p (.int .i64 r)] := by
  unfold scope_Place at hF
  refine fn_of_body (n := 27) Try.func9 rfl rfl rfl ?_
  intro w O
  refine aw_seq ?_
  refine aw_region ?_
  refine rgp (op_box 0 rfl rfl rfl rfl rfl rfl) ?_
  refine rgp (op_box 1 rfl rfl rfl rfl rfl rfl) ?_
  refine ras ?_
  refine reg_nil ?_
  refine post_imp (s' := ⟨27, [(2, some (.lp 0 0)), (3, some (.lp 1 0))], [(0, some (.box 35 (bxv (eGMethod a0)))), (1, some (.box 9 [.pv (.str a1)]))], 2, [], [], 0, []⟩) (imps [0, 1] ⟨by kernel_rfl, by kernel_rfl, trivial⟩ ⟨by kernel_rfl, by kernel_rfl, trivial⟩) ?_
  refine post_next ?_
  refine aw_seq ?_
  refine aw_region ?_
  refine rgp (op_makeFunc rfl rfl rfl rfl) ?_
  refine ras ?_
  refine reg_nil ?_
  refine post_imp (s' := ⟨27, [(2, some (.lp 0 0)), (5, some (.fn 17 [.lp 1 0]))], [(0, some (.box 35 (bxv (eGMethod a0)))), (1, some (.box 9 [.pv (.str a1)]))], 2, [], [], 0, []⟩) (imps [0, 1] ⟨by kernel_rfl, by kernel_rfl, trivial⟩ ⟨by kernel_rfl, by kernel_rfl, trivial⟩) ?_
  refine post_next ?_
  iterate 2 (refine aw_seq ?_)
  refine aw_region ?_
  refine rgp (op_field_lp rfl rfl Try_fld_35_3 rfl rfl) ?_
  refine rgp (op_load_lp (v := .pv (.vs 13 (List.map eGVar a0.fParams))) rfl rfl rfl rfl Try_one_24 rfl rfl) ?_
  refine rmv ?_
  obtain ⟨y5, h6, hF⟩ := bind_some hF
  refine rgp (op_callB 2 rfl (caps := []) (args := [.vs 13 (List.map eGVar a0.fParams), .fn 17 [.vp (eS a1)]]) [(1, some (.box 9 [.pv (.str a1)]))] rfl rfl rfl (FzH.spec ⟨rfl, trivial⟩) rfl rfl Try_cal_18 (slices_IndexFunc_api_Var_ok (q1_f := 17) (q1_c := [.vp (eS a1)]) (q1_b := Try_cal_17) (q1_h := fun _ r h => (scope_Place_1_ok h)) h6) rfl rfl rfl) ?_
  refine ras ?_
  refine reg_nil ?_
  refine post_imp (s' := ⟨27, [(2, some (.lp 0 0)), (5, some (.fn 17 [.lp 1 0])), (6, some (.pv (.int .i64 y5)))], [(0, some (.box 35 (bxv (eGMethod a0)))), (1, some (.box 9 [.pv (.str a1)]))], 2, [], [], 0, []⟩) (imps [0, 1] ⟨by kernel_rfl, by kernel_rfl, by kernel_rfl, trivial⟩ ⟨by kernel_rfl, by kernel_rfl, trivial⟩) ?_
  refine post_next ?_
  refine aw_seq ?_
  refine aw_region ?_
  refine rmv ?_
  refine rgp (op_int (k := .i64) (m := y5) (n := 0) rfl rfl rfl rfl rfl rfl) ?_
  refine reg_nil ?_
  refine post_imp (s' := ⟨27, [(2, some (.lp 0 0)), (5, some (.fn 17 [.lp 1 0])), (6, some (.pv (.int .i64 y5))), (14, some (.pv (.bool (decide (y5 ≥ 0)))))], [(0, some (.box 35 (bxv (eGMethod a0)))), (1, some (.box 9 [.pv (.str a1)]))], 2, [], [], 0, []⟩) (imps [0, 1] ⟨by kernel_rfl, by kernel_rfl, by kernel_rfl, by kernel_rfl, trivial⟩ ⟨by kernel_rfl, by kernel_rfl, trivial⟩) ?_
  refine post_next ?_
  rcases ite_some hF with ⟨hb7, hF⟩ | ⟨hb7, hF⟩
  · refine aw_cond_t rfl hb7 ?_
    refine aw_seq ?_
    refine aw_region ?_
    refine rmv ?_
    refine ras ?_
    refine reg_nil ?_
    refine post_imp (s' := ⟨27, [(4, some (.pv (.int .i64 y5)))], [], 0, [], [], 0, []⟩) (imps [] ⟨by kernel_rfl, trivial⟩ trivial) ?_
    refine post_next ?_
    refine aw_ret ?_
    refine post_then_ret ?_
    obtain rfl := Option.some.inj hF
    exact prt
  refine aw_cond_f rfl hb7 ?_
  refine aw_skip ?_
  refine post_next ?_
  refine aw_seq ?_
  refine aw_region ?_
  refine rgp (op_field_lp rfl rfl Try_fld_35_4 rfl rfl) ?_
  refine rgp (op_load_lp (v := .pv (.vs 13 (List.map eGVar a0.fLocals))) rfl rfl rfl rfl Try_one_24 rfl rfl) ?_
  refine rmv ?_
  obtain ⟨y12, h13, hF⟩ := bind_some hF
  refine rgp (op_callB 2 rfl (caps := []) (args := [.vs 13 (List.map eGVar a0.fLocals), .fn 17 [.vp (eS a1)]]) [(1, some (.box 9 [.pv (.str a1)]))] rfl rfl rfl (FzH.spec ⟨rfl, trivial⟩) rfl rfl Try_cal_18 (slices_IndexFunc_api_Var_ok (q1_f := 17) (q1_c := [.vp (eS a1)]) (q1_b := Try_cal_17) (q1_h := fun _ r h => (scope_Place_1_ok h)) h13) rfl rfl rfl) ?_
  refine ras ?_
  refine reg_nil ?_
  refine post_imp (s' := ⟨27, [(2, some (.lp 0 0)), (7, some (.pv (.int .i64 y12)))], [(0, some (.box 35 (bxv (eGMethod a0))))], 1, [], [], 0, []⟩) (imps [0] ⟨by kernel_rfl, by kernel_rfl, trivial⟩ ⟨by kernel_rfl, trivial⟩) ?_
  refine post_next ?_
  iterate 2 (refine aw_seq ?_)
  refine aw_region ?_
  refine rmv ?_
  refine rgp (op_int (k := .i64) (m := y12) (n := 0) rfl rfl rfl rfl rfl rfl) ?_
  refine reg_nil ?_
  refine post_imp (s' := ⟨27, [(2, some (.lp 0 0)), (7, some (.pv (.int .i64 y12))), (21, some (.pv (.bool (decide (y12 < 0)))))], [(0, some (.box 35 (bxv (eGMethod a0))))], 1, [], [], 0, []⟩) (imps [0] ⟨by kernel_rfl, by kernel_rfl, by kernel_rfl, trivial⟩ ⟨by kernel_rfl, trivial⟩) ?_
  refine post_next ?_
  rcases ite_some hF with ⟨hb14, hF⟩ | ⟨hb14, hF⟩
  · refine aw_cond_t rfl hb14 ?_
    refine aw_seq ?_
    refine aw_region ?_
    refine ras ?_
    refine reg_nil ?_
    refine post_imp (s' := ⟨27, [(4, some (.pv (.int .i64 (-1))))], [], 0, [], [], 0, []⟩) (imps [] ⟨by kernel_rfl, trivial⟩ trivial) ?_
    refine post_next ?_
    refine aw_ret ?_
    refine post_then_ret ?_
    obtain rfl := Option.some.inj hF
    exact prt
  refine aw_cond_f rfl hb14 ?_
  refine aw_skip ?_
  refine post_next ?_
  refine aw_seq ?_
  refine aw_region ?_
  refine rgp (op_field_lp rfl rfl Try_fld_35_3 rfl rfl) ?_
  refine rgp (op_load_lp (v := .pv (.vs 13 (List.map eGVar a0.fParams))) rfl rfl rfl rfl Try_one_24 rfl rfl) ?_
  refine rgp (op_len_vs (n := a0.fParams.length) rfl rfl (List.length_map ..) Try_slc_24 rfl rfl) ?_
  refine rmv ?_
  refine rgp (op_int (k := .i64) (m := (a0.fParams.length : Int)) (n := y12) rfl rfl rfl rfl rfl rfl) ?_
  refine ras ?_
  refine reg_nil ?_
  refine post_imp (s' := ⟨27, [(4, some (.pv (.int .i64 (w_i64 ((a0.fParams.length : Int) + y12)))))], [], 0, [], [], 0, []⟩) (imps [] ⟨by kernel_rfl, trivial⟩ trivial) ?_
  refine post_next ?_
  refine aw_ret ?_
  obtain rfl := Option.some.inj hF
  exact prt
theorem scope_names_ok {a0 : GStmt} {r : GStmt} (hF : scope_names a0 = some r) : Abs.Fn globs_Try Try.prog 21 [.agg (eGStmt a0)] [.p (.fn 23 [.vp (eGStmt r)])] := by
  unfold scope_names at hF
  refine fn_of_body (n := 4) Try.func21 rfl rfl rfl ?_
  intro w O
  refine aw_seq ?_
  refine aw_region ?_
  refine rgp (op_box 0 rfl rfl rfl rfl rfl rfl) ?_
  refine ras ?_
  refine reg_nil ?_
  refine post_imp (s' := ⟨4, [(1, some (.lp 0 0))], [(0, some (.box 53 (bxv (eGStmt a0))))], 1, [], [], 0, []⟩) (imps [0] ⟨by kernel_rfl, trivial⟩ ⟨by kernel_rfl, trivial⟩) ?_
  refine post_next ?_
  refine aw_seq ?_
  refine aw_region ?_
  refine rgp (op_makeFunc rfl rfl rfl rfl) ?_
  refine ras ?_
  refine reg_nil ?_
  refine post_imp (s' := ⟨4, [(2, some (.fn 23 [.lp 0 0]))], [(0, some (.box 53 (bxv (eGStmt a0))))], 1, [], [], 0, []⟩) (imps [0] ⟨by kernel_rfl, trivial⟩ ⟨by kernel_rfl, trivial⟩) ?_
  refine post_next ?_
  refine aw_ret ?_
  refine post_imp (imp_freeze [(0, some (.box 53 (bxv (eGStmt a0))))] [(2, some (.pv (.fn 23 [.vp (eGStmt a0)])))] (FzH.spec ⟨rfl, trivial⟩) ⟨⟨_, rfl, rfl⟩, trivial⟩) ?_
  obtain rfl := Option.some.inj hF
  exact post_ret rfl rfl (.cons _ _ _ _ _ (.tmp _ _ rfl) (.p _) .nil) (.inl rfl)
theorem expr_all_ok {a0 : GExpr} {r : GExpr} (hF : expr_all a0 = some r) : Abs.Fn globs_Try Try.prog 26 [.agg (eGExpr a0)] [.p (.fn 27 [.vp (eGExpr r)])] := by
  unfold expr_all at hF
  refine fn_of_body (n := 4) Try.func26 rfl rfl rfl ?_
  intro w O
  refine aw_seq ?_
  refine aw_region ?_
  refine rgp (op_box 0 rfl rfl rfl rfl rfl rfl) ?_
  refine ras ?_
  refine reg_nil ?_
  refine post_imp (s' := ⟨4, [(1, some (.lp 0 0))], [(0, some (.box 51 (bxv (eGExpr a0))))], 1, [], [], 0, []⟩) (imps [0] ⟨by kernel_rfl, trivial⟩ ⟨by kernel_rfl, trivial⟩) ?_
  refine post_next ?_
  refine aw_seq ?_
  refine aw_region ?_
  refine rgp (op_makeFunc rfl rfl rfl rfl) ?_
  refine ras ?_
  refine reg_nil ?_
  refine post_imp (s' := ⟨4, [(2, some (.fn 27 [.lp 0 0]))], [(0, some (.box 51 (bxv (eGExpr a0))))], 1, [], [], 0, []⟩) (imps [0] ⟨by kernel_rfl, trivial⟩ ⟨by kernel_rfl, trivial⟩) ?_
  refine post_next ?_
  refine aw_ret ?_
  refine post_imp (imp_freeze [(0, some (.box 51 (bxv (eGExpr a0))))] [(2, some (.pv (.fn 27 [.vp (eGExpr a0)])))] (FzH.spec ⟨rfl, trivial⟩) ⟨⟨_, rfl, rfl⟩, trivial⟩) ?_
  obtain rfl := Option.some.inj hF
  exact post_ret rfl rfl (.cons _ _ _ _ _ (.tmp _ _ rfl) (.p _) .nil) (.inl rfl)
theorem slices_Backward_api_Expr_ok {a0 : List GExpr} {r : (List GExpr)} (hF : slices_Backward_api_Expr a0 = some r) : Abs.Fn globs_Try Try.prog 28 [.vs 4 (eLGExpr a0)] [.p (.fn 29 [.vp ((fun x => ([.vs 4 (eLGExpr x)] : List PV)) r)])] := by
  unfold slices_Backward_api_Expr at hF
  refine fn_of_body (n := 4) Try.func28 rfl rfl rfl ?_
  intro w O
  refine aw_seq ?_
  refine aw_region ?_
  refine rgp (op_box 0 rfl rfl rfl rfl rfl rfl) ?_
  refine ras ?_
  refine reg_nil ?_
  refine post_imp (s' := ⟨4, [(1, some (.lp 0 0))], [(0, some (.box 49 [.pv (.vs 4 (eLGExpr a0))]))], 1, [], [], 0, []⟩) (imps [0] ⟨by kernel_rfl, trivial⟩ ⟨by kernel_rfl, trivial⟩) ?_
  refine post_next ?_
  refine aw_seq ?_
  refine aw_region ?_
  refine rgp (op_makeFunc rfl rfl rfl rfl) ?_
  refine ras ?_
  refine reg_nil ?_
  refine post_imp (s' := ⟨4, [(2, some (.fn 29 [.lp 0 0]))], [(0, some (.box 49 [.pv (.vs 4 (eLGExpr a0))]))], 1, [], [], 0, []⟩) (imps [0] ⟨by kernel_rfl, trivial⟩ ⟨by kernel_rfl, trivial⟩) ?_
  refine post_next ?_
  refine aw_ret ?_
  refine post_imp (imp_freeze [(0, some (.box 49 [.pv (.vs 4 (eLGExpr a0))]))] [(2, some (.pv (.fn 29 [.vp ((fun x => ([.vs 4 (eLGExpr x)] : List PV)) a0)])))] (FzH.spec ⟨rfl, trivial⟩) ⟨⟨_, rfl, rfl⟩, trivial⟩) ?_
  obtain rfl := Option.some.inj hF
  exact post_ret rfl rfl (.cons _ _ _ _ _ (.tmp _ _ rfl) (.p _) .nil) (.inl rfl)
theorem slices_Backward_api_Expr_1_it {rows : List (Int × GExpr)} {sp : Nat} {c0 : List GExpr} (hF : slices_Backward_api_Expr_1 rows sp c0 = some (min (sp + 1) rows.length)) : It globs_Try Try.prog 29 2 [.vp ((fun x => ([.vs 4 (eLGExpr x)] : List PV)) c0)] none [] (rows.map (fun z : Int × GExpr => ([.int .i64 z.1, .agg (eGExpr z.2)] : List PV))) sp := by
  unfold slices_Backward_api_Expr_1 at hF
  refine it_of_body (n := 19) Try.func29 rfl rfl rfl ?_
  intro l c hcx
  refine aw_seq ?_
  refine aw_region ?_
  refine rgp (op_load_vp (p := .vs 4 (eLGExpr c0)) rfl rfl rfl Try_one_49 rfl rfl) ?_
  refine rgp (op_len_vs (n := c0.length) rfl rfl (lenR eLGExpr_map) Try_slc_49 rfl rfl) ?_
  refine rgp (op_int (k := .i64) (m := (c0.length : Int)) (n := 1) rfl rfl rfl rfl rfl rfl) ?_
  refine ras ?_
  refine reg_nil ?_
  refine post_imp (s' := ⟨19, [(0, some (.pv (.yld l))), (1, some (.pv (.vp ((fun x => ([.vs 4 (eLGExpr x)] : List PV)) c0)))), (3, some (.pv (.int .i64 (w_i64 ((c0.length : Int) - 1)))))], [], 0, [], [], 0, []⟩) (imps [] ⟨by kernel_rfl, by kernel_rfl, by kernel_rfl, trivial⟩ trivial) ?_
  refine post_next ?_
  obtain ⟨lr38, hF, hK39⟩ := bind_some hF
  refine aw_for ((((w_i64 ((c0.length : Int) - 1)) : Int) - (0)).toNat + 2) (fun s1 => ∃ q, lr38 = .next q ∧ s1 = ⟨19, [], [], 0, [], [], q, []⟩) ?_ ?_
  · refine rnd_loop (α := Nat × Int) (fun q => ⟨19, [(0, some (.pv (.yld l))), (1, some (.pv (.vp ((fun x => ([.vs 4 (eLGExpr x)] : List PV)) c0)))), (3, some (.pv (.int .i64 q.2)))], [], 0, [], [], q.1, []⟩) (fun k q => slices_Backward_api_Expr_1_L1 c0 sp rows k q.1 q.2 = some lr38) (0, w_i64 ((c0.length : Int) - 1)) (imps [] ⟨by kernel_rfl, by kernel_rfl, by kernel_rfl, trivial⟩ trivial) hF (fun q h => by cases h) ?_
    clear hF
    rintro k ⟨x11, x12⟩ hF ih
    refine rnd_succ ?_
    iterate 2 (refine aw_seq ?_)
    refine aw_region ?_
    refine rmv ?_
    refine rgp (op_int (k := .i64) (m := x12) (n := 0) rfl rfl rfl rfl rfl rfl) ?_
    refine reg_nil ?_
    refine post_imp (s' := ⟨19, [(0, some (.pv (.yld l))), (1, some (.pv (.vp ((fun x => ([.vs 4 (eLGExpr x)] : List PV)) c0)))), (3, some (.pv (.int .i64 x12))), (8, some (.pv (.bool (decide (x12 ≥ 0)))))], [], 0, [], [], x11, []⟩) (imps [] ⟨by kernel_rfl, by kernel_rfl, by kernel_rfl, by kernel_rfl, trivial⟩ trivial) ?_
    refine post_next ?_
    rcases ite_some hF with ⟨hb25, hF⟩ | ⟨hb25, hF⟩
    · refine aw_cond_t rfl hb25 ?_
      refine aw_skip ?_
      refine post_next ?_
      refine aw_seq ?_
      refine aw_block ?_
      refine aw_seq ?_
      refine aw_region ?_
      iterate 2 (refine rmv ?_)
      refine rgp (op_load_vp (p := .vs 4 (eLGExpr c0)) rfl rfl rfl Try_one_49 rfl rfl) ?_
      refine rmv ?_
      obtain ⟨y30, h31, hF⟩ := bind_some hF
      refine rgp (op_index_vs (k := .i64) rfl rfl rfl (idxR eLGExpr_map h31) Try_slc_49 rfl rfl) ?_
      refine rgp (op_load_vp_agg (ps := eGExpr y30) rfl rfl rfl rfl Try_agg_51 rfl rfl) ?_
      obtain ⟨u32, h33, hF⟩ := bind_some hF
      refine rgp (op_yield (row := (fun z : Int × GExpr => ([.int .i64 z.1, .agg (eGExpr z.2)] : List PV)) (x12, y30)) hcx rfl rfl rfl rfl (yck_row (fun z : Int × GExpr => ([.int .i64 z.1, .agg (eGExpr z.2)] : List PV)) h33) (yck_spec h33).2 rfl rfl) ?_
      refine rgp (op_not rfl rfl rfl rfl) ?_
      refine reg_nil ?_
      refine post_imp (s' := ⟨19, [(0, some (.pv (.yld l))), (1, some (.pv (.vp ((fun x => ([.vs 4 (eLGExpr x)] : List PV)) c0)))), (3, some (.pv (.int .i64 x12))), (18, some (.pv (.bool (!(!(x11 == sp))))))], [], 0, [], [], (x11 + 1), []⟩) (imps [] ⟨by kernel_rfl, by kernel_rfl, by kernel_rfl, by kernel_rfl, trivial⟩ trivial) ?_
      refine post_next ?_
      rcases ite_some hF with ⟨hb34, hF⟩ | ⟨hb34, hF⟩
      · refine aw_cond_t rfl hb34 ?_
        refine aw_ret ?_
        refine post_block_ret ?_
        iterate 2 (refine post_then_ret ?_)
        refine post_lp_ret ?_
        obtain rfl := Option.some.inj hF
        have hF := elim_stop hK39
        exact post_it (it_len hF) rfl (.inl rfl)
      refine aw_cond_f rfl hb34 ?_
      refine aw_skip ?_
      refine post_block_normal ?_
      refine post_next ?_
      refine aw_region ?_
      refine rmv ?_
      refine rgp (op_int (k := .i64) (m := x12) (n := 1) rfl rfl rfl rfl rfl rfl) ?_
      refine ras ?_
      refine reg_nil ?_
      refine post_round ?_
      exact rnd_back (ih ((x11 + 1), w_i64 (x12 - 1)) hF) (imps [] ⟨by kernel_rfl, by kernel_rfl, by kernel_rfl, trivial⟩ trivial)
    refine aw_cond_f rfl hb25 ?_
    refine aw_exit ?_
    iterate 2 (refine post_then_exit ?_)
    obtain rfl := Option.some.inj hF
    exact post_lp_break _ ⟨_, rfl, rfl⟩ (imps [] trivial trivial)
  rintro _ ⟨x37, rfl, rfl⟩
  have hF := elim_next hK39
  clear hK39
  exact post_it (it_len hF) rfl (.inr rfl)

theorem expr_all_1_it {rows : List (GExpr)} {sp : Nat} {c0 : GExpr} (hF : expr_all_1 rows sp c0 = some (min (sp + 1) rows.length)) : It globs_Try Try.prog 27 1 [.vp (eGExpr c0)] none [] (rows.map (fun z : GExpr => ([.agg (eGExpr z)] : List PV))) sp := by
  unfold expr_all_1 at hF
  refine it_of_body (n := 38) Try.func27 rfl rfl rfl ?_
  intro l c hcx
  refine aw_seq ?_
  refine aw_region ?_
  refine rgp (op_load_vp_agg (ps := eGExpr c0) rfl rfl rfl rfl Try_agg_51 rfl rfl) ?_
  refine rgp (op_litOwnR 0 rfl (rows := List.map eGExpr ([c0] : List GExpr)) (rows' := eLGExpr ([c0] : List GExpr)) (zs := (eGExpr zGExpr)) rfl rfl Try_slc_49 Try_zer_51 (by exact ⟨rfl, rfl, rfl, trivial, trivial⟩) rfl rfl rfl rfl rfl rfl (eLGExpr_map _) rfl rfl) ?_
  refine rgp (op_alloc 1 rfl (ps := [.nils]) rfl Try_zer_49 (by exact ⟨rfl, trivial⟩) rfl rfl) ?_
  refine reg_imp (imp_nil_box 1 0 49 51 4 2 rfl rfl rfl) ?_
  refine rgp (op_store_lp (n := 1) rfl rfl rfl rfl rfl (or_one Try_one_49) (by rw [Try_one_49]; rfl) rfl rfl rfl) ?_
  refine reg_nil ?_
  refine post_imp (s' := ⟨38, [(0, some (.pv (.yld l))), (3, some (.lp 0 0))], [(0, some (.box 49 [.ls 1])), (1, some (.row 51 4 (eLGExpr [c0])))], 2, [], [], 0, []⟩) (imps [1, 0] ⟨by kernel_rfl, by kernel_rfl, trivial⟩ ⟨by kernel_rfl, by kernel_rfl, trivial⟩) ?_
  refine post_next ?_
  obtain ⟨lr149, hF, hK150⟩ := bind_some hF
  refine aw_for (mGExpr c0 + 2) (fun s1 => ∃ q, lr149 = .next q ∧ s1 = ⟨38, [], [], 0, [], [], q, []⟩) ?_ ?_
  · refine rnd_loop (α := Nat × (List GExpr)) (fun q => ⟨38, [(0, some (.pv (.yld l))), (3, some (.lp 0 0))], [(0, some (.box 49 [.ls 1])), (1, some (.row 51 4 (eLGExpr q.2)))], 2, [], [], q.1, []⟩) (fun k q => expr_all_1_L1 sp rows k q.1 q.2 = some lr149) (0, [c0]) (imps [0, 1] ⟨by kernel_rfl, by kernel_rfl, trivial⟩ ⟨by kernel_rfl, by kernel_rfl, trivial⟩) hF (fun q h => by cases h) ?_
    clear hF
    rintro k ⟨x48, x49⟩ hF ih
    refine rnd_succ ?_
    iterate 2 (refine aw_seq ?_)
    refine aw_region ?_
    refine rgp (op_load_lp (v := .ls 1) rfl rfl rfl rfl Try_one_49 rfl rfl) ?_
    refine rgp (op_len_ls (n := x49.length) rfl rfl rfl (lenR eLGExpr_map) Try_slc_49 rfl rfl) ?_
    refine rgp (op_int (k := .i64) (m := (x49.length : Int)) (n := 0) rfl rfl rfl rfl rfl rfl) ?_
    refine reg_nil ?_
    refine post_imp (s' := ⟨38, [(0, some (.pv (.yld l))), (3, some (.lp 0 0)), (11, some (.pv (.bool (decide ((x49.length : Int) > 0)))))], [(0, some (.box 49 [.ls 1])), (1, some (.row 51 4 (eLGExpr x49)))], 2, [], [], x48, []⟩) (imps [0, 1] ⟨by kernel_rfl, by kernel_rfl, by kernel_rfl, trivial⟩ ⟨by kernel_rfl, by kernel_rfl, trivial⟩) ?_
    refine post_next ?_
    rcases ite_some hF with ⟨hb99, hF⟩ | ⟨hb99, hF⟩
    · refine aw_cond_t rfl hb99 ?_
      refine aw_skip ?_
      refine post_next ?_
      refine aw_block ?_
      refine aw_seq ?_
      refine aw_region ?_
      iterate 2 (refine rgp (op_load_lp (v := .ls 1) rfl rfl rfl rfl Try_one_49 rfl rfl) ?_)
      refine rgp (op_len_ls (n := x49.length) rfl rfl rfl (lenR eLGExpr_map) Try_slc_49 rfl rfl) ?_
      refine rgp (op_int (k := .i64) (m := (x49.length : Int)) (n := 1) rfl rfl rfl rfl rfl rfl) ?_
      obtain ⟨y102, h103, hF⟩ := bind_some hF
      refine rgp (op_index_ls (k := .i64) rfl rfl rfl rfl (idxR eLGExpr_map h103) Try_slc_49 rfl rfl) ?_
      refine rgp (op_load_le_agg (ps := eGExpr y102) rfl rfl rfl (getR eLGExpr_map h103) rfl rfl Try_agg_51 rfl rfl) ?_
      refine rgp (op_alloc 2 rfl (ps := (eGExpr zGExpr)) rfl Try_zer_51 (by exact ⟨rfl, rfl, rfl, trivial, trivial⟩) rfl rfl) ?_
      refine rgp (op_store_lp (n := 4) rfl rfl rfl rfl rfl (or_agg Try_agg_51) (by rw [Try_non_51]; rfl) rfl rfl rfl) ?_
      refine reg_nil ?_
      refine post_imp (s' := ⟨38, [(0, some (.pv (.yld l))), (3, some (.lp 0 0)), (4, some (.lp 2 0))], [(0, some (.box 49 [.ls 1])), (1, some (.row 51 4 (eLGExpr x49))), (2, some (.box 51 (bxv (eGExpr y102))))], 3, [], [], x48, []⟩) (imps [0, 1, 2] ⟨by kernel_rfl, by kernel_rfl, by kernel_rfl, trivial⟩ ⟨by kernel_rfl, by kernel_rfl, by kernel_rfl, trivial⟩) ?_
      refine post_next ?_
      refine aw_seq ?_
      refine aw_region ?_
      iterate 2 (refine rgp (op_load_lp (v := .ls 1) rfl rfl rfl rfl Try_one_49 rfl rfl) ?_)
      refine rgp (op_len_ls (n := x49.length) rfl rfl rfl (lenR eLGExpr_map) Try_slc_49 rfl rfl) ?_
      refine rgp (op_int (k := .i64) (m := (x49.length : Int)) (n := 1) rfl rfl rfl rfl rfl rfl) ?_
      obtain ⟨y106, h107, hF⟩ := bind_some hF
      refine rgp (op_slice_own 3 rfl rfl rfl rfl rfl Try_slc_49 (cutR0 eLGExpr_map h107) rfl rfl) ?_
      refine rgp (op_store_lp (n := 1) rfl rfl rfl rfl rfl (or_one Try_one_49) (by rw [Try_one_49]; rfl) rfl rfl rfl) ?_
      refine reg_nil ?_
      refine post_imp (s' := ⟨38, [(0, some (.pv (.yld l))), (3, some (.lp 0 0)), (4, some (.lp 2 0))], [(0, some (.box 49 [.ls 1])), (1, some (.row 51 4 (eLGExpr y106))), (2, some (.box 51 (bxv (eGExpr y102))))], 3, [], [], x48, []⟩) (imps [0, 3, 2] ⟨by kernel_rfl, by kernel_rfl, by kernel_rfl, trivial⟩ ⟨by kernel_rfl, by kernel_rfl, by kernel_rfl, trivial⟩) ?_
      refine post_next ?_
      iterate 2 (refine aw_seq ?_)
      refine aw_region ?_
      refine rmv ?_
      refine rgp (op_load_lp_agg (ps := eGExpr y102) rfl rfl rfl rfl rfl rfl Try_agg_51 rfl rfl) ?_
      obtain ⟨u110, h111, hF⟩ := bind_some hF
      refine rgp (op_yield (row := (fun z : GExpr => ([.agg (eGExpr z)] : List PV)) y102) hcx rfl rfl rfl rfl (yck_row (fun z : GExpr => ([.agg (eGExpr z)] : List PV)) h111) (yck_spec h111).2 rfl rfl) ?_
      refine rgp (op_not rfl rfl rfl rfl) ?_
      refine reg_nil ?_
      refine post_imp (s' := ⟨38, [(0, some (.pv (.yld l))), (3, some (.lp 0 0)), (4, some (.lp 2 0)), (26, some (.pv (.bool (!(!(x48 == sp))))))], [(0, some (.box 49 [.ls 1])), (1, some (.row 51 4 (eLGExpr y106))), (2, some (.box 51 (bxv (eGExpr y102))))], 3, [], [], (x48 + 1), []⟩) (imps [0, 1, 2] ⟨by kernel_rfl, by kernel_rfl, by kernel_rfl, by kernel_rfl, trivial⟩ ⟨by kernel_rfl, by kernel_rfl, by kernel_rfl, trivial⟩) ?_
      refine post_next ?_
      rcases ite_some hF with ⟨hb112, hF⟩ | ⟨hb112, hF⟩
      · refine aw_cond_t rfl hb112 ?_
        refine aw_ret ?_
        refine post_then_ret ?_
        refine post_block_ret ?_
        refine post_then_ret ?_
        refine post_lp_ret ?_
        obtain rfl := Option.some.inj hF
        have hF := elim_stop hK150
        exact post_it (it_len hF) rfl (.inl rfl)
      refine aw_cond_f rfl hb112 ?_
      refine aw_skip ?_
      refine post_next ?_
      refine aw_seq ?_
      refine aw_region ?_
      refine rgp (op_field_lp rfl rfl Try_fld_51_3 rfl rfl) ?_
      refine rgp (op_load_lp (v := .pv (.vs 4 (eLGExpr y102.fKids))) rfl rfl rfl rfl Try_one_49 rfl rfl) ?_
      obtain ⟨y115, h116, hF⟩ := bind_some hF
      refine rgp (op_call 3 rfl (caps := []) (args := [.vs 4 (eLGExpr y102.fKids)]) (rs := [.p (.fn 29 [.vp ((fun x => ([.vs 4 (eLGExpr x)] : List PV)) y115)])]) rfl rfl rfl Try_cal_28 (slices_Backward_api_Expr_ok h116) rfl rfl rfl) ?_
      refine reg_nil ?_
      refine post_imp (s' := ⟨38, [(0, some (.pv (.yld l))), (3, some (.lp 0 0)), (29, some (.pv (.fn 29 [.vp ((fun x => ([.vs 4 (eLGExpr x)] : List PV)) y115)])))], [(0, some (.box 49 [.ls 1])), (1, some (.row 51 4 (eLGExpr y106)))], 2, [], [], (x48 + 1), []⟩) (imps [0, 1] ⟨by kernel_rfl, by kernel_rfl, by kernel_rfl, trivial⟩ ⟨by kernel_rfl, by kernel_rfl, trivial⟩) ?_
      refine post_next ?_
      refine aw_block ?_
      refine aw_imp (s' := ⟨38, [(0, some (.pv (.yld l))), (3, some (.lp 0 0)), (29, some (.pv (.fn 29 [.vp ((fun x => ([.vs 4 (eLGExpr x)] : List PV)) y115)])))], [(0, some (.box 49 [.ls 1])), (1, some (.row 51 4 (eLGExpr y106)))], 2, [], [], (x48 + 1), []⟩) (imps [0, 1] ⟨by kernel_rfl, by kernel_rfl, by kernel_rfl, trivial⟩ ⟨by kernel_rfl, by kernel_rfl, trivial⟩) ?_
      obtain ⟨rows138, hR139, hF⟩ := bind_some hF
      obtain ⟨lr140, hL141, hF⟩ := bind_some hF
      refine aw_rangeFunc (X := (Int × GExpr)) (Q := (List GExpr)) (E := Unit) (pre := [.vp ((fun x => ([.vs 4 (eLGExpr x)] : List PV)) y115)]) (bx := none) (post := []) (kt := [0, 3]) (psl := [30, 31]) none (fun z : Int × GExpr => ([.int .i64 z.1, .agg (eGExpr z.2)] : List PV)) rows138 expr_all_1_B2 y106 lr140 hL141 (fun q => ⟨38, [(0, some (.pv (.yld l))), (3, some (.lp 0 0))], [(0, some (.box 49 [.ls 1])), (1, some (.row 51 4 (eLGExpr q)))], 2, [], [], (x48 + 1), []⟩) (fun _ => (.ret, ⟨38, [], [], 0, [], [], 0, []⟩)) ⟨rfl, rfl⟩ Try_cal_29 (fun sp => slices_Backward_api_Expr_1_it (itR_back_api_Expr_ok hR139 sp)) (fun _ => rfl) rfl rfl (by decide) rfl (fun x q => ⟨38, [(0, some (.pv (.yld l))), (3, some (.lp 0 0)), (6, some (.lp 2 0)), (30, some (.pv (.int .i64 x.1))), (31, some (.pv (.agg (eGExpr x.2))))], [(0, some (.box 49 [.ls 1])), (1, some (.row 51 4 (eLGExpr q))), (2, some (.box 51 (bxv (eGExpr x.2))))], 3, [], [], (x48 + 1), [0, 3]⟩) (fun q => ⟨rfl, rfl, rfl, rfl⟩) (fun z => ⟨rfl, rfl, rfl, rfl⟩) (fun z => rfl) rfl rfl ⟨rfl, rfl, trivial⟩ ⟨⟨rfl, rfl, rfl⟩, ⟨rfl, rfl, rfl⟩, trivial⟩ ?_ ?_ ?_ ?_
      · rintro l142 c143 ⟨x131, x132⟩ x123 hc144
        refine aw_region ?_
        refine rgp (op_alloc 2 rfl (ps := (eGExpr zGExpr)) rfl Try_zer_51 (by exact ⟨rfl, rfl, rfl, trivial, trivial⟩) rfl rfl) ?_
        refine rgp (op_store_lp (n := 4) rfl rfl rfl rfl rfl (or_agg Try_agg_51) (by rw [Try_non_51]; rfl) rfl rfl rfl) ?_
        refine reg_nil ?_
        exact post_cut1 (imps [0, 1, 2] ⟨by kernel_rfl, by kernel_rfl, by kernel_rfl, by kernel_rfl, by kernel_rfl, trivial⟩ ⟨by kernel_rfl, by kernel_rfl, by kernel_rfl, trivial⟩)
      · rintro l142 c143 ⟨x131, x132⟩ x123 r145 hc144 hF
        rw [expr_all_1_B2] at hF
        have hcx := hcx.round hc144
        refine aw_block ?_
        refine aw_imp (imp_names 1) ?_
        refine dr_start ⟨_, _, _⟩ rfl ?_
        refine dr_cons { need := [(3, .lp 0 0)], hneed := [(0, .box 49 [.ls 1])], dst := some 32, val := some (.ls 1) } (fun m h => step_on (guard_no rfl) (op_load_lp (v := .ls 1) rfl h.1.1 h.2.1.1 rfl Try_one_49 rfl rfl) rfl) ⟨⟨rfl, trivial⟩, ⟨rfl, trivial⟩, trivial⟩ ?_
        refine dr_cons { need := [(6, .lp 2 0)], hneed := [(2, .box 51 (bxv (eGExpr x132)))], dst := some 33, val := some (.pv (.agg (eGExpr x132))) } (fun m h => step_on (guard_no rfl) (op_load_lp_agg (ps := eGExpr x132) rfl h.1.1 h.2.1.1 rfl rfl rfl Try_agg_51 rfl rfl) rfl) ⟨⟨rfl, trivial⟩, ⟨rfl, trivial⟩, trivial⟩ ?_
        refine dr_cons { need := [(32, .ls 1)], hneed := [(1, .row 51 4 (eLGExpr x123))], dst := some 34, val := some (.pv (.int .i64 (x123.length : Int))) } (fun m h => step_on (guard_no rfl) (op_len_ls (n := x123.length) rfl h.1.1 h.2.1.1 (lenR eLGExpr_map) Try_slc_49 rfl rfl) rfl) ⟨⟨rfl, trivial⟩, ⟨rfl, trivial⟩, trivial⟩ ?_
        refine dr_cons { dst := some 35, val := some (.pv (.vs 4 (eLGExpr ([zGExpr] : List GExpr)))) } (fun m h => step_on (guard_no rfl) (op_litZ (zs := (eGExpr zGExpr)) (rows := eLGExpr ([zGExpr] : List GExpr)) rfl Try_slc_49 Try_zer_51 (by exact ⟨rfl, rfl, rfl, trivial, trivial⟩) (by exact ⟨rfl, rfl, rfl, trivial, trivial⟩) rfl rfl rfl rfl rfl rfl rfl) rfl) ⟨trivial, trivial, trivial⟩ ?_
        obtain ⟨u133, h134, hF⟩ := bind_some hF
        refine dr_cons { need := [(32, .ls 1), (35, .pv (.vs 4 (eLGExpr ([zGExpr] : List GExpr))))], hneed := [(1, .row 51 4 (eLGExpr x123))], names := [3], dst := some 36, val := some (.ls 3), upd := [(3, some (.row 51 4 (eLGExpr (x123 ++ ([zGExpr] : List GExpr))))), (1, none)] } (fun m h => step_on (guard_no rfl) (op_append 3 (fresh_free h.2.2.1) rfl h.1.1 h.2.1.1 h.1.2.1 Try_slc_49 Try_elm_51 Try_zer_51 rfl rfl rfl (roomR eLGExpr_map h134) (appR eLGExpr_map _ _) rfl rfl) rfl) ⟨⟨rfl, rfl, trivial⟩, ⟨rfl, trivial⟩, ⟨rfl, trivial⟩⟩ ?_
        obtain ⟨y135, h136, hF⟩ := bind_some hF
        refine dr_cons { need := [(36, .ls 3), (34, .pv (.int .i64 (x123.length : Int)))], hneed := [(3, .row 51 4 (eLGExpr (x123 ++ ([zGExpr] : List GExpr))))], dst := some 37, val := some (.le 3 4 ((x123.length : Int) : Int).toNat 0) } (fun m h => step_on (guard_no rfl) (op_index_ls (k := .i64) rfl h.1.1 h.1.2.1 h.2.1.1 (idxR eLGExpr_map h136) Try_slc_49 rfl rfl) rfl) ⟨⟨rfl, rfl, trivial⟩, ⟨rfl, trivial⟩, trivial⟩ ?_
        refine dr_cons { need := [(37, .le 3 4 ((x123.length : Int) : Int).toNat 0), (33, .pv (.agg (eGExpr x132)))], hneed := [(3, .row 51 4 (eLGExpr (x123 ++ ([zGExpr] : List GExpr))))], upd := [(3, some (.row 51 4 (eLGExpr ((x123 ++ ([zGExpr] : List GExpr)).set ((x123.length : Int) : Int).toNat x132))))] } (fun m h => step_on (guard_no rfl) (op_store_le (n := 4) rfl h.1.1 h.1.2.1 rfl h.2.1.1 (getR eLGExpr_map h136) (or_agg Try_agg_51) (by rw [Try_non_51]; rfl) rfl (setR eLGExpr_map (x123 ++ ([zGExpr] : List GExpr)) _ x132) rfl rfl) rfl) ⟨⟨rfl, rfl, trivial⟩, ⟨rfl, trivial⟩, trivial⟩ ?_
        refine dr_cons { need := [(3, .lp 0 0), (36, .ls 3)], hneed := [(0, .box 49 [.ls 1])], upd := [(0, some (.box 49 [.ls 3]))] } (fun m h => step_on (guard_no rfl) (op_store_lp (n := 1) rfl h.1.1 h.1.2.1 rfl h.2.1.1 (or_one Try_one_49) (by rw [Try_one_49]; rfl) rfl rfl rfl) rfl) ⟨⟨rfl, rfl, trivial⟩, ⟨rfl, trivial⟩, trivial⟩ ?_
        refine dr_nil Try_mixed rfl (by kernel_rfl) ?_
        refine post_imp (s' := ⟨38, [(0, some (.pv (.yld l))), (3, some (.lp 0 0))], [(0, some (.box 49 [.ls 1])), (1, some (.row 51 4 (eLGExpr ((x123 ++ ([zGExpr] : List GExpr)).set ((x123.length : Int) : Int).toNat x132))))], 2, [], [], (x48 + 1), [0, 3]⟩) (imps [0, 3] ⟨by kernel_rfl, by kernel_rfl, trivial⟩ ⟨by kernel_rfl, by kernel_rfl, trivial⟩) ?_
        refine post_block_normal ?_
        obtain rfl := Option.some.inj hF
        exact post_rnd ((x123 ++ ([zGExpr] : List GExpr)).set ((x123.length : Int) : Int).toNat x132) rfl (imps [0, 1] ⟨by kernel_rfl, by kernel_rfl, trivial⟩ ⟨by kernel_rfl, by kernel_rfl, trivial⟩)
      · rintro x123 rfl
        have hF := elim_next hF
        iterate 2 (refine post_block_normal ?_)
        refine post_round ?_
        exact rnd_back (ih ((x48 + 1), x123) hF) (imps [0, 1] ⟨by kernel_rfl, by kernel_rfl, trivial⟩ ⟨by kernel_rfl, by kernel_rfl, trivial⟩)
      rintro ⟨⟩ rfl
      have hF := elim_stop hF
      cases hF
    refine aw_cond_f rfl hb99 ?_
    refine aw_exit ?_
    iterate 2 (refine post_then_exit ?_)
    obtain rfl := Option.some.inj hF
    exact post_lp_break _ ⟨_, rfl, rfl⟩ (imps [] trivial trivial)
  rintro _ ⟨x148, rfl, rfl⟩
  have hF := elim_next hK150
  clear hK150
  exact post_it (it_len hF) rfl (.inr rfl)

theorem expr_Names_ok {a0 : GExpr} {r : (List (List UInt8))} (hF : expr_Names a0 = some r) : Abs.Fn globs_Try Try.prog 24 [.agg (eGExpr a0)] [.own 9 1 (List.map eS r)] := by
  unfold expr_Names at hF
  refine fn_of_body (n := 17) Try.func24 rfl rfl rfl ?_
  intro w O
  refine aw_seq ?_
  refine aw_region ?_
  refine rgp (op_box 0 rfl rfl rfl rfl rfl rfl) ?_
  refine ras ?_
  refine reg_nil ?_
  refine post_imp (s' := ⟨17, [(1, some (.lp 0 0))], [(0, some (.box 51 (bxv (eGExpr a0))))], 1, [], [], 0, []⟩) (imps [0] ⟨by kernel_rfl, trivial⟩ ⟨by kernel_rfl, trivial⟩) ?_
  refine post_next ?_
  refine aw_seq ?_
  refine aw_region ?_
  refine rgp (op_alloc 1 rfl (ps := [.nils]) rfl Try_zer_22 (by exact ⟨rfl, trivial⟩) rfl rfl) ?_
  refine reg_imp (imp_nil_box 1 0 22 9 1 2 rfl rfl rfl) ?_
  refine reg_nil ?_
  refine post_imp (s' := ⟨17, [(1, some (.lp 0 0)), (3, some (.lp 1 0))], [(0, some (.box 51 (bxv (eGExpr a0)))), (1, some (.box 22 [.ls 2])), (2, some (.row 9 1 (List.map eS [])))], 3, [], [], 0, []⟩) (imps [0, 1, 2] ⟨by kernel_rfl, by kernel_rfl, trivial⟩ ⟨by kernel_rfl, by kernel_rfl, by kernel_rfl, trivial⟩) ?_
  refine post_next ?_
  iterate 2 (refine aw_seq ?_)
  refine aw_region ?_
  refine rgp (op_load_lp_agg (ps := eGExpr a0) rfl rfl rfl rfl rfl rfl Try_agg_51 rfl rfl) ?_
  obtain ⟨y3, h4, hF⟩ := bind_some hF
  refine rgp (op_call 3 rfl (caps := []) (args := [.agg (eGExpr a0)]) (rs := [.p (.fn 27 [.vp (eGExpr y3)])]) rfl rfl rfl Try_cal_26 (expr_all_ok h4) rfl rfl rfl) ?_
  refine reg_nil ?_
  refine post_imp (s' := ⟨17, [(3, some (.lp 0 0)), (6, some (.pv (.fn 27 [.vp (eGExpr y3)])))], [(0, some (.box 22 [.ls 1])), (1, some (.row 9 1 (List.map eS [])))], 2, [], [], 0, []⟩) (imps [1, 2] ⟨by kernel_rfl, by kernel_rfl, trivial⟩ ⟨by kernel_rfl, by kernel_rfl, trivial⟩) ?_
  refine post_next ?_
  refine aw_block ?_
  refine aw_imp (s' := ⟨17, [(3, some (.lp 0 0)), (6, some (.pv (.fn 27 [.vp (eGExpr y3)])))], [(0, some (.box 22 [.ls 1])), (1, some (.row 9 1 (List.map eS [])))], 2, [], [], 0, []⟩) (imps [0, 1] ⟨by kernel_rfl, by kernel_rfl, trivial⟩ ⟨by kernel_rfl, by kernel_rfl, trivial⟩) ?_
  obtain ⟨rows20, hR21, hF⟩ := bind_some hF
  obtain ⟨lr22, hL23, hF⟩ := bind_some hF
  refine aw_rangeFunc (X := GExpr) (Q := (List (List UInt8))) (E := Unit) (pre := [.vp (eGExpr y3)]) (bx := none) (post := []) (kt := [3]) (psl := [7]) none (fun z : GExpr => ([.agg (eGExpr z)] : List PV)) rows20 expr_Names_B1 [] lr22 hL23 (fun q => ⟨17, [(3, some (.lp 0 0))], [(0, some (.box 22 [.ls 1])), (1, some (.row 9 1 (List.map eS q)))], 2, [], [], 0, []⟩) (fun _ => (.ret, ⟨17, [], [], 0, [], [], 0, []⟩)) ⟨rfl, rfl⟩ Try_cal_27 (fun sp => expr_all_1_it (itR_all_ok hR21 sp)) (fun _ => rfl) rfl rfl (by decide) rfl (fun x q => ⟨17, [(3, some (.lp 0 0)), (4, some (.lp 2 0)), (7, some (.pv (.agg (eGExpr x))))], [(0, some (.box 22 [.ls 1])), (1, some (.row 9 1 (List.map eS q))), (2, some (.box 51 (bxv (eGExpr x))))], 3, [], [], 0, [3]⟩) (fun q => ⟨rfl, rfl, rfl, rfl⟩) (fun z => ⟨rfl, rfl, rfl, rfl⟩) (fun z => rfl) rfl rfl ⟨rfl, trivial⟩ ⟨⟨rfl, rfl, rfl⟩, ⟨rfl, rfl, rfl⟩, trivial⟩ ?_ ?_ ?_ ?_
  · rintro l24 c25 x15 x9 hc26
    refine aw_region ?_
    refine rgp (op_alloc 2 rfl (ps := (eGExpr zGExpr)) rfl Try_zer_51 (by exact ⟨rfl, rfl, rfl, trivial, trivial⟩) rfl rfl) ?_
    refine rgp (op_store_lp (n := 4) rfl rfl rfl rfl rfl (or_agg Try_agg_51) (by rw [Try_non_51]; rfl) rfl rfl rfl) ?_
    refine reg_nil ?_
    exact post_cut1 (imps [0, 1, 2] ⟨by kernel_rfl, by kernel_rfl, by kernel_rfl, trivial⟩ ⟨by kernel_rfl, by kernel_rfl, by kernel_rfl, trivial⟩)
  · rintro l24 c25 x15 x9 r27 hc26 hF
    refine aw_block ?_
    refine aw_seq ?_
    refine aw_region ?_
    refine rgp (op_field_lp rfl rfl Try_fld_51_0 rfl rfl) ?_
    refine rgp (op_load_lp (v := .pv (.int .i64 x15.fKind)) rfl rfl rfl rfl Try_one_3 rfl rfl) ?_
    refine rgp (op_int (k := .i64) (m := x15.fKind) (n := 2) rfl rfl rfl rfl rfl rfl) ?_
    refine reg_nil ?_
    refine post_imp (s' := ⟨17, [(3, some (.lp 0 0)), (4, some (.lp 2 0)), (10, some (.pv (.bool (x15.fKind == 2))))], [(0, some (.box 22 [.ls 1])), (1, some (.row 9 1 (List.map eS x9))), (2, some (.box 51 (bxv (eGExpr x15))))], 3, [], [], 0, [3]⟩) (imps [0, 1, 2] ⟨by kernel_rfl, by kernel_rfl, by kernel_rfl, trivial⟩ ⟨by kernel_rfl, by kernel_rfl, by kernel_rfl, trivial⟩) ?_
    refine post_next ?_
    rcases ite_some hF with ⟨hb16, hF⟩ | ⟨hb16, hF⟩
    · refine aw_cond_t rfl hb16 ?_
      refine aw_region ?_
      refine rgp (op_load_lp (v := .ls 1) rfl rfl rfl rfl Try_one_22 rfl rfl) ?_
      refine rgp (op_field_lp rfl rfl Try_fld_51_2 rfl rfl) ?_
      refine rgp (op_load_lp (v := .pv (.str x15.fName)) rfl rfl rfl rfl Try_one_9 rfl rfl) ?_
      refine rgp (op_lit (rows := List.map eS ([x15.fName] : List (List UInt8))) (zs := [.str []]) rfl rfl Try_slc_22 Try_zer_9 (by exact ⟨rfl, trivial⟩) rfl rfl rfl rfl rfl rfl rfl rfl) ?_
      obtain ⟨u17, h18, hF⟩ := bind_some hF
      refine rgp (op_append 3 rfl rfl rfl rfl rfl Try_slc_22 Try_elm_9 Try_zer_9 rfl rfl rfl (room_map (f := eS) (g := eS) h18) (List.map_append (f := eS) (l₁ := x9) (l₂ := [x15.fName])).symm rfl rfl) ?_
      refine rgp (op_store_lp (n := 1) rfl rfl rfl rfl rfl (or_one Try_one_22) (by rw [Try_one_22]; rfl) rfl rfl rfl) ?_
      refine reg_nil ?_
      refine post_imp (s' := ⟨17, [(3, some (.lp 0 0))], [(0, some (.box 22 [.ls 1])), (1, some (.row 9 1 (List.map eS (x9 ++ [x15.fName]))))], 2, [], [], 0, [3]⟩) (imps [0, 3] ⟨by kernel_rfl, trivial⟩ ⟨by kernel_rfl, by kernel_rfl, trivial⟩) ?_
      refine post_block_normal ?_
      obtain rfl := Option.some.inj hF
      exact post_rnd (x9 ++ [x15.fName]) rfl (imps [0, 1] ⟨by kernel_rfl, trivial⟩ ⟨by kernel_rfl, by kernel_rfl, trivial⟩)
    refine aw_cond_f rfl hb16 ?_
    refine aw_skip ?_
    refine post_block_normal ?_
    obtain rfl := Option.some.inj hF
    exact post_rnd x9 rfl (imps [0, 1] ⟨by kernel_rfl, trivial⟩ ⟨by kernel_rfl, by kernel_rfl, trivial⟩)
  · rintro x9 rfl
    have hF := elim_next hF
    refine post_block_normal ?_
    refine post_next ?_
    refine aw_seq ?_
    refine aw_region ?_
    refine rgp (op_load_lp (v := .ls 1) rfl rfl rfl rfl Try_one_22 rfl rfl) ?_
    refine ras ?_
    refine reg_nil ?_
    refine post_imp (s' := ⟨17, [(2, some (.ls 0))], [(0, some (.row 9 1 (List.map eS x9)))], 1, [], [], 0, []⟩) (imps [1] ⟨by kernel_rfl, trivial⟩ ⟨by kernel_rfl, trivial⟩) ?_
    refine post_next ?_
    refine aw_ret ?_
    obtain rfl := Option.some.inj hF
    exact post_ret rfl rfl (.cons _ _ _ _ _ (.tmp _ _ rfl) (.own _ _ _ _ rfl nolent3) .nil) (.inl rfl)
  rintro ⟨⟩ rfl
  have hF := elim_stop hF
  cases hF
theorem scope_names_1_it {rows : List ((List UInt8))} {sp : Nat} {c0 : GStmt} (hF : scope_names_1 rows sp c0 = some (min (sp + 1) rows.length)) : It globs_Try Try.prog 23 1 [.vp (eGStmt c0)] none [] (rows.map (fun z : (List UInt8) => ([.str z] : List PV))) sp := by
  unfold scope_names_1 at hF
  refine it_of_body (n := 58) Try.func23 rfl rfl rfl ?_
  intro l c hcx
  iterate 2 (refine aw_seq ?_)
  obtain ⟨p15, hF, hK16⟩ := bind_some hF
  obtain ⟨x13, x14⟩ := p15
  refine aw_cut (fun s1 => s1 = ⟨58, [(0, some (.pv (.yld l))), (1, some (.pv (.vp (eGStmt c0)))), (33, some (.pv (.bool x14)))], [], 0, [], [], x13, []⟩) ?_ ?_
  · refine aw_region ?_
    refine rgp (op_field_vp rfl rfl Try_fld_53_1 rfl rfl) ?_
    refine rgp (op_load_vp (p := .str c0.fX) rfl rfl rfl Try_one_9 rfl rfl) ?_
    refine rgp (op_str rfl rfl rfl rfl rfl rfl) ?_
    refine rmv ?_
    rcases ite_some hF with ⟨hb1, hF⟩ | ⟨hb1, hF⟩
    · refine rgn hb1 (op_move rfl rfl rfl rfl) ?_
      refine rgn hb1 (op_field_vp rfl rfl Try_fld_53_1 rfl rfl) ?_
      refine rgn hb1 (op_load_vp (p := .str c0.fX) rfl rfl rfl Try_one_9 rfl rfl) ?_
      obtain ⟨u2, h3, hF⟩ := bind_some hF
      refine rgn hb1 (op_yield (row := (fun z : (List UInt8) => ([.str z] : List PV)) c0.fX) hcx rfl rfl rfl rfl (yck_row (fun z : (List UInt8) => ([.str z] : List PV)) h3) (yck_spec h3).2 rfl rfl) ?_
      refine rgn hb1 (op_not rfl rfl rfl rfl) ?_
      refine rpt hb1 ?_
      refine rmv ?_
      rcases ite_some hF with ⟨hb4, hF⟩ | ⟨hb4, hF⟩
      · refine rgo_t hb4 ?_
        iterate 3 (refine rgo_t hb4 ?_)
        iterate 3 (refine rgu ?_)
        iterate 2 (refine rgo_t hb4 ?_)
        iterate 5 (refine rgu ?_)
        refine rgo_t hb4 ?_
        refine rpt hb4 ?_
        refine reg_nil ?_
        cases hF
        exact post_cut _ rfl (imps [] ⟨by kernel_rfl, by kernel_rfl, by kernel_rfl, trivial⟩ trivial)
      refine rgn hb4 (op_field_vp rfl rfl Try_fld_53_2 rfl rfl) ?_
      refine rgn hb4 (op_load_vp (p := .str c0.fY) rfl rfl rfl Try_one_9 rfl rfl) ?_
      refine rgn hb4 (op_str rfl rfl rfl rfl rfl rfl) ?_
      refine rgn hb4 (op_move rfl rfl rfl rfl) ?_
      rcases ite_some hF with ⟨hb5, hF⟩ | ⟨hb5, hF⟩
      · refine rgn hb5 (op_field_vp rfl rfl Try_fld_53_2 rfl rfl) ?_
        refine rgn hb5 (op_load_vp (p := .str c0.fY) rfl rfl rfl Try_one_9 rfl rfl) ?_
        refine rgn hb5 (op_str rfl rfl rfl rfl rfl rfl) ?_
        refine rgn hb4 (op_pick_t rfl rfl hb5 rfl rfl rfl) ?_
        refine rgn hb4 (op_move rfl rfl rfl rfl) ?_
        rcases ite_some hF with ⟨hb6, hF⟩ | ⟨hb6, hF⟩
        · refine rgn hb6 (op_move rfl rfl rfl rfl) ?_
          refine rgn hb6 (op_field_vp rfl rfl Try_fld_53_2 rfl rfl) ?_
          refine rgn hb6 (op_load_vp (p := .str c0.fY) rfl rfl rfl Try_one_9 rfl rfl) ?_
          obtain ⟨u7, h8, hF⟩ := bind_some hF
          refine rgn hb6 (op_yield (row := (fun z : (List UInt8) => ([.str z] : List PV)) c0.fY) hcx rfl rfl rfl rfl (yck_row (fun z : (List UInt8) => ([.str z] : List PV)) h8) (yck_spec h8).2 rfl rfl) ?_
          refine rgn hb6 (op_not rfl rfl rfl rfl) ?_
          refine rgn hb4 (op_pick_t rfl rfl hb6 rfl rfl rfl) ?_
          refine rpf hb4 ?_
          refine reg_nil ?_
          cases hF
          exact post_cut _ rfl (imps [] ⟨by kernel_rfl, by kernel_rfl, by kernel_rfl, trivial⟩ trivial)
        iterate 5 (refine rgo_f hb6 ?_)
        refine rgn hb4 (op_pick_f rfl rfl hb6 rfl rfl rfl) ?_
        refine rpf hb4 ?_
        refine reg_nil ?_
        cases hF
        exact post_cut _ rfl (imps [] ⟨by kernel_rfl, by kernel_rfl, by kernel_rfl, trivial⟩ trivial)
      iterate 3 (refine rgo_f hb5 ?_)
      refine rgn hb4 (op_pick_f rfl rfl hb5 rfl rfl rfl) ?_
      refine rgn hb4 (op_move rfl rfl rfl rfl) ?_
      iterate 5 (refine rgo_f rfl ?_)
      refine rgn hb4 (op_pick_f rfl rfl rfl rfl rfl rfl) ?_
      refine rpf hb4 ?_
      refine reg_nil ?_
      cases hF
      exact post_cut _ rfl (imps [] ⟨by kernel_rfl, by kernel_rfl, by kernel_rfl, trivial⟩ trivial)
    iterate 5 (refine rgo_f hb1 ?_)
    refine rpf hb1 ?_
    refine rmv ?_
    refine rgn rfl (op_field_vp rfl rfl Try_fld_53_2 rfl rfl) ?_
    refine rgn rfl (op_load_vp (p := .str c0.fY) rfl rfl rfl Try_one_9 rfl rfl) ?_
    refine rgn rfl (op_str rfl rfl rfl rfl rfl rfl) ?_
    refine rgn rfl (op_move rfl rfl rfl rfl) ?_
    rcases ite_some hF with ⟨hb9, hF⟩ | ⟨hb9, hF⟩
    · refine rgn hb9 (op_field_vp rfl rfl Try_fld_53_2 rfl rfl) ?_
      refine rgn hb9 (op_load_vp (p := .str c0.fY) rfl rfl rfl Try_one_9 rfl rfl) ?_
      refine rgn hb9 (op_str rfl rfl rfl rfl rfl rfl) ?_
      refine rgn rfl (op_pick_t rfl rfl hb9 rfl rfl rfl) ?_
      refine rgn rfl (op_move rfl rfl rfl rfl) ?_
      rcases ite_some hF with ⟨hb10, hF⟩ | ⟨hb10, hF⟩
      · refine rgn hb10 (op_move rfl rfl rfl rfl) ?_
        refine rgn hb10 (op_field_vp rfl rfl Try_fld_53_2 rfl rfl) ?_
        refine rgn hb10 (op_load_vp (p := .str c0.fY) rfl rfl rfl Try_one_9 rfl rfl) ?_
        obtain ⟨u11, h12, hF⟩ := bind_some hF
        refine rgn hb10 (op_yield (row := (fun z : (List UInt8) => ([.str z] : List PV)) c0.fY) hcx rfl rfl rfl rfl (yck_row (fun z : (List UInt8) => ([.str z] : List PV)) h12) (yck_spec h12).2 rfl rfl) ?_
        refine rgn hb10 (op_not rfl rfl rfl rfl) ?_
        refine rgn rfl (op_pick_t rfl rfl hb10 rfl rfl rfl) ?_
        refine rpf rfl ?_
        refine reg_nil ?_
        cases hF
        exact post_cut _ rfl (imps [] ⟨by kernel_rfl, by kernel_rfl, by kernel_rfl, trivial⟩ trivial)
      iterate 5 (refine rgo_f hb10 ?_)
      refine rgn rfl (op_pick_f rfl rfl hb10 rfl rfl rfl) ?_
      refine rpf rfl ?_
      refine reg_nil ?_
      cases hF
      exact post_cut _ rfl (imps [] ⟨by kernel_rfl, by kernel_rfl, by kernel_rfl, trivial⟩ trivial)
    iterate 3 (refine rgo_f hb9 ?_)
    refine rgn rfl (op_pick_f rfl rfl hb9 rfl rfl rfl) ?_
    refine rgn rfl (op_move rfl rfl rfl rfl) ?_
    iterate 5 (refine rgo_f rfl ?_)
    refine rgn rfl (op_pick_f rfl rfl rfl rfl rfl rfl) ?_
    refine rpf rfl ?_
    refine reg_nil ?_
    cases hF
    exact post_cut _ rfl (imps [] ⟨by kernel_rfl, by kernel_rfl, by kernel_rfl, trivial⟩ trivial)
  rintro _ rfl
  have hF := hK16
  clear hK16
  refine post_next ?_
  rcases ite_some hF with ⟨hb17, hF⟩ | ⟨hb17, hF⟩
  · refine aw_cond_t rfl hb17 ?_
    refine aw_ret ?_
    refine post_then_ret ?_
    exact post_it (it_len hF) rfl (.inl rfl)
  refine aw_cond_f rfl hb17 ?_
  refine aw_skip ?_
  refine post_next ?_
  refine aw_seq ?_
  refine aw_region ?_
  refine rgp (op_field_vp rfl rfl Try_fld_53_5 rfl rfl) ?_
  refine rgp (op_load_vp_agg (ps := eGExpr c0.fE) rfl rfl rfl rfl Try_agg_51 rfl rfl) ?_
  refine rgp (op_litOwnR 0 rfl (rows := List.map eGExpr ([c0.fE] : List GExpr)) (rows' := eLGExpr ([c0.fE] : List GExpr)) (zs := (eGExpr zGExpr)) rfl rfl Try_slc_49 Try_zer_51 (by exact ⟨rfl, rfl, rfl, trivial, trivial⟩) rfl rfl rfl rfl rfl rfl (eLGExpr_map _) rfl rfl) ?_
  refine rgp (op_field_vp rfl rfl Try_fld_53_6 rfl rfl) ?_
  refine rgp (op_load_vp (p := .vs 4 (eLGExpr c0.fArgs)) rfl rfl rfl Try_one_49 rfl rfl) ?_
  obtain ⟨u20, h21, hF⟩ := bind_some hF
  refine rgp (op_append 1 rfl rfl rfl rfl rfl Try_slc_49 Try_elm_51 Try_zer_51 rfl rfl rfl (roomR eLGExpr_map h21) (appR eLGExpr_map _ _) rfl rfl) ?_
  refine rgp (op_len_ls (n := ([c0.fE] ++ c0.fArgs).length) rfl rfl rfl (lenR eLGExpr_map) Try_slc_49 rfl rfl) ?_
  refine rmv ?_
  refine reg_nil ?_
  refine post_imp (s' := ⟨58, [(0, some (.pv (.yld l))), (39, some (.ls 0)), (40, some (.pv (.int .i64 (([c0.fE] ++ c0.fArgs).length : Int)))), (41, some (.pv (.int .i64 0)))], [(0, some (.row 51 4 (eLGExpr ([c0.fE] ++ c0.fArgs))))], 1, [], [], x13, []⟩) (imps [1] ⟨by kernel_rfl, by kernel_rfl, by kernel_rfl, by kernel_rfl, trivial⟩ ⟨by kernel_rfl, trivial⟩) ?_
  refine post_next ?_
  obtain ⟨lr173, hF, hK174⟩ := bind_some hF
  refine aw_for ((((([c0.fE] ++ c0.fArgs).length : Int) : Int) - (0)).toNat + 1) (fun s1 => ∃ q, lr173 = .next q ∧ s1 = ⟨58, [], [], 0, [], [], q, []⟩) ?_ ?_
  · refine rnd_loop (α := Nat × Int) (fun q => ⟨58, [(0, some (.pv (.yld l))), (39, some (.ls 0)), (40, some (.pv (.int .i64 (([c0.fE] ++ c0.fArgs).length : Int)))), (41, some (.pv (.int .i64 q.2)))], [(0, some (.row 51 4 (eLGExpr ([c0.fE] ++ c0.fArgs))))], 1, [], [], q.1, []⟩) (fun k q => scope_names_1_L1 c0 sp rows k q.1 q.2 = some lr173) (x13, 0) (imps [0] ⟨by kernel_rfl, by kernel_rfl, by kernel_rfl, by kernel_rfl, trivial⟩ ⟨by kernel_rfl, trivial⟩) hF (fun q h => by cases h) ?_
    clear hF
    rintro k ⟨x70, x71⟩ hF ih
    refine rnd_succ ?_
    refine aw_seq ?_
    refine aw_region ?_
    refine rgp (op_int (k := .i64) (m := x71) (n := (([c0.fE] ++ c0.fArgs).length : Int)) rfl rfl rfl rfl rfl rfl) ?_
    refine reg_nil ?_
    refine post_imp (s' := ⟨58, [(0, some (.pv (.yld l))), (39, some (.ls 0)), (40, some (.pv (.int .i64 (([c0.fE] ++ c0.fArgs).length : Int)))), (41, some (.pv (.int .i64 x71))), (42, some (.pv (.bool (decide (x71 < (([c0.fE] ++ c0.fArgs).length : Int))))))], [(0, some (.row 51 4 (eLGExpr ([c0.fE] ++ c0.fArgs))))], 1, [], [], x70, []⟩) (imps [0] ⟨by kernel_rfl, by kernel_rfl, by kernel_rfl, by kernel_rfl, by kernel_rfl, trivial⟩ ⟨by kernel_rfl, trivial⟩) ?_
    refine post_next ?_
    refine aw_seq ?_
    rcases ite_some hF with ⟨hb122, hF⟩ | ⟨hb122, hF⟩
    · refine aw_cond_t rfl hb122 ?_
      refine aw_skip ?_
      refine post_next ?_
      refine aw_seq ?_
      refine aw_block ?_
      refine aw_seq ?_
      refine aw_region ?_
      obtain ⟨y125, h126, hF⟩ := bind_some hF
      refine rgp (op_index_ls (k := .i64) rfl rfl rfl rfl (idxR eLGExpr_map h126) Try_slc_49 rfl rfl) ?_
      refine rgp (op_load_le_agg (ps := eGExpr y125) rfl rfl rfl (getR eLGExpr_map h126) rfl rfl Try_agg_51 rfl rfl) ?_
      refine rgp (op_alloc 1 rfl (ps := (eGExpr zGExpr)) rfl Try_zer_51 (by exact ⟨rfl, rfl, rfl, trivial, trivial⟩) rfl rfl) ?_
      refine rgp (op_store_lp (n := 4) rfl rfl rfl rfl rfl (or_agg Try_agg_51) (by rw [Try_non_51]; rfl) rfl rfl rfl) ?_
      refine reg_nil ?_
      refine post_imp (s' := ⟨58, [(0, some (.pv (.yld l))), (4, some (.lp 0 0)), (39, some (.ls 1)), (40, some (.pv (.int .i64 (([c0.fE] ++ c0.fArgs).length : Int)))), (41, some (.pv (.int .i64 x71)))], [(0, some (.box 51 (bxv (eGExpr y125)))), (1, some (.row 51 4 (eLGExpr ([c0.fE] ++ c0.fArgs))))], 2, [], [], x70, []⟩) (imps [1, 0] ⟨by kernel_rfl, by kernel_rfl, by kernel_rfl, by kernel_rfl, by kernel_rfl, trivial⟩ ⟨by kernel_rfl, by kernel_rfl, trivial⟩) ?_
      refine post_next ?_
      refine aw_seq ?_
      refine aw_region ?_
      refine rgp (op_load_lp_agg (ps := eGExpr y125) rfl rfl rfl rfl rfl rfl Try_agg_51 rfl rfl) ?_
      obtain ⟨y129, h130, hF⟩ := bind_some hF
      refine rgp (op_call 2 rfl (caps := []) (args := [.agg (eGExpr y125)]) (rs := [.p (.vs 1 (List.map eS y129))]) rfl rfl rfl Try_cal_24 (Fn.frozen (expr_Names_ok h130)) rfl rfl rfl) ?_
      refine rgp (op_len_vs (n := y129.length) rfl rfl (List.length_map ..) Try_slc_22 rfl rfl) ?_
      refine rmv ?_
      refine reg_nil ?_
      refine post_imp (s' := ⟨58, [(0, some (.pv (.yld l))), (39, some (.ls 0)), (40, some (.pv (.int .i64 (([c0.fE] ++ c0.fArgs).length : Int)))), (41, some (.pv (.int .i64 x71))), (46, some (.pv (.vs 1 (List.map eS y129)))), (47, some (.pv (.int .i64 (y129.length : Int)))), (48, some (.pv (.int .i64 0)))], [(0, some (.row 51 4 (eLGExpr ([c0.fE] ++ c0.fArgs))))], 1, [], [], x70, []⟩) (imps [1] ⟨by kernel_rfl, by kernel_rfl, by kernel_rfl, by kernel_rfl, by kernel_rfl, by kernel_rfl, by kernel_rfl, trivial⟩ ⟨by kernel_rfl, trivial⟩) ?_
      refine post_next ?_
      obtain ⟨lr168, hF, hK169⟩ := bind_some hF
      refine aw_for ((((y129.length : Int) : Int) - (0)).toNat + 1) (fun s1 => ∃ q, lr168 = .next q ∧ s1 = ⟨58, [(0, some (.pv (.yld l))), (39, some (.ls 0)), (40, some (.pv (.int .i64 (([c0.fE] ++ c0.fArgs).length : Int)))), (41, some (.pv (.int .i64 x71)))], [(0, some (.row 51 4 (eLGExpr ([c0.fE] ++ c0.fArgs))))], 1, [], [], q, []⟩) ?_ ?_
      · refine rnd_loop (α := Nat × Int) (fun q => ⟨58, [(0, some (.pv (.yld l))), (39, some (.ls 0)), (40, some (.pv (.int .i64 (([c0.fE] ++ c0.fArgs).length : Int)))), (41, some (.pv (.int .i64 x71))), (46, some (.pv (.vs 1 (List.map eS y129)))), (47, some (.pv (.int .i64 (y129.length : Int)))), (48, some (.pv (.int .i64 q.2)))], [(0, some (.row 51 4 (eLGExpr ([c0.fE] ++ c0.fArgs))))], 1, [], [], q.1, []⟩) (fun k q => scope_names_1_L2 sp rows y129 k q.1 q.2 = some lr168) (x70, 0) (imps [0] ⟨by kernel_rfl, by kernel_rfl, by kernel_rfl, by kernel_rfl, by kernel_rfl, by kernel_rfl, by kernel_rfl, trivial⟩ ⟨by kernel_rfl, trivial⟩) hF (fun q h => by cases h) ?_
        clear hF
        rintro k ⟨x141, x142⟩ hF ih
        refine rnd_succ ?_
        refine aw_seq ?_
        refine aw_region ?_
        refine rgp (op_int (k := .i64) (m := x142) (n := (y129.length : Int)) rfl rfl rfl rfl rfl rfl) ?_
        refine reg_nil ?_
        refine post_imp (s' := ⟨58, [(0, some (.pv (.yld l))), (39, some (.ls 0)), (40, some (.pv (.int .i64 (([c0.fE] ++ c0.fArgs).length : Int)))), (41, some (.pv (.int .i64 x71))), (46, some (.pv (.vs 1 (List.map eS y129)))), (47, some (.pv (.int .i64 (y129.length : Int)))), (48, some (.pv (.int .i64 x142))), (49, some (.pv (.bool (decide (x142 < (y129.length : Int))))))], [(0, some (.row 51 4 (eLGExpr ([c0.fE] ++ c0.fArgs))))], 1, [], [], x141, []⟩) (imps [0] ⟨by kernel_rfl, by kernel_rfl, by kernel_rfl, by kernel_rfl, by kernel_rfl, by kernel_rfl, by kernel_rfl, by kernel_rfl, trivial⟩ ⟨by kernel_rfl, trivial⟩) ?_
        refine post_next ?_
        refine aw_seq ?_
        rcases ite_some hF with ⟨hb155, hF⟩ | ⟨hb155, hF⟩
        · refine aw_cond_t rfl hb155 ?_
          refine aw_skip ?_
          refine post_next ?_
          refine aw_seq ?_
          refine aw_block ?_
          refine aw_seq ?_
          refine aw_region ?_
          obtain ⟨y158, h159, hF⟩ := bind_some hF
          refine rgp (op_index_vs (k := .i64) rfl rfl rfl (idx_map eS h159) Try_slc_22 rfl rfl) ?_
          refine rgp (op_load_vp (p := .str y158) rfl rfl rfl Try_one_9 rfl rfl) ?_
          refine ras ?_
          refine reg_nil ?_
          refine post_imp (s' := ⟨58, [(0, some (.pv (.yld l))), (6, some (.pv (.str y158))), (39, some (.ls 0)), (40, some (.pv (.int .i64 (([c0.fE] ++ c0.fArgs).length : Int)))), (41, some (.pv (.int .i64 x71))), (46, some (.pv (.vs 1 (List.map eS y129)))), (47, some (.pv (.int .i64 (y129.length : Int)))), (48, some (.pv (.int .i64 x142)))], [(0, some (.row 51 4 (eLGExpr ([c0.fE] ++ c0.fArgs))))], 1, [], [], x141, []⟩) (imps [0] ⟨by kernel_rfl, by kernel_rfl, by kernel_rfl, by kernel_rfl, by kernel_rfl, by kernel_rfl, by kernel_rfl, by kernel_rfl, trivial⟩ ⟨by kernel_rfl, trivial⟩) ?_
          refine post_next ?_
          refine aw_seq ?_
          refine aw_region ?_
          iterate 2 (refine rmv ?_)
          obtain ⟨u162, h163, hF⟩ := bind_some hF
          refine rgp (op_yield (row := (fun z : (List UInt8) => ([.str z] : List PV)) y158) hcx rfl rfl rfl rfl (yck_row (fun z : (List UInt8) => ([.str z] : List PV)) h163) (yck_spec h163).2 rfl rfl) ?_
          refine rgp (op_not rfl rfl rfl rfl) ?_
          refine reg_nil ?_
          refine post_imp (s' := ⟨58, [(0, some (.pv (.yld l))), (39, some (.ls 0)), (40, some (.pv (.int .i64 (([c0.fE] ++ c0.fArgs).length : Int)))), (41, some (.pv (.int .i64 x71))), (46, some (.pv (.vs 1 (List.map eS y129)))), (47, some (.pv (.int .i64 (y129.length : Int)))), (48, some (.pv (.int .i64 x142))), (55, some (.pv (.bool (!(!(x141 == sp))))))], [(0, some (.row 51 4 (eLGExpr ([c0.fE] ++ c0.fArgs))))], 1, [], [], (x141 + 1), []⟩) (imps [0] ⟨by kernel_rfl, by kernel_rfl, by kernel_rfl, by kernel_rfl, by kernel_rfl, by kernel_rfl, by kernel_rfl, by kernel_rfl, trivial⟩ ⟨by kernel_rfl, trivial⟩) ?_
          refine post_next ?_
          rcases ite_some hF with ⟨hb164, hF⟩ | ⟨hb164, hF⟩
          · refine aw_cond_t rfl hb164 ?_
            refine aw_ret ?_
            refine post_block_ret ?_
            iterate 2 (refine post_then_ret ?_)
            refine post_lp_ret ?_
            obtain rfl := Option.some.inj hF
            have hF := elim_stop hK169
            refine post_block_ret ?_
            iterate 2 (refine post_then_ret ?_)
            refine post_lp_ret ?_
            obtain rfl := Option.some.inj hF
            have hF := elim_stop hK174
            exact post_it (it_len hF) rfl (.inl rfl)
          refine aw_cond_f rfl hb164 ?_
          refine aw_skip ?_
          refine post_block_normal ?_
          refine post_next ?_
          refine aw_region ?_
          refine rgp (op_int (k := .i64) (m := x142) (n := 1) rfl rfl rfl rfl rfl rfl) ?_
          refine rmv ?_
          refine reg_nil ?_
          refine post_round ?_
          exact rnd_back (ih ((x141 + 1), w_i64 (x142 + 1)) hF) (imps [0] ⟨by kernel_rfl, by kernel_rfl, by kernel_rfl, by kernel_rfl, by kernel_rfl, by kernel_rfl, by kernel_rfl, trivial⟩ ⟨by kernel_rfl, trivial⟩)
        refine aw_cond_f rfl hb155 ?_
        refine aw_exit ?_
        iterate 2 (refine post_then_exit ?_)
        obtain rfl := Option.some.inj hF
        exact post_lp_break _ ⟨_, rfl, rfl⟩ (imps [0] ⟨by kernel_rfl, by kernel_rfl, by kernel_rfl, by kernel_rfl, trivial⟩ ⟨by kernel_rfl, trivial⟩)
      rintro _ ⟨x167, rfl, rfl⟩
      have hF := elim_next hK169
      clear hK169
      refine post_block_normal ?_
      refine post_next ?_
      refine aw_region ?_
      refine rgp (op_int (k := .i64) (m := x71) (n := 1) rfl rfl rfl rfl rfl rfl) ?_
      refine rmv ?_
      refine reg_nil ?_
      refine post_round ?_
      exact rnd_back (ih (x167, w_i64 (x71 + 1)) hF) (imps [0] ⟨by kernel_rfl, by kernel_rfl, by kernel_rfl, by kernel_rfl, trivial⟩ ⟨by kernel_rfl, trivial⟩)
    refine aw_cond_f rfl hb122 ?_
    refine aw_exit ?_
    iterate 2 (refine post_then_exit ?_)
    obtain rfl := Option.some.inj hF
    exact post_lp_break _ ⟨_, rfl, rfl⟩ (imps [] trivial trivial)
  rintro _ ⟨x172, rfl, rfl⟩
  have hF := elim_next hK174
  clear hK174
  exact post_it (it_len hF) rfl (.inr rfl)

theorem scope_Unknown_ok {a0 : GMethod} {a1 : GStmt} {r : (List UInt8)} (hF : scope_Unknown a0 a1 = some r) : Abs.Fn globs_Try Try.prog 14 [.agg (eGMethod a0), .agg (eGStmt a1)] [.p (.str r)] := by
  unfold scope_Unknown at hF
  refine fn_of_body (n := 18) Try.func14 rfl rfl rfl ?_
  intro w O
  refine aw_seq ?_
  refine aw_region ?_
  refine rgp (op_box 0 rfl rfl rfl rfl rfl rfl) ?_
  refine rgp (op_box 1 rfl rfl rfl rfl rfl rfl) ?_
  refine rgp (op_alloc 2 rfl (ps := [.str []]) rfl Try_zer_9 (by exact ⟨rfl, trivial⟩) rfl rfl) ?_
  refine reg_nil ?_
  refine post_imp (s' := ⟨18, [(2, some (.lp 0 0)), (3, some (.lp 1 0)), (4, some (.lp 2 0))], [(0, some (.box 35 (bxv (eGMethod a0)))), (1, some (.box 53 (bxv (eGStmt a1)))), (2, some (.box 9 [.pv (.str [])]))], 3, [], [], 0, []⟩) (imps [0, 1, 2] ⟨by kernel_rfl, by kernel_rfl, by kernel_rfl, trivial⟩ ⟨by kernel_rfl, by kernel_rfl, by kernel_rfl, trivial⟩) ?_
  refine post_next ?_
  iterate 2 (refine aw_seq ?_)
  refine aw_region ?_
  refine rgp (op_load_lp_agg (ps := eGStmt a1) rfl rfl rfl rfl rfl rfl Try_agg_53 rfl rfl) ?_
  obtain ⟨y3, h4, hF⟩ := bind_some hF
  refine rgp (op_call 3 rfl (caps := []) (args := [.agg (eGStmt a1)]) (rs := [.p (.fn 23 [.vp (eGStmt y3)])]) rfl rfl rfl Try_cal_21 (scope_names_ok h4) rfl rfl rfl) ?_
  refine reg_nil ?_
  refine post_imp (s' := ⟨18, [(2, some (.lp 0 0)), (4, some (.lp 1 0)), (7, some (.pv (.fn 23 [.vp (eGStmt y3)])))], [(0, some (.box 35 (bxv (eGMethod a0)))), (1, some (.box 9 [.pv (.str [])]))], 2, [], [], 0, []⟩) (imps [0, 2] ⟨by kernel_rfl, by kernel_rfl, by kernel_rfl, trivial⟩ ⟨by kernel_rfl, by kernel_rfl, trivial⟩) ?_
  refine post_next ?_
  refine aw_block ?_
  refine aw_imp (s' := ⟨18, [(2, some (.lp 0 0)), (4, some (.lp 1 0)), (7, some (.pv (.fn 23 [.vp (eGStmt y3)])))], [(0, some (.box 35 (bxv (eGMethod a0)))), (1, some (.box 9 [.pv (.str [])]))], 2, [], [], 0, []⟩) (imps [0, 1] ⟨by kernel_rfl, by kernel_rfl, by kernel_rfl, trivial⟩ ⟨by kernel_rfl, by kernel_rfl, trivial⟩) ?_
  obtain ⟨rows36, hR37, hF⟩ := bind_some hF
  obtain ⟨lr38, hL39, hF⟩ := bind_some hF
  refine aw_rangeFunc (X := (List UInt8)) (Q := Unit) (E := (List UInt8)) (pre := [.vp (eGStmt y3)]) (bx := none) (post := []) (kt := [2, 4]) (psl := [8]) none (fun z : (List UInt8) => ([.str z] : List PV)) rows36 (scope_Unknown_B1 a0) () lr38 hL39 (fun q => ⟨18, [(2, some (.lp 0 0)), (4, some (.lp 1 0))], [(0, some (.box 35 (bxv (eGMethod a0)))), (1, some (.box 9 [.pv (.str [])]))], 2, [], [], 0, []⟩) (fun z => (.ret, ⟨18, [(4, some (.lp 0 0))], [(0, some (.box 9 [.pv (.str z)]))], 1, [], [], 0, []⟩)) ⟨rfl, rfl⟩ Try_cal_23 (fun sp => scope_names_1_it (itR_names_ok hR37 sp)) (fun _ => rfl) rfl rfl (by decide) rfl (fun x q => ⟨18, [(2, some (.lp 0 0)), (4, some (.lp 1 0)), (5, some (.pv (.str x))), (8, some (.pv (.str x)))], [(0, some (.box 35 (bxv (eGMethod a0)))), (1, some (.box 9 [.pv (.str [])]))], 2, [], [], 0, [2, 4]⟩) (fun q => ⟨rfl, rfl, rfl, rfl⟩) (fun z => ⟨rfl, rfl, rfl, rfl⟩) (fun z => rfl) rfl rfl ⟨rfl, rfl, trivial⟩ ⟨⟨rfl, rfl, rfl⟩, ⟨rfl, rfl, rfl⟩, trivial⟩ ?_ ?_ ?_ ?_
  · rintro l40 c41 x25 ⟨⟩ hc42
    refine aw_region ?_
    refine ras ?_
    refine reg_nil ?_
    exact post_cut1 (imps [0, 1] ⟨by kernel_rfl, by kernel_rfl, by kernel_rfl, by kernel_rfl, trivial⟩ ⟨by kernel_rfl, by kernel_rfl, trivial⟩)
  · rintro l40 c41 x25 ⟨⟩ r43 hc42 hF
    refine aw_block ?_
    refine aw_seq ?_
    obtain ⟨x31, hF, hK33⟩ := bind_some hF
    refine aw_cut (fun s1 => s1 = ⟨18, [(2, some (.lp 0 0)), (4, some (.lp 1 0)), (5, some (.pv (.str x25))), (16, some (.pv (.bool x31)))], [(0, some (.box 35 (bxv (eGMethod a0)))), (1, some (.box 9 [.pv (.str [])]))], 2, [], [], 0, [2, 4]⟩) ?_ ?_
    · refine aw_region ?_
      refine rgp (op_load_lp_agg (ps := eGMethod a0) rfl rfl rfl rfl rfl rfl Try_agg_35 rfl rfl) ?_
      refine rmv ?_
      obtain ⟨y28, h29, hF⟩ := bind_some hF
      refine rgp (op_call 2 rfl (caps := []) (args := [.agg (eGMethod a0), .str x25]) (rs := [.p (.int .i64 y28)]) rfl rfl rfl Try_cal_9 (scope_Place_ok h29) rfl rfl rfl) ?_
      refine rgp (op_int (k := .i64) (m := y28) (n := 0) rfl rfl rfl rfl rfl rfl) ?_
      refine rmv ?_
      rcases ite_some hF with ⟨hb30, hF⟩ | ⟨hb30, hF⟩
      · refine rgn hb30 (op_move rfl rfl rfl rfl) ?_
        refine rgn hb30 (op_str rfl rfl rfl rfl rfl rfl) ?_
        refine rpt hb30 ?_
        refine reg_nil ?_
        cases hF
        exact post_cut _ rfl (imps [0, 1] ⟨by kernel_rfl, by kernel_rfl, by kernel_rfl, by kernel_rfl, trivial⟩ ⟨by kernel_rfl, by kernel_rfl, trivial⟩)
      iterate 2 (refine rgo_f hb30 ?_)
      refine rpf hb30 ?_
      refine reg_nil ?_
      cases hF
      exact post_cut _ rfl (imps [0, 1] ⟨by kernel_rfl, by kernel_rfl, by kernel_rfl, by kernel_rfl, trivial⟩ ⟨by kernel_rfl, by kernel_rfl, trivial⟩)
    rintro _ rfl
    have hF := hK33
    clear hK33
    refine post_next ?_
    rcases ite_some hF with ⟨hb34, hF⟩ | ⟨hb34, hF⟩
    · refine aw_cond_t rfl hb34 ?_
      refine aw_seq ?_
      refine aw_region ?_
      refine rmv ?_
      refine rgp (op_store_lp (n := 1) rfl rfl rfl rfl rfl (or_one Try_one_9) (by rw [Try_one_9]; rfl) rfl rfl rfl) ?_
      refine reg_nil ?_
      refine post_imp (s' := ⟨18, [(4, some (.lp 0 0))], [(0, some (.box 9 [.pv (.str x25)]))], 1, [], [], 0, [2, 4]⟩) (imps [1] ⟨by kernel_rfl, trivial⟩ ⟨by kernel_rfl, trivial⟩) ?_
      refine post_next ?_
      refine aw_ret ?_
      refine post_block_ret ?_
      obtain rfl := Option.some.inj hF
      exact post_rnd_ret x25 rfl rfl (imps [0] ⟨by kernel_rfl, trivial⟩ ⟨by kernel_rfl, trivial⟩)
    refine aw_cond_f rfl hb34 ?_
    refine aw_skip ?_
    refine post_block_normal ?_
    obtain rfl := Option.some.inj hF
    exact post_rnd () rfl (imps [0, 1] ⟨by kernel_rfl, by kernel_rfl, trivial⟩ ⟨by kernel_rfl, by kernel_rfl, trivial⟩)
  · rintro ⟨⟩ rfl
    have hF := elim_next hF
    refine post_block_normal ?_
    refine post_next ?_
    refine aw_seq ?_
    refine aw_region ?_
    refine rgp (op_store_lp (n := 1) rfl rfl rfl rfl rfl (or_one Try_one_9) (by rw [Try_one_9]; rfl) rfl rfl rfl) ?_
    refine reg_nil ?_
    refine post_imp (s' := ⟨18, [(4, some (.lp 0 0))], [(0, some (.box 9 [.pv (.str [])]))], 1, [], [], 0, []⟩) (imps [1] ⟨by kernel_rfl, trivial⟩ ⟨by kernel_rfl, trivial⟩) ?_
    refine post_next ?_
    refine aw_ret ?_
    obtain rfl := Option.some.inj hF
    exact post_ret rfl rfl (.cons _ _ _ _ _ (.one _ _ _ _ _ _ _ rfl rfl Try_one_9 rfl) (.p _) .nil) (.inl rfl)
  rintro x35 rfl
  have hF := elim_stop hF
  show Post _ _ .ret _
  refine post_block_ret ?_
  refine post_then_ret ?_
  obtain rfl := Option.some.inj hF
  exact post_ret rfl rfl (.cons _ _ _ _ _ (.one _ _ _ _ _ _ _ rfl rfl Try_one_9 rfl) (.p _) .nil) (.inl rfl)
theorem law18_awake_ok  {r : Bool} (hF : law18_awake = some r) : Abs.Fn globs_Try Try.prog 6 [] [.p (.bool r)] := by
  unfold law18_awake at hF
  refine fn_of_body (n := 21) Try.func6 rfl rfl rfl ?_
  intro w O
  refine aw_seq ?_
  refine aw_region ?_
  refine ras ?_
  refine reg_nil ?_
  refine post_imp (s' := ⟨21, [], [], 0, [], [], 0, []⟩) (imps [] trivial trivial) ?_
  refine post_next ?_
  refine aw_seq ?_
  refine aw_region ?_
  refine rgp (op_build (zs := (eGVar zGVar)) (r := eGVar ({ fName := [97], fType := zGType, fAt := 0 } : GVar)) rfl Try_zer_44 (by exact ⟨rfl, rfl, rfl, rfl, rfl, rfl, rfl, rfl, rfl, rfl, rfl, rfl, rfl, trivial⟩) Try_plc_44 rfl rfl rfl rfl) ?_
  refine rgp (op_lit (rows := List.map eGVar ([({ fName := [97], fType := zGType, fAt := 0 } : GVar)] : List GVar)) (zs := (eGVar zGVar)) rfl rfl Try_slc_24 Try_zer_44 (by exact ⟨rfl, rfl, rfl, rfl, rfl, rfl, rfl, rfl, rfl, rfl, rfl, rfl, rfl, trivial⟩) rfl rfl rfl rfl rfl rfl rfl rfl) ?_
  refine rgp (op_build (zs := (eGVar zGVar)) (r := eGVar ({ fName := [120], fType := zGType, fAt := 0 } : GVar)) rfl Try_zer_44 (by exact ⟨rfl, rfl, rfl, rfl, rfl, rfl, rfl, rfl, rfl, rfl, rfl, rfl, rfl, trivial⟩) Try_plc_44 rfl rfl rfl rfl) ?_
  refine rgp (op_lit (rows := List.map eGVar ([({ fName := [120], fType := zGType, fAt := 0 } : GVar)] : List GVar)) (zs := (eGVar zGVar)) rfl rfl Try_slc_24 Try_zer_44 (by exact ⟨rfl, rfl, rfl, rfl, rfl, rfl, rfl, rfl, rfl, rfl, rfl, rfl, rfl, trivial⟩) rfl rfl rfl rfl rfl rfl rfl rfl) ?_
  refine rgp (op_build (zs := (eGMethod zGMethod)) (r := eGMethod ({ fName := [], fPure := false, fRet := zGType, fParams := [({ fName := [97], fType := zGType, fAt := 0 } : GVar)], fLocals := [({ fName := [120], fType := zGType, fAt := 0 } : GVar)], fBody := [], fAt := 0 } : GMethod)) rfl Try_zer_35 (by exact ⟨rfl, rfl, rfl, rfl, rfl, rfl, rfl, rfl, rfl, rfl, rfl, rfl, rfl, trivial, trivial, trivial, rfl, trivial⟩) Try_plc_35 rfl rfl rfl rfl) ?_
  refine rgp (op_alloc 0 rfl (ps := (eGMethod zGMethod)) rfl Try_zer_35 (by exact ⟨rfl, rfl, rfl, rfl, rfl, rfl, rfl, rfl, rfl, rfl, rfl, rfl, rfl, trivial, trivial, trivial, rfl, trivial⟩) rfl rfl) ?_
  refine rgp (op_store_lp (n := 17) rfl rfl rfl rfl rfl (or_agg Try_agg_35) (by rw [Try_non_35]; rfl) rfl rfl rfl) ?_
  refine reg_nil ?_
  refine post_imp (s' := ⟨21, [(1, some (.lp 0 0))], [(0, some (.box 35 (bxv (eGMethod ({ fName := [], fPure := false, fRet := zGType, fParams := [({ fName := [97], fType := zGType, fAt := 0 } : GVar)], fLocals := [({ fName := [120], fType := zGType, fAt := 0 } : GVar)], fBody := [], fAt := 0 } : GMethod)))))], 1, [], [], 0, []⟩) (imps [0] ⟨by kernel_rfl, trivial⟩ ⟨by kernel_rfl, trivial⟩) ?_
  refine post_next ?_
  refine aw_seq ?_
  refine aw_region ?_
  refine rgp (op_load_lp_agg (ps := eGMethod ({ fName := [], fPure := false, fRet := zGType, fParams := [({ fName := [97], fType := zGType, fAt := 0 } : GVar)], fLocals := [({ fName := [120], fType := zGType, fAt := 0 } : GVar)], fBody := [], fAt := 0 } : GMethod)) rfl rfl rfl rfl rfl rfl Try_agg_35 rfl rfl) ?_
  obtain ⟨y1, h2, hF⟩ := bind_some hF
  refine rgp (op_call 1 rfl (caps := []) (args := [.agg (eGMethod ({ fName := [], fPure := false, fRet := zGType, fParams := [({ fName := [97], fType := zGType, fAt := 0 } : GVar)], fLocals := [({ fName := [120], fType := zGType, fAt := 0 } : GVar)], fBody := [], fAt := 0 } : GMethod)), .str [120]]) (rs := [.p (.int .i64 y1)]) rfl rfl rfl Try_cal_9 (scope_Place_ok h2) rfl rfl rfl) ?_
  refine rgp (op_int (k := .i64) (m := y1) (n := 1) rfl rfl rfl rfl rfl rfl) ?_
  refine rmv ?_
  rcases ite_some hF with ⟨hb3, hF⟩ | ⟨hb3, hF⟩
  · refine rgn hb3 (op_load_lp_agg (ps := eGMethod ({ fName := [], fPure := false, fRet := zGType, fParams := [({ fName := [97], fType := zGType, fAt := 0 } : GVar)], fLocals := [({ fName := [120], fType := zGType, fAt := 0 } : GVar)], fBody := [], fAt := 0 } : GMethod)) rfl rfl rfl rfl rfl rfl Try_agg_35 rfl rfl) ?_
    obtain ⟨y4, h5, hF⟩ := bind_some hF
    refine rgn hb3 (op_call 1 rfl (caps := []) (args := [.agg (eGMethod ({ fName := [], fPure := false, fRet := zGType, fParams := [({ fName := [97], fType := zGType, fAt := 0 } : GVar)], fLocals := [({ fName := [120], fType := zGType, fAt := 0 } : GVar)], fBody := [], fAt := 0 } : GMethod)), .str [121]]) (rs := [.p (.int .i64 y4)]) rfl rfl rfl Try_cal_9 (scope_Place_ok h5) rfl rfl rfl) ?_
    refine rgn hb3 (op_int (k := .i64) (m := y4) (n := (-1)) rfl rfl rfl rfl rfl rfl) ?_
    refine rpt hb3 ?_
    refine rmv ?_
    rcases ite_some hF with ⟨hb6, hF⟩ | ⟨hb6, hF⟩
    · refine rgn hb6 (op_load_lp_agg (ps := eGMethod ({ fName := [], fPure := false, fRet := zGType, fParams := [({ fName := [97], fType := zGType, fAt := 0 } : GVar)], fLocals := [({ fName := [120], fType := zGType, fAt := 0 } : GVar)], fBody := [], fAt := 0 } : GMethod)) rfl rfl rfl rfl rfl rfl Try_agg_35 rfl rfl) ?_
      refine rgn hb6 (op_build (zs := (eGStmt zGStmt)) (r := eGStmt ({ fKind := 0, fX := [120], fY := [122], fName := [], fType := zGType, fE := zGExpr, fArgs := [], fBody := [], fElse := [], fAt := 0 } : GStmt)) rfl Try_zer_53 (by exact ⟨rfl, rfl, rfl, rfl, rfl, rfl, rfl, rfl, rfl, rfl, rfl, rfl, rfl, rfl, rfl, rfl, rfl, rfl, trivial, trivial, trivial, trivial, rfl, trivial⟩) Try_plc_53 rfl rfl rfl rfl) ?_
      obtain ⟨y7, h8, hF⟩ := bind_some hF
      refine rgn hb6 (op_call 1 rfl (caps := []) (args := [.agg (eGMethod ({ fName := [], fPure := false, fRet := zGType, fParams := [({ fName := [97], fType := zGType, fAt := 0 } : GVar)], fLocals := [({ fName := [120], fType := zGType, fAt := 0 } : GVar)], fBody := [], fAt := 0 } : GMethod)), .agg (eGStmt ({ fKind := 0, fX := [120], fY := [122], fName := [], fType := zGType, fE := zGExpr, fArgs := [], fBody := [], fElse := [], fAt := 0 } : GStmt))]) (rs := [.p (.str y7)]) rfl rfl rfl Try_cal_14 (scope_Unknown_ok h8) rfl rfl rfl) ?_
      refine rgn hb6 (op_str rfl rfl rfl rfl rfl rfl) ?_
      refine rpt hb6 ?_
      refine ras ?_
      refine reg_nil ?_
      refine post_imp (s' := ⟨21, [(0, some (.pv (.bool (y7 == [122]))))], [], 0, [], [], 0, []⟩) (imps [] ⟨by kernel_rfl, trivial⟩ trivial) ?_
      refine post_next ?_
      refine aw_ret ?_
      obtain rfl := Option.some.inj hF
      exact prt
    iterate 4 (refine rgo_f hb6 ?_)
    refine rpf hb6 ?_
    refine ras ?_
    refine reg_nil ?_
    refine post_imp (s' := ⟨21, [(0, some (.pv (.bool false)))], [], 0, [], [], 0, []⟩) (imps [] ⟨by kernel_rfl, trivial⟩ trivial) ?_
    refine post_next ?_
    refine aw_ret ?_
    obtain rfl := Option.some.inj hF
    exact prt
  iterate 3 (refine rgo_f hb3 ?_)
  refine rpf hb3 ?_
  refine rmv ?_
  iterate 4 (refine rgo_f rfl ?_)
  refine rpf rfl ?_
  refine ras ?_
  refine reg_nil ?_
  refine post_imp (s' := ⟨21, [(0, some (.pv (.bool false)))], [], 0, [], [], 0, []⟩) (imps [] ⟨by kernel_rfl, trivial⟩ trivial) ?_
  refine post_next ?_
  refine aw_ret ?_
  obtain rfl := Option.some.inj hF
  exact prt
theorem raise_This_ok {a0 : GClass} {r : (List GOwner)} (hF : raise_This a0 = some r) : Abs.Fn globs_Try Try.prog 19 [.agg (eGClass a0)] [.own 29 2 (List.map eGOwner r)] := by
  unfold raise_This at hF
  refine fn_of_body (n := 25) Try.func19 rfl rfl rfl ?_
  intro w O
  refine aw_seq ?_
  refine aw_region ?_
  refine rgp (op_box 0 rfl rfl rfl rfl rfl rfl) ?_
  refine ras ?_
  refine reg_nil ?_
  refine post_imp (s' := ⟨25, [(1, some (.lp 0 0))], [(0, some (.box 27 (bxv (eGClass a0))))], 1, [], [], 0, []⟩) (imps [0] ⟨by kernel_rfl, trivial⟩ ⟨by kernel_rfl, trivial⟩) ?_
  refine post_next ?_
  refine aw_seq ?_
  refine aw_region ?_
  refine rgp (op_field_lp rfl rfl Try_fld_27_1 rfl rfl) ?_
  refine rgp (op_load_lp (v := .pv (.vs 1 (List.map eS a0.fParams))) rfl rfl rfl rfl Try_one_22 rfl rfl) ?_
  refine rgp (op_len_vs (n := a0.fParams.length) rfl rfl (List.length_map ..) Try_slc_22 rfl rfl) ?_
  refine rgp (op_int (k := .i64) (m := (a0.fParams.length : Int)) (n := 1) rfl rfl rfl rfl rfl rfl) ?_
  obtain ⟨u3, h4, hF⟩ := bind_some hF
  refine rgp (op_make 1 rfl (k := .i64) (k' := .i64) (n := w_i64 ((a0.fParams.length : Int) + 1)) (m := w_i64 ((a0.fParams.length : Int) + 1)) (zs := eGOwner zGOwner) rfl rfl rfl (mkOk_spec h4).1 (mkOk_spec h4).2.1 (mkOk_spec h4).2.2 Try_slc_23 Try_elm_29 rfl Try_zer_29 (by exact ⟨rfl, rfl, trivial⟩) rfl rfl (map_rep eGOwner _ _) rfl rfl) ?_
  refine ras ?_
  refine reg_nil ?_
  refine post_imp (s' := ⟨25, [(3, some (.ls 0))], [(0, some (.row 29 2 (List.map eGOwner (List.replicate (w_i64 ((a0.fParams.length : Int) + 1) : Int).toNat zGOwner))))], 1, [], [], 0, []⟩) (imps [1] ⟨by kernel_rfl, trivial⟩ ⟨by kernel_rfl, trivial⟩) ?_
  refine post_next ?_
  iterate 2 (refine aw_seq ?_)
  refine aw_region ?_
  refine rmv ?_
  refine rgp (op_len_ls (n := (List.replicate (w_i64 ((a0.fParams.length : Int) + 1) : Int).toNat zGOwner).length) rfl rfl rfl (List.length_map ..) Try_slc_23 rfl rfl) ?_
  refine rmv ?_
  refine reg_nil ?_
  refine post_imp (s' := ⟨25, [(3, some (.ls 0)), (11, some (.pv (.int .i64 ((List.replicate (w_i64 ((a0.fParams.length : Int) + 1) : Int).toNat zGOwner).length : Int)))), (12, some (.pv (.int .i64 0)))], [(0, some (.row 29 2 (List.map eGOwner (List.replicate (w_i64 ((a0.fParams.length : Int) + 1) : Int).toNat zGOwner))))], 1, [], [], 0, []⟩) (imps [0] ⟨by kernel_rfl, by kernel_rfl, by kernel_rfl, trivial⟩ ⟨by kernel_rfl, trivial⟩) ?_
  refine post_next ?_
  obtain ⟨x26, hF, hK27⟩ := bind_some hF
  refine aw_for (((((List.replicate (w_i64 ((a0.fParams.length : Int) + 1) : Int).toNat zGOwner).length : Int) : Int) - (0)).toNat + 1) (fun s1 => s1 = ⟨25, [(3, some (.ls 0))], [(0, some (.row 29 2 (List.map eGOwner x26)))], 1, [], [], 0, []⟩) ?_ ?_
  · refine rnd_loop (α := (List GOwner) × Int) (fun q => ⟨25, [(3, some (.ls 0)), (11, some (.pv (.int .i64 ((List.replicate (w_i64 ((a0.fParams.length : Int) + 1) : Int).toNat zGOwner).length : Int)))), (12, some (.pv (.int .i64 q.2)))], [(0, some (.row 29 2 (List.map eGOwner q.1)))], 1, [], [], 0, []⟩) (fun k q => raise_This_L1 a0 k q.1 q.2 = some x26) ((List.replicate (w_i64 ((a0.fParams.length : Int) + 1) : Int).toNat zGOwner), 0) (imps [0] ⟨by kernel_rfl, by kernel_rfl, by kernel_rfl, trivial⟩ ⟨by kernel_rfl, trivial⟩) hF (fun q h => by cases h) ?_
    clear hF
    rintro k ⟨x10, x11⟩ hF ih
    refine rnd_succ ?_
    refine aw_seq ?_
    refine aw_region ?_
    refine rgp (op_int (k := .i64) (m := x11) (n := ((List.replicate (w_i64 ((a0.fParams.length : Int) + 1) : Int).toNat zGOwner).length : Int)) rfl rfl rfl rfl rfl rfl) ?_
    refine reg_nil ?_
    refine post_imp (s' := ⟨25, [(3, some (.ls 0)), (11, some (.pv (.int .i64 ((List.replicate (w_i64 ((a0.fParams.length : Int) + 1) : Int).toNat zGOwner).length : Int)))), (12, some (.pv (.int .i64 x11))), (13, some (.pv (.bool (decide (x11 < ((List.replicate (w_i64 ((a0.fParams.length : Int) + 1) : Int).toNat zGOwner).length : Int))))))], [(0, some (.row 29 2 (List.map eGOwner x10)))], 1, [], [], 0, []⟩) (imps [0] ⟨by kernel_rfl, by kernel_rfl, by kernel_rfl, by kernel_rfl, trivial⟩ ⟨by kernel_rfl, trivial⟩) ?_
    refine post_next ?_
    refine aw_seq ?_
    rcases ite_some hF with ⟨hb19, hF⟩ | ⟨hb19, hF⟩
    · refine aw_cond_t rfl hb19 ?_
      refine aw_skip ?_
      refine post_next ?_
      refine aw_seq ?_
      refine aw_block ?_
      refine aw_seq ?_
      refine aw_region ?_
      refine rmv ?_
      refine ras ?_
      refine reg_nil ?_
      refine post_imp (s' := ⟨25, [(3, some (.ls 0)), (4, some (.pv (.int .i64 x11))), (11, some (.pv (.int .i64 ((List.replicate (w_i64 ((a0.fParams.length : Int) + 1) : Int).toNat zGOwner).length : Int)))), (12, some (.pv (.int .i64 x11)))], [(0, some (.row 29 2 (List.map eGOwner x10)))], 1, [], [], 0, []⟩) (imps [0] ⟨by kernel_rfl, by kernel_rfl, by kernel_rfl, by kernel_rfl, trivial⟩ ⟨by kernel_rfl, trivial⟩) ?_
      refine post_next ?_
      refine aw_region ?_
      iterate 3 (refine rmv ?_)
      refine rgp (op_build (zs := (eGOwner zGOwner)) (r := eGOwner ({ fKind := 3, fN := x11 } : GOwner)) rfl Try_zer_29 (by exact ⟨rfl, rfl, trivial⟩) Try_plc_29 rfl rfl rfl rfl) ?_
      obtain ⟨y22, h23, hF⟩ := bind_some hF
      refine rgp (op_index_ls (k := .i64) rfl rfl rfl rfl (idx_map eGOwner h23) Try_slc_23 rfl rfl) ?_
      refine rgp (op_store_le (n := 2) rfl rfl rfl rfl rfl (map_get eGOwner h23) (or_agg Try_agg_29) (by rw [Try_non_29]; rfl) rfl (map_set' eGOwner x10 _ ({ fKind := 3, fN := x11 } : GOwner)) rfl rfl) ?_
      refine reg_nil ?_
      refine post_imp (s' := ⟨25, [(3, some (.ls 0)), (11, some (.pv (.int .i64 ((List.replicate (w_i64 ((a0.fParams.length : Int) + 1) : Int).toNat zGOwner).length : Int)))), (12, some (.pv (.int .i64 x11)))], [(0, some (.row 29 2 (List.map eGOwner (x10.set (x11 : Int).toNat ({ fKind := 3, fN := x11 } : GOwner)))))], 1, [], [], 0, []⟩) (imps [0] ⟨by kernel_rfl, by kernel_rfl, by kernel_rfl, trivial⟩ ⟨by kernel_rfl, trivial⟩) ?_
      refine post_block_normal ?_
      refine post_next ?_
      refine aw_region ?_
      refine rgp (op_int (k := .i64) (m := x11) (n := 1) rfl rfl rfl rfl rfl rfl) ?_
      refine rmv ?_
      refine reg_nil ?_
      refine post_round ?_
      exact rnd_back (ih ((x10.set (x11 : Int).toNat ({ fKind := 3, fN := x11 } : GOwner)), w_i64 (x11 + 1)) hF) (imps [0] ⟨by kernel_rfl, by kernel_rfl, by kernel_rfl, trivial⟩ ⟨by kernel_rfl, trivial⟩)
    refine aw_cond_f rfl hb19 ?_
    refine aw_exit ?_
    iterate 2 (refine post_then_exit ?_)
    obtain rfl := Option.some.inj hF
    exact post_lp_break _ rfl (imps [0] ⟨by kernel_rfl, trivial⟩ ⟨by kernel_rfl, trivial⟩)
  rintro _ rfl
  have hF := hK27
  clear hK27
  refine post_next ?_
  refine aw_seq ?_
  refine aw_region ?_
  refine rmv ?_
  refine rgp (op_build (zs := (eGOwner zGOwner)) (r := eGOwner ({ fKind := 2, fN := 0 } : GOwner)) rfl Try_zer_29 (by exact ⟨rfl, rfl, trivial⟩) Try_plc_29 rfl rfl rfl rfl) ?_
  obtain ⟨y28, h29, hF⟩ := bind_some hF
  refine rgp (op_index_ls (k := .i64) rfl rfl rfl rfl (idx_map eGOwner h29) Try_slc_23 rfl rfl) ?_
  refine rgp (op_store_le (n := 2) rfl rfl rfl rfl rfl (map_get eGOwner h29) (or_agg Try_agg_29) (by rw [Try_non_29]; rfl) rfl (map_set' eGOwner x26 _ ({ fKind := 2, fN := 0 } : GOwner)) rfl rfl) ?_
  refine reg_nil ?_
  refine post_imp (s' := ⟨25, [(3, some (.ls 0))], [(0, some (.row 29 2 (List.map eGOwner (x26.set (0 : Int).toNat ({ fKind := 2, fN := 0 } : GOwner)))))], 1, [], [], 0, []⟩) (imps [0] ⟨by kernel_rfl, trivial⟩ ⟨by kernel_rfl, trivial⟩) ?_
  refine post_next ?_
  refine aw_seq ?_
  refine aw_region ?_
  refine rmv ?_
  refine ras ?_
  refine reg_nil ?_
  refine post_imp (s' := ⟨25, [(2, some (.ls 0))], [(0, some (.row 29 2 (List.map eGOwner (x26.set (0 : Int).toNat ({ fKind := 2, fN := 0 } : GOwner)))))], 1, [], [], 0, []⟩) (imps [0] ⟨by kernel_rfl, trivial⟩ ⟨by kernel_rfl, trivial⟩) ?_
  refine post_next ?_
  refine aw_ret ?_
  obtain rfl := Option.some.inj hF
  exact post_ret rfl rfl (.cons _ _ _ _ _ (.tmp _ _ rfl) (.own _ _ _ _ rfl nolent3) .nil) (.inl rfl)
theorem scope_This_ok {a0 : GClass} {r : GType} (hF : scope_This a0 = some r) : Abs.Fn globs_Try Try.prog 11 [.agg (eGClass a0)] [.p (.agg (eGType r))] := by
  unfold scope_This at hF
  refine fn_of_body (n := 15) Try.func11 rfl rfl rfl ?_
  intro w O
  refine aw_seq ?_
  refine aw_region ?_
  refine rgp (op_box 0 rfl rfl rfl rfl rfl rfl) ?_
  refine rgp (op_alloc 1 rfl (ps := (eGType zGType)) rfl Try_zer_32 (by exact ⟨rfl, rfl, rfl, rfl, rfl, rfl, rfl, rfl, rfl, rfl, rfl, trivial⟩) rfl rfl) ?_
  refine reg_nil ?_
  refine post_imp (s' := ⟨15, [(1, some (.lp 0 0)), (2, some (.lp 1 0))], [(0, some (.box 27 (bxv (eGClass a0)))), (1, some (.box 32 (bxv (eGType zGType))))], 2, [], [], 0, []⟩) (imps [0, 1] ⟨by kernel_rfl, by kernel_rfl, trivial⟩ ⟨by kernel_rfl, by kernel_rfl, trivial⟩) ?_
  refine post_next ?_
  refine aw_seq ?_
  refine aw_region ?_
  refine rgp (op_field_lp rfl rfl Try_fld_27_0 rfl rfl) ?_
  refine rgp (op_load_lp (v := .pv (.str a0.fName)) rfl rfl rfl rfl Try_one_9 rfl rfl) ?_
  refine rgp (op_build (zs := (eGType zGType)) (r := eGType ({ fKind := 2, fClass := a0.fName, fN := 0, fOwn := (⟨zGOwner, zGOwner, zGOwner, zGOwner⟩ : A4 GOwner) } : GType)) rfl Try_zer_32 (by exact ⟨rfl, rfl, rfl, rfl, rfl, rfl, rfl, rfl, rfl, rfl, rfl, trivial⟩) Try_plc_32 rfl rfl rfl rfl) ?_
  refine rgp (op_alloc 2 rfl (ps := (eGType zGType)) rfl Try_zer_32 (by exact ⟨rfl, rfl, rfl, rfl, rfl, rfl, rfl, rfl, rfl, rfl, rfl, trivial⟩) rfl rfl) ?_
  refine rgp (op_store_lp (n := 11) rfl rfl rfl rfl rfl (or_agg Try_agg_32) (by rw [Try_non_32]; rfl) rfl rfl rfl) ?_
  refine reg_nil ?_
  refine post_imp (s' := ⟨15, [(1, some (.lp 0 0)), (2, some (.lp 1 0)), (3, some (.lp 2 0))], [(0, some (.box 27 (bxv (eGClass a0)))), (1, some (.box 32 (bxv (eGType zGType)))), (2, some (.box 32 (bxv (eGType ({ fKind := 2, fClass := a0.fName, fN := 0, fOwn := (⟨zGOwner, zGOwner, zGOwner, zGOwner⟩ : A4 GOwner) } : GType)))))], 3, [], [], 0, []⟩) (imps [0, 1, 2] ⟨by kernel_rfl, by kernel_rfl, by kernel_rfl, trivial⟩ ⟨by kernel_rfl, by kernel_rfl, by kernel_rfl, trivial⟩) ?_
  refine post_next ?_
  refine aw_seq ?_
  refine dr_start ⟨_, _, _⟩ rfl ?_
  refine dr_cons { need := [(3, .lp 2 0)], dst := some 7, val := some (.lp 2 3) } (fun m h => step_on (guard_no rfl) (op_field_lp rfl h.1.1 Try_fld_32_3 rfl rfl) rfl) ⟨⟨rfl, trivial⟩, trivial, trivial⟩ ?_
  refine dr_cons { need := [(7, .lp 2 3)], dst := some 8, val := some (.aw 2 3 4) } (fun m h => step_on (guard_no rfl) (op_slice_aw rfl h.1.1 Try_arr_30 rfl rfl) rfl) ⟨⟨rfl, trivial⟩, trivial, trivial⟩ ?_
  refine dr_cons { need := [(1, .lp 0 0)], hneed := [(0, .box 27 (bxv (eGClass a0)))], dst := some 9, val := some (.pv (.agg (eGClass a0))) } (fun m h => step_on (guard_no rfl) (op_load_lp_agg (ps := eGClass a0) rfl h.1.1 h.2.1.1 rfl rfl rfl Try_agg_27 rfl rfl) rfl) ⟨⟨rfl, trivial⟩, ⟨rfl, trivial⟩, trivial⟩ ?_
  obtain ⟨y1, h2, hF⟩ := bind_some hF
  refine dr_cons { need := [(9, .pv (.agg (eGClass a0)))], dst := some 10, val := some (.pv (.vs 2 (List.map eGOwner y1))) } (fun m h => step_on (guard_no rfl) (op_call 3 rfl (caps := []) (args := [.agg (eGClass a0)]) (rs := [.p (.vs 2 (List.map eGOwner y1))]) rfl rfl (evl_cons h.1.1 evl_nil) Try_cal_19 (Fn.frozen (raise_This_ok h2)) rfl rfl rfl) rfl) ⟨⟨rfl, trivial⟩, trivial, trivial⟩ ?_
  refine dr_cons { need := [(8, .aw 2 3 4), (10, .pv (.vs 2 (List.map eGOwner y1)))], hneed := [(2, .box 32 (bxv (eGType ({ fKind := 2, fClass := a0.fName, fN := 0, fOwn := (⟨zGOwner, zGOwner, zGOwner, zGOwner⟩ : A4 GOwner) } : GType))))], dst := some 11, val := some (.pv (.int .i64 (Nat.min (List.map eGOwner y1).length 4 : Nat))), upd := [(2, some (.box 32 (bxv (eGType ({ ({ fKind := 2, fClass := a0.fName, fN := 0, fOwn := (⟨zGOwner, zGOwner, zGOwner, zGOwner⟩ : A4 GOwner) } : GType) with fOwn := (A4.cp (({ fKind := 2, fClass := a0.fName, fN := 0, fOwn := (⟨zGOwner, zGOwner, zGOwner, zGOwner⟩ : A4 GOwner) } : GType).fOwn) y1) } : GType)))))] } (fun m h => step_on (guard_no rfl) (op_copy_aw (news := List.map eGOwner y1) (cells' := bxv (eGType ({ ({ fKind := 2, fClass := a0.fName, fN := 0, fOwn := (⟨zGOwner, zGOwner, zGOwner, zGOwner⟩ : A4 GOwner) } : GType) with fOwn := (A4.cp (({ fKind := 2, fClass := a0.fName, fN := 0, fOwn := (⟨zGOwner, zGOwner, zGOwner, zGOwner⟩ : A4 GOwner) } : GType).fOwn) y1) } : GType))) rfl h.1.1 h.2.1.1 h.1.2.1 Try_slc_23 rfl (cp4 (fun l => splice (bxv (eGType ({ fKind := 2, fClass := a0.fName, fN := 0, fOwn := (⟨zGOwner, zGOwner, zGOwner, zGOwner⟩ : A4 GOwner) } : GType))) 3 (((List.map eGOwner l).take 4).flatten.map .pv) = bxv (eGType ({ ({ fKind := 2, fClass := a0.fName, fN := 0, fOwn := (⟨zGOwner, zGOwner, zGOwner, zGOwner⟩ : A4 GOwner) } : GType) with fOwn := (A4.cp (({ fKind := 2, fClass := a0.fName, fN := 0, fOwn := (⟨zGOwner, zGOwner, zGOwner, zGOwner⟩ : A4 GOwner) } : GType).fOwn) l) } : GType))) y1 ⟨rfl, fun _ => rfl, fun _ _ => rfl, fun _ _ _ => rfl, fun _ _ _ _ _ => rfl⟩) rfl rfl) rfl) ⟨⟨rfl, rfl, trivial⟩, ⟨rfl, trivial⟩, trivial⟩ ?_
  refine dr_cons { need := [(11, .pv (.int .i64 (Nat.min (List.map eGOwner y1).length 4 : Nat)))], dst := some 12, val := some (.pv (.int .i64 (w_i64 ((Nat.min (List.map eGOwner y1).length 4 : Nat) - 1)))) } (fun m h => step_on (guard_no rfl) (op_int (k := .i64) (m := (Nat.min (List.map eGOwner y1).length 4 : Nat)) (n := 1) rfl h.1.1 rfl rfl rfl rfl) rfl) ⟨⟨rfl, trivial⟩, trivial, trivial⟩ ?_
  refine dr_cons { need := [(3, .lp 2 0)], dst := some 13, val := some (.lp 2 2) } (fun m h => step_on (guard_no rfl) (op_field_lp rfl h.1.1 Try_fld_32_2 rfl rfl) rfl) ⟨⟨rfl, trivial⟩, trivial, trivial⟩ ?_
  refine dr_cons { need := [(13, .lp 2 2), (12, .pv (.int .i64 (w_i64 ((Nat.min (List.map eGOwner y1).length 4 : Nat) - 1))))], hneed := [(2, .box 32 (bxv (eGType ({ ({ fKind := 2, fClass := a0.fName, fN := 0, fOwn := (⟨zGOwner, zGOwner, zGOwner, zGOwner⟩ : A4 GOwner) } : GType) with fOwn := (A4.cp (({ fKind := 2, fClass := a0.fName, fN := 0, fOwn := (⟨zGOwner, zGOwner, zGOwner, zGOwner⟩ : A4 GOwner) } : GType).fOwn) y1) } : GType))))], upd := [(2, some (.box 32 (bxv (eGType ({ ({ ({ fKind := 2, fClass := a0.fName, fN := 0, fOwn := (⟨zGOwner, zGOwner, zGOwner, zGOwner⟩ : A4 GOwner) } : GType) with fOwn := (A4.cp (({ fKind := 2, fClass := a0.fName, fN := 0, fOwn := (⟨zGOwner, zGOwner, zGOwner, zGOwner⟩ : A4 GOwner) } : GType).fOwn) y1) } : GType) with fN := w_i64 ((Nat.min (List.map eGOwner y1).length 4 : Nat) - 1) } : GType)))))] } (fun m h => step_on (guard_no rfl) (op_store_lp (n := 1) rfl h.1.1 h.1.2.1 rfl h.2.1.1 (or_one Try_one_3) (by rw [Try_one_3]; rfl) rfl rfl rfl) rfl) ⟨⟨rfl, rfl, trivial⟩, ⟨rfl, trivial⟩, trivial⟩ ?_
  refine dr_nil Try_mixed rfl (by kernel_rfl) ?_
  refine post_imp (s' := ⟨15, [(2, some (.lp 0 0)), (3, some (.lp 1 0))], [(0, some (.box 32 (bxv (eGType zGType)))), (1, some (.box 32 (bxv (eGType ({ ({ ({ fKind := 2, fClass := a0.fName, fN := 0, fOwn := (⟨zGOwner, zGOwner, zGOwner, zGOwner⟩ : A4 GOwner) } : GType) with fOwn := (A4.cp (({ fKind := 2, fClass := a0.fName, fN := 0, fOwn := (⟨zGOwner, zGOwner, zGOwner, zGOwner⟩ : A4 GOwner) } : GType).fOwn) y1) } : GType) with fN := w_i64 ((Nat.min (List.map eGOwner y1).length 4 : Nat) - 1) } : GType)))))], 2, [], [], 0, []⟩) (imps [1, 2] ⟨by kernel_rfl, by kernel_rfl, trivial⟩ ⟨by kernel_rfl, by kernel_rfl, trivial⟩) ?_
  refine post_next ?_
  refine aw_seq ?_
  refine aw_region ?_
  refine rgp (op_load_lp_agg (ps := eGType ({ ({ ({ fKind := 2, fClass := a0.fName, fN := 0, fOwn := (⟨zGOwner, zGOwner, zGOwner, zGOwner⟩ : A4 GOwner) } : GType) with fOwn := (A4.cp (({ fKind := 2, fClass := a0.fName, fN := 0, fOwn := (⟨zGOwner, zGOwner, zGOwner, zGOwner⟩ : A4 GOwner) } : GType).fOwn) y1) } : GType) with fN := w_i64 ((Nat.min (List.map eGOwner y1).length 4 : Nat) - 1) } : GType)) rfl rfl rfl rfl rfl rfl Try_agg_32 rfl rfl) ?_
  refine rgp (op_store_lp (n := 11) rfl rfl rfl rfl rfl (or_agg Try_agg_32) (by rw [Try_non_32]; rfl) rfl rfl rfl) ?_
  refine reg_nil ?_
  refine post_imp (s' := ⟨15, [(2, some (.lp 0 0))], [(0, some (.box 32 (bxv (eGType ({ ({ ({ fKind := 2, fClass := a0.fName, fN := 0, fOwn := (⟨zGOwner, zGOwner, zGOwner, zGOwner⟩ : A4 GOwner) } : GType) with fOwn := (A4.cp (({ fKind := 2, fClass := a0.fName, fN := 0, fOwn := (⟨zGOwner, zGOwner, zGOwner, zGOwner⟩ : A4 GOwner) } : GType).fOwn) y1) } : GType) with fN := w_i64 ((Nat.min (List.map eGOwner y1).length 4 : Nat) - 1) } : GType)))))], 1, [], [], 0, []⟩) (imps [0] ⟨by kernel_rfl, trivial⟩ ⟨by kernel_rfl, trivial⟩) ?_
  refine post_next ?_
  refine aw_ret ?_
  obtain rfl := Option.some.inj hF
  exact post_ret rfl rfl (.cons _ _ _ _ _ (.agg _ _ _ _ _ 11 _ _ rfl rfl Try_agg_32 rfl rfl rfl) (.p _) .nil) (.inl rfl)
theorem slices_Grow_api_Var_ok {a1 : Int} {r : (List GVar)} (hF : slices_Grow_api_Var a1 = some r) : Abs.Fn globs_Try Try.prog 25 [.nils, .int .i64 a1] [.own 44 13 (List.map eGVar r)] := by
  unfold slices_Grow_api_Var at hF
  refine fn_of_body (n := 27) Try.func25 rfl rfl rfl ?_
  intro w O
  refine aw_seq ?_
  refine aw_region ?_
  refine ras ?_
  refine reg_imp (imp_nil_own 4 44 13 0 rfl rfl) ?_
  refine reg_nil ?_
  refine post_imp (s' := ⟨27, [(0, some (.pv .nils)), (1, some (.pv (.int .i64 a1)))], [], 0, [], [], 0, []⟩) (imps [] ⟨by kernel_rfl, by kernel_rfl, trivial⟩ trivial) ?_
  refine post_next ?_
  iterate 2 (refine aw_seq ?_)
  refine aw_region ?_
  refine rmv ?_
  refine rgp (op_int (k := .i64) (m := a1) (n := 0) rfl rfl rfl rfl rfl rfl) ?_
  refine reg_nil ?_
  refine post_imp (s' := ⟨27, [(0, some (.pv .nils)), (1, some (.pv (.int .i64 a1))), (6, some (.pv (.bool (decide (a1 < 0)))))], [], 0, [], [], 0, []⟩) (imps [] ⟨by kernel_rfl, by kernel_rfl, by kernel_rfl, trivial⟩ trivial) ?_
  refine post_next ?_
  rcases ite_some hF with ⟨hb1, hF⟩ | ⟨hb1, hF⟩
  · refine aw_cond_t rfl hb1 ?_
    cases hF
  refine aw_cond_f rfl hb1 ?_
  refine aw_skip ?_
  refine post_next ?_
  iterate 2 (refine aw_seq ?_)
  refine aw_region ?_
  iterate 2 (refine rmv ?_)
  refine rgp (op_cap_nils rfl rfl Try_slc_24 rfl rfl) ?_
  refine rmv ?_
  refine rgp (op_len_nils rfl rfl Try_slc_24 rfl rfl) ?_
  refine rgp (op_int (k := .i64) (m := 0) (n := 0) rfl rfl rfl rfl rfl rfl) ?_
  refine rgp (op_int (k := .i64) (m := a1) (n := w_i64 (0 - 0)) rfl rfl rfl rfl rfl rfl) ?_
  refine ras ?_
  refine reg_nil ?_
  refine post_imp (s' := ⟨27, [(0, some (.pv .nils)), (1, some (.pv (.int .i64 (w_i64 (a1 - (w_i64 (0 - 0)))))))], [], 0, [], [], 0, []⟩) (imps [] ⟨by kernel_rfl, by kernel_rfl, trivial⟩ trivial) ?_
  refine post_next ?_
  refine aw_seq ?_
  refine aw_region ?_
  refine rmv ?_
  refine rgp (op_int (k := .i64) (m := w_i64 (a1 - (w_i64 (0 - 0)))) (n := 0) rfl rfl rfl rfl rfl rfl) ?_
  refine reg_nil ?_
  refine post_imp (s' := ⟨27, [(0, some (.pv .nils)), (1, some (.pv (.int .i64 (w_i64 (a1 - (w_i64 (0 - 0))))))), (16, some (.pv (.bool (decide ((w_i64 (a1 - (w_i64 (0 - 0)))) > 0)))))], [], 0, [], [], 0, []⟩) (imps [] ⟨by kernel_rfl, by kernel_rfl, by kernel_rfl, trivial⟩ trivial) ?_
  refine post_next ?_
  rcases ite_some hF with ⟨hb2, hF⟩ | ⟨hb2, hF⟩
  · refine aw_cond_t rfl hb2 ?_
    refine aw_region ?_
    iterate 2 (refine rmv ?_)
    refine rgp (op_cap_nils rfl rfl Try_slc_24 rfl rfl) ?_
    refine rgp (op_slice_nils rfl rfl rfl Try_slc_24 rfl rfl) ?_
    refine rmv ?_
    obtain ⟨u3, h4, hF⟩ := bind_some hF
    refine rgp (op_append_zeros 0 rfl (k := .i64) (n := w_i64 (a1 - (w_i64 (0 - 0)))) (zs := eGVar zGVar) rfl rfl rfl (zerOk_spec h4).1 (zerOk_spec h4).2 Try_slc_24 Try_und_3 Try_elm_44 rfl Try_zer_44 (by exact ⟨rfl, rfl, rfl, rfl, rfl, rfl, rfl, rfl, rfl, rfl, rfl, rfl, rfl, trivial⟩) rfl rfl (map_rep eGVar _ _) rfl rfl) ?_
    refine rmv ?_
    refine rgp (op_len_nils rfl rfl Try_slc_24 rfl rfl) ?_
    obtain ⟨y5, h6, hF⟩ := bind_some hF
    refine rgp (op_slice_own 1 rfl rfl rfl rfl rfl Try_slc_24 (cutL_map eGVar h6) rfl rfl) ?_
    refine ras ?_
    refine reg_nil ?_
    refine post_imp (s' := ⟨27, [(0, some (.ls 0))], [(0, some (.row 44 13 (List.map eGVar y5)))], 1, [], [], 0, []⟩) (imps [1] ⟨by kernel_rfl, trivial⟩ ⟨by kernel_rfl, trivial⟩) ?_
    refine post_next ?_
    refine aw_seq ?_
    refine aw_region ?_
    refine rmv ?_
    refine ras ?_
    refine reg_nil ?_
    refine post_imp (s' := ⟨27, [(4, some (.ls 0))], [(0, some (.row 44 13 (List.map eGVar y5)))], 1, [], [], 0, []⟩) (imps [0] ⟨by kernel_rfl, trivial⟩ ⟨by kernel_rfl, trivial⟩) ?_
    refine post_next ?_
    refine aw_ret ?_
    obtain rfl := Option.some.inj hF
    exact post_ret rfl rfl (.cons _ _ _ _ _ (.tmp _ _ rfl) (.own _ _ _ _ rfl nolent3) .nil) (.inl rfl)
  refine aw_cond_f rfl hb2 ?_
  refine aw_skip ?_
  refine post_next ?_
  refine aw_seq ?_
  refine aw_region ?_
  refine rmv ?_
  refine reg_imp (imp_nil_own 26 44 13 0 rfl rfl) ?_
  refine ras ?_
  refine reg_nil ?_
  refine post_imp (s' := ⟨27, [(4, some (.ls 0))], [(0, some (.row 44 13 (List.map eGVar [])))], 1, [], [], 0, []⟩) (imps [0] ⟨by kernel_rfl, trivial⟩ ⟨by kernel_rfl, trivial⟩) ?_
  refine post_next ?_
  refine aw_ret ?_
  obtain rfl := Option.some.inj hF
  exact post_ret rfl rfl (.cons _ _ _ _ _ (.tmp _ _ rfl) (.own _ _ _ _ rfl nolent3) .nil) (.inl rfl)
theorem slices_Concat_api_Var_ok {a0 : List (List GVar)} {r : (List GVar)} (hF : slices_Concat_api_Var a0 = some r) : Abs.Fn globs_Try Try.prog 22 [.vs 1 (List.map (eL 13 eGVar) a0)] [.own 44 13 (List.map eGVar r)] := by
  unfold slices_Concat_api_Var at hF
  refine fn_of_body (n := 36) Try.func22 rfl rfl rfl ?_
  intro w O
  refine aw_seq ?_
  refine aw_region ?_
  refine ras ?_
  refine reg_nil ?_
  refine post_imp (s' := ⟨36, [(0, some (.pv (.vs 1 (List.map (eL 13 eGVar) a0))))], [], 0, [], [], 0, []⟩) (imps [] ⟨by kernel_rfl, trivial⟩ trivial) ?_
  refine post_next ?_
  refine aw_seq ?_
  refine aw_region ?_
  refine ras ?_
  refine reg_nil ?_
  refine post_imp (s' := ⟨36, [(0, some (.pv (.vs 1 (List.map (eL 13 eGVar) a0)))), (3, some (.pv (.int .i64 0)))], [], 0, [], [], 0, []⟩) (imps [] ⟨by kernel_rfl, by kernel_rfl, trivial⟩ trivial) ?_
  refine post_next ?_
  iterate 2 (refine aw_seq ?_)
  refine aw_region ?_
  refine rmv ?_
  refine rgp (op_len_vs (n := a0.length) rfl rfl (List.length_map ..) Try_slc_66 rfl rfl) ?_
  refine rmv ?_
  refine reg_nil ?_
  refine post_imp (s' := ⟨36, [(0, some (.pv (.vs 1 (List.map (eL 13 eGVar) a0)))), (3, some (.pv (.int .i64 0))), (9, some (.pv (.vs 1 (List.map (eL 13 eGVar) a0)))), (10, some (.pv (.int .i64 (a0.length : Int)))), (11, some (.pv (.int .i64 0)))], [], 0, [], [], 0, []⟩) (imps [] ⟨by kernel_rfl, by kernel_rfl, by kernel_rfl, by kernel_rfl, by kernel_rfl, trivial⟩ trivial) ?_
  refine post_next ?_
  obtain ⟨x25, hF, hK26⟩ := bind_some hF
  refine aw_for ((((a0.length : Int) : Int) - (0)).toNat + 1) (fun s1 => s1 = ⟨36, [(0, some (.pv (.vs 1 (List.map (eL 13 eGVar) a0)))), (3, some (.pv (.int .i64 x25)))], [], 0, [], [], 0, []⟩) ?_ ?_
  · refine rnd_loop (α := Int × Int) (fun q => ⟨36, [(0, some (.pv (.vs 1 (List.map (eL 13 eGVar) a0)))), (3, some (.pv (.int .i64 q.1))), (9, some (.pv (.vs 1 (List.map (eL 13 eGVar) a0)))), (10, some (.pv (.int .i64 (a0.length : Int)))), (11, some (.pv (.int .i64 q.2)))], [], 0, [], [], 0, []⟩) (fun k q => slices_Concat_api_Var_L1 a0 k q.1 q.2 = some x25) (0, 0) (imps [] ⟨by kernel_rfl, by kernel_rfl, by kernel_rfl, by kernel_rfl, by kernel_rfl, trivial⟩ trivial) hF (fun q h => by cases h) ?_
    clear hF
    rintro k ⟨x7, x8⟩ hF ih
    refine rnd_succ ?_
    refine aw_seq ?_
    refine aw_region ?_
    refine rgp (op_int (k := .i64) (m := x8) (n := (a0.length : Int)) rfl rfl rfl rfl rfl rfl) ?_
    refine reg_nil ?_
    refine post_imp (s' := ⟨36, [(0, some (.pv (.vs 1 (List.map (eL 13 eGVar) a0)))), (3, some (.pv (.int .i64 x7))), (9, some (.pv (.vs 1 (List.map (eL 13 eGVar) a0)))), (10, some (.pv (.int .i64 (a0.length : Int)))), (11, some (.pv (.int .i64 x8))), (12, some (.pv (.bool (decide (x8 < (a0.length : Int))))))], [], 0, [], [], 0, []⟩) (imps [] ⟨by kernel_rfl, by kernel_rfl, by kernel_rfl, by kernel_rfl, by kernel_rfl, by kernel_rfl, trivial⟩ trivial) ?_
    refine post_next ?_
    refine aw_seq ?_
    rcases ite_some hF with ⟨hb17, hF⟩ | ⟨hb17, hF⟩
    · refine aw_cond_t rfl hb17 ?_
      refine aw_skip ?_
      refine post_next ?_
      refine aw_seq ?_
      refine aw_block ?_
      refine aw_seq ?_
      refine aw_region ?_
      obtain ⟨y20, h21, hF⟩ := bind_some hF
      refine rgp (op_index_vs (k := .i64) rfl rfl rfl (idx_map (eL 13 eGVar) h21) Try_slc_66 rfl rfl) ?_
      refine rgp (op_load_vp (p := .vs 13 (List.map eGVar y20)) rfl rfl rfl Try_one_24 rfl rfl) ?_
      refine ras ?_
      refine reg_nil ?_
      refine post_imp (s' := ⟨36, [(0, some (.pv (.vs 1 (List.map (eL 13 eGVar) a0)))), (3, some (.pv (.int .i64 x7))), (5, some (.pv (.vs 13 (List.map eGVar y20)))), (9, some (.pv (.vs 1 (List.map (eL 13 eGVar) a0)))), (10, some (.pv (.int .i64 (a0.length : Int)))), (11, some (.pv (.int .i64 x8)))], [], 0, [], [], 0, []⟩) (imps [] ⟨by kernel_rfl, by kernel_rfl, by kernel_rfl, by kernel_rfl, by kernel_rfl, by kernel_rfl, trivial⟩ trivial) ?_
      refine post_next ?_
      refine aw_seq ?_
      refine aw_region ?_
      iterate 2 (refine rmv ?_)
      refine rgp (op_len_vs (n := y20.length) rfl rfl (List.length_map ..) Try_slc_24 rfl rfl) ?_
      refine rgp (op_int (k := .i64) (m := x7) (n := (y20.length : Int)) rfl rfl rfl rfl rfl rfl) ?_
      refine ras ?_
      refine reg_nil ?_
      refine post_imp (s' := ⟨36, [(0, some (.pv (.vs 1 (List.map (eL 13 eGVar) a0)))), (3, some (.pv (.int .i64 (w_i64 (x7 + (y20.length : Int)))))), (9, some (.pv (.vs 1 (List.map (eL 13 eGVar) a0)))), (10, some (.pv (.int .i64 (a0.length : Int)))), (11, some (.pv (.int .i64 x8)))], [], 0, [], [], 0, []⟩) (imps [] ⟨by kernel_rfl, by kernel_rfl, by kernel_rfl, by kernel_rfl, by kernel_rfl, trivial⟩ trivial) ?_
      refine post_next ?_
      refine aw_seq ?_
      refine aw_region ?_
      refine rmv ?_
      refine rgp (op_int (k := .i64) (m := w_i64 (x7 + (y20.length : Int))) (n := 0) rfl rfl rfl rfl rfl rfl) ?_
      refine reg_nil ?_
      refine post_imp (s' := ⟨36, [(0, some (.pv (.vs 1 (List.map (eL 13 eGVar) a0)))), (3, some (.pv (.int .i64 (w_i64 (x7 + (y20.length : Int)))))), (9, some (.pv (.vs 1 (List.map (eL 13 eGVar) a0)))), (10, some (.pv (.int .i64 (a0.length : Int)))), (11, some (.pv (.int .i64 x8))), (20, some (.pv (.bool (decide ((w_i64 (x7 + (y20.length : Int))) < 0)))))], [], 0, [], [], 0, []⟩) (imps [] ⟨by kernel_rfl, by kernel_rfl, by kernel_rfl, by kernel_rfl, by kernel_rfl, by kernel_rfl, trivial⟩ trivial) ?_
      refine post_next ?_
      rcases ite_some hF with ⟨hb22, hF⟩ | ⟨hb22, hF⟩
      · refine aw_cond_t rfl hb22 ?_
        cases hF
      refine aw_cond_f rfl hb22 ?_
      refine aw_skip ?_
      refine post_block_normal ?_
      refine post_next ?_
      refine aw_region ?_
      refine rgp (op_int (k := .i64) (m := x8) (n := 1) rfl rfl rfl rfl rfl rfl) ?_
      refine rmv ?_
      refine reg_nil ?_
      refine post_round ?_
      exact rnd_back (ih (w_i64 (x7 + (y20.length : Int)), w_i64 (x8 + 1)) hF) (imps [] ⟨by kernel_rfl, by kernel_rfl, by kernel_rfl, by kernel_rfl, by kernel_rfl, trivial⟩ trivial)
    refine aw_cond_f rfl hb17 ?_
    refine aw_exit ?_
    iterate 2 (refine post_then_exit ?_)
    obtain rfl := Option.some.inj hF
    exact post_lp_break _ rfl (imps [] ⟨by kernel_rfl, by kernel_rfl, trivial⟩ trivial)
  rintro _ rfl
  have hF := hK26
  clear hK26
  refine post_next ?_
  refine aw_seq ?_
  refine aw_region ?_
  refine rmv ?_
  obtain ⟨y29, h30, hF⟩ := bind_some hF
  refine rgp (op_call 0 rfl (caps := []) (args := [.nils, .int .i64 x25]) (rs := [.own 44 13 (List.map eGVar y29)]) rfl rfl rfl Try_cal_25 (slices_Grow_api_Var_ok h30) rfl rfl rfl) ?_
  refine ras ?_
  refine reg_nil ?_
  refine post_imp (s' := ⟨36, [(0, some (.pv (.vs 1 (List.map (eL 13 eGVar) a0)))), (6, some (.ls 0))], [(0, some (.row 44 13 (List.map eGVar y29)))], 1, [], [], 0, []⟩) (imps [0] ⟨by kernel_rfl, by kernel_rfl, trivial⟩ ⟨by kernel_rfl, trivial⟩) ?_
  refine post_next ?_
  iterate 2 (refine aw_seq ?_)
  refine aw_region ?_
  refine rmv ?_
  refine rgp (op_len_vs (n := a0.length) rfl rfl (List.length_map ..) Try_slc_66 rfl rfl) ?_
  refine rmv ?_
  refine reg_nil ?_
  refine post_imp (s' := ⟨36, [(6, some (.ls 0)), (25, some (.pv (.vs 1 (List.map (eL 13 eGVar) a0)))), (26, some (.pv (.int .i64 (a0.length : Int)))), (27, some (.pv (.int .i64 0)))], [(0, some (.row 44 13 (List.map eGVar y29)))], 1, [], [], 0, []⟩) (imps [0] ⟨by kernel_rfl, by kernel_rfl, by kernel_rfl, by kernel_rfl, trivial⟩ ⟨by kernel_rfl, trivial⟩) ?_
  refine post_next ?_
  obtain ⟨x64, hF, hK65⟩ := bind_some hF
  refine aw_for ((((a0.length : Int) : Int) - (0)).toNat + 1) (fun s1 => s1 = ⟨36, [(6, some (.ls 0))], [(0, some (.row 44 13 (List.map eGVar x64)))], 1, [], [], 0, []⟩) ?_ ?_
  · refine rnd_loop (α := (List GVar) × Int) (fun q => ⟨36, [(6, some (.ls 0)), (25, some (.pv (.vs 1 (List.map (eL 13 eGVar) a0)))), (26, some (.pv (.int .i64 (a0.length : Int)))), (27, some (.pv (.int .i64 q.2)))], [(0, some (.row 44 13 (List.map eGVar q.1)))], 1, [], [], 0, []⟩) (fun k q => slices_Concat_api_Var_L2 a0 k q.1 q.2 = some x64) (y29, 0) (imps [0] ⟨by kernel_rfl, by kernel_rfl, by kernel_rfl, by kernel_rfl, trivial⟩ ⟨by kernel_rfl, trivial⟩) hF (fun q h => by cases h) ?_
    clear hF
    rintro k ⟨x40, x41⟩ hF ih
    refine rnd_succ ?_
    refine aw_seq ?_
    refine aw_region ?_
    refine rgp (op_int (k := .i64) (m := x41) (n := (a0.length : Int)) rfl rfl rfl rfl rfl rfl) ?_
    refine reg_nil ?_
    refine post_imp (s' := ⟨36, [(6, some (.ls 0)), (25, some (.pv (.vs 1 (List.map (eL 13 eGVar) a0)))), (26, some (.pv (.int .i64 (a0.length : Int)))), (27, some (.pv (.int .i64 x41))), (28, some (.pv (.bool (decide (x41 < (a0.length : Int))))))], [(0, some (.row 44 13 (List.map eGVar x40)))], 1, [], [], 0, []⟩) (imps [0] ⟨by kernel_rfl, by kernel_rfl, by kernel_rfl, by kernel_rfl, by kernel_rfl, trivial⟩ ⟨by kernel_rfl, trivial⟩) ?_
    refine post_next ?_
    refine aw_seq ?_
    rcases ite_some hF with ⟨hb53, hF⟩ | ⟨hb53, hF⟩
    · refine aw_cond_t rfl hb53 ?_
      refine aw_skip ?_
      refine post_next ?_
      refine aw_seq ?_
      refine aw_block ?_
      refine aw_seq ?_
      refine aw_region ?_
      obtain ⟨y56, h57, hF⟩ := bind_some hF
      refine rgp (op_index_vs (k := .i64) rfl rfl rfl (idx_map (eL 13 eGVar) h57) Try_slc_66 rfl rfl) ?_
      refine rgp (op_load_vp (p := .vs 13 (List.map eGVar y56)) rfl rfl rfl Try_one_24 rfl rfl) ?_
      refine ras ?_
      refine reg_nil ?_
      refine post_imp (s' := ⟨36, [(6, some (.ls 0)), (8, some (.pv (.vs 13 (List.map eGVar y56)))), (25, some (.pv (.vs 1 (List.map (eL 13 eGVar) a0)))), (26, some (.pv (.int .i64 (a0.length : Int)))), (27, some (.pv (.int .i64 x41)))], [(0, some (.row 44 13 (List.map eGVar x40)))], 1, [], [], 0, []⟩) (imps [0] ⟨by kernel_rfl, by kernel_rfl, by kernel_rfl, by kernel_rfl, by kernel_rfl, trivial⟩ ⟨by kernel_rfl, trivial⟩) ?_
      refine post_next ?_
      refine aw_region ?_
      iterate 2 (refine rmv ?_)
      obtain ⟨u60, h61, hF⟩ := bind_some hF
      refine rgp (op_append 1 rfl rfl rfl rfl rfl Try_slc_24 Try_elm_44 Try_zer_44 rfl rfl rfl (room_map (f := eGVar) (g := eGVar) h61) (List.map_append (f := eGVar) (l₁ := x40) (l₂ := y56)).symm rfl rfl) ?_
      refine ras ?_
      refine reg_nil ?_
      refine post_imp (s' := ⟨36, [(6, some (.ls 0)), (25, some (.pv (.vs 1 (List.map (eL 13 eGVar) a0)))), (26, some (.pv (.int .i64 (a0.length : Int)))), (27, some (.pv (.int .i64 x41)))], [(0, some (.row 44 13 (List.map eGVar (x40 ++ y56))))], 1, [], [], 0, []⟩) (imps [1] ⟨by kernel_rfl, by kernel_rfl, by kernel_rfl, by kernel_rfl, trivial⟩ ⟨by kernel_rfl, trivial⟩) ?_
      refine post_block_normal ?_
      refine post_next ?_
      refine aw_region ?_
      refine rgp (op_int (k := .i64) (m := x41) (n := 1) rfl rfl rfl rfl rfl rfl) ?_
      refine rmv ?_
      refine reg_nil ?_
      refine post_round ?_
      exact rnd_back (ih ((x40 ++ y56), w_i64 (x41 + 1)) hF) (imps [0] ⟨by kernel_rfl, by kernel_rfl, by kernel_rfl, by kernel_rfl, trivial⟩ ⟨by kernel_rfl, trivial⟩)
    refine aw_cond_f rfl hb53 ?_
    refine aw_exit ?_
    iterate 2 (refine post_then_exit ?_)
    obtain rfl := Option.some.inj hF
    exact post_lp_break _ rfl (imps [0] ⟨by kernel_rfl, trivial⟩ ⟨by kernel_rfl, trivial⟩)
  rintro _ rfl
  have hF := hK65
  clear hK65
  refine post_next ?_
  refine aw_seq ?_
  refine aw_region ?_
  refine rmv ?_
  refine ras ?_
  refine reg_nil ?_
  refine post_imp (s' := ⟨36, [(2, some (.ls 0))], [(0, some (.row 44 13 (List.map eGVar x64)))], 1, [], [], 0, []⟩) (imps [0] ⟨by kernel_rfl, trivial⟩ ⟨by kernel_rfl, trivial⟩) ?_
  refine post_next ?_
  refine aw_ret ?_
  obtain rfl := Option.some.inj hF
  exact post_ret rfl rfl (.cons _ _ _ _ _ (.tmp _ _ rfl) (.own _ _ _ _ rfl nolent3) .nil) (.inl rfl)
theorem arena_Vars_ok {a0 : GMethod} {r : (List GVar)} (hF : arena_Vars a0 = some r) : Abs.Fn globs_Try Try.prog 15 [.agg (eGMethod a0)] [.p (.vs 13 (List.map eGVar r))] := by
  unfold arena_Vars at hF
  refine fn_of_body (n := 9) Try.func15 rfl rfl rfl ?_
  intro w O
  refine aw_seq ?_
  refine aw_region ?_
  refine rgp (op_box 0 rfl rfl rfl rfl rfl rfl) ?_
  refine ras ?_
  refine reg_nil ?_
  refine post_imp (s' := ⟨9, [(1, some (.lp 0 0))], [(0, some (.box 35 (bxv (eGMethod a0))))], 1, [], [], 0, []⟩) (imps [0] ⟨by kernel_rfl, trivial⟩ ⟨by kernel_rfl, trivial⟩) ?_
  refine post_next ?_
  refine aw_seq ?_
  refine aw_region ?_
  refine rgp (op_field_lp rfl rfl Try_fld_35_3 rfl rfl) ?_
  refine rgp (op_load_lp (v := .pv (.vs 13 (List.map eGVar a0.fParams))) rfl rfl rfl rfl Try_one_24 rfl rfl) ?_
  refine rgp (op_field_lp rfl rfl Try_fld_35_4 rfl rfl) ?_
  refine rgp (op_load_lp (v := .pv (.vs 13 (List.map eGVar a0.fLocals))) rfl rfl rfl rfl Try_one_24 rfl rfl) ?_
  refine rgp (op_lit (rows := List.map (eL 13 eGVar) ([a0.fParams, a0.fLocals] : List (List GVar))) (zs := [.vs 13 (List.map eGVar [])]) rfl rfl Try_slc_66 Try_zer_24 (by exact ⟨trivial, trivial⟩) rfl rfl rfl rfl rfl rfl rfl rfl) ?_
  obtain ⟨y1, h2, hF⟩ := bind_some hF
  refine rgp (op_call 1 rfl (caps := []) (args := [.vs 1 (List.map (eL 13 eGVar) [a0.fParams, a0.fLocals])]) (rs := [.p (.vs 13 (List.map eGVar y1))]) rfl rfl rfl Try_cal_22 (Fn.frozen (slices_Concat_api_Var_ok h2)) rfl rfl rfl) ?_
  refine ras ?_
  refine reg_nil ?_
  refine post_imp (s' := ⟨9, [(2, some (.pv (.vs 13 (List.map eGVar y1))))], [], 0, [], [], 0, []⟩) (imps [] ⟨by kernel_rfl, trivial⟩ trivial) ?_
  refine post_next ?_
  refine aw_ret ?_
  obtain rfl := Option.some.inj hF
  exact prt
theorem scope_Type_ok {a0 : GClass} {a1 : GMethod} {a2 : List UInt8} {r : GType × Bool} (hF : scope_Type a0 a1 a2 = some r) : Abs.Fn globs_Try Try.prog 7 [.agg (eGClass a0), .agg (eGMethod a1), .str a2] [.p (.agg (eGType r.1)), .p (.bool r.2)] := by
  unfold scope_Type at hF
  refine fn_of_body (n := 25) Try.func7 rfl rfl rfl ?_
  intro w O
  refine aw_seq ?_
  refine aw_region ?_
  refine rgp (op_box 0 rfl rfl rfl rfl rfl rfl) ?_
  refine rgp (op_box 1 rfl rfl rfl rfl rfl rfl) ?_
  refine rgp (op_alloc 2 rfl (ps := (eGType zGType)) rfl Try_zer_32 (by exact ⟨rfl, rfl, rfl, rfl, rfl, rfl, rfl, rfl, rfl, rfl, rfl, trivial⟩) rfl rfl) ?_
  refine ras ?_
  refine reg_nil ?_
  refine post_imp (s' := ⟨25, [(2, some (.pv (.str a2))), (3, some (.lp 0 0)), (4, some (.lp 1 0)), (6, some (.lp 2 0))], [(0, some (.box 27 (bxv (eGClass a0)))), (1, some (.box 35 (bxv (eGMethod a1)))), (2, some (.box 32 (bxv (eGType zGType))))], 3, [], [], 0, []⟩) (imps [0, 1, 2] ⟨by kernel_rfl, by kernel_rfl, by kernel_rfl, by kernel_rfl, trivial⟩ ⟨by kernel_rfl, by kernel_rfl, by kernel_rfl, trivial⟩) ?_
  refine post_next ?_
  iterate 2 (refine aw_seq ?_)
  refine aw_region ?_
  refine rmv ?_
  refine rgp (op_str rfl rfl rfl rfl rfl rfl) ?_
  refine reg_nil ?_
  refine post_imp (s' := ⟨25, [(2, some (.pv (.str a2))), (3, some (.lp 0 0)), (4, some (.lp 1 0)), (6, some (.lp 2 0)), (10, some (.pv (.bool (a2 == [116, 104, 105, 115]))))], [(0, some (.box 27 (bxv (eGClass a0)))), (1, some (.box 35 (bxv (eGMethod a1)))), (2, some (.box 32 (bxv (eGType zGType))))], 3, [], [], 0, []⟩) (imps [0, 1, 2] ⟨by kernel_rfl, by kernel_rfl, by kernel_rfl, by kernel_rfl, by kernel_rfl, trivial⟩ ⟨by kernel_rfl, by kernel_rfl, by kernel_rfl, trivial⟩) ?_
  refine post_next ?_
  rcases ite_some hF with ⟨hb1, hF⟩ | ⟨hb1, hF⟩
  · refine aw_cond_t rfl hb1 ?_
    refine aw_seq ?_
    refine aw_region ?_
    refine rgp (op_load_lp_agg (ps := eGClass a0) rfl rfl rfl rfl rfl rfl Try_agg_27 rfl rfl) ?_
    obtain ⟨y2, h3, hF⟩ := bind_some hF
    refine rgp (op_call 3 rfl (caps := []) (args := [.agg (eGClass a0)]) (rs := [.p (.agg (eGType y2))]) rfl rfl rfl Try_cal_11 (scope_This_ok h3) rfl rfl rfl) ?_
    refine rgp (op_store_lp (n := 11) rfl rfl rfl rfl rfl (or_agg Try_agg_32) (by rw [Try_non_32]; rfl) rfl rfl rfl) ?_
    refine ras ?_
    refine reg_nil ?_
    refine post_imp (s' := ⟨25, [(6, some (.lp 0 0)), (7, some (.pv (.bool true)))], [(0, some (.box 32 (bxv (eGType y2))))], 1, [], [], 0, []⟩) (imps [2] ⟨by kernel_rfl, by kernel_rfl, trivial⟩ ⟨by kernel_rfl, trivial⟩) ?_
    refine post_next ?_
    refine aw_ret ?_
    refine post_then_ret ?_
    obtain rfl := Option.some.inj hF
    exact post_ret rfl rfl (.cons _ _ _ _ _ (.agg _ _ _ _ _ 11 _ _ rfl rfl Try_agg_32 rfl rfl rfl) (.p _) (.cons _ _ _ _ _ (.tmp _ _ rfl) (.p _) .nil)) (.inl rfl)
  refine aw_cond_f rfl hb1 ?_
  refine aw_skip ?_
  refine post_next ?_
  refine aw_seq ?_
  refine aw_region ?_
  refine rgp (op_load_lp_agg (ps := eGMethod a1) rfl rfl rfl rfl rfl rfl Try_agg_35 rfl rfl) ?_
  refine rmv ?_
  obtain ⟨y6, h7, hF⟩ := bind_some hF
  refine rgp (op_call 3 rfl (caps := []) (args := [.agg (eGMethod a1), .str a2]) (rs := [.p (.int .i64 y6)]) rfl rfl rfl Try_cal_9 (scope_Place_ok h7) rfl rfl rfl) ?_
  refine ras ?_
  refine reg_nil ?_
  refine post_imp (s' := ⟨25, [(4, some (.lp 0 0)), (6, some (.lp 1 0)), (8, some (.pv (.int .i64 y6)))], [(0, some (.box 35 (bxv (eGMethod a1)))), (1, some (.box 32 (bxv (eGType zGType))))], 2, [], [], 0, []⟩) (imps [1, 2] ⟨by kernel_rfl, by kernel_rfl, by kernel_rfl, trivial⟩ ⟨by kernel_rfl, by kernel_rfl, trivial⟩) ?_
  refine post_next ?_
  iterate 2 (refine aw_seq ?_)
  refine aw_region ?_
  refine rmv ?_
  refine rgp (op_int (k := .i64) (m := y6) (n := 0) rfl rfl rfl rfl rfl rfl) ?_
  refine reg_nil ?_
  refine post_imp (s' := ⟨25, [(4, some (.lp 0 0)), (6, some (.lp 1 0)), (8, some (.pv (.int .i64 y6))), (17, some (.pv (.bool (decide (y6 < 0)))))], [(0, some (.box 35 (bxv (eGMethod a1)))), (1, some (.box 32 (bxv (eGType zGType))))], 2, [], [], 0, []⟩) (imps [0, 1] ⟨by kernel_rfl, by kernel_rfl, by kernel_rfl, by kernel_rfl, trivial⟩ ⟨by kernel_rfl, by kernel_rfl, trivial⟩) ?_
  refine post_next ?_
  rcases ite_some hF with ⟨hb8, hF⟩ | ⟨hb8, hF⟩
  · refine aw_cond_t rfl hb8 ?_
    refine aw_seq ?_
    refine aw_region ?_
    refine rgp (op_build (zs := (eGType zGType)) (r := eGType ({ fKind := 0, fClass := [], fN := 0, fOwn := (⟨zGOwner, zGOwner, zGOwner, zGOwner⟩ : A4 GOwner) } : GType)) rfl Try_zer_32 (by exact ⟨rfl, rfl, rfl, rfl, rfl, rfl, rfl, rfl, rfl, rfl, rfl, trivial⟩) Try_plc_32 rfl rfl rfl rfl) ?_
    refine rgp (op_store_lp (n := 11) rfl rfl rfl rfl rfl (or_agg Try_agg_32) (by rw [Try_non_32]; rfl) rfl rfl rfl) ?_
    refine ras ?_
    refine reg_nil ?_
    refine post_imp (s' := ⟨25, [(6, some (.lp 0 0)), (7, some (.pv (.bool false)))], [(0, some (.box 32 (bxv (eGType ({ fKind := 0, fClass := [], fN := 0, fOwn := (⟨zGOwner, zGOwner, zGOwner, zGOwner⟩ : A4 GOwner) } : GType)))))], 1, [], [], 0, []⟩) (imps [1] ⟨by kernel_rfl, by kernel_rfl, trivial⟩ ⟨by kernel_rfl, trivial⟩) ?_
    refine post_next ?_
    refine aw_ret ?_
    refine post_then_ret ?_
    obtain rfl := Option.some.inj hF
    exact post_ret rfl rfl (.cons _ _ _ _ _ (.agg _ _ _ _ _ 11 _ _ rfl rfl Try_agg_32 rfl rfl rfl) (.p _) (.cons _ _ _ _ _ (.tmp _ _ rfl) (.p _) .nil)) (.inl rfl)
  refine aw_cond_f rfl hb8 ?_
  refine aw_skip ?_
  refine post_next ?_
  refine aw_seq ?_
  refine aw_region ?_
  refine rgp (op_load_lp_agg (ps := eGMethod a1) rfl rfl rfl rfl rfl rfl Try_agg_35 rfl rfl) ?_
  obtain ⟨y9, h10, hF⟩ := bind_some hF
  refine rgp (op_call 2 rfl (caps := []) (args := [.agg (eGMethod a1)]) (rs := [.p (.vs 13 (List.map eGVar y9))]) rfl rfl rfl Try_cal_15 (arena_Vars_ok h10) rfl rfl rfl) ?_
  refine rmv ?_
  obtain ⟨y11, h12, hF⟩ := bind_some hF
  refine rgp (op_index_vs (k := .i64) rfl rfl rfl (idx_map eGVar h12) Try_slc_24 rfl rfl) ?_
  refine rgp (op_field_vp rfl rfl Try_fld_44_1 rfl rfl) ?_
  refine rgp (op_load_vp_agg (ps := eGType y11.fType) rfl rfl rfl rfl Try_agg_32 rfl rfl) ?_
  refine rgp (op_store_lp (n := 11) rfl rfl rfl rfl rfl (or_agg Try_agg_32) (by rw [Try_non_32]; rfl) rfl rfl rfl) ?_
  refine ras ?_
  refine reg_nil ?_
  refine post_imp (s' := ⟨25, [(6, some (.lp 0 0)), (7, some (.pv (.bool true)))], [(0, some (.box 32 (bxv (eGType y11.fType))))], 1, [], [], 0, []⟩) (imps [1] ⟨by kernel_rfl, by kernel_rfl, trivial⟩ ⟨by kernel_rfl, trivial⟩) ?_
  refine post_next ?_
  refine aw_ret ?_
  obtain rfl := Option.some.inj hF
  exact post_ret rfl rfl (.cons _ _ _ _ _ (.agg _ _ _ _ _ 11 _ _ rfl rfl Try_agg_32 rfl rfl rfl) (.p _) (.cons _ _ _ _ _ (.tmp _ _ rfl) (.p _) .nil)) (.inl rfl)
theorem scope_Start_ok {a0 : GMethod} {r : (List GVal)} (hF : scope_Start a0 = some r) : Abs.Fn globs_Try Try.prog 13 [.agg (eGMethod a0)] [.own 59 2 (List.map eGVal r)] := by
  unfold scope_Start at hF
  refine fn_of_body (n := 23) Try.func13 rfl rfl rfl ?_
  intro w O
  refine aw_seq ?_
  refine aw_region ?_
  refine rgp (op_box 0 rfl rfl rfl rfl rfl rfl) ?_
  refine ras ?_
  refine reg_nil ?_
  refine post_imp (s' := ⟨23, [(1, some (.lp 0 0))], [(0, some (.box 35 (bxv (eGMethod a0))))], 1, [], [], 0, []⟩) (imps [0] ⟨by kernel_rfl, trivial⟩ ⟨by kernel_rfl, trivial⟩) ?_
  refine post_next ?_
  refine aw_seq ?_
  refine aw_region ?_
  refine ras ?_
  refine reg_imp (imp_nil_own 3 59 2 1 rfl rfl) ?_
  refine reg_nil ?_
  refine post_imp (s' := ⟨23, [(1, some (.lp 0 0)), (3, some (.ls 1))], [(0, some (.box 35 (bxv (eGMethod a0)))), (1, some (.row 59 2 (List.map eGVal [])))], 2, [], [], 0, []⟩) (imps [0, 1] ⟨by kernel_rfl, by kernel_rfl, trivial⟩ ⟨by kernel_rfl, by kernel_rfl, trivial⟩) ?_
  refine post_next ?_
  iterate 2 (refine aw_seq ?_)
  refine aw_region ?_
  refine rgp (op_load_lp_agg (ps := eGMethod a0) rfl rfl rfl rfl rfl rfl Try_agg_35 rfl rfl) ?_
  obtain ⟨y3, h4, hF⟩ := bind_some hF
  refine rgp (op_call 2 rfl (caps := []) (args := [.agg (eGMethod a0)]) (rs := [.p (.vs 13 (List.map eGVar y3))]) rfl rfl rfl Try_cal_15 (arena_Vars_ok h4) rfl rfl rfl) ?_
  refine rgp (op_len_vs (n := y3.length) rfl rfl (List.length_map ..) Try_slc_24 rfl rfl) ?_
  refine rmv ?_
  refine reg_nil ?_
  refine post_imp (s' := ⟨23, [(3, some (.ls 0)), (7, some (.pv (.vs 13 (List.map eGVar y3)))), (8, some (.pv (.int .i64 (y3.length : Int)))), (9, some (.pv (.int .i64 0)))], [(0, some (.row 59 2 (List.map eGVal [])))], 1, [], [], 0, []⟩) (imps [1] ⟨by kernel_rfl, by kernel_rfl, by kernel_rfl, by kernel_rfl, trivial⟩ ⟨by kernel_rfl, trivial⟩) ?_
  refine post_next ?_
  obtain ⟨x38, hF, hK39⟩ := bind_some hF
  refine aw_for ((((y3.length : Int) : Int) - (0)).toNat + 1) (fun s1 => s1 = ⟨23, [(3, some (.ls 0))], [(0, some (.row 59 2 (List.map eGVal x38)))], 1, [], [], 0, []⟩) ?_ ?_
  · refine rnd_loop (α := (List GVal) × Int) (fun q => ⟨23, [(3, some (.ls 0)), (7, some (.pv (.vs 13 (List.map eGVar y3)))), (8, some (.pv (.int .i64 (y3.length : Int)))), (9, some (.pv (.int .i64 q.2)))], [(0, some (.row 59 2 (List.map eGVal q.1)))], 1, [], [], 0, []⟩) (fun k q => scope_Start_L1 y3 k q.1 q.2 = some x38) ([], 0) (imps [0] ⟨by kernel_rfl, by kernel_rfl, by kernel_rfl, by kernel_rfl, trivial⟩ ⟨by kernel_rfl, trivial⟩) hF (fun q h => by cases h) ?_
    clear hF
    rintro k ⟨x14, x15⟩ hF ih
    refine rnd_succ ?_
    refine aw_seq ?_
    refine aw_region ?_
    refine rgp (op_int (k := .i64) (m := x15) (n := (y3.length : Int)) rfl rfl rfl rfl rfl rfl) ?_
    refine reg_nil ?_
    refine post_imp (s' := ⟨23, [(3, some (.ls 0)), (7, some (.pv (.vs 13 (List.map eGVar y3)))), (8, some (.pv (.int .i64 (y3.length : Int)))), (9, some (.pv (.int .i64 x15))), (10, some (.pv (.bool (decide (x15 < (y3.length : Int))))))], [(0, some (.row 59 2 (List.map eGVal x14)))], 1, [], [], 0, []⟩) (imps [0] ⟨by kernel_rfl, by kernel_rfl, by kernel_rfl, by kernel_rfl, by kernel_rfl, trivial⟩ ⟨by kernel_rfl, trivial⟩) ?_
    refine post_next ?_
    refine aw_seq ?_
    rcases ite_some hF with ⟨hb27, hF⟩ | ⟨hb27, hF⟩
    · refine aw_cond_t rfl hb27 ?_
      refine aw_skip ?_
      refine post_next ?_
      refine aw_seq ?_
      refine aw_block ?_
      refine aw_seq ?_
      refine aw_region ?_
      obtain ⟨y30, h31, hF⟩ := bind_some hF
      refine rgp (op_index_vs (k := .i64) rfl rfl rfl (idx_map eGVar h31) Try_slc_24 rfl rfl) ?_
      refine rgp (op_load_vp_agg (ps := eGVar y30) rfl rfl rfl rfl Try_agg_44 rfl rfl) ?_
      refine rgp (op_alloc 1 rfl (ps := (eGVar zGVar)) rfl Try_zer_44 (by exact ⟨rfl, rfl, rfl, rfl, rfl, rfl, rfl, rfl, rfl, rfl, rfl, rfl, rfl, trivial⟩) rfl rfl) ?_
      refine rgp (op_store_lp (n := 13) rfl rfl rfl rfl rfl (or_agg Try_agg_44) (by rw [Try_non_44]; rfl) rfl rfl rfl) ?_
      refine reg_nil ?_
      refine post_imp (s' := ⟨23, [(3, some (.ls 0)), (5, some (.lp 1 0)), (7, some (.pv (.vs 13 (List.map eGVar y3)))), (8, some (.pv (.int .i64 (y3.length : Int)))), (9, some (.pv (.int .i64 x15)))], [(0, some (.row 59 2 (List.map eGVal x14))), (1, some (.box 44 (bxv (eGVar y30))))], 2, [], [], 0, []⟩) (imps [0, 1] ⟨by kernel_rfl, by kernel_rfl, by kernel_rfl, by kernel_rfl, by kernel_rfl, trivial⟩ ⟨by kernel_rfl, by kernel_rfl, trivial⟩) ?_
      refine post_next ?_
      refine aw_region ?_
      refine rmv ?_
      refine rgp (op_field_lp rfl rfl Try_fld_44_1 rfl rfl) ?_
      refine rgp (op_field_lp rfl rfl Try_fld_32_0 rfl rfl) ?_
      refine rgp (op_load_lp (v := .pv (.int .i64 y30.fType.fKind)) rfl rfl rfl rfl Try_one_3 rfl rfl) ?_
      refine rgp (op_int (k := .i64) (m := y30.fType.fKind) (n := 2) rfl rfl rfl rfl rfl rfl) ?_
      refine rgp (op_build (zs := (eGVal zGVal)) (r := eGVal ({ fRef := (y30.fType.fKind == 2), fN := 0 } : GVal)) rfl Try_zer_59 (by exact ⟨rfl, rfl, trivial⟩) Try_plc_59 rfl rfl rfl rfl) ?_
      refine rgp (op_lit (rows := List.map eGVal ([({ fRef := (y30.fType.fKind == 2), fN := 0 } : GVal)] : List GVal)) (zs := (eGVal zGVal)) rfl rfl Try_slc_45 Try_zer_59 (by exact ⟨rfl, rfl, trivial⟩) rfl rfl rfl rfl rfl rfl rfl rfl) ?_
      obtain ⟨u34, h35, hF⟩ := bind_some hF
      refine rgp (op_append 2 rfl rfl rfl rfl rfl Try_slc_45 Try_elm_59 Try_zer_59 rfl rfl rfl (room_map (f := eGVal) (g := eGVal) h35) (List.map_append (f := eGVal) (l₁ := x14) (l₂ := [({ fRef := (y30.fType.fKind == 2), fN := 0 } : GVal)])).symm rfl rfl) ?_
      refine ras ?_
      refine reg_nil ?_
      refine post_imp (s' := ⟨23, [(3, some (.ls 0)), (7, some (.pv (.vs 13 (List.map eGVar y3)))), (8, some (.pv (.int .i64 (y3.length : Int)))), (9, some (.pv (.int .i64 x15)))], [(0, some (.row 59 2 (List.map eGVal (x14 ++ [({ fRef := (y30.fType.fKind == 2), fN := 0 } : GVal)]))))], 1, [], [], 0, []⟩) (imps [2] ⟨by kernel_rfl, by kernel_rfl, by kernel_rfl, by kernel_rfl, trivial⟩ ⟨by kernel_rfl, trivial⟩) ?_
      refine post_block_normal ?_
      refine post_next ?_
      refine aw_region ?_
      refine rgp (op_int (k := .i64) (m := x15) (n := 1) rfl rfl rfl rfl rfl rfl) ?_
      refine rmv ?_
      refine reg_nil ?_
      refine post_round ?_
      exact rnd_back (ih ((x14 ++ [({ fRef := (y30.fType.fKind == 2), fN := 0 } : GVal)]), w_i64 (x15 + 1)) hF) (imps [0] ⟨by kernel_rfl, by kernel_rfl, by kernel_rfl, by kernel_rfl, trivial⟩ ⟨by kernel_rfl, trivial⟩)
    refine aw_cond_f rfl hb27 ?_
    refine aw_exit ?_
    iterate 2 (refine post_then_exit ?_)
    obtain rfl := Option.some.inj hF
    exact post_lp_break _ rfl (imps [0] ⟨by kernel_rfl, trivial⟩ ⟨by kernel_rfl, trivial⟩)
  rintro _ rfl
  have hF := hK39
  clear hK39
  refine post_next ?_
  refine aw_seq ?_
  refine aw_region ?_
  refine rmv ?_
  refine ras ?_
  refine reg_nil ?_
  refine post_imp (s' := ⟨23, [(2, some (.ls 0))], [(0, some (.row 59 2 (List.map eGVal x38)))], 1, [], [], 0, []⟩) (imps [0] ⟨by kernel_rfl, trivial⟩ ⟨by kernel_rfl, trivial⟩) ?_
  refine post_next ?_
  refine aw_ret ?_
  obtain rfl := Option.some.inj hF
  exact post_ret rfl rfl (.cons _ _ _ _ _ (.tmp _ _ rfl) (.own _ _ _ _ rfl nolent3) .nil) (.inl rfl)
theorem law18_ScopeMore_ok {a0 : GMethod} {a1 : GVar} {a2 : List UInt8} {r : Bool} (hF : law18_ScopeMore a0 a1 a2 = some r) : Abs.Fn globs_Try Try.prog 4 [.agg (eGMethod a0), .agg (eGVar a1), .str a2] [.p (.bool r)] := by
  unfold law18_ScopeMore at hF
  refine fn_of_body (n := 118) Try.func4 rfl rfl rfl ?_
  intro w O
  refine aw_seq ?_
  refine aw_region ?_
  refine rgp (op_box 0 rfl rfl rfl rfl rfl rfl) ?_
  refine rgp (op_box 1 rfl rfl rfl rfl rfl rfl) ?_
  refine ras ?_
  refine reg_nil ?_
  refine post_imp (s' := ⟨118, [(2, some (.pv (.str a2))), (3, some (.lp 0 0)), (4, some (.lp 1 0))], [(0, some (.box 35 (bxv (eGMethod a0)))), (1, some (.box 44 (bxv (eGVar a1))))], 2, [], [], 0, []⟩) (imps [0, 1] ⟨by kernel_rfl, by kernel_rfl, by kernel_rfl, trivial⟩ ⟨by kernel_rfl, by kernel_rfl, trivial⟩) ?_
  refine post_next ?_
  iterate 2 (refine aw_seq ?_)
  obtain ⟨x7, hF, hK9⟩ := bind_some hF
  refine aw_cut (fun s1 => s1 = ⟨118, [(2, some (.pv (.str a2))), (3, some (.lp 0 0)), (4, some (.lp 1 0)), (24, some (.pv (.bool x7)))], [(0, some (.box 35 (bxv (eGMethod a0)))), (1, some (.box 44 (bxv (eGVar a1))))], 2, [], [], 0, []⟩) ?_ ?_
  · refine aw_region ?_
    refine rgp (op_load_lp_agg (ps := eGMethod a0) rfl rfl rfl rfl rfl rfl Try_agg_35 rfl rfl) ?_
    obtain ⟨y3, h4, hF⟩ := bind_some hF
    refine rgp (op_call 2 rfl (caps := []) (args := [.agg (eGMethod a0)]) (rs := [.p (.bool y3)]) rfl rfl rfl Try_cal_5 (law18_great_ok h4) rfl rfl rfl) ?_
    refine rmv ?_
    rcases ite_some hF with ⟨hb5, hF⟩ | ⟨hb5, hF⟩
    · refine rgo_t hb5 ?_
      iterate 2 (refine rgo_t hb5 ?_)
      refine rpt hb5 ?_
      refine rmv ?_
      iterate 2 (refine rgo_t rfl ?_)
      refine rpt rfl ?_
      refine reg_nil ?_
      cases hF
      exact post_cut _ rfl (imps [0, 1] ⟨by kernel_rfl, by kernel_rfl, by kernel_rfl, by kernel_rfl, trivial⟩ ⟨by kernel_rfl, by kernel_rfl, trivial⟩)
    refine rgn hb5 (op_field_lp rfl rfl Try_fld_44_0 rfl rfl) ?_
    refine rgn hb5 (op_load_lp (v := .pv (.str a1.fName)) rfl rfl rfl rfl Try_one_9 rfl rfl) ?_
    refine rgn hb5 (op_str rfl rfl rfl rfl rfl rfl) ?_
    refine rpf hb5 ?_
    refine rmv ?_
    rcases ite_some hF with ⟨hb6, hF⟩ | ⟨hb6, hF⟩
    · refine rgo_t hb6 ?_
      refine rgo_t hb6 ?_
      refine rpt hb6 ?_
      refine reg_nil ?_
      cases hF
      exact post_cut _ rfl (imps [0, 1] ⟨by kernel_rfl, by kernel_rfl, by kernel_rfl, by kernel_rfl, trivial⟩ ⟨by kernel_rfl, by kernel_rfl, trivial⟩)
    refine rgn hb6 (op_move rfl rfl rfl rfl) ?_
    refine rgn hb6 (op_str rfl rfl rfl rfl rfl rfl) ?_
    refine rpf hb6 ?_
    refine reg_nil ?_
    cases hF
    exact post_cut _ rfl (imps [0, 1] ⟨by kernel_rfl, by kernel_rfl, by kernel_rfl, by kernel_rfl, trivial⟩ ⟨by kernel_rfl, by kernel_rfl, trivial⟩)
  rintro _ rfl
  have hF := hK9
  clear hK9
  refine post_next ?_
  rcases ite_some hF with ⟨hb10, hF⟩ | ⟨hb10, hF⟩
  · refine aw_cond_t rfl hb10 ?_
    refine aw_seq ?_
    refine aw_region ?_
    obtain ⟨y11, h12, hF⟩ := bind_some hF
    refine rgp (op_call 2 rfl (caps := []) (args := []) (rs := [.p (.bool y11)]) rfl rfl rfl Try_cal_6 (law18_awake_ok h12) rfl rfl rfl) ?_
    refine ras ?_
    refine reg_nil ?_
    refine post_imp (s' := ⟨118, [(6, some (.pv (.bool y11)))], [], 0, [], [], 0, []⟩) (imps [] ⟨by kernel_rfl, trivial⟩ trivial) ?_
    refine post_next ?_
    refine aw_ret ?_
    refine post_then_ret ?_
    obtain rfl := Option.some.inj hF
    exact prt
  refine aw_cond_f rfl hb10 ?_
  refine aw_skip ?_
  refine post_next ?_
  refine aw_seq ?_
  refine aw_region ?_
  refine rgp (op_load_lp_agg (ps := eGMethod a0) rfl rfl rfl rfl rfl rfl Try_agg_35 rfl rfl) ?_
  refine rgp (op_alloc 2 rfl (ps := (eGMethod zGMethod)) rfl Try_zer_35 (by exact ⟨rfl, rfl, rfl, rfl, rfl, rfl, rfl, rfl, rfl, rfl, rfl, rfl, rfl, trivial, trivial, trivial, rfl, trivial⟩) rfl rfl) ?_
  refine rgp (op_store_lp (n := 17) rfl rfl rfl rfl rfl (or_agg Try_agg_35) (by rw [Try_non_35]; rfl) rfl rfl rfl) ?_
  refine reg_nil ?_
  refine post_imp (s' := ⟨118, [(2, some (.pv (.str a2))), (3, some (.lp 0 0)), (4, some (.lp 1 0)), (7, some (.lp 2 0))], [(0, some (.box 35 (bxv (eGMethod a0)))), (1, some (.box 44 (bxv (eGVar a1)))), (2, some (.box 35 (bxv (eGMethod a0))))], 3, [], [], 0, []⟩) (imps [0, 1, 2] ⟨by kernel_rfl, by kernel_rfl, by kernel_rfl, by kernel_rfl, trivial⟩ ⟨by kernel_rfl, by kernel_rfl, by kernel_rfl, trivial⟩) ?_
  refine post_next ?_
  refine aw_seq ?_
  refine aw_imp (imp_names 3) ?_
  refine dr_start ⟨_, _, _⟩ rfl ?_
  refine dr_cons { names := [3], dst := some 27, val := some (.ls 3), upd := [(3, some (.row 44 13 (List.map eGVar ([] : List GVar))))] } (fun m h => step_on (guard_no rfl) (op_litOwn 3 (fresh_free h.2.2.1) (rows := List.map eGVar ([] : List GVar)) (zs := (eGVar zGVar)) rfl rfl Try_slc_24 Try_zer_44 (by exact ⟨rfl, rfl, rfl, rfl, rfl, rfl, rfl, rfl, rfl, rfl, rfl, rfl, rfl, trivial⟩) rfl rfl rfl evs_nil rfl rfl rfl rfl) rfl) ⟨trivial, trivial, ⟨rfl, trivial⟩⟩ ?_
  refine dr_cons { need := [(3, .lp 0 0)], dst := some 28, val := some (.lp 0 14) } (fun m h => step_on (guard_no rfl) (op_field_lp rfl h.1.1 Try_fld_35_4 rfl rfl) rfl) ⟨⟨rfl, trivial⟩, trivial, trivial⟩ ?_
  refine dr_cons { need := [(28, .lp 0 14)], hneed := [(0, .box 35 (bxv (eGMethod a0)))], dst := some 29, val := some (.pv (.vs 13 (List.map eGVar a0.fLocals))) } (fun m h => step_on (guard_no rfl) (op_load_lp (v := .pv (.vs 13 (List.map eGVar a0.fLocals))) rfl h.1.1 h.2.1.1 rfl Try_one_24 rfl rfl) rfl) ⟨⟨rfl, trivial⟩, ⟨rfl, trivial⟩, trivial⟩ ?_
  obtain ⟨u17, h18, hF⟩ := bind_some hF
  refine dr_cons { need := [(27, .ls 3), (29, .pv (.vs 13 (List.map eGVar a0.fLocals)))], hneed := [(3, .row 44 13 (List.map eGVar ([] : List GVar)))], names := [4], dst := some 30, val := some (.ls 4), upd := [(4, some (.row 44 13 (List.map eGVar (([] : List GVar) ++ a0.fLocals)))), (3, none)] } (fun m h => step_on (guard_no rfl) (op_append 4 (fresh_free h.2.2.1) rfl h.1.1 h.2.1.1 h.1.2.1 Try_slc_24 Try_elm_44 Try_zer_44 rfl rfl rfl (room_map (f := eGVar) (g := eGVar) h18) (List.map_append (f := eGVar) (l₁ := ([] : List GVar)) (l₂ := a0.fLocals)).symm rfl rfl) rfl) ⟨⟨rfl, rfl, trivial⟩, ⟨rfl, trivial⟩, ⟨rfl, trivial⟩⟩ ?_
  refine dr_cons { need := [(4, .lp 1 0)], hneed := [(1, .box 44 (bxv (eGVar a1)))], dst := some 31, val := some (.pv (.agg (eGVar a1))) } (fun m h => step_on (guard_no rfl) (op_load_lp_agg (ps := eGVar a1) rfl h.1.1 h.2.1.1 rfl rfl rfl Try_agg_44 rfl rfl) rfl) ⟨⟨rfl, trivial⟩, ⟨rfl, trivial⟩, trivial⟩ ?_
  refine dr_cons { need := [(31, .pv (.agg (eGVar a1)))], dst := some 32, val := some (.pv (.vs 13 (List.map eGVar [a1]))) } (fun m h => step_on (guard_no rfl) (op_lit (rows := List.map eGVar ([a1] : List GVar)) (zs := (eGVar zGVar)) rfl rfl Try_slc_24 Try_zer_44 (by exact ⟨rfl, rfl, rfl, rfl, rfl, rfl, rfl, rfl, rfl, rfl, rfl, rfl, rfl, trivial⟩) rfl rfl rfl (evs_cons h.1.1 evs_nil) rfl rfl rfl rfl) rfl) ⟨⟨rfl, trivial⟩, trivial, trivial⟩ ?_
  obtain ⟨u19, h20, hF⟩ := bind_some hF
  refine dr_cons { need := [(30, .ls 4), (32, .pv (.vs 13 (List.map eGVar [a1])))], hneed := [(4, .row 44 13 (List.map eGVar (([] : List GVar) ++ a0.fLocals)))], names := [5], dst := some 33, val := some (.ls 5), upd := [(5, some (.row 44 13 (List.map eGVar ((([] : List GVar) ++ a0.fLocals) ++ [a1])))), (4, none)] } (fun m h => step_on (guard_no rfl) (op_append 5 (fresh_free h.2.2.1) rfl h.1.1 h.2.1.1 h.1.2.1 Try_slc_24 Try_elm_44 Try_zer_44 rfl rfl rfl (room_map (f := eGVar) (g := eGVar) h20) (List.map_append (f := eGVar) (l₁ := (([] : List GVar) ++ a0.fLocals)) (l₂ := [a1])).symm rfl rfl) rfl) ⟨⟨rfl, rfl, trivial⟩, ⟨rfl, trivial⟩, ⟨rfl, trivial⟩⟩ ?_
  refine dr_cons { need := [(7, .lp 2 0)], dst := some 34, val := some (.lp 2 14) } (fun m h => step_on (guard_no rfl) (op_field_lp rfl h.1.1 Try_fld_35_4 rfl rfl) rfl) ⟨⟨rfl, trivial⟩, trivial, trivial⟩ ?_
  refine dr_cons { need := [(34, .lp 2 14), (33, .ls 5)], hneed := [(2, .box 35 (bxv (eGMethod a0)))], upd := [(2, some (.box 35 [.pv (.str a0.fName), .pv (.bool a0.fPure), .pv (.int .i64 a0.fRet.fKind), .pv (.str a0.fRet.fClass), .pv (.int .i64 a0.fRet.fN), .pv (.int .i64 a0.fRet.fOwn.a0.fKind), .pv (.int .i64 a0.fRet.fOwn.a0.fN), .pv (.int .i64 a0.fRet.fOwn.a1.fKind), .pv (.int .i64 a0.fRet.fOwn.a1.fN), .pv (.int .i64 a0.fRet.fOwn.a2.fKind), .pv (.int .i64 a0.fRet.fOwn.a2.fN), .pv (.int .i64 a0.fRet.fOwn.a3.fKind), .pv (.int .i64 a0.fRet.fOwn.a3.fN), .pv (.vs 13 (List.map eGVar a0.fParams)), .ls 5, .pv (.vs 23 (eLGStmt a0.fBody)), .pv (.int .i64 a0.fAt)]))] } (fun m h => step_on (guard_no rfl) (op_store_lp (n := 1) rfl h.1.1 h.1.2.1 rfl h.2.1.1 (or_one Try_one_24) (by rw [Try_one_24]; rfl) rfl rfl rfl) rfl) ⟨⟨rfl, rfl, trivial⟩, ⟨rfl, trivial⟩, trivial⟩ ?_
  refine dr_nil Try_mixed rfl (by kernel_rfl) ?_
  refine post_imp (s' := ⟨118, [(2, some (.pv (.str a2))), (3, some (.lp 0 0)), (4, some (.lp 1 0)), (7, some (.lp 2 0))], [(0, some (.box 35 (bxv (eGMethod a0)))), (1, some (.box 44 (bxv (eGVar a1)))), (2, some (.box 35 [.pv (.str a0.fName), .pv (.bool a0.fPure), .pv (.int .i64 a0.fRet.fKind), .pv (.str a0.fRet.fClass), .pv (.int .i64 a0.fRet.fN), .pv (.int .i64 a0.fRet.fOwn.a0.fKind), .pv (.int .i64 a0.fRet.fOwn.a0.fN), .pv (.int .i64 a0.fRet.fOwn.a1.fKind), .pv (.int .i64 a0.fRet.fOwn.a1.fN), .pv (.int .i64 a0.fRet.fOwn.a2.fKind), .pv (.int .i64 a0.fRet.fOwn.a2.fN), .pv (.int .i64 a0.fRet.fOwn.a3.fKind), .pv (.int .i64 a0.fRet.fOwn.a3.fN), .pv (.vs 13 (List.map eGVar a0.fParams)), .ls 3, .pv (.vs 23 (eLGStmt a0.fBody)), .pv (.int .i64 a0.fAt)])), (3, some (.row 44 13 (List.map eGVar ((([] : List GVar) ++ a0.fLocals) ++ [a1]))))], 4, [], [], 0, []⟩) (imps [0, 1, 2, 5] ⟨by kernel_rfl, by kernel_rfl, by kernel_rfl, by kernel_rfl, trivial⟩ ⟨by kernel_rfl, by kernel_rfl, by kernel_rfl, by kernel_rfl, trivial⟩) ?_
  refine post_next ?_
  refine aw_seq ?_
  refine aw_region ?_
  refine rgp (op_field_lp rfl rfl Try_fld_35_3 rfl rfl) ?_
  refine rgp (op_load_lp (v := .pv (.vs 13 (List.map eGVar a0.fParams))) rfl rfl rfl rfl Try_one_24 rfl rfl) ?_
  refine rgp (op_len_vs (n := a0.fParams.length) rfl rfl (List.length_map ..) Try_slc_24 rfl rfl) ?_
  refine rgp (op_field_lp rfl rfl Try_fld_35_4 rfl rfl) ?_
  refine rgp (op_load_lp (v := .pv (.vs 13 (List.map eGVar a0.fLocals))) rfl rfl rfl rfl Try_one_24 rfl rfl) ?_
  refine rgp (op_len_vs (n := a0.fLocals.length) rfl rfl (List.length_map ..) Try_slc_24 rfl rfl) ?_
  refine rgp (op_int (k := .i64) (m := (a0.fParams.length : Int)) (n := (a0.fLocals.length : Int)) rfl rfl rfl rfl rfl rfl) ?_
  refine ras ?_
  refine reg_nil ?_
  refine post_imp (s' := ⟨118, [(2, some (.pv (.str a2))), (3, some (.lp 0 0)), (4, some (.lp 1 0)), (7, some (.lp 2 0)), (8, some (.pv (.int .i64 (w_i64 ((a0.fParams.length : Int) + (a0.fLocals.length : Int))))))], [(0, some (.box 35 (bxv (eGMethod a0)))), (1, some (.box 44 (bxv (eGVar a1)))), (2, some (.box 35 [.pv (.str a0.fName), .pv (.bool a0.fPure), .pv (.int .i64 a0.fRet.fKind), .pv (.str a0.fRet.fClass), .pv (.int .i64 a0.fRet.fN), .pv (.int .i64 a0.fRet.fOwn.a0.fKind), .pv (.int .i64 a0.fRet.fOwn.a0.fN), .pv (.int .i64 a0.fRet.fOwn.a1.fKind), .pv (.int .i64 a0.fRet.fOwn.a1.fN), .pv (.int .i64 a0.fRet.fOwn.a2.fKind), .pv (.int .i64 a0.fRet.fOwn.a2.fN), .pv (.int .i64 a0.fRet.fOwn.a3.fKind), .pv (.int .i64 a0.fRet.fOwn.a3.fN), .pv (.vs 13 (List.map eGVar a0.fParams)), .ls 3, .pv (.vs 23 (eLGStmt a0.fBody)), .pv (.int .i64 a0.fAt)])), (3, some (.row 44 13 (List.map eGVar ((([] : List GVar) ++ a0.fLocals) ++ [a1]))))], 4, [], [], 0, []⟩) (imps [0, 1, 2, 3] ⟨by kernel_rfl, by kernel_rfl, by kernel_rfl, by kernel_rfl, by kernel_rfl, trivial⟩ ⟨by kernel_rfl, by kernel_rfl, by kernel_rfl, by kernel_rfl, trivial⟩) ?_
  refine post_next ?_
  refine aw_seq ?_
  refine aw_imp (imp_freeze_in [(3, some (.row 44 13 (List.map eGVar ((([] : List GVar) ++ a0.fLocals) ++ [a1]))))] [] 2 14 3 (FzH.spec ⟨rfl, trivial⟩) trivial rfl rfl rfl) ?_
  refine dr_start ⟨_, _, _⟩ rfl ?_
  refine dr_cons { need := [(3, .lp 0 0)], hneed := [(0, .box 35 (bxv (eGMethod a0)))], dst := some 42, val := some (.pv (.agg (eGMethod a0))) } (fun m h => step_on (guard_no rfl) (op_load_lp_agg (ps := eGMethod a0) rfl h.1.1 h.2.1.1 rfl rfl rfl Try_agg_35 rfl rfl) rfl) ⟨⟨rfl, trivial⟩, ⟨rfl, trivial⟩, trivial⟩ ?_
  refine dr_cons { need := [(4, .lp 1 0)], dst := some 43, val := some (.lp 1 0) } (fun m h => step_on (guard_no rfl) (op_field_lp rfl h.1.1 Try_fld_44_0 rfl rfl) rfl) ⟨⟨rfl, trivial⟩, trivial, trivial⟩ ?_
  refine dr_cons { need := [(43, .lp 1 0)], hneed := [(1, .box 44 (bxv (eGVar a1)))], dst := some 44, val := some (.pv (.str a1.fName)) } (fun m h => step_on (guard_no rfl) (op_load_lp (v := .pv (.str a1.fName)) rfl h.1.1 h.2.1.1 rfl Try_one_9 rfl rfl) rfl) ⟨⟨rfl, trivial⟩, ⟨rfl, trivial⟩, trivial⟩ ?_
  obtain ⟨y27, h28, hF⟩ := bind_some hF
  refine dr_cons { need := [(44, .pv (.str a1.fName)), (42, .pv (.agg (eGMethod a0)))], dst := some 45, val := some (.pv (.int .i64 y27)) } (fun m h => step_on (guard_no rfl) (op_call 4 rfl (caps := []) (args := [.agg (eGMethod a0), .str a1.fName]) (rs := [.p (.int .i64 y27)]) rfl rfl (evl_cons h.1.2.1 (evl_cons h.1.1 evl_nil)) Try_cal_9 (scope_Place_ok h28) rfl rfl rfl) rfl) ⟨⟨rfl, rfl, trivial⟩, trivial, trivial⟩ ?_
  refine dr_cons { need := [(7, .lp 2 0)], hneed := [(2, .box 35 (bxv (eGMethod ({ fName := a0.fName, fPure := a0.fPure, fRet := ({ fKind := a0.fRet.fKind, fClass := a0.fRet.fClass, fN := a0.fRet.fN, fOwn := (⟨({ fKind := a0.fRet.fOwn.a0.fKind, fN := a0.fRet.fOwn.a0.fN } : GOwner), ({ fKind := a0.fRet.fOwn.a1.fKind, fN := a0.fRet.fOwn.a1.fN } : GOwner), ({ fKind := a0.fRet.fOwn.a2.fKind, fN := a0.fRet.fOwn.a2.fN } : GOwner), ({ fKind := a0.fRet.fOwn.a3.fKind, fN := a0.fRet.fOwn.a3.fN } : GOwner)⟩ : A4 GOwner) } : GType), fParams := a0.fParams, fLocals := ((([] : List GVar) ++ a0.fLocals) ++ [a1]), fBody := a0.fBody, fAt := a0.fAt } : GMethod))))], dst := some 46, val := some (.pv (.agg (eGMethod ({ fName := a0.fName, fPure := a0.fPure, fRet := ({ fKind := a0.fRet.fKind, fClass := a0.fRet.fClass, fN := a0.fRet.fN, fOwn := (⟨({ fKind := a0.fRet.fOwn.a0.fKind, fN := a0.fRet.fOwn.a0.fN } : GOwner), ({ fKind := a0.fRet.fOwn.a1.fKind, fN := a0.fRet.fOwn.a1.fN } : GOwner), ({ fKind := a0.fRet.fOwn.a2.fKind, fN := a0.fRet.fOwn.a2.fN } : GOwner), ({ fKind := a0.fRet.fOwn.a3.fKind, fN := a0.fRet.fOwn.a3.fN } : GOwner)⟩ : A4 GOwner) } : GType), fParams := a0.fParams, fLocals := ((([] : List GVar) ++ a0.fLocals) ++ [a1]), fBody := a0.fBody, fAt := a0.fAt } : GMethod)))) } (fun m h => step_on (guard_no rfl) (op_load_lp_agg (ps := eGMethod ({ fName := a0.fName, fPure := a0.fPure, fRet := ({ fKind := a0.fRet.fKind, fClass := a0.fRet.fClass, fN := a0.fRet.fN, fOwn := (⟨({ fKind := a0.fRet.fOwn.a0.fKind, fN := a0.fRet.fOwn.a0.fN } : GOwner), ({ fKind := a0.fRet.fOwn.a1.fKind, fN := a0.fRet.fOwn.a1.fN } : GOwner), ({ fKind := a0.fRet.fOwn.a2.fKind, fN := a0.fRet.fOwn.a2.fN } : GOwner), ({ fKind := a0.fRet.fOwn.a3.fKind, fN := a0.fRet.fOwn.a3.fN } : GOwner)⟩ : A4 GOwner) } : GType), fParams := a0.fParams, fLocals := ((([] : List GVar) ++ a0.fLocals) ++ [a1]), fBody := a0.fBody, fAt := a0.fAt } : GMethod)) rfl h.1.1 h.2.1.1 rfl rfl rfl Try_agg_35 rfl rfl) rfl) ⟨⟨rfl, trivial⟩, ⟨rfl, trivial⟩, trivial⟩ ?_
  refine dr_cons { need := [(4, .lp 1 0)], dst := some 47, val := some (.lp 1 0) } (fun m h => step_on (guard_no rfl) (op_field_lp rfl h.1.1 Try_fld_44_0 rfl rfl) rfl) ⟨⟨rfl, trivial⟩, trivial, trivial⟩ ?_
  refine dr_cons { need := [(47, .lp 1 0)], hneed := [(1, .box 44 (bxv (eGVar a1)))], dst := some 48, val := some (.pv (.str a1.fName)) } (fun m h => step_on (guard_no rfl) (op_load_lp (v := .pv (.str a1.fName)) rfl h.1.1 h.2.1.1 rfl Try_one_9 rfl rfl) rfl) ⟨⟨rfl, trivial⟩, ⟨rfl, trivial⟩, trivial⟩ ?_
  obtain ⟨y29, h30, hF⟩ := bind_some hF
  refine dr_cons { need := [(48, .pv (.str a1.fName)), (46, .pv (.agg (eGMethod ({ fName := a0.fName, fPure := a0.fPure, fRet := ({ fKind := a0.fRet.fKind, fClass := a0.fRet.fClass, fN := a0.fRet.fN, fOwn := (⟨({ fKind := a0.fRet.fOwn.a0.fKind, fN := a0.fRet.fOwn.a0.fN } : GOwner), ({ fKind := a0.fRet.fOwn.a1.fKind, fN := a0.fRet.fOwn.a1.fN } : GOwner), ({ fKind := a0.fRet.fOwn.a2.fKind, fN := a0.fRet.fOwn.a2.fN } : GOwner), ({ fKind := a0.fRet.fOwn.a3.fKind, fN := a0.fRet.fOwn.a3.fN } : GOwner)⟩ : A4 GOwner) } : GType), fParams := a0.fParams, fLocals := ((([] : List GVar) ++ a0.fLocals) ++ [a1]), fBody := a0.fBody, fAt := a0.fAt } : GMethod))))], dst := some 49, val := some (.pv (.int .i64 y29)) } (fun m h => step_on (guard_no rfl) (op_call 4 rfl (caps := []) (args := [.agg (eGMethod ({ fName := a0.fName, fPure := a0.fPure, fRet := ({ fKind := a0.fRet.fKind, fClass := a0.fRet.fClass, fN := a0.fRet.fN, fOwn := (⟨({ fKind := a0.fRet.fOwn.a0.fKind, fN := a0.fRet.fOwn.a0.fN } : GOwner), ({ fKind := a0.fRet.fOwn.a1.fKind, fN := a0.fRet.fOwn.a1.fN } : GOwner), ({ fKind := a0.fRet.fOwn.a2.fKind, fN := a0.fRet.fOwn.a2.fN } : GOwner), ({ fKind := a0.fRet.fOwn.a3.fKind, fN := a0.fRet.fOwn.a3.fN } : GOwner)⟩ : A4 GOwner) } : GType), fParams := a0.fParams, fLocals := ((([] : List GVar) ++ a0.fLocals) ++ [a1]), fBody := a0.fBody, fAt := a0.fAt } : GMethod)), .str a1.fName]) (rs := [.p (.int .i64 y29)]) rfl rfl (evl_cons h.1.2.1 (evl_cons h.1.1 evl_nil)) Try_cal_9 (scope_Place_ok h30) rfl rfl rfl) rfl) ⟨⟨rfl, rfl, trivial⟩, trivial, trivial⟩ ?_
  refine dr_cons { need := [(45, .pv (.int .i64 y27))], dst := some 9, val := some (.pv (.int .i64 y27)) } (fun m h => step_on (guard_no rfl) (op_assign rfl h.1.1 rfl rfl) rfl) ⟨⟨rfl, trivial⟩, trivial, trivial⟩ ?_
  refine dr_cons { need := [(49, .pv (.int .i64 y29))], dst := some 10, val := some (.pv (.int .i64 y29)) } (fun m h => step_on (guard_no rfl) (op_assign rfl h.1.1 rfl rfl) rfl) ⟨⟨rfl, trivial⟩, trivial, trivial⟩ ?_
  refine dr_nil Try_mixed rfl (by kernel_rfl) ?_
  refine post_imp (s' := ⟨118, [(2, some (.pv (.str a2))), (3, some (.lp 0 0)), (4, some (.lp 1 0)), (7, some (.lp 2 0)), (8, some (.pv (.int .i64 (w_i64 ((a0.fParams.length : Int) + (a0.fLocals.length : Int)))))), (9, some (.pv (.int .i64 y27))), (10, some (.pv (.int .i64 y29)))], [(0, some (.box 35 (bxv (eGMethod a0)))), (1, some (.box 44 (bxv (eGVar a1)))), (2, some (.box 35 (bxv (eGMethod ({ fName := a0.fName, fPure := a0.fPure, fRet := ({ fKind := a0.fRet.fKind, fClass := a0.fRet.fClass, fN := a0.fRet.fN, fOwn := (⟨({ fKind := a0.fRet.fOwn.a0.fKind, fN := a0.fRet.fOwn.a0.fN } : GOwner), ({ fKind := a0.fRet.fOwn.a1.fKind, fN := a0.fRet.fOwn.a1.fN } : GOwner), ({ fKind := a0.fRet.fOwn.a2.fKind, fN := a0.fRet.fOwn.a2.fN } : GOwner), ({ fKind := a0.fRet.fOwn.a3.fKind, fN := a0.fRet.fOwn.a3.fN } : GOwner)⟩ : A4 GOwner) } : GType), fParams := a0.fParams, fLocals := ((([] : List GVar) ++ a0.fLocals) ++ [a1]), fBody := a0.fBody, fAt := a0.fAt } : GMethod)))))], 3, [], [], 0, []⟩) (imps [0, 1, 2] ⟨by kernel_rfl, by kernel_rfl, by kernel_rfl, by kernel_rfl, by kernel_rfl, by kernel_rfl, by kernel_rfl, trivial⟩ ⟨by kernel_rfl, by kernel_rfl, by kernel_rfl, trivial⟩) ?_
  refine post_next ?_
  refine aw_seq ?_
  refine aw_region ?_
  refine rgp (op_build (zs := (eGClass zGClass)) (r := eGClass ({ fName := [], fParams := [], fSuper := [], fAbove := [], fFields := [], fMethods := [], fAt := 0 } : GClass)) rfl Try_zer_27 (by exact ⟨rfl, trivial, rfl, trivial, trivial, trivial, rfl, trivial⟩) Try_plc_27 rfl rfl rfl rfl) ?_
  refine rgp (op_load_lp_agg (ps := eGMethod ({ fName := a0.fName, fPure := a0.fPure, fRet := ({ fKind := a0.fRet.fKind, fClass := a0.fRet.fClass, fN := a0.fRet.fN, fOwn := (⟨({ fKind := a0.fRet.fOwn.a0.fKind, fN := a0.fRet.fOwn.a0.fN } : GOwner), ({ fKind := a0.fRet.fOwn.a1.fKind, fN := a0.fRet.fOwn.a1.fN } : GOwner), ({ fKind := a0.fRet.fOwn.a2.fKind, fN := a0.fRet.fOwn.a2.fN } : GOwner), ({ fKind := a0.fRet.fOwn.a3.fKind, fN := a0.fRet.fOwn.a3.fN } : GOwner)⟩ : A4 GOwner) } : GType), fParams := a0.fParams, fLocals := ((([] : List GVar) ++ a0.fLocals) ++ [a1]), fBody := a0.fBody, fAt := a0.fAt } : GMethod)) rfl rfl rfl rfl rfl rfl Try_agg_35 rfl rfl) ?_
  refine rgp (op_field_lp rfl rfl Try_fld_44_0 rfl rfl) ?_
  refine rgp (op_load_lp (v := .pv (.str a1.fName)) rfl rfl rfl rfl Try_one_9 rfl rfl) ?_
  obtain ⟨y33, h34, hF⟩ := bind_some hF
  refine rgp (op_call 3 rfl (caps := []) (args := [.agg (eGClass ({ fName := [], fParams := [], fSuper := [], fAbove := [], fFields := [], fMethods := [], fAt := 0 } : GClass)), .agg (eGMethod ({ fName := a0.fName, fPure := a0.fPure, fRet := ({ fKind := a0.fRet.fKind, fClass := a0.fRet.fClass, fN := a0.fRet.fN, fOwn := (⟨({ fKind := a0.fRet.fOwn.a0.fKind, fN := a0.fRet.fOwn.a0.fN } : GOwner), ({ fKind := a0.fRet.fOwn.a1.fKind, fN := a0.fRet.fOwn.a1.fN } : GOwner), ({ fKind := a0.fRet.fOwn.a2.fKind, fN := a0.fRet.fOwn.a2.fN } : GOwner), ({ fKind := a0.fRet.fOwn.a3.fKind, fN := a0.fRet.fOwn.a3.fN } : GOwner)⟩ : A4 GOwner) } : GType), fParams := a0.fParams, fLocals := ((([] : List GVar) ++ a0.fLocals) ++ [a1]), fBody := a0.fBody, fAt := a0.fAt } : GMethod)), .str a1.fName]) (rs := [.p (.agg (eGType y33.1)), .p (.bool y33.2)]) rfl rfl rfl Try_cal_7 (scope_Type_ok h34) rfl rfl rfl) ?_
  refine rmv ?_
  iterate 2 (refine rgp (op_extract rfl rfl rfl rfl rfl) ?_)
  refine rgp (op_alloc 3 rfl (ps := (eGType zGType)) rfl Try_zer_32 (by exact ⟨rfl, rfl, rfl, rfl, rfl, rfl, rfl, rfl, rfl, rfl, rfl, trivial⟩) rfl rfl) ?_
  refine rgp (op_store_lp (n := 11) rfl rfl rfl rfl rfl (or_agg Try_agg_32) (by rw [Try_non_32]; rfl) rfl rfl rfl) ?_
  refine ras ?_
  refine reg_nil ?_
  refine post_imp (s' := ⟨118, [(2, some (.pv (.str a2))), (3, some (.lp 0 0)), (4, some (.lp 1 0)), (7, some (.lp 2 0)), (8, some (.pv (.int .i64 (w_i64 ((a0.fParams.length : Int) + (a0.fLocals.length : Int)))))), (9, some (.pv (.int .i64 y27))), (10, some (.pv (.int .i64 y29))), (11, some (.lp 3 0)), (12, some (.pv (.bool y33.2)))], [(0, some (.box 35 (bxv (eGMethod a0)))), (1, some (.box 44 (bxv (eGVar a1)))), (2, some (.box 35 (bxv (eGMethod ({ fName := a0.fName, fPure := a0.fPure, fRet := ({ fKind := a0.fRet.fKind, fClass := a0.fRet.fClass, fN := a0.fRet.fN, fOwn := (⟨({ fKind := a0.fRet.fOwn.a0.fKind, fN := a0.fRet.fOwn.a0.fN } : GOwner), ({ fKind := a0.fRet.fOwn.a1.fKind, fN := a0.fRet.fOwn.a1.fN } : GOwner), ({ fKind := a0.fRet.fOwn.a2.fKind, fN := a0.fRet.fOwn.a2.fN } : GOwner), ({ fKind := a0.fRet.fOwn.a3.fKind, fN := a0.fRet.fOwn.a3.fN } : GOwner)⟩ : A4 GOwner) } : GType), fParams := a0.fParams, fLocals := ((([] : List GVar) ++ a0.fLocals) ++ [a1]), fBody := a0.fBody, fAt := a0.fAt } : GMethod))))), (3, some (.box 32 (bxv (eGType y33.1))))], 4, [], [], 0, []⟩) (imps [0, 1, 2, 3] ⟨by kernel_rfl, by kernel_rfl, by kernel_rfl, by kernel_rfl, by kernel_rfl, by kernel_rfl, by kernel_rfl, by kernel_rfl, by kernel_rfl, trivial⟩ ⟨by kernel_rfl, by kernel_rfl, by kernel_rfl, by kernel_rfl, trivial⟩) ?_
  refine post_next ?_
  refine aw_seq ?_
  refine aw_region ?_
  refine rgp (op_load_lp_agg (ps := eGMethod a0) rfl rfl rfl rfl rfl rfl Try_agg_35 rfl rfl) ?_
  refine rmv ?_
  obtain ⟨y37, h38, hF⟩ := bind_some hF
  refine rgp (op_call 4 rfl (caps := []) (args := [.agg (eGMethod a0), .str a2]) (rs := [.p (.int .i64 y37)]) rfl rfl rfl Try_cal_9 (scope_Place_ok h38) rfl rfl rfl) ?_
  refine ras ?_
  refine reg_nil ?_
  refine post_imp (s' := ⟨118, [(2, some (.pv (.str a2))), (4, some (.lp 0 0)), (7, some (.lp 1 0)), (8, some (.pv (.int .i64 (w_i64 ((a0.fParams.length : Int) + (a0.fLocals.length : Int)))))), (9, some (.pv (.int .i64 y27))), (10, some (.pv (.int .i64 y29))), (11, some (.lp 2 0)), (12, some (.pv (.bool y33.2))), (13, some (.pv (.int .i64 y37)))], [(0, some (.box 44 (bxv (eGVar a1)))), (1, some (.box 35 (bxv (eGMethod ({ fName := a0.fName, fPure := a0.fPure, fRet := ({ fKind := a0.fRet.fKind, fClass := a0.fRet.fClass, fN := a0.fRet.fN, fOwn := (⟨({ fKind := a0.fRet.fOwn.a0.fKind, fN := a0.fRet.fOwn.a0.fN } : GOwner), ({ fKind := a0.fRet.fOwn.a1.fKind, fN := a0.fRet.fOwn.a1.fN } : GOwner), ({ fKind := a0.fRet.fOwn.a2.fKind, fN := a0.fRet.fOwn.a2.fN } : GOwner), ({ fKind := a0.fRet.fOwn.a3.fKind, fN := a0.fRet.fOwn.a3.fN } : GOwner)⟩ : A4 GOwner) } : GType), fParams := a0.fParams, fLocals := ((([] : List GVar) ++ a0.fLocals) ++ [a1]), fBody := a0.fBody, fAt := a0.fAt } : GMethod))))), (2, some (.box 32 (bxv (eGType y33.1))))], 3, [], [], 0, []⟩) (imps [1, 2, 3] ⟨by kernel_rfl, by kernel_rfl, by kernel_rfl, by kernel_rfl, by kernel_rfl, by kernel_rfl, by kernel_rfl, by kernel_rfl, by kernel_rfl, trivial⟩ ⟨by kernel_rfl, by kernel_rfl, by kernel_rfl, trivial⟩) ?_
  refine post_next ?_
  iterate 2 (refine aw_seq ?_)
  obtain ⟨x67, hF, hK69⟩ := bind_some hF
  refine aw_cut (fun s1 => s1 = ⟨118, [(2, some (.pv (.str a2))), (4, some (.lp 0 0)), (7, some (.lp 1 0)), (13, some (.pv (.int .i64 y37))), (103, some (.pv (.bool x67)))], [(0, some (.box 44 (bxv (eGVar a1)))), (1, some (.box 35 (bxv (eGMethod ({ fName := a0.fName, fPure := a0.fPure, fRet := ({ fKind := a0.fRet.fKind, fClass := a0.fRet.fClass, fN := a0.fRet.fN, fOwn := (⟨({ fKind := a0.fRet.fOwn.a0.fKind, fN := a0.fRet.fOwn.a0.fN } : GOwner), ({ fKind := a0.fRet.fOwn.a1.fKind, fN := a0.fRet.fOwn.a1.fN } : GOwner), ({ fKind := a0.fRet.fOwn.a2.fKind, fN := a0.fRet.fOwn.a2.fN } : GOwner), ({ fKind := a0.fRet.fOwn.a3.fKind, fN := a0.fRet.fOwn.a3.fN } : GOwner)⟩ : A4 GOwner) } : GType), fParams := a0.fParams, fLocals := ((([] : List GVar) ++ a0.fLocals) ++ [a1]), fBody := a0.fBody, fAt := a0.fAt } : GMethod)))))], 2, [], [], 0, []⟩) ?_ ?_
  · refine aw_region ?_
    refine rmv ?_
    refine rgp (op_int (k := .i64) (m := y27) (n := 0) rfl rfl rfl rfl rfl rfl) ?_
    refine rmv ?_
    rcases ite_some hF with ⟨hb39, hF⟩ | ⟨hb39, hF⟩
    · refine rgn hb39 (op_move rfl rfl rfl rfl) ?_
      refine rgn hb39 (op_move rfl rfl rfl rfl) ?_
      refine rgn hb39 (op_int (k := .i64) (m := y29) (n := y27) rfl rfl rfl rfl rfl rfl) ?_
      refine rpt hb39 ?_
      refine rmv ?_
      rcases ite_some hF with ⟨hb40, hF⟩ | ⟨hb40, hF⟩
      · refine rgo_t hb40 ?_
        iterate 2 (refine rgo_t hb40 ?_)
        iterate 9 (refine rgu ?_)
        refine rgo_t hb40 ?_
        refine rpt hb40 ?_
        refine rmv ?_
        iterate 2 (refine rgo_t rfl ?_)
        refine rpt rfl ?_
        refine rmv ?_
        iterate 6 (refine rgo_t rfl ?_)
        refine rpt rfl ?_
        refine rmv ?_
        iterate 2 (refine rgo_t rfl ?_)
        refine rpt rfl ?_
        refine rmv ?_
        iterate 3 (refine rgo_t rfl ?_)
        refine rpt rfl ?_
        refine reg_nil ?_
        cases hF
        exact post_cut _ rfl (imps [0, 1] ⟨by kernel_rfl, by kernel_rfl, by kernel_rfl, by kernel_rfl, by kernel_rfl, trivial⟩ ⟨by kernel_rfl, by kernel_rfl, trivial⟩)
      refine rgn hb40 (op_move rfl rfl rfl rfl) ?_
      refine rgn hb40 (op_int (k := .i64) (m := y27) (n := 0) rfl rfl rfl rfl rfl rfl) ?_
      refine rgn hb40 (op_move rfl rfl rfl rfl) ?_
      rcases ite_some hF with ⟨hb41, hF⟩ | ⟨hb41, hF⟩
      · refine rgn hb41 (op_move rfl rfl rfl rfl) ?_
        refine rgn hb41 (op_move rfl rfl rfl rfl) ?_
        refine rgn hb41 (op_int (k := .i64) (m := y29) (n := w_i64 ((a0.fParams.length : Int) + (a0.fLocals.length : Int))) rfl rfl rfl rfl rfl rfl) ?_
        refine rgn hb41 (op_move rfl rfl rfl rfl) ?_
        rcases ite_some hF with ⟨hb42, hF⟩ | ⟨hb42, hF⟩
        · refine rgo_t hb42 ?_
          iterate 3 (refine rgo_t hb42 ?_)
          refine rgn hb41 (op_pick_t rfl rfl hb42 rfl rfl rfl) ?_
          refine rgn hb40 (op_pick_t rfl rfl hb41 rfl rfl rfl) ?_
          refine rpf hb40 ?_
          refine rmv ?_
          iterate 2 (refine rgo_t rfl ?_)
          refine rpt rfl ?_
          refine rmv ?_
          iterate 6 (refine rgo_t rfl ?_)
          refine rpt rfl ?_
          refine rmv ?_
          iterate 2 (refine rgo_t rfl ?_)
          refine rpt rfl ?_
          refine rmv ?_
          iterate 3 (refine rgo_t rfl ?_)
          refine rpt rfl ?_
          refine reg_nil ?_
          cases hF
          exact post_cut _ rfl (imps [0, 1] ⟨by kernel_rfl, by kernel_rfl, by kernel_rfl, by kernel_rfl, by kernel_rfl, trivial⟩ ⟨by kernel_rfl, by kernel_rfl, trivial⟩)
        refine rgn hb42 (op_load_lp_agg (ps := eGType y33.1) rfl rfl rfl rfl rfl rfl Try_agg_32 rfl rfl) ?_
        refine rgn hb42 (op_field_lp rfl rfl Try_fld_44_1 rfl rfl) ?_
        refine rgn hb42 (op_load_lp_agg (ps := eGType a1.fType) rfl rfl rfl rfl rfl rfl Try_agg_32 rfl rfl) ?_
        refine rgn hb42 (op_eqAgg_neq (r := bGType y33.1 a1.fType) rfl rfl rfl Try_eqt_32 rfl rfl rfl rfl rfl) ?_
        refine rgn hb41 (op_pick_f rfl rfl hb42 rfl rfl rfl) ?_
        refine rgn hb40 (op_pick_t rfl rfl hb41 rfl rfl rfl) ?_
        refine rpf hb40 ?_
        refine rmv ?_
        rcases ite_some hF with ⟨hb43, hF⟩ | ⟨hb43, hF⟩
        · refine rgo_t hb43 ?_
          refine rgo_t hb43 ?_
          refine rpt hb43 ?_
          refine rmv ?_
          iterate 6 (refine rgo_t rfl ?_)
          refine rpt rfl ?_
          refine rmv ?_
          iterate 2 (refine rgo_t rfl ?_)
          refine rpt rfl ?_
          refine rmv ?_
          iterate 3 (refine rgo_t rfl ?_)
          refine rpt rfl ?_
          refine reg_nil ?_
          cases hF
          exact post_cut _ rfl (imps [0, 1] ⟨by kernel_rfl, by kernel_rfl, by kernel_rfl, by kernel_rfl, by kernel_rfl, trivial⟩ ⟨by kernel_rfl, by kernel_rfl, trivial⟩)
        refine rgn hb43 (op_move rfl rfl rfl rfl) ?_
        refine rgn hb43 (op_not rfl rfl rfl rfl) ?_
        refine rpf hb43 ?_
        refine rmv ?_
        rcases ite_some hF with ⟨hb44, hF⟩ | ⟨hb44, hF⟩
        · refine rgo_t hb44 ?_
          iterate 5 (refine rgo_t hb44 ?_)
          refine rpt hb44 ?_
          refine rmv ?_
          iterate 2 (refine rgo_t rfl ?_)
          refine rpt rfl ?_
          refine rmv ?_
          iterate 3 (refine rgo_t rfl ?_)
          refine rpt rfl ?_
          refine reg_nil ?_
          cases hF
          exact post_cut _ rfl (imps [0, 1] ⟨by kernel_rfl, by kernel_rfl, by kernel_rfl, by kernel_rfl, by kernel_rfl, trivial⟩ ⟨by kernel_rfl, by kernel_rfl, trivial⟩)
        refine rgn hb44 (op_load_lp_agg (ps := eGMethod ({ fName := a0.fName, fPure := a0.fPure, fRet := ({ fKind := a0.fRet.fKind, fClass := a0.fRet.fClass, fN := a0.fRet.fN, fOwn := (⟨({ fKind := a0.fRet.fOwn.a0.fKind, fN := a0.fRet.fOwn.a0.fN } : GOwner), ({ fKind := a0.fRet.fOwn.a1.fKind, fN := a0.fRet.fOwn.a1.fN } : GOwner), ({ fKind := a0.fRet.fOwn.a2.fKind, fN := a0.fRet.fOwn.a2.fN } : GOwner), ({ fKind := a0.fRet.fOwn.a3.fKind, fN := a0.fRet.fOwn.a3.fN } : GOwner)⟩ : A4 GOwner) } : GType), fParams := a0.fParams, fLocals := ((([] : List GVar) ++ a0.fLocals) ++ [a1]), fBody := a0.fBody, fAt := a0.fAt } : GMethod)) rfl rfl rfl rfl rfl rfl Try_agg_35 rfl rfl) ?_
        obtain ⟨y45, h46, hF⟩ := bind_some hF
        refine rgn hb44 (op_call 3 rfl (caps := []) (args := [.agg (eGMethod ({ fName := a0.fName, fPure := a0.fPure, fRet := ({ fKind := a0.fRet.fKind, fClass := a0.fRet.fClass, fN := a0.fRet.fN, fOwn := (⟨({ fKind := a0.fRet.fOwn.a0.fKind, fN := a0.fRet.fOwn.a0.fN } : GOwner), ({ fKind := a0.fRet.fOwn.a1.fKind, fN := a0.fRet.fOwn.a1.fN } : GOwner), ({ fKind := a0.fRet.fOwn.a2.fKind, fN := a0.fRet.fOwn.a2.fN } : GOwner), ({ fKind := a0.fRet.fOwn.a3.fKind, fN := a0.fRet.fOwn.a3.fN } : GOwner)⟩ : A4 GOwner) } : GType), fParams := a0.fParams, fLocals := ((([] : List GVar) ++ a0.fLocals) ++ [a1]), fBody := a0.fBody, fAt := a0.fAt } : GMethod))]) (rs := [.p (.vs 2 (List.map eGVal y45))]) rfl rfl rfl Try_cal_13 (Fn.frozen (scope_Start_ok h46)) rfl rfl rfl) ?_
        refine rgn hb44 (op_len_vs (n := y45.length) rfl rfl (List.length_map ..) Try_slc_45 rfl rfl) ?_
        refine rgn hb44 (op_move rfl rfl rfl rfl) ?_
        refine rgn hb44 (op_int (k := .i64) (m := w_i64 ((a0.fParams.length : Int) + (a0.fLocals.length : Int))) (n := 1) rfl rfl rfl rfl rfl rfl) ?_
        refine rgn hb44 (op_int (k := .i64) (m := (y45.length : Int)) (n := w_i64 ((w_i64 ((a0.fParams.length : Int) + (a0.fLocals.length : Int))) + 1)) rfl rfl rfl rfl rfl rfl) ?_
        refine rpf hb44 ?_
        refine rmv ?_
        rcases ite_some hF with ⟨hb47, hF⟩ | ⟨hb47, hF⟩
        · refine rgo_t hb47 ?_
          refine rgo_t hb47 ?_
          refine rpt hb47 ?_
          refine rmv ?_
          iterate 3 (refine rgo_t rfl ?_)
          refine rpt rfl ?_
          refine reg_nil ?_
          cases hF
          exact post_cut _ rfl (imps [0, 1] ⟨by kernel_rfl, by kernel_rfl, by kernel_rfl, by kernel_rfl, by kernel_rfl, trivial⟩ ⟨by kernel_rfl, by kernel_rfl, trivial⟩)
        refine rgn hb47 (op_move rfl rfl rfl rfl) ?_
        refine rgn hb47 (op_int (k := .i64) (m := y37) (n := (-1)) rfl rfl rfl rfl rfl rfl) ?_
        refine rpf hb47 ?_
        refine rmv ?_
        rcases ite_some hF with ⟨hb48, hF⟩ | ⟨hb48, hF⟩
        · refine rgo_t hb48 ?_
          iterate 2 (refine rgo_t hb48 ?_)
          refine rpt hb48 ?_
          refine reg_nil ?_
          cases hF
          exact post_cut _ rfl (imps [0, 1] ⟨by kernel_rfl, by kernel_rfl, by kernel_rfl, by kernel_rfl, by kernel_rfl, trivial⟩ ⟨by kernel_rfl, by kernel_rfl, trivial⟩)
        iterate 2 (refine rgn hb48 (op_move rfl rfl rfl rfl) ?_)
        refine rgn hb48 (op_int (k := .i64) (m := y37) (n := w_i64 ((a0.fParams.length : Int) + (a0.fLocals.length : Int))) rfl rfl rfl rfl rfl rfl) ?_
        refine rpf hb48 ?_
        refine reg_nil ?_
        cases hF
        exact post_cut _ rfl (imps [0, 1] ⟨by kernel_rfl, by kernel_rfl, by kernel_rfl, by kernel_rfl, by kernel_rfl, trivial⟩ ⟨by kernel_rfl, by kernel_rfl, trivial⟩)
      iterate 4 (refine rgo_f hb41 ?_)
      iterate 4 (refine rgu ?_)
      refine rgo_f hb41 ?_
      refine rgn hb40 (op_pick_f rfl rfl hb41 rfl rfl rfl) ?_
      refine rpf hb40 ?_
      refine rmv ?_
      refine rgn rfl (op_move rfl rfl rfl rfl) ?_
      refine rgn rfl (op_not rfl rfl rfl rfl) ?_
      refine rpf rfl ?_
      refine rmv ?_
      rcases ite_some hF with ⟨hb49, hF⟩ | ⟨hb49, hF⟩
      · refine rgo_t hb49 ?_
        iterate 5 (refine rgo_t hb49 ?_)
        refine rpt hb49 ?_
        refine rmv ?_
        iterate 2 (refine rgo_t rfl ?_)
        refine rpt rfl ?_
        refine rmv ?_
        iterate 3 (refine rgo_t rfl ?_)
        refine rpt rfl ?_
        refine reg_nil ?_
        cases hF
        exact post_cut _ rfl (imps [0, 1] ⟨by kernel_rfl, by kernel_rfl, by kernel_rfl, by kernel_rfl, by kernel_rfl, trivial⟩ ⟨by kernel_rfl, by kernel_rfl, trivial⟩)
      refine rgn hb49 (op_load_lp_agg (ps := eGMethod ({ fName := a0.fName, fPure := a0.fPure, fRet := ({ fKind := a0.fRet.fKind, fClass := a0.fRet.fClass, fN := a0.fRet.fN, fOwn := (⟨({ fKind := a0.fRet.fOwn.a0.fKind, fN := a0.fRet.fOwn.a0.fN } : GOwner), ({ fKind := a0.fRet.fOwn.a1.fKind, fN := a0.fRet.fOwn.a1.fN } : GOwner), ({ fKind := a0.fRet.fOwn.a2.fKind, fN := a0.fRet.fOwn.a2.fN } : GOwner), ({ fKind := a0.fRet.fOwn.a3.fKind, fN := a0.fRet.fOwn.a3.fN } : GOwner)⟩ : A4 GOwner) } : GType), fParams := a0.fParams, fLocals := ((([] : List GVar) ++ a0.fLocals) ++ [a1]), fBody := a0.fBody, fAt := a0.fAt } : GMethod)) rfl rfl rfl rfl rfl rfl Try_agg_35 rfl rfl) ?_
      obtain ⟨y50, h51, hF⟩ := bind_some hF
      refine rgn hb49 (op_call 3 rfl (caps := []) (args := [.agg (eGMethod ({ fName := a0.fName, fPure := a0.fPure, fRet := ({ fKind := a0.fRet.fKind, fClass := a0.fRet.fClass, fN := a0.fRet.fN, fOwn := (⟨({ fKind := a0.fRet.fOwn.a0.fKind, fN := a0.fRet.fOwn.a0.fN } : GOwner), ({ fKind := a0.fRet.fOwn.a1.fKind, fN := a0.fRet.fOwn.a1.fN } : GOwner), ({ fKind := a0.fRet.fOwn.a2.fKind, fN := a0.fRet.fOwn.a2.fN } : GOwner), ({ fKind := a0.fRet.fOwn.a3.fKind, fN := a0.fRet.fOwn.a3.fN } : GOwner)⟩ : A4 GOwner) } : GType), fParams := a0.fParams, fLocals := ((([] : List GVar) ++ a0.fLocals) ++ [a1]), fBody := a0.fBody, fAt := a0.fAt } : GMethod))]) (rs := [.p (.vs 2 (List.map eGVal y50))]) rfl rfl rfl Try_cal_13 (Fn.frozen (scope_Start_ok h51)) rfl rfl rfl) ?_
      refine rgn hb49 (op_len_vs (n := y50.length) rfl rfl (List.length_map ..) Try_slc_45 rfl rfl) ?_
      refine rgn hb49 (op_move rfl rfl rfl rfl) ?_
      refine rgn hb49 (op_int (k := .i64) (m := w_i64 ((a0.fParams.length : Int) + (a0.fLocals.length : Int))) (n := 1) rfl rfl rfl rfl rfl rfl) ?_
      refine rgn hb49 (op_int (k := .i64) (m := (y50.length : Int)) (n := w_i64 ((w_i64 ((a0.fParams.length : Int) + (a0.fLocals.length : Int))) + 1)) rfl rfl rfl rfl rfl rfl) ?_
      refine rpf hb49 ?_
      refine rmv ?_
      rcases ite_some hF with ⟨hb52, hF⟩ | ⟨hb52, hF⟩
      · refine rgo_t hb52 ?_
        refine rgo_t hb52 ?_
        refine rpt hb52 ?_
        refine rmv ?_
        iterate 3 (refine rgo_t rfl ?_)
        refine rpt rfl ?_
        refine reg_nil ?_
        cases hF
        exact post_cut _ rfl (imps [0, 1] ⟨by kernel_rfl, by kernel_rfl, by kernel_rfl, by kernel_rfl, by kernel_rfl, trivial⟩ ⟨by kernel_rfl, by kernel_rfl, trivial⟩)
      refine rgn hb52 (op_move rfl rfl rfl rfl) ?_
      refine rgn hb52 (op_int (k := .i64) (m := y37) (n := (-1)) rfl rfl rfl rfl rfl rfl) ?_
      refine rpf hb52 ?_
      refine rmv ?_
      rcases ite_some hF with ⟨hb53, hF⟩ | ⟨hb53, hF⟩
      · refine rgo_t hb53 ?_
        iterate 2 (refine rgo_t hb53 ?_)
        refine rpt hb53 ?_
        refine reg_nil ?_
        cases hF
        exact post_cut _ rfl (imps [0, 1] ⟨by kernel_rfl, by kernel_rfl, by kernel_rfl, by kernel_rfl, by kernel_rfl, trivial⟩ ⟨by kernel_rfl, by kernel_rfl, trivial⟩)
      iterate 2 (refine rgn hb53 (op_move rfl rfl rfl rfl) ?_)
      refine rgn hb53 (op_int (k := .i64) (m := y37) (n := w_i64 ((a0.fParams.length : Int) + (a0.fLocals.length : Int))) rfl rfl rfl rfl rfl rfl) ?_
      refine rpf hb53 ?_
      refine reg_nil ?_
      cases hF
      exact post_cut _ rfl (imps [0, 1] ⟨by kernel_rfl, by kernel_rfl, by kernel_rfl, by kernel_rfl, by kernel_rfl, trivial⟩ ⟨by kernel_rfl, by kernel_rfl, trivial⟩)
    iterate 3 (refine rgo_f hb39 ?_)
    refine rpf hb39 ?_
    refine rmv ?_
    refine rgn rfl (op_move rfl rfl rfl rfl) ?_
    refine rgn rfl (op_int (k := .i64) (m := y27) (n := 0) rfl rfl rfl rfl rfl rfl) ?_
    refine rgn rfl (op_move rfl rfl rfl rfl) ?_
    rcases ite_some hF with ⟨hb54, hF⟩ | ⟨hb54, hF⟩
    · refine rgn hb54 (op_move rfl rfl rfl rfl) ?_
      refine rgn hb54 (op_move rfl rfl rfl rfl) ?_
      refine rgn hb54 (op_int (k := .i64) (m := y29) (n := w_i64 ((a0.fParams.length : Int) + (a0.fLocals.length : Int))) rfl rfl rfl rfl rfl rfl) ?_
      refine rgn hb54 (op_move rfl rfl rfl rfl) ?_
      rcases ite_some hF with ⟨hb55, hF⟩ | ⟨hb55, hF⟩
      · refine rgo_t hb55 ?_
        iterate 3 (refine rgo_t hb55 ?_)
        refine rgn hb54 (op_pick_t rfl rfl hb55 rfl rfl rfl) ?_
        refine rgn rfl (op_pick_t rfl rfl hb54 rfl rfl rfl) ?_
        refine rpf rfl ?_
        refine rmv ?_
        iterate 2 (refine rgo_t rfl ?_)
        refine rpt rfl ?_
        refine rmv ?_
        iterate 6 (refine rgo_t rfl ?_)
        refine rpt rfl ?_
        refine rmv ?_
        iterate 2 (refine rgo_t rfl ?_)
        refine rpt rfl ?_
        refine rmv ?_
        iterate 3 (refine rgo_t rfl ?_)
        refine rpt rfl ?_
        refine reg_nil ?_
        cases hF
        exact post_cut _ rfl (imps [0, 1] ⟨by kernel_rfl, by kernel_rfl, by kernel_rfl, by kernel_rfl, by kernel_rfl, trivial⟩ ⟨by kernel_rfl, by kernel_rfl, trivial⟩)
      refine rgn hb55 (op_load_lp_agg (ps := eGType y33.1) rfl rfl rfl rfl rfl rfl Try_agg_32 rfl rfl) ?_
      refine rgn hb55 (op_field_lp rfl rfl Try_fld_44_1 rfl rfl) ?_
      refine rgn hb55 (op_load_lp_agg (ps := eGType a1.fType) rfl rfl rfl rfl rfl rfl Try_agg_32 rfl rfl) ?_
      refine rgn hb55 (op_eqAgg_neq (r := bGType y33.1 a1.fType) rfl rfl rfl Try_eqt_32 rfl rfl rfl rfl rfl) ?_
      refine rgn hb54 (op_pick_f rfl rfl hb55 rfl rfl rfl) ?_
      refine rgn rfl (op_pick_t rfl rfl hb54 rfl rfl rfl) ?_
      refine rpf rfl ?_
      refine rmv ?_
      rcases ite_some hF with ⟨hb56, hF⟩ | ⟨hb56, hF⟩
      · refine rgo_t hb56 ?_
        refine rgo_t hb56 ?_
        refine rpt hb56 ?_
        refine rmv ?_
        iterate 6 (refine rgo_t rfl ?_)
        refine rpt rfl ?_
        refine rmv ?_
        iterate 2 (refine rgo_t rfl ?_)
        refine rpt rfl ?_
        refine rmv ?_
        iterate 3 (refine rgo_t rfl ?_)
        refine rpt rfl ?_
        refine reg_nil ?_
        cases hF
        exact post_cut _ rfl (imps [0, 1] ⟨by kernel_rfl, by kernel_rfl, by kernel_rfl, by kernel_rfl, by kernel_rfl, trivial⟩ ⟨by kernel_rfl, by kernel_rfl, trivial⟩)
      refine rgn hb56 (op_move rfl rfl rfl rfl) ?_
      refine rgn hb56 (op_not rfl rfl rfl rfl) ?_
      refine rpf hb56 ?_
      refine rmv ?_
      rcases ite_some hF with ⟨hb57, hF⟩ | ⟨hb57, hF⟩
      · refine rgo_t hb57 ?_
        iterate 5 (refine rgo_t hb57 ?_)
        refine rpt hb57 ?_
        refine rmv ?_
        iterate 2 (refine rgo_t rfl ?_)
        refine rpt rfl ?_
        refine rmv ?_
        iterate 3 (refine rgo_t rfl ?_)
        refine rpt rfl ?_
        refine reg_nil ?_
        cases hF
        exact post_cut _ rfl (imps [0, 1] ⟨by kernel_rfl, by kernel_rfl, by kernel_rfl, by kernel_rfl, by kernel_rfl, trivial⟩ ⟨by kernel_rfl, by kernel_rfl, trivial⟩)
      refine rgn hb57 (op_load_lp_agg (ps := eGMethod ({ fName := a0.fName, fPure := a0.fPure, fRet := ({ fKind := a0.fRet.fKind, fClass := a0.fRet.fClass, fN := a0.fRet.fN, fOwn := (⟨({ fKind := a0.fRet.fOwn.a0.fKind, fN := a0.fRet.fOwn.a0.fN } : GOwner), ({ fKind := a0.fRet.fOwn.a1.fKind, fN := a0.fRet.fOwn.a1.fN } : GOwner), ({ fKind := a0.fRet.fOwn.a2.fKind, fN := a0.fRet.fOwn.a2.fN } : GOwner), ({ fKind := a0.fRet.fOwn.a3.fKind, fN := a0.fRet.fOwn.a3.fN } : GOwner)⟩ : A4 GOwner) } : GType), fParams := a0.fParams, fLocals := ((([] : List GVar) ++ a0.fLocals) ++ [a1]), fBody := a0.fBody, fAt := a0.fAt } : GMethod)) rfl rfl rfl rfl rfl rfl Try_agg_35 rfl rfl) ?_
      obtain ⟨y58, h59, hF⟩ := bind_some hF
      refine rgn hb57 (op_call 3 rfl (caps := []) (args := [.agg (eGMethod ({ fName := a0.fName, fPure := a0.fPure, fRet := ({ fKind := a0.fRet.fKind, fClass := a0.fRet.fClass, fN := a0.fRet.fN, fOwn := (⟨({ fKind := a0.fRet.fOwn.a0.fKind, fN := a0.fRet.fOwn.a0.fN } : GOwner), ({ fKind := a0.fRet.fOwn.a1.fKind, fN := a0.fRet.fOwn.a1.fN } : GOwner), ({ fKind := a0.fRet.fOwn.a2.fKind, fN := a0.fRet.fOwn.a2.fN } : GOwner), ({ fKind := a0.fRet.fOwn.a3.fKind, fN := a0.fRet.fOwn.a3.fN } : GOwner)⟩ : A4 GOwner) } : GType), fParams := a0.fParams, fLocals := ((([] : List GVar) ++ a0.fLocals) ++ [a1]), fBody := a0.fBody, fAt := a0.fAt } : GMethod))]) (rs := [.p (.vs 2 (List.map eGVal y58))]) rfl rfl rfl Try_cal_13 (Fn.frozen (scope_Start_ok h59)) rfl rfl rfl) ?_
      refine rgn hb57 (op_len_vs (n := y58.length) rfl rfl (List.length_map ..) Try_slc_45 rfl rfl) ?_
      refine rgn hb57 (op_move rfl rfl rfl rfl) ?_
      refine rgn hb57 (op_int (k := .i64) (m := w_i64 ((a0.fParams.length : Int) + (a0.fLocals.length : Int))) (n := 1) rfl rfl rfl rfl rfl rfl) ?_
      refine rgn hb57 (op_int (k := .i64) (m := (y58.length : Int)) (n := w_i64 ((w_i64 ((a0.fParams.length : Int) + (a0.fLocals.length : Int))) + 1)) rfl rfl rfl rfl rfl rfl) ?_
      refine rpf hb57 ?_
      refine rmv ?_
      rcases ite_some hF with ⟨hb60, hF⟩ | ⟨hb60, hF⟩
      · refine rgo_t hb60 ?_
        refine rgo_t hb60 ?_
        refine rpt hb60 ?_
        refine rmv ?_
        iterate 3 (refine rgo_t rfl ?_)
        refine rpt rfl ?_
        refine reg_nil ?_
        cases hF
        exact post_cut _ rfl (imps [0, 1] ⟨by kernel_rfl, by kernel_rfl, by kernel_rfl, by kernel_rfl, by kernel_rfl, trivial⟩ ⟨by kernel_rfl, by kernel_rfl, trivial⟩)
      refine rgn hb60 (op_move rfl rfl rfl rfl) ?_
      refine rgn hb60 (op_int (k := .i64) (m := y37) (n := (-1)) rfl rfl rfl rfl rfl rfl) ?_
      refine rpf hb60 ?_
      refine rmv ?_
      rcases ite_some hF with ⟨hb61, hF⟩ | ⟨hb61, hF⟩
      · refine rgo_t hb61 ?_
        iterate 2 (refine rgo_t hb61 ?_)
        refine rpt hb61 ?_
        refine reg_nil ?_
        cases hF
        exact post_cut _ rfl (imps [0, 1] ⟨by kernel_rfl, by kernel_rfl, by kernel_rfl, by kernel_rfl, by kernel_rfl, trivial⟩ ⟨by kernel_rfl, by kernel_rfl, trivial⟩)
      iterate 2 (refine rgn hb61 (op_move rfl rfl rfl rfl) ?_)
      refine rgn hb61 (op_int (k := .i64) (m := y37) (n := w_i64 ((a0.fParams.length : Int) + (a0.fLocals.length : Int))) rfl rfl rfl rfl rfl rfl) ?_
      refine rpf hb61 ?_
      refine reg_nil ?_
      cases hF
      exact post_cut _ rfl (imps [0, 1] ⟨by kernel_rfl, by kernel_rfl, by kernel_rfl, by kernel_rfl, by kernel_rfl, trivial⟩ ⟨by kernel_rfl, by kernel_rfl, trivial⟩)
    iterate 4 (refine rgo_f hb54 ?_)
    iterate 4 (refine rgu ?_)
    refine rgo_f hb54 ?_
    refine rgn rfl (op_pick_f rfl rfl hb54 rfl rfl rfl) ?_
    refine rpf rfl ?_
    refine rmv ?_
    refine rgn rfl (op_move rfl rfl rfl rfl) ?_
    refine rgn rfl (op_not rfl rfl rfl rfl) ?_
    refine rpf rfl ?_
    refine rmv ?_
    rcases ite_some hF with ⟨hb62, hF⟩ | ⟨hb62, hF⟩
    · refine rgo_t hb62 ?_
      iterate 5 (refine rgo_t hb62 ?_)
      refine rpt hb62 ?_
      refine rmv ?_
      iterate 2 (refine rgo_t rfl ?_)
      refine rpt rfl ?_
      refine rmv ?_
      iterate 3 (refine rgo_t rfl ?_)
      refine rpt rfl ?_
      refine reg_nil ?_
      cases hF
      exact post_cut _ rfl (imps [0, 1] ⟨by kernel_rfl, by kernel_rfl, by kernel_rfl, by kernel_rfl, by kernel_rfl, trivial⟩ ⟨by kernel_rfl, by kernel_rfl, trivial⟩)
    refine rgn hb62 (op_load_lp_agg (ps := eGMethod ({ fName := a0.fName, fPure := a0.fPure, fRet := ({ fKind := a0.fRet.fKind, fClass := a0.fRet.fClass, fN := a0.fRet.fN, fOwn := (⟨({ fKind := a0.fRet.fOwn.a0.fKind, fN := a0.fRet.fOwn.a0.fN } : GOwner), ({ fKind := a0.fRet.fOwn.a1.fKind, fN := a0.fRet.fOwn.a1.fN } : GOwner), ({ fKind := a0.fRet.fOwn.a2.fKind, fN := a0.fRet.fOwn.a2.fN } : GOwner), ({ fKind := a0.fRet.fOwn.a3.fKind, fN := a0.fRet.fOwn.a3.fN } : GOwner)⟩ : A4 GOwner) } : GType), fParams := a0.fParams, fLocals := ((([] : List GVar) ++ a0.fLocals) ++ [a1]), fBody := a0.fBody, fAt := a0.fAt } : GMethod)) rfl rfl rfl rfl rfl rfl Try_agg_35 rfl rfl) ?_
    obtain ⟨y63, h64, hF⟩ := bind_some hF
    refine rgn hb62 (op_call 3 rfl (caps := []) (args := [.agg (eGMethod ({ fName := a0.fName, fPure := a0.fPure, fRet := ({ fKind := a0.fRet.fKind, fClass := a0.fRet.fClass, fN := a0.fRet.fN, fOwn := (⟨({ fKind := a0.fRet.fOwn.a0.fKind, fN := a0.fRet.fOwn.a0.fN } : GOwner), ({ fKind := a0.fRet.fOwn.a1.fKind, fN := a0.fRet.fOwn.a1.fN } : GOwner), ({ fKind := a0.fRet.fOwn.a2.fKind, fN := a0.fRet.fOwn.a2.fN } : GOwner), ({ fKind := a0.fRet.fOwn.a3.fKind, fN := a0.fRet.fOwn.a3.fN } : GOwner)⟩ : A4 GOwner) } : GType), fParams := a0.fParams, fLocals := ((([] : List GVar) ++ a0.fLocals) ++ [a1]), fBody := a0.fBody, fAt := a0.fAt } : GMethod))]) (rs := [.p (.vs 2 (List.map eGVal y63))]) rfl rfl rfl Try_cal_13 (Fn.frozen (scope_Start_ok h64)) rfl rfl rfl) ?_
    refine rgn hb62 (op_len_vs (n := y63.length) rfl rfl (List.length_map ..) Try_slc_45 rfl rfl) ?_
    refine rgn hb62 (op_move rfl rfl rfl rfl) ?_
    refine rgn hb62 (op_int (k := .i64) (m := w_i64 ((a0.fParams.length : Int) + (a0.fLocals.length : Int))) (n := 1) rfl rfl rfl rfl rfl rfl) ?_
    refine rgn hb62 (op_int (k := .i64) (m := (y63.length : Int)) (n := w_i64 ((w_i64 ((a0.fParams.length : Int) + (a0.fLocals.length : Int))) + 1)) rfl rfl rfl rfl rfl rfl) ?_
    refine rpf hb62 ?_
    refine rmv ?_
    rcases ite_some hF with ⟨hb65, hF⟩ | ⟨hb65, hF⟩
    · refine rgo_t hb65 ?_
      refine rgo_t hb65 ?_
      refine rpt hb65 ?_
      refine rmv ?_
      iterate 3 (refine rgo_t rfl ?_)
      refine rpt rfl ?_
      refine reg_nil ?_
      cases hF
      exact post_cut _ rfl (imps [0, 1] ⟨by kernel_rfl, by kernel_rfl, by kernel_rfl, by kernel_rfl, by kernel_rfl, trivial⟩ ⟨by kernel_rfl, by kernel_rfl, trivial⟩)
    refine rgn hb65 (op_move rfl rfl rfl rfl) ?_
    refine rgn hb65 (op_int (k := .i64) (m := y37) (n := (-1)) rfl rfl rfl rfl rfl rfl) ?_
    refine rpf hb65 ?_
    refine rmv ?_
    rcases ite_some hF with ⟨hb66, hF⟩ | ⟨hb66, hF⟩
    · refine rgo_t hb66 ?_
      iterate 2 (refine rgo_t hb66 ?_)
      refine rpt hb66 ?_
      refine reg_nil ?_
      cases hF
      exact post_cut _ rfl (imps [0, 1] ⟨by kernel_rfl, by kernel_rfl, by kernel_rfl, by kernel_rfl, by kernel_rfl, trivial⟩ ⟨by kernel_rfl, by kernel_rfl, trivial⟩)
    iterate 2 (refine rgn hb66 (op_move rfl rfl rfl rfl) ?_)
    refine rgn hb66 (op_int (k := .i64) (m := y37) (n := w_i64 ((a0.fParams.length : Int) + (a0.fLocals.length : Int))) rfl rfl rfl rfl rfl rfl) ?_
    refine rpf hb66 ?_
    refine reg_nil ?_
    cases hF
    exact post_cut _ rfl (imps [0, 1] ⟨by kernel_rfl, by kernel_rfl, by kernel_rfl, by kernel_rfl, by kernel_rfl, trivial⟩ ⟨by kernel_rfl, by kernel_rfl, trivial⟩)
  rintro _ rfl
  have hF := hK69
  clear hK69
  refine post_next ?_
  rcases ite_some hF with ⟨hb70, hF⟩ | ⟨hb70, hF⟩
  · refine aw_cond_t rfl hb70 ?_
    refine aw_seq ?_
    refine aw_region ?_
    refine ras ?_
    refine reg_nil ?_
    refine post_imp (s' := ⟨118, [(6, some (.pv (.bool false)))], [], 0, [], [], 0, []⟩) (imps [] ⟨by kernel_rfl, trivial⟩ trivial) ?_
    refine post_next ?_
    refine aw_ret ?_
    refine post_then_ret ?_
    obtain rfl := Option.some.inj hF
    exact prt
  refine aw_cond_f rfl hb70 ?_
  refine aw_skip ?_
  refine post_next ?_
  refine aw_seq ?_
  refine aw_region ?_
  refine rmv ?_
  refine rgp (op_field_lp rfl rfl Try_fld_44_0 rfl rfl) ?_
  refine rgp (op_load_lp (v := .pv (.str a1.fName)) rfl rfl rfl rfl Try_one_9 rfl rfl) ?_
  refine rgp (op_str rfl rfl rfl rfl rfl rfl) ?_
  refine rmv ?_
  rcases ite_some hF with ⟨hb71, hF⟩ | ⟨hb71, hF⟩
  · refine rgo_t hb71 ?_
    iterate 4 (refine rgo_t hb71 ?_)
    refine rpt hb71 ?_
    refine rmv ?_
    obtain ⟨y72, h73, hF⟩ := bind_some hF
    refine rgn rfl (op_call 2 rfl (caps := []) (args := []) (rs := [.p (.bool y72)]) rfl rfl rfl Try_cal_6 (law18_awake_ok h73) rfl rfl rfl) ?_
    refine rpt rfl ?_
    refine ras ?_
    refine reg_nil ?_
    refine post_imp (s' := ⟨118, [(6, some (.pv (.bool y72)))], [], 0, [], [], 0, []⟩) (imps [] ⟨by kernel_rfl, trivial⟩ trivial) ?_
    refine post_next ?_
    refine aw_ret ?_
    obtain rfl := Option.some.inj hF
    exact prt
  refine rgn hb71 (op_load_lp_agg (ps := eGMethod ({ fName := a0.fName, fPure := a0.fPure, fRet := ({ fKind := a0.fRet.fKind, fClass := a0.fRet.fClass, fN := a0.fRet.fN, fOwn := (⟨({ fKind := a0.fRet.fOwn.a0.fKind, fN := a0.fRet.fOwn.a0.fN } : GOwner), ({ fKind := a0.fRet.fOwn.a1.fKind, fN := a0.fRet.fOwn.a1.fN } : GOwner), ({ fKind := a0.fRet.fOwn.a2.fKind, fN := a0.fRet.fOwn.a2.fN } : GOwner), ({ fKind := a0.fRet.fOwn.a3.fKind, fN := a0.fRet.fOwn.a3.fN } : GOwner)⟩ : A4 GOwner) } : GType), fParams := a0.fParams, fLocals := ((([] : List GVar) ++ a0.fLocals) ++ [a1]), fBody := a0.fBody, fAt := a0.fAt } : GMethod)) rfl rfl rfl rfl rfl rfl Try_agg_35 rfl rfl) ?_
  refine rgn hb71 (op_move rfl rfl rfl rfl) ?_
  obtain ⟨y74, h75, hF⟩ := bind_some hF
  refine rgn hb71 (op_call 2 rfl (caps := []) (args := [.agg (eGMethod ({ fName := a0.fName, fPure := a0.fPure, fRet := ({ fKind := a0.fRet.fKind, fClass := a0.fRet.fClass, fN := a0.fRet.fN, fOwn := (⟨({ fKind := a0.fRet.fOwn.a0.fKind, fN := a0.fRet.fOwn.a0.fN } : GOwner), ({ fKind := a0.fRet.fOwn.a1.fKind, fN := a0.fRet.fOwn.a1.fN } : GOwner), ({ fKind := a0.fRet.fOwn.a2.fKind, fN := a0.fRet.fOwn.a2.fN } : GOwner), ({ fKind := a0.fRet.fOwn.a3.fKind, fN := a0.fRet.fOwn.a3.fN } : GOwner)⟩ : A4 GOwner) } : GType), fParams := a0.fParams, fLocals := ((([] : List GVar) ++ a0.fLocals) ++ [a1]), fBody := a0.fBody, fAt := a0.fAt } : GMethod)), .str a2]) (rs := [.p (.int .i64 y74)]) rfl rfl rfl Try_cal_9 (scope_Place_ok h75) rfl rfl rfl) ?_
  refine rgn hb71 (op_move rfl rfl rfl rfl) ?_
  refine rgn hb71 (op_int (k := .i64) (m := y74) (n := y37) rfl rfl rfl rfl rfl rfl) ?_
  refine rpf hb71 ?_
  refine rmv ?_
  rcases ite_some hF with ⟨hb76, hF⟩ | ⟨hb76, hF⟩
  · obtain ⟨y77, h78, hF⟩ := bind_some hF
    refine rgn hb76 (op_call 2 rfl (caps := []) (args := []) (rs := [.p (.bool y77)]) rfl rfl rfl Try_cal_6 (law18_awake_ok h78) rfl rfl rfl) ?_
    refine rpt hb76 ?_
    refine ras ?_
    refine reg_nil ?_
    refine post_imp (s' := ⟨118, [(6, some (.pv (.bool y77)))], [], 0, [], [], 0, []⟩) (imps [] ⟨by kernel_rfl, trivial⟩ trivial) ?_
    refine post_next ?_
    refine aw_ret ?_
    obtain rfl := Option.some.inj hF
    exact prt
  refine rgo_f hb76 ?_
  refine rpf hb76 ?_
  refine ras ?_
  refine reg_nil ?_
  refine post_imp (s' := ⟨118, [(6, some (.pv (.bool false)))], [], 0, [], [], 0, []⟩) (imps [] ⟨by kernel_rfl, trivial⟩ trivial) ?_
  refine post_next ?_
  refine aw_ret ?_
  obtain rfl := Option.some.inj hF
  exact prt
end Go.Proofs.Ytiblofbgibjobaa
