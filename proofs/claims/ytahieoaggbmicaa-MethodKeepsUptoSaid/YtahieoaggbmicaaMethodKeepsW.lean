/- A part of the proof that the law MethodKeeps gives true for every input. -/
import Derived.Test.YtahieoaggbmicaaMethodKeepsT
import Derived.Test.YtahieoaggbmicaaMethodKeepsX
import Derived.Test.YtahieoaggbmicaaMethodKeepsI
import Derived.Test.YtahieoaggbmicaaMethodKeepsW2
/- Each Go function computes its plain function. -/
namespace Go.Proofs.Ytahieoaggbmicaa
open Go.RowKit Go.Abs
set_option maxRecDepth 100000
set_option maxHeartbeats 4000000
theorem method_Alike_ok {a0 : GType} {a1 : GType} {r : Bool} (hF : method_Alike a0 a1 = some r) : Abs.Fn Try.prog 21 [.agg (eGType a0), .agg (eGType a1)] [.p (.bool r)] := by
  unfold method_Alike at hF
  refine fn_of_body (n := 30) Try.func21 rfl rfl rfl ?_
  intro w O
  refine aw_seq ?_
  refine aw_region ?_
  refine rgp (op_box 0 rfl rfl rfl rfl rfl rfl) ?_
  refine rgp (op_box 1 rfl rfl rfl rfl rfl rfl) ?_
  refine ras ?_
  refine reg_nil ?_
  refine post_imp (s' := ⟨30, [(2, some (.lp 0 0)), (3, some (.lp 1 0))], [(0, some (.box 29 (bxv (eGType a0)))), (1, some (.box 29 (bxv (eGType a1))))], 2, [], [], 0, []⟩) (imps [0, 1] ⟨by kernel_rfl, by kernel_rfl, trivial⟩ ⟨by kernel_rfl, by kernel_rfl, trivial⟩) ?_
  refine post_next ?_
  iterate 2 (refine aw_seq ?_)
  obtain ⟨x2, hF, hK4⟩ := bind_some hF
  refine aw_cut (fun s1 => s1 = ⟨30, [(2, some (.lp 0 0)), (3, some (.lp 1 0)), (12, some (.pv (.bool x2)))], [(0, some (.box 29 (bxv (eGType a0)))), (1, some (.box 29 (bxv (eGType a1))))], 2, [], [], 0, []⟩) ?_ ?_
  · refine aw_region ?_
    refine rgp (op_field_lp rfl rfl Try_fld_29_0 rfl rfl) ?_
    refine rgp (op_load_lp (v := .pv (.int .i64 a0.fKind)) rfl rfl rfl rfl Try_one_3 rfl rfl) ?_
    refine rgp (op_int (k := .i64) (m := a0.fKind) (n := 2) rfl rfl rfl rfl rfl rfl) ?_
    refine rmv ?_
    rcases ite_some hF with ⟨hb1, hF⟩ | ⟨hb1, hF⟩
    · refine rgo_t hb1 ?_
      iterate 2 (refine rgo_t hb1 ?_)
      refine rpt hb1 ?_
      refine reg_nil ?_
      cases hF
      exact post_cut _ rfl (imps [0, 1] ⟨by kernel_rfl, by kernel_rfl, by kernel_rfl, trivial⟩ ⟨by kernel_rfl, by kernel_rfl, trivial⟩)
    refine rgn hb1 (op_field_lp rfl rfl Try_fld_29_0 rfl rfl) ?_
    refine rgn hb1 (op_load_lp (v := .pv (.int .i64 a1.fKind)) rfl rfl rfl rfl Try_one_3 rfl rfl) ?_
    refine rgn hb1 (op_int (k := .i64) (m := a1.fKind) (n := 2) rfl rfl rfl rfl rfl rfl) ?_
    refine rpf hb1 ?_
    refine reg_nil ?_
    cases hF
    exact post_cut _ rfl (imps [0, 1] ⟨by kernel_rfl, by kernel_rfl, by kernel_rfl, trivial⟩ ⟨by kernel_rfl, by kernel_rfl, trivial⟩)
  rintro _ rfl
  have hF := hK4
  clear hK4
  refine post_next ?_
  rcases ite_some hF with ⟨hb5, hF⟩ | ⟨hb5, hF⟩
  · refine aw_cond_t rfl hb5 ?_
    refine aw_seq ?_
    refine aw_region ?_
    refine rgp (op_field_lp rfl rfl Try_fld_29_0 rfl rfl) ?_
    refine rgp (op_load_lp (v := .pv (.int .i64 a0.fKind)) rfl rfl rfl rfl Try_one_3 rfl rfl) ?_
    refine rgp (op_field_lp rfl rfl Try_fld_29_0 rfl rfl) ?_
    refine rgp (op_load_lp (v := .pv (.int .i64 a1.fKind)) rfl rfl rfl rfl Try_one_3 rfl rfl) ?_
    refine rgp (op_int (k := .i64) (m := a0.fKind) (n := a1.fKind) rfl rfl rfl rfl rfl rfl) ?_
    refine ras ?_
    refine reg_nil ?_
    refine post_imp (s' := ⟨30, [(4, some (.pv (.bool (a0.fKind == a1.fKind))))], [], 0, [], [], 0, []⟩) (imps [] ⟨by kernel_rfl, trivial⟩ trivial) ?_
    refine post_next ?_
    refine aw_ret ?_
    refine post_then_ret ?_
    obtain rfl := Option.some.inj hF
    exact prt
  refine aw_cond_f rfl hb5 ?_
  refine aw_skip ?_
  refine post_next ?_
  refine aw_seq ?_
  refine dr_start ⟨_, _, _⟩ rfl ?_
  refine dr_cons { need := [(2, .lp 0 0)], dst := some 18, val := some (.lp 0 1) } (fun m h => step_on (guard_no rfl) (op_field_lp rfl h.1.1 Try_fld_29_1 rfl rfl) rfl) ⟨⟨rfl, trivial⟩, trivial, trivial⟩ ?_
  refine dr_cons { need := [(18, .lp 0 1)], hneed := [(0, .box 29 (bxv (eGType a0)))], dst := some 19, val := some (.pv (.str a0.fClass)) } (fun m h => step_on (guard_no rfl) (op_load_lp (v := .pv (.str a0.fClass)) rfl h.1.1 h.2.1.1 rfl Try_one_9 rfl rfl) rfl) ⟨⟨rfl, trivial⟩, ⟨rfl, trivial⟩, trivial⟩ ?_
  refine dr_cons { need := [(3, .lp 1 0)], dst := some 20, val := some (.lp 1 1) } (fun m h => step_on (guard_no rfl) (op_field_lp rfl h.1.1 Try_fld_29_1 rfl rfl) rfl) ⟨⟨rfl, trivial⟩, trivial, trivial⟩ ?_
  refine dr_cons { need := [(20, .lp 1 1)], hneed := [(1, .box 29 (bxv (eGType a1)))], dst := some 21, val := some (.pv (.str a1.fClass)) } (fun m h => step_on (guard_no rfl) (op_load_lp (v := .pv (.str a1.fClass)) rfl h.1.1 h.2.1.1 rfl Try_one_9 rfl rfl) rfl) ⟨⟨rfl, trivial⟩, ⟨rfl, trivial⟩, trivial⟩ ?_
  refine dr_cons { need := [(19, .pv (.str a0.fClass)), (21, .pv (.str a1.fClass))], dst := some 22, val := some (.pv (.bool (a0.fClass == a1.fClass))) } (fun m h => step_on (guard_no rfl) (op_str rfl h.1.1 h.1.2.1 rfl rfl rfl) rfl) ⟨⟨rfl, rfl, trivial⟩, trivial, trivial⟩ ?_
  refine drm ?_
  rcases ite_some hF with ⟨hb6, hF⟩ | ⟨hb6, hF⟩
  · refine dr_cons { need := [(23, .pv (.bool (a0.fClass == a1.fClass))), (2, .lp 0 0)], hneed := [(0, .box 29 (bxv (eGType a0)))], dst := some 24, val := some (.pv (.agg (eGType a0))) } (fun m h => step_on (guard_on rfl rfl rfl h.1.1 hb6) (op_load_lp_agg (ps := eGType a0) rfl h.1.2.1 h.2.1.1 rfl rfl rfl Try_agg_29 rfl rfl) rfl) ⟨⟨rfl, rfl, trivial⟩, ⟨rfl, trivial⟩, trivial⟩ ?_
    obtain ⟨y7, h8, hF⟩ := bind_some hF
    refine dr_cons { need := [(23, .pv (.bool (a0.fClass == a1.fClass))), (24, .pv (.agg (eGType a0)))], dst := some 25, val := some (.pv (.bool y7)) } (fun m h => step_on (guard_on rfl rfl rfl h.1.1 hb6) (op_call 2 rfl (caps := []) (args := [.agg (eGType a0)]) (rs := [.p (.bool y7)]) rfl rfl (evl_cons h.1.2.1 evl_nil) Try_cal_52 (kind_Unique_ok h8) rfl rfl rfl) rfl) ⟨⟨rfl, rfl, trivial⟩, trivial, trivial⟩ ?_
    refine dr_cons { need := [(23, .pv (.bool (a0.fClass == a1.fClass))), (3, .lp 1 0)], hneed := [(1, .box 29 (bxv (eGType a1)))], dst := some 26, val := some (.pv (.agg (eGType a1))) } (fun m h => step_on (guard_on rfl rfl rfl h.1.1 hb6) (op_load_lp_agg (ps := eGType a1) rfl h.1.2.1 h.2.1.1 rfl rfl rfl Try_agg_29 rfl rfl) rfl) ⟨⟨rfl, rfl, trivial⟩, ⟨rfl, trivial⟩, trivial⟩ ?_
    obtain ⟨y9, h10, hF⟩ := bind_some hF
    refine dr_cons { need := [(23, .pv (.bool (a0.fClass == a1.fClass))), (26, .pv (.agg (eGType a1)))], dst := some 27, val := some (.pv (.bool y9)) } (fun m h => step_on (guard_on rfl rfl rfl h.1.1 hb6) (op_call 2 rfl (caps := []) (args := [.agg (eGType a1)]) (rs := [.p (.bool y9)]) rfl rfl (evl_cons h.1.2.1 evl_nil) Try_cal_52 (kind_Unique_ok h10) rfl rfl rfl) rfl) ⟨⟨rfl, rfl, trivial⟩, trivial, trivial⟩ ?_
    refine dr_cons { need := [(23, .pv (.bool (a0.fClass == a1.fClass))), (25, .pv (.bool y7)), (27, .pv (.bool y9))], dst := some 28, val := some (.pv (.bool (y7 == y9))) } (fun m h => step_on (guard_on rfl rfl rfl h.1.1 hb6) (op_eqBool_eql rfl h.1.2.1 h.1.2.2.1 Try_und_4 rfl rfl) rfl) ⟨⟨rfl, rfl, rfl, trivial⟩, trivial, trivial⟩ ?_
    refine dr_cons { need := [(23, .pv (.bool (a0.fClass == a1.fClass))), (28, .pv (.bool (y7 == y9)))], dst := some 29, val := some (.pv (.bool (y7 == y9))) } (fun m h => step_on (guard_no rfl) (op_pick_t rfl h.1.1 hb6 h.1.2.1 rfl rfl) rfl) ⟨⟨rfl, rfl, trivial⟩, trivial, trivial⟩ ?_
    refine dr_cons { need := [(29, .pv (.bool (y7 == y9)))], dst := some 4, val := some (.pv (.bool (y7 == y9))) } (fun m h => step_on (guard_no rfl) (op_assign rfl h.1.1 rfl rfl) rfl) ⟨⟨rfl, trivial⟩, trivial, trivial⟩ ?_
    refine dr_nil Try_mixed rfl (by kernel_rfl) ?_
    refine post_imp (s' := ⟨30, [(4, some (.pv (.bool (y7 == y9))))], [], 0, [], [], 0, []⟩) (imps [] ⟨by kernel_rfl, trivial⟩ trivial) ?_
    refine post_next ?_
    refine aw_ret ?_
    obtain rfl := Option.some.inj hF
    exact prt
  iterate 5 (refine dro_f hb6 ?_)
  refine drpf hb6 ?_
  refine dr_cons { need := [(29, .pv (.bool false))], dst := some 4, val := some (.pv (.bool false)) } (fun m h => step_on (guard_no rfl) (op_assign rfl h.1.1 rfl rfl) rfl) ⟨⟨rfl, trivial⟩, trivial, trivial⟩ ?_
  refine dr_nil Try_mixed rfl (by kernel_rfl) ?_
  refine post_imp (s' := ⟨30, [(4, some (.pv (.bool false)))], [], 0, [], [], 0, []⟩) (imps [] ⟨by kernel_rfl, trivial⟩ trivial) ?_
  refine post_next ?_
  refine aw_ret ?_
  obtain rfl := Option.some.inj hF
  exact prt
theorem slices_EqualFunc_api_Var_ok {a0 : List GVar} {a1 : List GVar} {q2 : GVar → GVar → Option Bool} {r : Bool} {q2_f : Nat} {q2_c : List PV} (q2_b : callB Try.prog q2_f = true) (q2_h : ∀ (x0 : GVar) (x1 : GVar) (r : Bool), q2 x0 x1 = some r → Abs.Fn Try.prog q2_f ([.agg (eGVar x0), .agg (eGVar x1)] ++ q2_c) [.p (.bool r)]) (hF : slices_EqualFunc_api_Var a0 a1 q2 = some r) : Abs.Fn Try.prog 76 [.vs 13 (List.map eGVar a0), .vs 13 (List.map eGVar a1), .fn q2_f q2_c] [.p (.bool r)] := by
  unfold slices_EqualFunc_api_Var at hF
  refine fn_of_body (n := 32) Try.func76 rfl rfl rfl ?_
  intro w O
  refine aw_seq ?_
  refine aw_region ?_
  refine ras ?_
  refine reg_nil ?_
  refine post_imp (s' := ⟨32, [(0, some (.pv (.vs 13 (List.map eGVar a0)))), (1, some (.pv (.vs 13 (List.map eGVar a1)))), (2, some (.pv (.fn q2_f q2_c)))], [], 0, [], [], 0, []⟩) (imps [] ⟨by kernel_rfl, by kernel_rfl, by kernel_rfl, trivial⟩ trivial) ?_
  refine post_next ?_
  iterate 2 (refine aw_seq ?_)
  refine aw_region ?_
  refine rmv ?_
  refine rgp (op_len_vs (n := a0.length) rfl rfl (List.length_map ..) Try_slc_30 rfl rfl) ?_
  refine rmv ?_
  refine rgp (op_len_vs (n := a1.length) rfl rfl (List.length_map ..) Try_slc_30 rfl rfl) ?_
  refine rgp (op_int (k := .i64) (m := (a0.length : Int)) (n := (a1.length : Int)) rfl rfl rfl rfl rfl rfl) ?_
  refine reg_nil ?_
  refine post_imp (s' := ⟨32, [(0, some (.pv (.vs 13 (List.map eGVar a0)))), (1, some (.pv (.vs 13 (List.map eGVar a1)))), (2, some (.pv (.fn q2_f q2_c))), (14, some (.pv (.bool ((a0.length : Int) != (a1.length : Int)))))], [], 0, [], [], 0, []⟩) (imps [] ⟨by kernel_rfl, by kernel_rfl, by kernel_rfl, by kernel_rfl, trivial⟩ trivial) ?_
  refine post_next ?_
  rcases ite_some hF with ⟨hb1, hF⟩ | ⟨hb1, hF⟩
  · refine aw_cond_t rfl hb1 ?_
    refine aw_seq ?_
    refine aw_region ?_
    refine ras ?_
    refine reg_nil ?_
    refine post_imp (s' := ⟨32, [(6, some (.pv (.bool false)))], [], 0, [], [], 0, []⟩) (imps [] ⟨by kernel_rfl, trivial⟩ trivial) ?_
    refine post_next ?_
    refine aw_ret ?_
    refine post_then_ret ?_
    obtain rfl := Option.some.inj hF
    exact prt
  refine aw_cond_f rfl hb1 ?_
  refine aw_skip ?_
  refine post_next ?_
  iterate 2 (refine aw_seq ?_)
  refine aw_region ?_
  refine rmv ?_
  refine rgp (op_len_vs (n := a0.length) rfl rfl (List.length_map ..) Try_slc_30 rfl rfl) ?_
  refine rmv ?_
  refine reg_nil ?_
  refine post_imp (s' := ⟨32, [(1, some (.pv (.vs 13 (List.map eGVar a1)))), (2, some (.pv (.fn q2_f q2_c))), (15, some (.pv (.vs 13 (List.map eGVar a0)))), (16, some (.pv (.int .i64 (a0.length : Int)))), (17, some (.pv (.int .i64 0)))], [], 0, [], [], 0, []⟩) (imps [] ⟨by kernel_rfl, by kernel_rfl, by kernel_rfl, by kernel_rfl, by kernel_rfl, trivial⟩ trivial) ?_
  refine post_next ?_
  obtain ⟨lr47, hF, hK48⟩ := bind_some hF
  refine aw_for ((((a0.length : Int) : Int) - (0)).toNat + 1) (fun s1 => ∃ q, lr47 = .next q ∧ s1 = ⟨32, [], [], 0, [], [], 0, []⟩) ?_ ?_
  · refine rnd_loop (α := Int) (fun q => ⟨32, [(1, some (.pv (.vs 13 (List.map eGVar a1)))), (2, some (.pv (.fn q2_f q2_c))), (15, some (.pv (.vs 13 (List.map eGVar a0)))), (16, some (.pv (.int .i64 (a0.length : Int)))), (17, some (.pv (.int .i64 q)))], [], 0, [], [], 0, []⟩) (fun k q => slices_EqualFunc_api_Var_L1 a0 a1 q2 k q = some lr47) 0 (imps [] ⟨by kernel_rfl, by kernel_rfl, by kernel_rfl, by kernel_rfl, by kernel_rfl, trivial⟩ trivial) hF (fun q h => by cases h) ?_
    clear hF
    rintro k x16 hF ih
    refine rnd_succ ?_
    refine aw_seq ?_
    refine aw_region ?_
    refine rgp (op_int (k := .i64) (m := x16) (n := (a0.length : Int)) rfl rfl rfl rfl rfl rfl) ?_
    refine reg_nil ?_
    refine post_imp (s' := ⟨32, [(1, some (.pv (.vs 13 (List.map eGVar a1)))), (2, some (.pv (.fn q2_f q2_c))), (15, some (.pv (.vs 13 (List.map eGVar a0)))), (16, some (.pv (.int .i64 (a0.length : Int)))), (17, some (.pv (.int .i64 x16))), (18, some (.pv (.bool (decide (x16 < (a0.length : Int))))))], [], 0, [], [], 0, []⟩) (imps [] ⟨by kernel_rfl, by kernel_rfl, by kernel_rfl, by kernel_rfl, by kernel_rfl, by kernel_rfl, trivial⟩ trivial) ?_
    refine post_next ?_
    refine aw_seq ?_
    rcases ite_some hF with ⟨hb32, hF⟩ | ⟨hb32, hF⟩
    · refine aw_cond_t rfl hb32 ?_
      refine aw_skip ?_
      refine post_next ?_
      refine aw_seq ?_
      refine aw_block ?_
      refine aw_seq ?_
      refine aw_region ?_
      refine rmv ?_
      obtain ⟨y35, h36, hF⟩ := bind_some hF
      refine rgp (op_index_vs (k := .i64) rfl rfl rfl (idx_map eGVar h36) Try_slc_30 rfl rfl) ?_
      refine rgp (op_load_vp_agg (ps := eGVar y35) rfl rfl rfl rfl Try_agg_50 rfl rfl) ?_
      refine rgp (op_alloc 0 rfl (ps := (eGVar zGVar)) rfl Try_zer_50 (by exact ⟨rfl, rfl, rfl, rfl, rfl, rfl, rfl, rfl, rfl, rfl, rfl, rfl, rfl, trivial⟩) rfl rfl) ?_
      refine ras ?_
      refine rgp (op_store_lp (n := 13) rfl rfl rfl rfl rfl (or_agg Try_agg_50) (by rw [Try_non_50]; rfl) rfl rfl rfl) ?_
      refine reg_nil ?_
      refine post_imp (s' := ⟨32, [(1, some (.pv (.vs 13 (List.map eGVar a1)))), (2, some (.pv (.fn q2_f q2_c))), (7, some (.pv (.int .i64 x16))), (8, some (.lp 0 0)), (15, some (.pv (.vs 13 (List.map eGVar a0)))), (16, some (.pv (.int .i64 (a0.length : Int)))), (17, some (.pv (.int .i64 x16)))], [(0, some (.box 50 (bxv (eGVar y35))))], 1, [], [], 0, []⟩) (imps [0] ⟨by kernel_rfl, by kernel_rfl, by kernel_rfl, by kernel_rfl, by kernel_rfl, by kernel_rfl, by kernel_rfl, trivial⟩ ⟨by kernel_rfl, trivial⟩) ?_
      refine post_next ?_
      refine aw_seq ?_
      refine aw_region ?_
      iterate 2 (refine rmv ?_)
      obtain ⟨y39, h40, hF⟩ := bind_some hF
      refine rgp (op_index_vs (k := .i64) rfl rfl rfl (idx_map eGVar h40) Try_slc_30 rfl rfl) ?_
      refine rgp (op_load_vp_agg (ps := eGVar y39) rfl rfl rfl rfl Try_agg_50 rfl rfl) ?_
      refine rgp (op_alloc 1 rfl (ps := (eGVar zGVar)) rfl Try_zer_50 (by exact ⟨rfl, rfl, rfl, rfl, rfl, rfl, rfl, rfl, rfl, rfl, rfl, rfl, rfl, trivial⟩) rfl rfl) ?_
      refine rgp (op_store_lp (n := 13) rfl rfl rfl rfl rfl (or_agg Try_agg_50) (by rw [Try_non_50]; rfl) rfl rfl rfl) ?_
      refine reg_nil ?_
      refine post_imp (s' := ⟨32, [(1, some (.pv (.vs 13 (List.map eGVar a1)))), (2, some (.pv (.fn q2_f q2_c))), (8, some (.lp 0 0)), (9, some (.lp 1 0)), (15, some (.pv (.vs 13 (List.map eGVar a0)))), (16, some (.pv (.int .i64 (a0.length : Int)))), (17, some (.pv (.int .i64 x16)))], [(0, some (.box 50 (bxv (eGVar y35)))), (1, some (.box 50 (bxv (eGVar y39))))], 2, [], [], 0, []⟩) (imps [0, 1] ⟨by kernel_rfl, by kernel_rfl, by kernel_rfl, by kernel_rfl, by kernel_rfl, by kernel_rfl, by kernel_rfl, trivial⟩ ⟨by kernel_rfl, by kernel_rfl, trivial⟩) ?_
      refine post_next ?_
      refine aw_seq ?_
      refine aw_region ?_
      refine rmv ?_
      refine rgp (op_load_lp_agg (ps := eGVar y35) rfl rfl rfl rfl rfl rfl Try_agg_50 rfl rfl) ?_
      refine rgp (op_load_lp_agg (ps := eGVar y39) rfl rfl rfl rfl rfl rfl Try_agg_50 rfl rfl) ?_
      obtain ⟨y43, h44, hF⟩ := bind_some hF
      refine rgp (op_call 2 rfl (caps := q2_c) (args := [.agg (eGVar y35), .agg (eGVar y39)]) (rs := [.p (.bool y43)]) rfl rfl rfl q2_b (q2_h y35 y39 _ h44) rfl rfl rfl) ?_
      refine rgp (op_not rfl rfl rfl rfl) ?_
      refine reg_nil ?_
      refine post_imp (s' := ⟨32, [(1, some (.pv (.vs 13 (List.map eGVar a1)))), (2, some (.pv (.fn q2_f q2_c))), (15, some (.pv (.vs 13 (List.map eGVar a0)))), (16, some (.pv (.int .i64 (a0.length : Int)))), (17, some (.pv (.int .i64 x16))), (30, some (.pv (.bool (!y43))))], [], 0, [], [], 0, []⟩) (imps [] ⟨by kernel_rfl, by kernel_rfl, by kernel_rfl, by kernel_rfl, by kernel_rfl, by kernel_rfl, trivial⟩ trivial) ?_
      refine post_next ?_
      rcases ite_some hF with ⟨hb45, hF⟩ | ⟨hb45, hF⟩
      · refine aw_cond_t rfl hb45 ?_
        refine aw_seq ?_
        refine aw_region ?_
        refine ras ?_
        refine reg_nil ?_
        refine post_imp (s' := ⟨32, [(6, some (.pv (.bool false)))], [], 0, [], [], 0, []⟩) (imps [] ⟨by kernel_rfl, trivial⟩ trivial) ?_
        refine post_next ?_
        refine aw_ret ?_
        refine post_block_ret ?_
        iterate 2 (refine post_then_ret ?_)
        refine post_lp_ret ?_
        obtain rfl := Option.some.inj hF
        have hF := elim_stop hK48
        refine post_then_ret ?_
        obtain rfl := Option.some.inj hF
        exact prt
      refine aw_cond_f rfl hb45 ?_
      refine aw_skip ?_
      refine post_block_normal ?_
      refine post_next ?_
      refine aw_region ?_
      refine rgp (op_int (k := .i64) (m := x16) (n := 1) rfl rfl rfl rfl rfl rfl) ?_
      refine rmv ?_
      refine reg_nil ?_
      refine post_round ?_
      exact rnd_back (ih (w_i64 (x16 + 1)) hF) (imps [] ⟨by kernel_rfl, by kernel_rfl, by kernel_rfl, by kernel_rfl, by kernel_rfl, trivial⟩ trivial)
    refine aw_cond_f rfl hb32 ?_
    refine aw_exit ?_
    iterate 2 (refine post_then_exit ?_)
    obtain rfl := Option.some.inj hF
    exact post_lp_break _ ⟨_, rfl, rfl⟩ (imps [] trivial trivial)
  rintro _ ⟨⟨⟩, rfl, rfl⟩
  have hF := elim_next hK48
  clear hK48
  refine post_next ?_
  refine aw_seq ?_
  refine aw_region ?_
  refine ras ?_
  refine reg_nil ?_
  refine post_imp (s' := ⟨32, [(6, some (.pv (.bool true)))], [], 0, [], [], 0, []⟩) (imps [] ⟨by kernel_rfl, trivial⟩ trivial) ?_
  refine post_next ?_
  refine aw_ret ?_
  obtain rfl := Option.some.inj hF
  exact prt
theorem method_fits_1_ok {a0 : GVar} {a1 : GVar} {r : Bool} (hF : method_fits_1 a0 a1 = some r) : Abs.Fn Try.prog 77 [.agg (eGVar a0), .agg (eGVar a1)] [.p (.bool r)] := by
  unfold method_fits_1 at hF
  refine fn_of_body (n := 10) Try.func77 rfl rfl rfl ?_
  intro w O
  refine aw_seq ?_
  refine aw_region ?_
  refine rgp (op_box 0 rfl rfl rfl rfl rfl rfl) ?_
  refine rgp (op_box 1 rfl rfl rfl rfl rfl rfl) ?_
  refine ras ?_
  refine reg_nil ?_
  refine post_imp (s' := ⟨10, [(2, some (.lp 0 0)), (3, some (.lp 1 0))], [(0, some (.box 50 (bxv (eGVar a0)))), (1, some (.box 50 (bxv (eGVar a1))))], 2, [], [], 0, []⟩) (imps [0, 1] ⟨by kernel_rfl, by kernel_rfl, trivial⟩ ⟨by kernel_rfl, by kernel_rfl, trivial⟩) ?_
  refine post_next ?_
  refine aw_seq ?_
  refine aw_region ?_
  refine rgp (op_field_lp rfl rfl Try_fld_50_1 rfl rfl) ?_
  refine rgp (op_load_lp_agg (ps := eGType a0.fType) rfl rfl rfl rfl rfl rfl Try_agg_29 rfl rfl) ?_
  refine rgp (op_field_lp rfl rfl Try_fld_50_1 rfl rfl) ?_
  refine rgp (op_load_lp_agg (ps := eGType a1.fType) rfl rfl rfl rfl rfl rfl Try_agg_29 rfl rfl) ?_
  obtain ⟨y1, h2, hF⟩ := bind_some hF
  refine rgp (op_call 2 rfl (caps := []) (args := [.agg (eGType a0.fType), .agg (eGType a1.fType)]) (rs := [.p (.bool y1)]) rfl rfl rfl Try_cal_21 (method_Alike_ok h2) rfl rfl rfl) ?_
  refine ras ?_
  refine reg_nil ?_
  refine post_imp (s' := ⟨10, [(4, some (.pv (.bool y1)))], [], 0, [], [], 0, []⟩) (imps [] ⟨by kernel_rfl, trivial⟩ trivial) ?_
  refine post_next ?_
  refine aw_ret ?_
  obtain rfl := Option.some.inj hF
  exact prt
theorem method_fits_ok {a0 : GMethod} {a1 : GMethod} {r : Bool} (hF : method_fits a0 a1 = some r) : Abs.Fn Try.prog 51 [.agg (eGMethod a0), .agg (eGMethod a1)] [.p (.bool r)] := by
  unfold method_fits at hF
  refine fn_of_body (n := 26) Try.func51 rfl rfl rfl ?_
  intro w O
  refine aw_seq ?_
  refine aw_region ?_
  refine rgp (op_box 0 rfl rfl rfl rfl rfl rfl) ?_
  refine rgp (op_box 1 rfl rfl rfl rfl rfl rfl) ?_
  refine ras ?_
  refine reg_nil ?_
  refine post_imp (s' := ⟨26, [(2, some (.lp 0 0)), (3, some (.lp 1 0))], [(0, some (.box 33 (bxv (eGMethod a0)))), (1, some (.box 33 (bxv (eGMethod a1))))], 2, [], [], 0, []⟩) (imps [0, 1] ⟨by kernel_rfl, by kernel_rfl, trivial⟩ ⟨by kernel_rfl, by kernel_rfl, trivial⟩) ?_
  refine post_next ?_
  refine aw_seq ?_
  refine aw_region ?_
  refine rgp (op_field_lp rfl rfl Try_fld_33_1 rfl rfl) ?_
  refine rgp (op_load_lp (v := .pv (.bool a0.fPure)) rfl rfl rfl rfl Try_one_4 rfl rfl) ?_
  refine rmv ?_
  rcases ite_some hF with ⟨hb1, hF⟩ | ⟨hb1, hF⟩
  · refine rgo_t hb1 ?_
    iterate 2 (refine rgo_t hb1 ?_)
    refine rpt hb1 ?_
    refine rmv ?_
    refine rgn rfl (op_field_lp rfl rfl Try_fld_33_2 rfl rfl) ?_
    refine rgn rfl (op_load_lp_agg (ps := eGType a0.fRet) rfl rfl rfl rfl rfl rfl Try_agg_29 rfl rfl) ?_
    refine rgn rfl (op_field_lp rfl rfl Try_fld_33_2 rfl rfl) ?_
    refine rgn rfl (op_load_lp_agg (ps := eGType a1.fRet) rfl rfl rfl rfl rfl rfl Try_agg_29 rfl rfl) ?_
    obtain ⟨y2, h3, hF⟩ := bind_some hF
    refine rgn rfl (op_call 2 rfl (caps := []) (args := [.agg (eGType a0.fRet), .agg (eGType a1.fRet)]) (rs := [.p (.bool y2)]) rfl rfl rfl Try_cal_21 (method_Alike_ok h3) rfl rfl rfl) ?_
    refine rpt rfl ?_
    refine rmv ?_
    rcases ite_some hF with ⟨hb4, hF⟩ | ⟨hb4, hF⟩
    · refine rgn hb4 (op_field_lp rfl rfl Try_fld_33_3 rfl rfl) ?_
      refine rgn hb4 (op_load_lp (v := .pv (.vs 13 (List.map eGVar a0.fParams))) rfl rfl rfl rfl Try_one_30 rfl rfl) ?_
      refine rgn hb4 (op_field_lp rfl rfl Try_fld_33_3 rfl rfl) ?_
      refine rgn hb4 (op_load_lp (v := .pv (.vs 13 (List.map eGVar a1.fParams))) rfl rfl rfl rfl Try_one_30 rfl rfl) ?_
      obtain ⟨y7, h8, hF⟩ := bind_some hF
      refine rgn hb4 (op_call 2 rfl (caps := []) (args := [.vs 13 (List.map eGVar a0.fParams), .vs 13 (List.map eGVar a1.fParams), .fn 77 []]) (rs := [.p (.bool y7)]) rfl rfl rfl Try_cal_76 (slices_EqualFunc_api_Var_ok (q2_f := 77) (q2_c := []) (q2_b := Try_cal_77) (q2_h := fun _ _ r h => (method_fits_1_ok h)) h8) rfl rfl rfl) ?_
      refine rpt hb4 ?_
      refine ras ?_
      refine reg_nil ?_
      refine post_imp (s' := ⟨26, [(4, some (.pv (.bool y7)))], [], 0, [], [], 0, []⟩) (imps [] ⟨by kernel_rfl, trivial⟩ trivial) ?_
      refine post_next ?_
      refine aw_ret ?_
      obtain rfl := Option.some.inj hF
      exact prt
    iterate 5 (refine rgo_f hb4 ?_)
    refine rpf hb4 ?_
    refine ras ?_
    refine reg_nil ?_
    refine post_imp (s' := ⟨26, [(4, some (.pv (.bool false)))], [], 0, [], [], 0, []⟩) (imps [] ⟨by kernel_rfl, trivial⟩ trivial) ?_
    refine post_next ?_
    refine aw_ret ?_
    obtain rfl := Option.some.inj hF
    exact prt
  refine rgn hb1 (op_field_lp rfl rfl Try_fld_33_1 rfl rfl) ?_
  refine rgn hb1 (op_load_lp (v := .pv (.bool a1.fPure)) rfl rfl rfl rfl Try_one_4 rfl rfl) ?_
  refine rgn hb1 (op_not rfl rfl rfl rfl) ?_
  refine rpf hb1 ?_
  refine rmv ?_
  rcases ite_some hF with ⟨hb9, hF⟩ | ⟨hb9, hF⟩
  · refine rgn hb9 (op_field_lp rfl rfl Try_fld_33_2 rfl rfl) ?_
    refine rgn hb9 (op_load_lp_agg (ps := eGType a0.fRet) rfl rfl rfl rfl rfl rfl Try_agg_29 rfl rfl) ?_
    refine rgn hb9 (op_field_lp rfl rfl Try_fld_33_2 rfl rfl) ?_
    refine rgn hb9 (op_load_lp_agg (ps := eGType a1.fRet) rfl rfl rfl rfl rfl rfl Try_agg_29 rfl rfl) ?_
    obtain ⟨y10, h11, hF⟩ := bind_some hF
    refine rgn hb9 (op_call 2 rfl (caps := []) (args := [.agg (eGType a0.fRet), .agg (eGType a1.fRet)]) (rs := [.p (.bool y10)]) rfl rfl rfl Try_cal_21 (method_Alike_ok h11) rfl rfl rfl) ?_
    refine rpt hb9 ?_
    refine rmv ?_
    rcases ite_some hF with ⟨hb12, hF⟩ | ⟨hb12, hF⟩
    · refine rgn hb12 (op_field_lp rfl rfl Try_fld_33_3 rfl rfl) ?_
      refine rgn hb12 (op_load_lp (v := .pv (.vs 13 (List.map eGVar a0.fParams))) rfl rfl rfl rfl Try_one_30 rfl rfl) ?_
      refine rgn hb12 (op_field_lp rfl rfl Try_fld_33_3 rfl rfl) ?_
      refine rgn hb12 (op_load_lp (v := .pv (.vs 13 (List.map eGVar a1.fParams))) rfl rfl rfl rfl Try_one_30 rfl rfl) ?_
      obtain ⟨y15, h16, hF⟩ := bind_some hF
      refine rgn hb12 (op_call 2 rfl (caps := []) (args := [.vs 13 (List.map eGVar a0.fParams), .vs 13 (List.map eGVar a1.fParams), .fn 77 []]) (rs := [.p (.bool y15)]) rfl rfl rfl Try_cal_76 (slices_EqualFunc_api_Var_ok (q2_f := 77) (q2_c := []) (q2_b := Try_cal_77) (q2_h := fun _ _ r h => (method_fits_1_ok h)) h16) rfl rfl rfl) ?_
      refine rpt hb12 ?_
      refine ras ?_
      refine reg_nil ?_
      refine post_imp (s' := ⟨26, [(4, some (.pv (.bool y15)))], [], 0, [], [], 0, []⟩) (imps [] ⟨by kernel_rfl, trivial⟩ trivial) ?_
      refine post_next ?_
      refine aw_ret ?_
      obtain rfl := Option.some.inj hF
      exact prt
    iterate 5 (refine rgo_f hb12 ?_)
    refine rpf hb12 ?_
    refine ras ?_
    refine reg_nil ?_
    refine post_imp (s' := ⟨26, [(4, some (.pv (.bool false)))], [], 0, [], [], 0, []⟩) (imps [] ⟨by kernel_rfl, trivial⟩ trivial) ?_
    refine post_next ?_
    refine aw_ret ?_
    obtain rfl := Option.some.inj hF
    exact prt
  iterate 5 (refine rgo_f hb9 ?_)
  refine rpf hb9 ?_
  refine rmv ?_
  iterate 5 (refine rgo_f rfl ?_)
  refine rpf rfl ?_
  refine ras ?_
  refine reg_nil ?_
  refine post_imp (s' := ⟨26, [(4, some (.pv (.bool false)))], [], 0, [], [], 0, []⟩) (imps [] ⟨by kernel_rfl, trivial⟩ trivial) ?_
  refine post_next ?_
  refine aw_ret ?_
  obtain rfl := Option.some.inj hF
  exact prt
theorem method_Check_ok {a0 : List GClass} {r : GFault} (hF : method_Check a0 = some r) : Abs.Fn Try.prog 19 [.vs 7 (List.map eGClass a0)] [.p (.agg (eGFault r))] := by
  unfold method_Check at hF
  refine fn_of_body (n := 45) Try.func19 rfl rfl rfl ?_
  intro w O
  refine aw_seq ?_
  refine aw_region ?_
  refine rgp (op_alloc 0 rfl (ps := (eGFault zGFault)) rfl Try_zer_46 (by exact ⟨rfl, rfl, trivial⟩) rfl rfl) ?_
  refine reg_nil ?_
  refine post_imp (s' := ⟨45, [(0, some (.pv (.vs 7 (List.map eGClass a0)))), (2, some (.lp 0 0))], [(0, some (.box 46 (bxv (eGFault zGFault))))], 1, [], [], 0, []⟩) (imps [0] ⟨by kernel_rfl, by kernel_rfl, trivial⟩ ⟨by kernel_rfl, trivial⟩) ?_
  refine post_next ?_
  iterate 2 (refine aw_seq ?_)
  refine aw_region ?_
  refine rmv ?_
  refine rgp (op_len_vs (n := a0.length) rfl rfl (List.length_map ..) Try_slc_22 rfl rfl) ?_
  refine rmv ?_
  refine reg_nil ?_
  refine post_imp (s' := ⟨45, [(0, some (.pv (.vs 7 (List.map eGClass a0)))), (2, some (.lp 0 0)), (9, some (.pv (.vs 7 (List.map eGClass a0)))), (10, some (.pv (.int .i64 (a0.length : Int)))), (11, some (.pv (.int .i64 0)))], [(0, some (.box 46 (bxv (eGFault zGFault))))], 1, [], [], 0, []⟩) (imps [0] ⟨by kernel_rfl, by kernel_rfl, by kernel_rfl, by kernel_rfl, by kernel_rfl, trivial⟩ ⟨by kernel_rfl, trivial⟩) ?_
  refine post_next ?_
  obtain ⟨lr178, hF, hK179⟩ := bind_some hF
  refine aw_for ((((a0.length : Int) : Int) - (0)).toNat + 1) (fun s1 => ∃ q, lr178 = .next q ∧ s1 = ⟨45, [(2, some (.lp 0 0))], [(0, some (.box 46 (bxv (eGFault zGFault))))], 1, [], [], 0, []⟩) ?_ ?_
  · refine rnd_loop (α := Int) (fun q => ⟨45, [(0, some (.pv (.vs 7 (List.map eGClass a0)))), (2, some (.lp 0 0)), (9, some (.pv (.vs 7 (List.map eGClass a0)))), (10, some (.pv (.int .i64 (a0.length : Int)))), (11, some (.pv (.int .i64 q)))], [(0, some (.box 46 (bxv (eGFault zGFault))))], 1, [], [], 0, []⟩) (fun k q => method_Check_L1 a0 k q = some lr178) 0 (imps [0] ⟨by kernel_rfl, by kernel_rfl, by kernel_rfl, by kernel_rfl, by kernel_rfl, trivial⟩ ⟨by kernel_rfl, trivial⟩) hF (fun q h => by cases h) ?_
    clear hF
    rintro k x59 hF ih
    refine rnd_succ ?_
    refine aw_seq ?_
    refine aw_region ?_
    refine rgp (op_int (k := .i64) (m := x59) (n := (a0.length : Int)) rfl rfl rfl rfl rfl rfl) ?_
    refine reg_nil ?_
    refine post_imp (s' := ⟨45, [(0, some (.pv (.vs 7 (List.map eGClass a0)))), (2, some (.lp 0 0)), (9, some (.pv (.vs 7 (List.map eGClass a0)))), (10, some (.pv (.int .i64 (a0.length : Int)))), (11, some (.pv (.int .i64 x59))), (12, some (.pv (.bool (decide (x59 < (a0.length : Int))))))], [(0, some (.box 46 (bxv (eGFault zGFault))))], 1, [], [], 0, []⟩) (imps [0] ⟨by kernel_rfl, by kernel_rfl, by kernel_rfl, by kernel_rfl, by kernel_rfl, by kernel_rfl, trivial⟩ ⟨by kernel_rfl, trivial⟩) ?_
    refine post_next ?_
    refine aw_seq ?_
    rcases ite_some hF with ⟨hb119, hF⟩ | ⟨hb119, hF⟩
    · refine aw_cond_t rfl hb119 ?_
      refine aw_skip ?_
      refine post_next ?_
      refine aw_seq ?_
      refine aw_block ?_
      refine aw_seq ?_
      refine aw_region ?_
      obtain ⟨y122, h123, hF⟩ := bind_some hF
      refine rgp (op_index_vs (k := .i64) rfl rfl rfl (idx_map eGClass h123) Try_slc_22 rfl rfl) ?_
      refine rgp (op_load_vp_agg (ps := eGClass y122) rfl rfl rfl rfl Try_agg_56 rfl rfl) ?_
      refine rgp (op_alloc 1 rfl (ps := (eGClass zGClass)) rfl Try_zer_56 (by exact ⟨rfl, trivial, rfl, trivial, trivial, trivial, rfl, trivial⟩) rfl rfl) ?_
      refine rgp (op_store_lp (n := 7) rfl rfl rfl rfl rfl (or_agg Try_agg_56) (by rw [Try_non_56]; rfl) rfl rfl rfl) ?_
      refine reg_nil ?_
      refine post_imp (s' := ⟨45, [(0, some (.pv (.vs 7 (List.map eGClass a0)))), (2, some (.lp 0 0)), (4, some (.lp 1 0)), (9, some (.pv (.vs 7 (List.map eGClass a0)))), (10, some (.pv (.int .i64 (a0.length : Int)))), (11, some (.pv (.int .i64 x59)))], [(0, some (.box 46 (bxv (eGFault zGFault)))), (1, some (.box 56 (bxv (eGClass y122))))], 2, [], [], 0, []⟩) (imps [0, 1] ⟨by kernel_rfl, by kernel_rfl, by kernel_rfl, by kernel_rfl, by kernel_rfl, by kernel_rfl, trivial⟩ ⟨by kernel_rfl, by kernel_rfl, trivial⟩) ?_
      refine post_next ?_
      refine aw_seq ?_
      refine aw_region ?_
      refine rgp (op_field_lp rfl rfl Try_fld_56_5 rfl rfl) ?_
      refine rgp (op_load_lp (v := .pv (.vs 17 (List.map eGMethod y122.fMethods))) rfl rfl rfl rfl Try_one_54 rfl rfl) ?_
      refine rgp (op_len_vs (n := y122.fMethods.length) rfl rfl (List.length_map ..) Try_slc_54 rfl rfl) ?_
      refine rmv ?_
      refine reg_nil ?_
      refine post_imp (s' := ⟨45, [(0, some (.pv (.vs 7 (List.map eGClass a0)))), (2, some (.lp 0 0)), (4, some (.lp 1 0)), (9, some (.pv (.vs 7 (List.map eGClass a0)))), (10, some (.pv (.int .i64 (a0.length : Int)))), (11, some (.pv (.int .i64 x59))), (16, some (.pv (.vs 17 (List.map eGMethod y122.fMethods)))), (17, some (.pv (.int .i64 (y122.fMethods.length : Int)))), (18, some (.pv (.int .i64 0)))], [(0, some (.box 46 (bxv (eGFault zGFault)))), (1, some (.box 56 (bxv (eGClass y122))))], 2, [], [], 0, []⟩) (imps [0, 1] ⟨by kernel_rfl, by kernel_rfl, by kernel_rfl, by kernel_rfl, by kernel_rfl, by kernel_rfl, by kernel_rfl, by kernel_rfl, by kernel_rfl, trivial⟩ ⟨by kernel_rfl, by kernel_rfl, trivial⟩) ?_
      refine post_next ?_
      obtain ⟨lr175, hF, hK176⟩ := bind_some hF
      refine aw_for ((((y122.fMethods.length : Int) : Int) - (0)).toNat + 1) (fun s1 => ∃ q, lr175 = .next q ∧ s1 = ⟨45, [(0, some (.pv (.vs 7 (List.map eGClass a0)))), (2, some (.lp 0 0)), (9, some (.pv (.vs 7 (List.map eGClass a0)))), (10, some (.pv (.int .i64 (a0.length : Int)))), (11, some (.pv (.int .i64 x59)))], [(0, some (.box 46 (bxv (eGFault zGFault))))], 1, [], [], 0, []⟩) ?_ ?_
      · refine rnd_loop (α := Int) (fun q => ⟨45, [(0, some (.pv (.vs 7 (List.map eGClass a0)))), (2, some (.lp 0 0)), (4, some (.lp 1 0)), (9, some (.pv (.vs 7 (List.map eGClass a0)))), (10, some (.pv (.int .i64 (a0.length : Int)))), (11, some (.pv (.int .i64 x59))), (16, some (.pv (.vs 17 (List.map eGMethod y122.fMethods)))), (17, some (.pv (.int .i64 (y122.fMethods.length : Int)))), (18, some (.pv (.int .i64 q)))], [(0, some (.box 46 (bxv (eGFault zGFault)))), (1, some (.box 56 (bxv (eGClass y122))))], 2, [], [], 0, []⟩) (fun k q => method_Check_L2 a0 y122 k q = some lr175) 0 (imps [0, 1] ⟨by kernel_rfl, by kernel_rfl, by kernel_rfl, by kernel_rfl, by kernel_rfl, by kernel_rfl, by kernel_rfl, by kernel_rfl, by kernel_rfl, trivial⟩ ⟨by kernel_rfl, by kernel_rfl, trivial⟩) hF (fun q h => by cases h) ?_
        clear hF
        rintro k x140 hF ih
        refine rnd_succ ?_
        refine aw_seq ?_
        refine aw_region ?_
        refine rgp (op_int (k := .i64) (m := x140) (n := (y122.fMethods.length : Int)) rfl rfl rfl rfl rfl rfl) ?_
        refine reg_nil ?_
        refine post_imp (s' := ⟨45, [(0, some (.pv (.vs 7 (List.map eGClass a0)))), (2, some (.lp 0 0)), (4, some (.lp 1 0)), (9, some (.pv (.vs 7 (List.map eGClass a0)))), (10, some (.pv (.int .i64 (a0.length : Int)))), (11, some (.pv (.int .i64 x59))), (16, some (.pv (.vs 17 (List.map eGMethod y122.fMethods)))), (17, some (.pv (.int .i64 (y122.fMethods.length : Int)))), (18, some (.pv (.int .i64 x140))), (19, some (.pv (.bool (decide (x140 < (y122.fMethods.length : Int))))))], [(0, some (.box 46 (bxv (eGFault zGFault)))), (1, some (.box 56 (bxv (eGClass y122))))], 2, [], [], 0, []⟩) (imps [0, 1] ⟨by kernel_rfl, by kernel_rfl, by kernel_rfl, by kernel_rfl, by kernel_rfl, by kernel_rfl, by kernel_rfl, by kernel_rfl, by kernel_rfl, by kernel_rfl, trivial⟩ ⟨by kernel_rfl, by kernel_rfl, trivial⟩) ?_
        refine post_next ?_
        refine aw_seq ?_
        rcases ite_some hF with ⟨hb158, hF⟩ | ⟨hb158, hF⟩
        · refine aw_cond_t rfl hb158 ?_
          refine aw_skip ?_
          refine post_next ?_
          refine aw_seq ?_
          refine aw_block ?_
          refine aw_seq ?_
          refine aw_region ?_
          obtain ⟨y161, h162, hF⟩ := bind_some hF
          refine rgp (op_index_vs (k := .i64) rfl rfl rfl (idx_map eGMethod h162) Try_slc_54 rfl rfl) ?_
          refine rgp (op_load_vp_agg (ps := eGMethod y161) rfl rfl rfl rfl Try_agg_33 rfl rfl) ?_
          refine rgp (op_alloc 2 rfl (ps := (eGMethod zGMethod)) rfl Try_zer_33 (by exact ⟨rfl, rfl, rfl, rfl, rfl, rfl, rfl, rfl, rfl, rfl, rfl, rfl, rfl, trivial, trivial, trivial, rfl, trivial⟩) rfl rfl) ?_
          refine rgp (op_store_lp (n := 17) rfl rfl rfl rfl rfl (or_agg Try_agg_33) (by rw [Try_non_33]; rfl) rfl rfl rfl) ?_
          refine reg_nil ?_
          refine post_imp (s' := ⟨45, [(0, some (.pv (.vs 7 (List.map eGClass a0)))), (2, some (.lp 0 0)), (4, some (.lp 1 0)), (6, some (.lp 2 0)), (9, some (.pv (.vs 7 (List.map eGClass a0)))), (10, some (.pv (.int .i64 (a0.length : Int)))), (11, some (.pv (.int .i64 x59))), (16, some (.pv (.vs 17 (List.map eGMethod y122.fMethods)))), (17, some (.pv (.int .i64 (y122.fMethods.length : Int)))), (18, some (.pv (.int .i64 x140)))], [(0, some (.box 46 (bxv (eGFault zGFault)))), (1, some (.box 56 (bxv (eGClass y122)))), (2, some (.box 33 (bxv (eGMethod y161))))], 3, [], [], 0, []⟩) (imps [0, 1, 2] ⟨by kernel_rfl, by kernel_rfl, by kernel_rfl, by kernel_rfl, by kernel_rfl, by kernel_rfl, by kernel_rfl, by kernel_rfl, by kernel_rfl, by kernel_rfl, trivial⟩ ⟨by kernel_rfl, by kernel_rfl, by kernel_rfl, trivial⟩) ?_
          refine post_next ?_
          refine aw_seq ?_
          refine aw_region ?_
          refine rmv ?_
          refine rgp (op_field_lp rfl rfl Try_fld_56_0 rfl rfl) ?_
          refine rgp (op_load_lp (v := .pv (.str y122.fName)) rfl rfl rfl rfl Try_one_9 rfl rfl) ?_
          refine rgp (op_field_lp rfl rfl Try_fld_33_0 rfl rfl) ?_
          refine rgp (op_load_lp (v := .pv (.str y161.fName)) rfl rfl rfl rfl Try_one_9 rfl rfl) ?_
          obtain ⟨y165, h166, hF⟩ := bind_some hF
          refine rgp (op_call 3 rfl (caps := []) (args := [.vs 7 (List.map eGClass a0), .str y122.fName, .str y161.fName]) (rs := [.p (.agg (eGFound_method y165.1)), .p (.bool y165.2)]) rfl rfl rfl Try_cal_14 (method_Over_ok h166) rfl rfl rfl) ?_
          refine rmv ?_
          iterate 2 (refine rgp (op_extract rfl rfl rfl rfl rfl) ?_)
          refine rgp (op_alloc 3 rfl (ps := (eGFound_method zGFound_method)) rfl Try_zer_35 (by exact ⟨rfl, rfl, rfl, rfl, rfl, rfl, rfl, rfl, rfl, rfl, rfl, rfl, rfl, rfl, trivial, trivial, trivial, rfl, trivial⟩) rfl rfl) ?_
          refine rgp (op_store_lp (n := 18) rfl rfl rfl rfl rfl (or_agg Try_agg_35) (by rw [Try_non_35]; rfl) rfl rfl rfl) ?_
          refine ras ?_
          refine reg_nil ?_
          refine post_imp (s' := ⟨45, [(0, some (.pv (.vs 7 (List.map eGClass a0)))), (2, some (.lp 0 0)), (4, some (.lp 1 0)), (6, some (.lp 2 0)), (7, some (.lp 3 0)), (8, some (.pv (.bool y165.2))), (9, some (.pv (.vs 7 (List.map eGClass a0)))), (10, some (.pv (.int .i64 (a0.length : Int)))), (11, some (.pv (.int .i64 x59))), (16, some (.pv (.vs 17 (List.map eGMethod y122.fMethods)))), (17, some (.pv (.int .i64 (y122.fMethods.length : Int)))), (18, some (.pv (.int .i64 x140)))], [(0, some (.box 46 (bxv (eGFault zGFault)))), (1, some (.box 56 (bxv (eGClass y122)))), (2, some (.box 33 (bxv (eGMethod y161)))), (3, some (.box 35 (bxv (eGFound_method y165.1))))], 4, [], [], 0, []⟩) (imps [0, 1, 2, 3] ⟨by kernel_rfl, by kernel_rfl, by kernel_rfl, by kernel_rfl, by kernel_rfl, by kernel_rfl, by kernel_rfl, by kernel_rfl, by kernel_rfl, by kernel_rfl, by kernel_rfl, by kernel_rfl, trivial⟩ ⟨by kernel_rfl, by kernel_rfl, by kernel_rfl, by kernel_rfl, trivial⟩) ?_
          refine post_next ?_
          refine aw_seq ?_
          obtain ⟨x170, hF, hK172⟩ := bind_some hF
          refine aw_cut (fun s1 => s1 = ⟨45, [(0, some (.pv (.vs 7 (List.map eGClass a0)))), (2, some (.lp 0 0)), (4, some (.lp 1 0)), (6, some (.lp 2 0)), (9, some (.pv (.vs 7 (List.map eGClass a0)))), (10, some (.pv (.int .i64 (a0.length : Int)))), (11, some (.pv (.int .i64 x59))), (16, some (.pv (.vs 17 (List.map eGMethod y122.fMethods)))), (17, some (.pv (.int .i64 (y122.fMethods.length : Int)))), (18, some (.pv (.int .i64 x140))), (38, some (.pv (.bool x170)))], [(0, some (.box 46 (bxv (eGFault zGFault)))), (1, some (.box 56 (bxv (eGClass y122)))), (2, some (.box 33 (bxv (eGMethod y161))))], 3, [], [], 0, []⟩) ?_ ?_
          · refine aw_region ?_
            iterate 2 (refine rmv ?_)
            rcases ite_some hF with ⟨hb167, hF⟩ | ⟨hb167, hF⟩
            · refine rgn hb167 (op_load_lp_agg (ps := eGMethod y161) rfl rfl rfl rfl rfl rfl Try_agg_33 rfl rfl) ?_
              refine rgn hb167 (op_field_lp rfl rfl Try_fld_35_1 rfl rfl) ?_
              refine rgn hb167 (op_load_lp_agg (ps := eGMethod y165.1.fMethod) rfl rfl rfl rfl rfl rfl Try_agg_33 rfl rfl) ?_
              obtain ⟨y168, h169, hF⟩ := bind_some hF
              refine rgn hb167 (op_call 4 rfl (caps := []) (args := [.agg (eGMethod y161), .agg (eGMethod y165.1.fMethod)]) (rs := [.p (.bool y168)]) rfl rfl rfl Try_cal_51 (method_fits_ok h169) rfl rfl rfl) ?_
              refine rgn hb167 (op_not rfl rfl rfl rfl) ?_
              refine rpt hb167 ?_
              refine reg_nil ?_
              cases hF
              exact post_cut _ rfl (imps [0, 1, 2] ⟨by kernel_rfl, by kernel_rfl, by kernel_rfl, by kernel_rfl, by kernel_rfl, by kernel_rfl, by kernel_rfl, by kernel_rfl, by kernel_rfl, by kernel_rfl, by kernel_rfl, trivial⟩ ⟨by kernel_rfl, by kernel_rfl, by kernel_rfl, trivial⟩)
            iterate 5 (refine rgo_f hb167 ?_)
            refine rpf hb167 ?_
            refine reg_nil ?_
            cases hF
            exact post_cut _ rfl (imps [0, 1, 2] ⟨by kernel_rfl, by kernel_rfl, by kernel_rfl, by kernel_rfl, by kernel_rfl, by kernel_rfl, by kernel_rfl, by kernel_rfl, by kernel_rfl, by kernel_rfl, by kernel_rfl, trivial⟩ ⟨by kernel_rfl, by kernel_rfl, by kernel_rfl, trivial⟩)
          rintro _ rfl
          have hF := hK172
          clear hK172
          refine post_next ?_
          rcases ite_some hF with ⟨hb173, hF⟩ | ⟨hb173, hF⟩
          · refine aw_cond_t rfl hb173 ?_
            refine aw_seq ?_
            refine aw_region ?_
            refine rgp (op_field_lp rfl rfl Try_fld_33_6 rfl rfl) ?_
            refine rgp (op_load_lp (v := .pv (.int .i64 y161.fAt)) rfl rfl rfl rfl Try_one_3 rfl rfl) ?_
            refine rgp (op_build (zs := (eGFault zGFault)) (r := eGFault ({ fErr := 17, fAt := y161.fAt } : GFault)) rfl Try_zer_46 (by exact ⟨rfl, rfl, trivial⟩) Try_plc_46 rfl rfl rfl rfl) ?_
            refine rgp (op_store_lp (n := 2) rfl rfl rfl rfl rfl (or_agg Try_agg_46) (by rw [Try_non_46]; rfl) rfl rfl rfl) ?_
            refine reg_nil ?_
            refine post_imp (s' := ⟨45, [(2, some (.lp 0 0))], [(0, some (.box 46 (bxv (eGFault ({ fErr := 17, fAt := y161.fAt } : GFault)))))], 1, [], [], 0, []⟩) (imps [0] ⟨by kernel_rfl, trivial⟩ ⟨by kernel_rfl, trivial⟩) ?_
            refine post_next ?_
            refine aw_ret ?_
            refine post_block_ret ?_
            iterate 2 (refine post_then_ret ?_)
            refine post_lp_ret ?_
            obtain rfl := Option.some.inj hF
            have hF := elim_stop hK176
            refine post_block_ret ?_
            iterate 2 (refine post_then_ret ?_)
            refine post_lp_ret ?_
            obtain rfl := Option.some.inj hF
            have hF := elim_stop hK179
            refine post_then_ret ?_
            obtain rfl := Option.some.inj hF
            exact post_ret rfl rfl (.cons _ _ _ _ _ (.agg _ _ _ _ _ 2 _ _ rfl rfl Try_agg_46 rfl rfl rfl) (.p _) .nil) (.inl rfl)
          refine aw_cond_f rfl hb173 ?_
          refine aw_skip ?_
          refine post_block_normal ?_
          refine post_next ?_
          refine aw_region ?_
          refine rgp (op_int (k := .i64) (m := x140) (n := 1) rfl rfl rfl rfl rfl rfl) ?_
          refine rmv ?_
          refine reg_nil ?_
          refine post_round ?_
          exact rnd_back (ih (w_i64 (x140 + 1)) hF) (imps [0, 1] ⟨by kernel_rfl, by kernel_rfl, by kernel_rfl, by kernel_rfl, by kernel_rfl, by kernel_rfl, by kernel_rfl, by kernel_rfl, by kernel_rfl, trivial⟩ ⟨by kernel_rfl, by kernel_rfl, trivial⟩)
        refine aw_cond_f rfl hb158 ?_
        refine aw_exit ?_
        iterate 2 (refine post_then_exit ?_)
        obtain rfl := Option.some.inj hF
        exact post_lp_break _ ⟨_, rfl, rfl⟩ (imps [0] ⟨by kernel_rfl, by kernel_rfl, by kernel_rfl, by kernel_rfl, by kernel_rfl, trivial⟩ ⟨by kernel_rfl, trivial⟩)
      rintro _ ⟨⟨⟩, rfl, rfl⟩
      have hF := elim_next hK176
      clear hK176
      refine post_block_normal ?_
      refine post_next ?_
      refine aw_region ?_
      refine rgp (op_int (k := .i64) (m := x59) (n := 1) rfl rfl rfl rfl rfl rfl) ?_
      refine rmv ?_
      refine reg_nil ?_
      refine post_round ?_
      exact rnd_back (ih (w_i64 (x59 + 1)) hF) (imps [0] ⟨by kernel_rfl, by kernel_rfl, by kernel_rfl, by kernel_rfl, by kernel_rfl, trivial⟩ ⟨by kernel_rfl, trivial⟩)
    refine aw_cond_f rfl hb119 ?_
    refine aw_exit ?_
    iterate 2 (refine post_then_exit ?_)
    obtain rfl := Option.some.inj hF
    exact post_lp_break _ ⟨_, rfl, rfl⟩ (imps [0] ⟨by kernel_rfl, trivial⟩ ⟨by kernel_rfl, trivial⟩)
  rintro _ ⟨⟨⟩, rfl, rfl⟩
  have hF := elim_next hK179
  clear hK179
  refine post_next ?_
  refine aw_seq ?_
  refine aw_region ?_
  refine rgp (op_build (zs := (eGFault zGFault)) (r := eGFault ({ fErr := 0, fAt := 0 } : GFault)) rfl Try_zer_46 (by exact ⟨rfl, rfl, trivial⟩) Try_plc_46 rfl rfl rfl rfl) ?_
  refine rgp (op_store_lp (n := 2) rfl rfl rfl rfl rfl (or_agg Try_agg_46) (by rw [Try_non_46]; rfl) rfl rfl rfl) ?_
  refine reg_nil ?_
  refine post_imp (s' := ⟨45, [(2, some (.lp 0 0))], [(0, some (.box 46 (bxv (eGFault ({ fErr := 0, fAt := 0 } : GFault)))))], 1, [], [], 0, []⟩) (imps [0] ⟨by kernel_rfl, trivial⟩ ⟨by kernel_rfl, trivial⟩) ?_
  refine post_next ?_
  refine aw_ret ?_
  obtain rfl := Option.some.inj hF
  exact post_ret rfl rfl (.cons _ _ _ _ _ (.agg _ _ _ _ _ 2 _ _ rfl rfl Try_agg_46 rfl rfl rfl) (.p _) .nil) (.inl rfl)
theorem ref14_Below_ok {a0 : List GClass} {a1 : List UInt8} {a2 : List UInt8} {r : Bool} (hF : ref14_Below a0 a1 a2 = some r) : Abs.Fn Try.prog 20 [.vs 7 (List.map eGClass a0), .str a1, .str a2] [.p (.bool r)] := by
  unfold ref14_Below at hF
  refine fn_of_body (n := 20) Try.func20 rfl rfl rfl ?_
  intro w O
  refine aw_seq ?_
  refine aw_region ?_
  refine ras ?_
  refine reg_nil ?_
  refine post_imp (s' := ⟨20, [(0, some (.pv (.vs 7 (List.map eGClass a0)))), (1, some (.pv (.str a1))), (2, some (.pv (.str a2)))], [], 0, [], [], 0, []⟩) (imps [] ⟨by kernel_rfl, by kernel_rfl, by kernel_rfl, trivial⟩ trivial) ?_
  refine post_next ?_
  refine aw_seq ?_
  refine aw_region ?_
  iterate 2 (refine rmv ?_)
  obtain ⟨y3, h4, hF⟩ := bind_some hF
  refine rgp (op_call 0 rfl (caps := []) (args := [.vs 7 (List.map eGClass a0), .str a2]) (rs := [.p (.int .i64 y3)]) rfl rfl rfl Try_cal_50 (ref13_Find_ok h4) rfl rfl rfl) ?_
  refine ras ?_
  refine reg_nil ?_
  refine post_imp (s' := ⟨20, [(0, some (.pv (.vs 7 (List.map eGClass a0)))), (1, some (.pv (.str a1))), (7, some (.pv (.int .i64 y3)))], [], 0, [], [], 0, []⟩) (imps [] ⟨by kernel_rfl, by kernel_rfl, by kernel_rfl, trivial⟩ trivial) ?_
  refine post_next ?_
  refine aw_seq ?_
  refine aw_region ?_
  refine rmv ?_
  refine rgp (op_int (k := .i64) (m := y3) (n := 0) rfl rfl rfl rfl rfl rfl) ?_
  refine rmv ?_
  rcases ite_some hF with ⟨hb5, hF⟩ | ⟨hb5, hF⟩
  · refine rgn hb5 (op_move rfl rfl rfl rfl) ?_
    refine rgn hb5 (op_move rfl rfl rfl rfl) ?_
    obtain ⟨y6, h7, hF⟩ := bind_some hF
    refine rgn hb5 (op_call 0 rfl (caps := []) (args := [.vs 7 (List.map eGClass a0), .str a1]) (rs := [.p (.vs 1 (List.map eI y6))]) rfl rfl rfl Try_cal_44 (Fn.frozen (ref14_Chain_ok h7)) rfl rfl rfl) ?_
    refine rgn hb5 (op_move rfl rfl rfl rfl) ?_
    obtain ⟨y8, h9, hF⟩ := bind_some hF
    refine rgn hb5 (op_call 0 rfl (caps := []) (args := [.vs 1 (List.map eI y6), .int .i64 y3]) (rs := [.p (.bool y8)]) rfl rfl rfl Try_cal_49 (ref14_has_ok h9) rfl rfl rfl) ?_
    refine rpt hb5 ?_
    refine ras ?_
    refine reg_nil ?_
    refine post_imp (s' := ⟨20, [(6, some (.pv (.bool y8)))], [], 0, [], [], 0, []⟩) (imps [] ⟨by kernel_rfl, trivial⟩ trivial) ?_
    refine post_next ?_
    refine aw_ret ?_
    obtain rfl := Option.some.inj hF
    exact prt
  iterate 5 (refine rgo_f hb5 ?_)
  refine rpf hb5 ?_
  refine ras ?_
  refine reg_nil ?_
  refine post_imp (s' := ⟨20, [(6, some (.pv (.bool false)))], [], 0, [], [], 0, []⟩) (imps [] ⟨by kernel_rfl, trivial⟩ trivial) ?_
  refine post_next ?_
  refine aw_ret ?_
  obtain rfl := Option.some.inj hF
  exact prt
theorem law17_awake_ok  {r : Bool} (hF : law17_awake = some r) : Abs.Fn Try.prog 11 [] [.p (.bool r)] := by
  unfold law17_awake at hF
  refine fn_of_body (n := 23) Try.func11 rfl rfl rfl ?_
  intro w O
  refine aw_seq ?_
  refine aw_region ?_
  refine ras ?_
  refine reg_nil ?_
  refine post_imp (s' := ⟨23, [], [], 0, [], [], 0, []⟩) (imps [] trivial trivial) ?_
  refine post_next ?_
  refine aw_seq ?_
  refine aw_region ?_
  refine rgp (op_build (zs := (eGType zGType)) (r := eGType ({ fKind := 1, fClass := [], fN := 0, fOwn := (⟨zGOwner, zGOwner, zGOwner, zGOwner⟩ : A4 GOwner) } : GType)) rfl Try_zer_29 (by exact ⟨rfl, rfl, rfl, rfl, rfl, rfl, rfl, rfl, rfl, rfl, rfl, trivial⟩) Try_plc_29 rfl rfl rfl rfl) ?_
  refine rgp (op_build (zs := (eGVar zGVar)) (r := eGVar ({ fName := [120], fType := ({ fKind := 1, fClass := [], fN := 0, fOwn := (⟨zGOwner, zGOwner, zGOwner, zGOwner⟩ : A4 GOwner) } : GType), fAt := 0 } : GVar)) rfl Try_zer_50 (by exact ⟨rfl, rfl, rfl, rfl, rfl, rfl, rfl, rfl, rfl, rfl, rfl, rfl, rfl, trivial⟩) Try_plc_50 rfl rfl rfl rfl) ?_
  refine rgp (op_lit (rows := List.map eGVar ([({ fName := [120], fType := ({ fKind := 1, fClass := [], fN := 0, fOwn := (⟨zGOwner, zGOwner, zGOwner, zGOwner⟩ : A4 GOwner) } : GType), fAt := 0 } : GVar)] : List GVar)) (zs := (eGVar zGVar)) rfl rfl Try_slc_30 Try_zer_50 (by exact ⟨rfl, rfl, rfl, rfl, rfl, rfl, rfl, rfl, rfl, rfl, rfl, rfl, rfl, trivial⟩) rfl rfl rfl rfl rfl rfl rfl rfl) ?_
  refine rgp (op_build (zs := (eGMethod zGMethod)) (r := eGMethod ({ fName := [109], fPure := false, fRet := zGType, fParams := [({ fName := [120], fType := ({ fKind := 1, fClass := [], fN := 0, fOwn := (⟨zGOwner, zGOwner, zGOwner, zGOwner⟩ : A4 GOwner) } : GType), fAt := 0 } : GVar)], fLocals := [], fBody := [], fAt := 0 } : GMethod)) rfl Try_zer_33 (by exact ⟨rfl, rfl, rfl, rfl, rfl, rfl, rfl, rfl, rfl, rfl, rfl, rfl, rfl, trivial, trivial, trivial, rfl, trivial⟩) Try_plc_33 rfl rfl rfl rfl) ?_
  refine rgp (op_lit (rows := List.map eGMethod ([({ fName := [109], fPure := false, fRet := zGType, fParams := [({ fName := [120], fType := ({ fKind := 1, fClass := [], fN := 0, fOwn := (⟨zGOwner, zGOwner, zGOwner, zGOwner⟩ : A4 GOwner) } : GType), fAt := 0 } : GVar)], fLocals := [], fBody := [], fAt := 0 } : GMethod)] : List GMethod)) (zs := (eGMethod zGMethod)) rfl rfl Try_slc_54 Try_zer_33 (by exact ⟨rfl, rfl, rfl, rfl, rfl, rfl, rfl, rfl, rfl, rfl, rfl, rfl, rfl, trivial, trivial, trivial, rfl, trivial⟩) rfl rfl rfl rfl rfl rfl rfl rfl) ?_
  refine rgp (op_build (zs := (eGClass zGClass)) (r := eGClass ({ fName := [65], fParams := [], fSuper := [], fAbove := [], fFields := [], fMethods := [({ fName := [109], fPure := false, fRet := zGType, fParams := [({ fName := [120], fType := ({ fKind := 1, fClass := [], fN := 0, fOwn := (⟨zGOwner, zGOwner, zGOwner, zGOwner⟩ : A4 GOwner) } : GType), fAt := 0 } : GVar)], fLocals := [], fBody := [], fAt := 0 } : GMethod)], fAt := 0 } : GClass)) rfl Try_zer_56 (by exact ⟨rfl, trivial, rfl, trivial, trivial, trivial, rfl, trivial⟩) Try_plc_56 rfl rfl rfl rfl) ?_
  refine rgp (op_build (zs := (eGMethod zGMethod)) (r := eGMethod ({ fName := [109], fPure := false, fRet := zGType, fParams := [], fLocals := [], fBody := [], fAt := 40 } : GMethod)) rfl Try_zer_33 (by exact ⟨rfl, rfl, rfl, rfl, rfl, rfl, rfl, rfl, rfl, rfl, rfl, rfl, rfl, trivial, trivial, trivial, rfl, trivial⟩) Try_plc_33 rfl rfl rfl rfl) ?_
  refine rgp (op_lit (rows := List.map eGMethod ([({ fName := [109], fPure := false, fRet := zGType, fParams := [], fLocals := [], fBody := [], fAt := 40 } : GMethod)] : List GMethod)) (zs := (eGMethod zGMethod)) rfl rfl Try_slc_54 Try_zer_33 (by exact ⟨rfl, rfl, rfl, rfl, rfl, rfl, rfl, rfl, rfl, rfl, rfl, rfl, rfl, trivial, trivial, trivial, rfl, trivial⟩) rfl rfl rfl rfl rfl rfl rfl rfl) ?_
  refine rgp (op_build (zs := (eGClass zGClass)) (r := eGClass ({ fName := [66], fParams := [], fSuper := [65], fAbove := [], fFields := [], fMethods := [({ fName := [109], fPure := false, fRet := zGType, fParams := [], fLocals := [], fBody := [], fAt := 40 } : GMethod)], fAt := 0 } : GClass)) rfl Try_zer_56 (by exact ⟨rfl, trivial, rfl, trivial, trivial, trivial, rfl, trivial⟩) Try_plc_56 rfl rfl rfl rfl) ?_
  refine rgp (op_lit (rows := List.map eGClass ([({ fName := [65], fParams := [], fSuper := [], fAbove := [], fFields := [], fMethods := [({ fName := [109], fPure := false, fRet := zGType, fParams := [({ fName := [120], fType := ({ fKind := 1, fClass := [], fN := 0, fOwn := (⟨zGOwner, zGOwner, zGOwner, zGOwner⟩ : A4 GOwner) } : GType), fAt := 0 } : GVar)], fLocals := [], fBody := [], fAt := 0 } : GMethod)], fAt := 0 } : GClass), ({ fName := [66], fParams := [], fSuper := [65], fAbove := [], fFields := [], fMethods := [({ fName := [109], fPure := false, fRet := zGType, fParams := [], fLocals := [], fBody := [], fAt := 40 } : GMethod)], fAt := 0 } : GClass)] : List GClass)) (zs := (eGClass zGClass)) rfl rfl Try_slc_22 Try_zer_56 (by exact ⟨rfl, trivial, rfl, trivial, trivial, trivial, rfl, trivial⟩) rfl rfl rfl rfl rfl rfl rfl rfl) ?_
  refine ras ?_
  refine reg_nil ?_
  refine post_imp (s' := ⟨23, [(1, some (.pv (.vs 7 (List.map eGClass [({ fName := [65], fParams := [], fSuper := [], fAbove := [], fFields := [], fMethods := [({ fName := [109], fPure := false, fRet := zGType, fParams := [({ fName := [120], fType := ({ fKind := 1, fClass := [], fN := 0, fOwn := (⟨zGOwner, zGOwner, zGOwner, zGOwner⟩ : A4 GOwner) } : GType), fAt := 0 } : GVar)], fLocals := [], fBody := [], fAt := 0 } : GMethod)], fAt := 0 } : GClass), ({ fName := [66], fParams := [], fSuper := [65], fAbove := [], fFields := [], fMethods := [({ fName := [109], fPure := false, fRet := zGType, fParams := [], fLocals := [], fBody := [], fAt := 40 } : GMethod)], fAt := 0 } : GClass)]))))], [], 0, [], [], 0, []⟩) (imps [] ⟨by kernel_rfl, trivial⟩ trivial) ?_
  refine post_next ?_
  refine aw_seq ?_
  refine aw_region ?_
  refine rmv ?_
  obtain ⟨y1, h2, hF⟩ := bind_some hF
  refine rgp (op_call 0 rfl (caps := []) (args := [.vs 7 (List.map eGClass [({ fName := [65], fParams := [], fSuper := [], fAbove := [], fFields := [], fMethods := [({ fName := [109], fPure := false, fRet := zGType, fParams := [({ fName := [120], fType := ({ fKind := 1, fClass := [], fN := 0, fOwn := (⟨zGOwner, zGOwner, zGOwner, zGOwner⟩ : A4 GOwner) } : GType), fAt := 0 } : GVar)], fLocals := [], fBody := [], fAt := 0 } : GMethod)], fAt := 0 } : GClass), ({ fName := [66], fParams := [], fSuper := [65], fAbove := [], fFields := [], fMethods := [({ fName := [109], fPure := false, fRet := zGType, fParams := [], fLocals := [], fBody := [], fAt := 40 } : GMethod)], fAt := 0 } : GClass)])]) (rs := [.p (.agg (eGFault y1))]) rfl rfl rfl Try_cal_19 (method_Check_ok h2) rfl rfl rfl) ?_
  refine rgp (op_build (zs := (eGFault zGFault)) (r := eGFault ({ fErr := 17, fAt := 40 } : GFault)) rfl Try_zer_46 (by exact ⟨rfl, rfl, trivial⟩) Try_plc_46 rfl rfl rfl rfl) ?_
  refine rgp (op_eqAgg_eql (r := bGFault y1 ({ fErr := 17, fAt := 40 } : GFault)) rfl rfl rfl Try_eqt_46 rfl rfl rfl rfl rfl) ?_
  refine rmv ?_
  rcases ite_some hF with ⟨hb3, hF⟩ | ⟨hb3, hF⟩
  · refine rgn hb3 (op_move rfl rfl rfl rfl) ?_
    obtain ⟨y4, h5, hF⟩ := bind_some hF
    refine rgn hb3 (op_slice_vs (nl := none) (nh := (some 1)) (nm := none) rfl rfl rfl rfl rfl (.inl rfl) Try_slc_22 (cut_map (nl := none) (nh := (some 1)) eGClass h5) rfl rfl) ?_
    obtain ⟨y6, h7, hF⟩ := bind_some hF
    refine rgn hb3 (op_call 0 rfl (caps := []) (args := [.vs 7 (List.map eGClass y4)]) (rs := [.p (.agg (eGFault y6))]) rfl rfl rfl Try_cal_19 (method_Check_ok h7) rfl rfl rfl) ?_
    refine rgn hb3 (op_build (zs := (eGFault zGFault)) (r := eGFault ({ fErr := 0, fAt := 0 } : GFault)) rfl Try_zer_46 (by exact ⟨rfl, rfl, trivial⟩) Try_plc_46 rfl rfl rfl rfl) ?_
    refine rgn hb3 (op_eqAgg_eql (r := bGFault y6 ({ fErr := 0, fAt := 0 } : GFault)) rfl rfl rfl Try_eqt_46 rfl rfl rfl rfl rfl) ?_
    refine rpt hb3 ?_
    refine ras ?_
    refine reg_nil ?_
    refine post_imp (s' := ⟨23, [(0, some (.pv (.bool (bGFault y6 ({ fErr := 0, fAt := 0 } : GFault)))))], [], 0, [], [], 0, []⟩) (imps [] ⟨by kernel_rfl, trivial⟩ trivial) ?_
    refine post_next ?_
    refine aw_ret ?_
    obtain rfl := Option.some.inj hF
    exact prt
  iterate 5 (refine rgo_f hb3 ?_)
  refine rpf hb3 ?_
  refine ras ?_
  refine reg_nil ?_
  refine post_imp (s' := ⟨23, [(0, some (.pv (.bool false)))], [], 0, [], [], 0, []⟩) (imps [] ⟨by kernel_rfl, trivial⟩ trivial) ?_
  refine post_next ?_
  refine aw_ret ?_
  obtain rfl := Option.some.inj hF
  exact prt
theorem method_Find_ok {a0 : List GClass} {a1 : List UInt8} {a2 : List UInt8} {r : GFound_method × Bool} (hF : method_Find a0 a1 a2 = some r) : Abs.Fn Try.prog 12 [.vs 7 (List.map eGClass a0), .str a1, .str a2] [.p (.agg (eGFound_method r.1)), .p (.bool r.2)] := by
  unfold method_Find at hF
  refine fn_of_body (n := 16) Try.func12 rfl rfl rfl ?_
  intro w O
  refine aw_seq ?_
  refine aw_region ?_
  refine rgp (op_alloc 0 rfl (ps := (eGFound_method zGFound_method)) rfl Try_zer_35 (by exact ⟨rfl, rfl, rfl, rfl, rfl, rfl, rfl, rfl, rfl, rfl, rfl, rfl, rfl, rfl, trivial, trivial, trivial, rfl, trivial⟩) rfl rfl) ?_
  refine ras ?_
  refine reg_nil ?_
  refine post_imp (s' := ⟨16, [(0, some (.pv (.vs 7 (List.map eGClass a0)))), (1, some (.pv (.str a1))), (2, some (.pv (.str a2))), (6, some (.lp 0 0))], [(0, some (.box 35 (bxv (eGFound_method zGFound_method))))], 1, [], [], 0, []⟩) (imps [0] ⟨by kernel_rfl, by kernel_rfl, by kernel_rfl, by kernel_rfl, trivial⟩ ⟨by kernel_rfl, trivial⟩) ?_
  refine post_next ?_
  refine aw_seq ?_
  refine aw_region ?_
  iterate 3 (refine rmv ?_)
  obtain ⟨y1, h2, hF⟩ := bind_some hF
  refine rgp (op_call 1 rfl (caps := []) (args := [.vs 7 (List.map eGClass a0), .str a1]) (rs := [.p (.vs 1 (List.map eI y1))]) rfl rfl rfl Try_cal_42 (Fn.frozen (above_Chain_ok h2)) rfl rfl rfl) ?_
  refine rmv ?_
  obtain ⟨y3, h4, hF⟩ := bind_some hF
  refine rgp (op_call 1 rfl (caps := []) (args := [.vs 7 (List.map eGClass a0), .vs 1 (List.map eI y1), .str a2]) (rs := [.p (.agg (eGFound_method y3.1)), .p (.bool y3.2)]) rfl rfl rfl Try_cal_41 (method_first_ok h4) rfl rfl rfl) ?_
  iterate 2 (refine rgp (op_extract rfl rfl rfl rfl rfl) ?_)
  refine rgp (op_store_lp (n := 18) rfl rfl rfl rfl rfl (or_agg Try_agg_35) (by rw [Try_non_35]; rfl) rfl rfl rfl) ?_
  refine ras ?_
  refine reg_nil ?_
  refine post_imp (s' := ⟨16, [(6, some (.lp 0 0)), (7, some (.pv (.bool y3.2)))], [(0, some (.box 35 (bxv (eGFound_method y3.1))))], 1, [], [], 0, []⟩) (imps [0] ⟨by kernel_rfl, by kernel_rfl, trivial⟩ ⟨by kernel_rfl, trivial⟩) ?_
  refine post_next ?_
  refine aw_ret ?_
  obtain rfl := Option.some.inj hF
  exact post_ret rfl rfl (.cons _ _ _ _ _ (.agg _ _ _ _ _ 18 _ _ rfl rfl Try_agg_35 rfl rfl rfl) (.p _) (.cons _ _ _ _ _ (.tmp _ _ rfl) (.p _) .nil)) (.inl rfl)
theorem law17_MethodKeeps_ok {a0 : List GClass} {a1 : A2 (List UInt8)} {a2 : List UInt8} {r : Bool} (hF : law17_MethodKeeps a0 a1 a2 = some r) : Abs.Fn Try.prog 4 [.vs 7 (List.map eGClass a0), .agg ((eA2 eS) a1), .str a2] [.p (.bool r)] := by
  unfold law17_MethodKeeps at hF
  refine fn_of_body (n := 129) Try.func4 rfl rfl rfl ?_
  intro w O
  refine aw_seq ?_
  refine aw_region ?_
  refine rgp (op_box 0 rfl rfl rfl rfl rfl rfl) ?_
  refine ras ?_
  refine reg_nil ?_
  refine post_imp (s' := ⟨129, [(0, some (.pv (.vs 7 (List.map eGClass a0)))), (2, some (.pv (.str a2))), (4, some (.lp 0 0))], [(0, some (.box 43 (bxv ((eA2 eS) a1))))], 1, [], [], 0, []⟩) (imps [0] ⟨by kernel_rfl, by kernel_rfl, by kernel_rfl, trivial⟩ ⟨by kernel_rfl, trivial⟩) ?_
  refine post_next ?_
  iterate 2 (refine aw_seq ?_)
  obtain ⟨x17, hF, hK19⟩ := bind_some hF
  refine aw_cut (fun s1 => s1 = ⟨129, [(0, some (.pv (.vs 7 (List.map eGClass a0)))), (2, some (.pv (.str a2))), (4, some (.lp 0 0)), (40, some (.pv (.bool x17)))], [(0, some (.box 43 (bxv ((eA2 eS) a1))))], 1, [], [], 0, []⟩) ?_ ?_
  · refine aw_region ?_
    refine rmv ?_
    obtain ⟨y3, h4, hF⟩ := bind_some hF
    refine rgp (op_call 1 rfl (caps := []) (args := [.vs 7 (List.map eGClass a0)]) (rs := [.p (.bool y3)]) rfl rfl rfl Try_cal_10 (ref10_Heavy_ok h4) rfl rfl rfl) ?_
    refine rmv ?_
    rcases ite_some hF with ⟨hb5, hF⟩ | ⟨hb5, hF⟩
    · refine rgo_t hb5 ?_
      iterate 3 (refine rgo_t hb5 ?_)
      refine rpt hb5 ?_
      refine rmv ?_
      iterate 4 (refine rgo_t rfl ?_)
      refine rpt rfl ?_
      refine rmv ?_
      iterate 4 (refine rgo_t rfl ?_)
      refine rpt rfl ?_
      refine rmv ?_
      iterate 7 (refine rgo_t rfl ?_)
      refine rpt rfl ?_
      refine reg_nil ?_
      cases hF
      exact post_cut _ rfl (imps [0] ⟨by kernel_rfl, by kernel_rfl, by kernel_rfl, by kernel_rfl, trivial⟩ ⟨by kernel_rfl, trivial⟩)
    refine rgn hb5 (op_move rfl rfl rfl rfl) ?_
    obtain ⟨y6, h7, hF⟩ := bind_some hF
    refine rgn hb5 (op_call 1 rfl (caps := []) (args := [.vs 7 (List.map eGClass a0)]) (rs := [.p (.agg (eGFault y6))]) rfl rfl rfl Try_cal_17 (ref13_Check_ok h7) rfl rfl rfl) ?_
    refine rgn hb5 (op_field1 (p := .int .i64 y6.fErr) rfl rfl Try_ftb_46_0 Try_one_44 rfl rfl rfl) ?_
    refine rgn hb5 (op_int (k := .i64) (m := y6.fErr) (n := 0) rfl rfl rfl rfl rfl rfl) ?_
    refine rpf hb5 ?_
    refine rmv ?_
    rcases ite_some hF with ⟨hb8, hF⟩ | ⟨hb8, hF⟩
    · refine rgo_t hb8 ?_
      iterate 3 (refine rgo_t hb8 ?_)
      refine rpt hb8 ?_
      refine rmv ?_
      iterate 4 (refine rgo_t rfl ?_)
      refine rpt rfl ?_
      refine rmv ?_
      iterate 7 (refine rgo_t rfl ?_)
      refine rpt rfl ?_
      refine reg_nil ?_
      cases hF
      exact post_cut _ rfl (imps [0] ⟨by kernel_rfl, by kernel_rfl, by kernel_rfl, by kernel_rfl, trivial⟩ ⟨by kernel_rfl, trivial⟩)
    refine rgn hb8 (op_move rfl rfl rfl rfl) ?_
    obtain ⟨y9, h10, hF⟩ := bind_some hF
    refine rgn hb8 (op_call 1 rfl (caps := []) (args := [.vs 7 (List.map eGClass a0)]) (rs := [.p (.agg (eGFault y9))]) rfl rfl rfl Try_cal_18 (ref14_Check_ok h10) rfl rfl rfl) ?_
    refine rgn hb8 (op_field1 (p := .int .i64 y9.fErr) rfl rfl Try_ftb_46_0 Try_one_44 rfl rfl rfl) ?_
    refine rgn hb8 (op_int (k := .i64) (m := y9.fErr) (n := 0) rfl rfl rfl rfl rfl rfl) ?_
    refine rpf hb8 ?_
    refine rmv ?_
    rcases ite_some hF with ⟨hb11, hF⟩ | ⟨hb11, hF⟩
    · refine rgo_t hb11 ?_
      iterate 3 (refine rgo_t hb11 ?_)
      refine rpt hb11 ?_
      refine rmv ?_
      iterate 7 (refine rgo_t rfl ?_)
      refine rpt rfl ?_
      refine reg_nil ?_
      cases hF
      exact post_cut _ rfl (imps [0] ⟨by kernel_rfl, by kernel_rfl, by kernel_rfl, by kernel_rfl, trivial⟩ ⟨by kernel_rfl, trivial⟩)
    refine rgn hb11 (op_move rfl rfl rfl rfl) ?_
    obtain ⟨y12, h13, hF⟩ := bind_some hF
    refine rgn hb11 (op_call 1 rfl (caps := []) (args := [.vs 7 (List.map eGClass a0)]) (rs := [.p (.agg (eGFault y12))]) rfl rfl rfl Try_cal_19 (method_Check_ok h13) rfl rfl rfl) ?_
    refine rgn hb11 (op_field1 (p := .int .i64 y12.fErr) rfl rfl Try_ftb_46_0 Try_one_44 rfl rfl rfl) ?_
    refine rgn hb11 (op_int (k := .i64) (m := y12.fErr) (n := 0) rfl rfl rfl rfl rfl rfl) ?_
    refine rpf hb11 ?_
    refine rmv ?_
    rcases ite_some hF with ⟨hb14, hF⟩ | ⟨hb14, hF⟩
    · refine rgo_t hb14 ?_
      iterate 6 (refine rgo_t hb14 ?_)
      refine rpt hb14 ?_
      refine reg_nil ?_
      cases hF
      exact post_cut _ rfl (imps [0] ⟨by kernel_rfl, by kernel_rfl, by kernel_rfl, by kernel_rfl, trivial⟩ ⟨by kernel_rfl, trivial⟩)
    refine rgn hb14 (op_move rfl rfl rfl rfl) ?_
    refine rgn hb14 (op_arr_lp (k := .i64) (m := 0) (n := 2) rfl rfl rfl Try_arr_43 rfl rfl rfl rfl) ?_
    refine rgn hb14 (op_load_lp (v := .pv (.str a1.a0)) rfl rfl rfl rfl Try_one_9 rfl rfl) ?_
    refine rgn hb14 (op_arr_lp (k := .i64) (m := 1) (n := 2) rfl rfl rfl Try_arr_43 rfl rfl rfl rfl) ?_
    refine rgn hb14 (op_load_lp (v := .pv (.str a1.a1)) rfl rfl rfl rfl Try_one_9 rfl rfl) ?_
    obtain ⟨y15, h16, hF⟩ := bind_some hF
    refine rgn hb14 (op_call 1 rfl (caps := []) (args := [.vs 7 (List.map eGClass a0), .str a1.a0, .str a1.a1]) (rs := [.p (.bool y15)]) rfl rfl rfl Try_cal_20 (ref14_Below_ok h16) rfl rfl rfl) ?_
    refine rgn hb14 (op_not rfl rfl rfl rfl) ?_
    refine rpf hb14 ?_
    refine reg_nil ?_
    cases hF
    exact post_cut _ rfl (imps [0] ⟨by kernel_rfl, by kernel_rfl, by kernel_rfl, by kernel_rfl, trivial⟩ ⟨by kernel_rfl, trivial⟩)
  rintro _ rfl
  have hF := hK19
  clear hK19
  refine post_next ?_
  rcases ite_some hF with ⟨hb20, hF⟩ | ⟨hb20, hF⟩
  · refine aw_cond_t rfl hb20 ?_
    refine aw_seq ?_
    refine aw_region ?_
    obtain ⟨y21, h22, hF⟩ := bind_some hF
    refine rgp (op_call 1 rfl (caps := []) (args := []) (rs := [.p (.bool y21)]) rfl rfl rfl Try_cal_11 (law17_awake_ok h22) rfl rfl rfl) ?_
    refine ras ?_
    refine reg_nil ?_
    refine post_imp (s' := ⟨129, [(6, some (.pv (.bool y21)))], [], 0, [], [], 0, []⟩) (imps [] ⟨by kernel_rfl, trivial⟩ trivial) ?_
    refine post_next ?_
    refine aw_ret ?_
    refine post_then_ret ?_
    obtain rfl := Option.some.inj hF
    exact prt
  refine aw_cond_f rfl hb20 ?_
  refine aw_skip ?_
  refine post_next ?_
  refine aw_seq ?_
  refine aw_region ?_
  refine rmv ?_
  refine rgp (op_arr_lp (k := .i64) (m := 1) (n := 2) rfl rfl rfl Try_arr_43 rfl rfl rfl rfl) ?_
  refine rgp (op_load_lp (v := .pv (.str a1.a1)) rfl rfl rfl rfl Try_one_9 rfl rfl) ?_
  refine rmv ?_
  obtain ⟨y25, h26, hF⟩ := bind_some hF
  refine rgp (op_call 1 rfl (caps := []) (args := [.vs 7 (List.map eGClass a0), .str a1.a1, .str a2]) (rs := [.p (.agg (eGFound_method y25.1)), .p (.bool y25.2)]) rfl rfl rfl Try_cal_12 (method_Find_ok h26) rfl rfl rfl) ?_
  refine rmv ?_
  iterate 2 (refine rgp (op_extract rfl rfl rfl rfl rfl) ?_)
  refine rgp (op_alloc 1 rfl (ps := (eGFound_method zGFound_method)) rfl Try_zer_35 (by exact ⟨rfl, rfl, rfl, rfl, rfl, rfl, rfl, rfl, rfl, rfl, rfl, rfl, rfl, rfl, trivial, trivial, trivial, rfl, trivial⟩) rfl rfl) ?_
  refine rgp (op_store_lp (n := 18) rfl rfl rfl rfl rfl (or_agg Try_agg_35) (by rw [Try_non_35]; rfl) rfl rfl rfl) ?_
  refine ras ?_
  refine reg_nil ?_
  refine post_imp (s' := ⟨129, [(0, some (.pv (.vs 7 (List.map eGClass a0)))), (2, some (.pv (.str a2))), (4, some (.lp 0 0)), (7, some (.lp 1 0)), (8, some (.pv (.bool y25.2)))], [(0, some (.box 43 (bxv ((eA2 eS) a1)))), (1, some (.box 35 (bxv (eGFound_method y25.1))))], 2, [], [], 0, []⟩) (imps [0, 1] ⟨by kernel_rfl, by kernel_rfl, by kernel_rfl, by kernel_rfl, by kernel_rfl, trivial⟩ ⟨by kernel_rfl, by kernel_rfl, trivial⟩) ?_
  refine post_next ?_
  refine aw_seq ?_
  refine aw_region ?_
  refine rmv ?_
  refine rgp (op_arr_lp (k := .i64) (m := 0) (n := 2) rfl rfl rfl Try_arr_43 rfl rfl rfl rfl) ?_
  refine rgp (op_load_lp (v := .pv (.str a1.a0)) rfl rfl rfl rfl Try_one_9 rfl rfl) ?_
  refine rmv ?_
  obtain ⟨y29, h30, hF⟩ := bind_some hF
  refine rgp (op_call 2 rfl (caps := []) (args := [.vs 7 (List.map eGClass a0), .str a1.a0, .str a2]) (rs := [.p (.agg (eGFound_method y29.1)), .p (.bool y29.2)]) rfl rfl rfl Try_cal_12 (method_Find_ok h30) rfl rfl rfl) ?_
  refine rmv ?_
  iterate 2 (refine rgp (op_extract rfl rfl rfl rfl rfl) ?_)
  refine rgp (op_alloc 2 rfl (ps := (eGFound_method zGFound_method)) rfl Try_zer_35 (by exact ⟨rfl, rfl, rfl, rfl, rfl, rfl, rfl, rfl, rfl, rfl, rfl, rfl, rfl, rfl, trivial, trivial, trivial, rfl, trivial⟩) rfl rfl) ?_
  refine rgp (op_store_lp (n := 18) rfl rfl rfl rfl rfl (or_agg Try_agg_35) (by rw [Try_non_35]; rfl) rfl rfl rfl) ?_
  refine ras ?_
  refine reg_nil ?_
  refine post_imp (s' := ⟨129, [(0, some (.pv (.vs 7 (List.map eGClass a0)))), (7, some (.lp 0 0)), (8, some (.pv (.bool y25.2))), (9, some (.lp 1 0)), (10, some (.pv (.bool y29.2)))], [(0, some (.box 35 (bxv (eGFound_method y25.1)))), (1, some (.box 35 (bxv (eGFound_method y29.1))))], 2, [], [], 0, []⟩) (imps [1, 2] ⟨by kernel_rfl, by kernel_rfl, by kernel_rfl, by kernel_rfl, by kernel_rfl, trivial⟩ ⟨by kernel_rfl, by kernel_rfl, trivial⟩) ?_
  refine post_next ?_
  iterate 2 (refine aw_seq ?_)
  refine aw_region ?_
  refine rmv ?_
  refine rgp (op_not rfl rfl rfl rfl) ?_
  refine reg_nil ?_
  refine post_imp (s' := ⟨129, [(0, some (.pv (.vs 7 (List.map eGClass a0)))), (7, some (.lp 0 0)), (9, some (.lp 1 0)), (10, some (.pv (.bool y29.2))), (59, some (.pv (.bool (!y25.2))))], [(0, some (.box 35 (bxv (eGFound_method y25.1)))), (1, some (.box 35 (bxv (eGFound_method y29.1))))], 2, [], [], 0, []⟩) (imps [0, 1] ⟨by kernel_rfl, by kernel_rfl, by kernel_rfl, by kernel_rfl, by kernel_rfl, trivial⟩ ⟨by kernel_rfl, by kernel_rfl, trivial⟩) ?_
  refine post_next ?_
  rcases ite_some hF with ⟨hb31, hF⟩ | ⟨hb31, hF⟩
  · refine aw_cond_t rfl hb31 ?_
    refine aw_seq ?_
    refine aw_region ?_
    obtain ⟨y32, h33, hF⟩ := bind_some hF
    refine rgp (op_call 2 rfl (caps := []) (args := []) (rs := [.p (.bool y32)]) rfl rfl rfl Try_cal_11 (law17_awake_ok h33) rfl rfl rfl) ?_
    refine ras ?_
    refine reg_nil ?_
    refine post_imp (s' := ⟨129, [(6, some (.pv (.bool y32)))], [], 0, [], [], 0, []⟩) (imps [] ⟨by kernel_rfl, trivial⟩ trivial) ?_
    refine post_next ?_
    refine aw_ret ?_
    refine post_then_ret ?_
    obtain rfl := Option.some.inj hF
    exact prt
  refine aw_cond_f rfl hb31 ?_
  refine aw_skip ?_
  refine post_next ?_
  iterate 2 (refine aw_seq ?_)
  obtain ⟨x46, hF, hK48⟩ := bind_some hF
  refine aw_cut (fun s1 => s1 = ⟨129, [(7, some (.lp 0 0)), (9, some (.lp 1 0)), (103, some (.pv (.bool x46)))], [(0, some (.box 35 (bxv (eGFound_method y25.1)))), (1, some (.box 35 (bxv (eGFound_method y29.1))))], 2, [], [], 0, []⟩) ?_ ?_
  · refine aw_region ?_
    refine rmv ?_
    refine rgp (op_not rfl rfl rfl rfl) ?_
    refine rmv ?_
    rcases ite_some hF with ⟨hb34, hF⟩ | ⟨hb34, hF⟩
    · refine rgo_t hb34 ?_
      iterate 6 (refine rgo_t hb34 ?_)
      refine rpt hb34 ?_
      refine rmv ?_
      iterate 4 (refine rgo_t rfl ?_)
      iterate 4 (refine rgu ?_)
      refine rgo_t rfl ?_
      refine rpt rfl ?_
      refine rmv ?_
      iterate 9 (refine rgo_t rfl ?_)
      refine rpt rfl ?_
      refine rmv ?_
      iterate 8 (refine rgo_t rfl ?_)
      refine rpt rfl ?_
      refine reg_nil ?_
      cases hF
      exact post_cut _ rfl (imps [0, 1] ⟨by kernel_rfl, by kernel_rfl, by kernel_rfl, trivial⟩ ⟨by kernel_rfl, by kernel_rfl, trivial⟩)
    refine rgn hb34 (op_move rfl rfl rfl rfl) ?_
    refine rgn hb34 (op_field_lp rfl rfl Try_fld_35_0 rfl rfl) ?_
    refine rgn hb34 (op_load_lp (v := .pv (.str y29.1.fClass)) rfl rfl rfl rfl Try_one_9 rfl rfl) ?_
    refine rgn hb34 (op_field_lp rfl rfl Try_fld_35_0 rfl rfl) ?_
    refine rgn hb34 (op_load_lp (v := .pv (.str y25.1.fClass)) rfl rfl rfl rfl Try_one_9 rfl rfl) ?_
    obtain ⟨y35, h36, hF⟩ := bind_some hF
    refine rgn hb34 (op_call 2 rfl (caps := []) (args := [.vs 7 (List.map eGClass a0), .str y29.1.fClass, .str y25.1.fClass]) (rs := [.p (.bool y35)]) rfl rfl rfl Try_cal_20 (ref14_Below_ok h36) rfl rfl rfl) ?_
    refine rgn hb34 (op_not rfl rfl rfl rfl) ?_
    refine rpf hb34 ?_
    refine rmv ?_
    rcases ite_some hF with ⟨hb37, hF⟩ | ⟨hb37, hF⟩
    · refine rgo_t hb37 ?_
      iterate 3 (refine rgo_t hb37 ?_)
      iterate 4 (refine rgu ?_)
      refine rgo_t hb37 ?_
      refine rpt hb37 ?_
      refine rmv ?_
      iterate 9 (refine rgo_t rfl ?_)
      refine rpt rfl ?_
      refine rmv ?_
      iterate 8 (refine rgo_t rfl ?_)
      refine rpt rfl ?_
      refine reg_nil ?_
      cases hF
      exact post_cut _ rfl (imps [0, 1] ⟨by kernel_rfl, by kernel_rfl, by kernel_rfl, trivial⟩ ⟨by kernel_rfl, by kernel_rfl, trivial⟩)
    refine rgn hb37 (op_field_lp rfl rfl Try_fld_35_1 rfl rfl) ?_
    refine rgn hb37 (op_field_lp rfl rfl Try_fld_33_1 rfl rfl) ?_
    refine rgn hb37 (op_load_lp (v := .pv (.bool y25.1.fMethod.fPure)) rfl rfl rfl rfl Try_one_4 rfl rfl) ?_
    refine rgn hb37 (op_move rfl rfl rfl rfl) ?_
    rcases ite_some hF with ⟨hb38, hF⟩ | ⟨hb38, hF⟩
    · refine rgn hb38 (op_field_lp rfl rfl Try_fld_35_1 rfl rfl) ?_
      refine rgn hb38 (op_field_lp rfl rfl Try_fld_33_1 rfl rfl) ?_
      refine rgn hb38 (op_load_lp (v := .pv (.bool y29.1.fMethod.fPure)) rfl rfl rfl rfl Try_one_4 rfl rfl) ?_
      refine rgn hb38 (op_not rfl rfl rfl rfl) ?_
      refine rgn hb37 (op_pick_t rfl rfl hb38 rfl rfl rfl) ?_
      refine rpf hb37 ?_
      refine rmv ?_
      rcases ite_some hF with ⟨hb39, hF⟩ | ⟨hb39, hF⟩
      · refine rgo_t hb39 ?_
        iterate 8 (refine rgo_t hb39 ?_)
        refine rpt hb39 ?_
        refine rmv ?_
        iterate 8 (refine rgo_t rfl ?_)
        refine rpt rfl ?_
        refine reg_nil ?_
        cases hF
        exact post_cut _ rfl (imps [0, 1] ⟨by kernel_rfl, by kernel_rfl, by kernel_rfl, trivial⟩ ⟨by kernel_rfl, by kernel_rfl, trivial⟩)
      refine rgn hb39 (op_field_lp rfl rfl Try_fld_35_1 rfl rfl) ?_
      refine rgn hb39 (op_field_lp rfl rfl Try_fld_33_3 rfl rfl) ?_
      refine rgn hb39 (op_load_lp (v := .pv (.vs 13 (List.map eGVar y25.1.fMethod.fParams))) rfl rfl rfl rfl Try_one_30 rfl rfl) ?_
      refine rgn hb39 (op_len_vs (n := y25.1.fMethod.fParams.length) rfl rfl (List.length_map ..) Try_slc_30 rfl rfl) ?_
      refine rgn hb39 (op_field_lp rfl rfl Try_fld_35_1 rfl rfl) ?_
      refine rgn hb39 (op_field_lp rfl rfl Try_fld_33_3 rfl rfl) ?_
      refine rgn hb39 (op_load_lp (v := .pv (.vs 13 (List.map eGVar y29.1.fMethod.fParams))) rfl rfl rfl rfl Try_one_30 rfl rfl) ?_
      refine rgn hb39 (op_len_vs (n := y29.1.fMethod.fParams.length) rfl rfl (List.length_map ..) Try_slc_30 rfl rfl) ?_
      refine rgn hb39 (op_int (k := .i64) (m := (y25.1.fMethod.fParams.length : Int)) (n := (y29.1.fMethod.fParams.length : Int)) rfl rfl rfl rfl rfl rfl) ?_
      refine rpf hb39 ?_
      refine rmv ?_
      rcases ite_some hF with ⟨hb40, hF⟩ | ⟨hb40, hF⟩
      · refine rgo_t hb40 ?_
        iterate 7 (refine rgo_t hb40 ?_)
        refine rpt hb40 ?_
        refine reg_nil ?_
        cases hF
        exact post_cut _ rfl (imps [0, 1] ⟨by kernel_rfl, by kernel_rfl, by kernel_rfl, trivial⟩ ⟨by kernel_rfl, by kernel_rfl, trivial⟩)
      refine rgn hb40 (op_field_lp rfl rfl Try_fld_35_1 rfl rfl) ?_
      refine rgn hb40 (op_field_lp rfl rfl Try_fld_33_2 rfl rfl) ?_
      refine rgn hb40 (op_load_lp_agg (ps := eGType y25.1.fMethod.fRet) rfl rfl rfl rfl rfl rfl Try_agg_29 rfl rfl) ?_
      refine rgn hb40 (op_field_lp rfl rfl Try_fld_35_1 rfl rfl) ?_
      refine rgn hb40 (op_field_lp rfl rfl Try_fld_33_2 rfl rfl) ?_
      refine rgn hb40 (op_load_lp_agg (ps := eGType y29.1.fMethod.fRet) rfl rfl rfl rfl rfl rfl Try_agg_29 rfl rfl) ?_
      obtain ⟨y41, h42, hF⟩ := bind_some hF
      refine rgn hb40 (op_call 2 rfl (caps := []) (args := [.agg (eGType y25.1.fMethod.fRet), .agg (eGType y29.1.fMethod.fRet)]) (rs := [.p (.bool y41)]) rfl rfl rfl Try_cal_21 (method_Alike_ok h42) rfl rfl rfl) ?_
      refine rgn hb40 (op_not rfl rfl rfl rfl) ?_
      refine rpf hb40 ?_
      refine reg_nil ?_
      cases hF
      exact post_cut _ rfl (imps [0, 1] ⟨by kernel_rfl, by kernel_rfl, by kernel_rfl, trivial⟩ ⟨by kernel_rfl, by kernel_rfl, trivial⟩)
    iterate 4 (refine rgo_f hb38 ?_)
    refine rgn hb37 (op_pick_f rfl rfl hb38 rfl rfl rfl) ?_
    refine rpf hb37 ?_
    refine rmv ?_
    refine rgn rfl (op_field_lp rfl rfl Try_fld_35_1 rfl rfl) ?_
    refine rgn rfl (op_field_lp rfl rfl Try_fld_33_3 rfl rfl) ?_
    refine rgn rfl (op_load_lp (v := .pv (.vs 13 (List.map eGVar y25.1.fMethod.fParams))) rfl rfl rfl rfl Try_one_30 rfl rfl) ?_
    refine rgn rfl (op_len_vs (n := y25.1.fMethod.fParams.length) rfl rfl (List.length_map ..) Try_slc_30 rfl rfl) ?_
    refine rgn rfl (op_field_lp rfl rfl Try_fld_35_1 rfl rfl) ?_
    refine rgn rfl (op_field_lp rfl rfl Try_fld_33_3 rfl rfl) ?_
    refine rgn rfl (op_load_lp (v := .pv (.vs 13 (List.map eGVar y29.1.fMethod.fParams))) rfl rfl rfl rfl Try_one_30 rfl rfl) ?_
    refine rgn rfl (op_len_vs (n := y29.1.fMethod.fParams.length) rfl rfl (List.length_map ..) Try_slc_30 rfl rfl) ?_
    refine rgn rfl (op_int (k := .i64) (m := (y25.1.fMethod.fParams.length : Int)) (n := (y29.1.fMethod.fParams.length : Int)) rfl rfl rfl rfl rfl rfl) ?_
    refine rpf rfl ?_
    refine rmv ?_
    rcases ite_some hF with ⟨hb43, hF⟩ | ⟨hb43, hF⟩
    · refine rgo_t hb43 ?_
      iterate 7 (refine rgo_t hb43 ?_)
      refine rpt hb43 ?_
      refine reg_nil ?_
      cases hF
      exact post_cut _ rfl (imps [0, 1] ⟨by kernel_rfl, by kernel_rfl, by kernel_rfl, trivial⟩ ⟨by kernel_rfl, by kernel_rfl, trivial⟩)
    refine rgn hb43 (op_field_lp rfl rfl Try_fld_35_1 rfl rfl) ?_
    refine rgn hb43 (op_field_lp rfl rfl Try_fld_33_2 rfl rfl) ?_
    refine rgn hb43 (op_load_lp_agg (ps := eGType y25.1.fMethod.fRet) rfl rfl rfl rfl rfl rfl Try_agg_29 rfl rfl) ?_
    refine rgn hb43 (op_field_lp rfl rfl Try_fld_35_1 rfl rfl) ?_
    refine rgn hb43 (op_field_lp rfl rfl Try_fld_33_2 rfl rfl) ?_
    refine rgn hb43 (op_load_lp_agg (ps := eGType y29.1.fMethod.fRet) rfl rfl rfl rfl rfl rfl Try_agg_29 rfl rfl) ?_
    obtain ⟨y44, h45, hF⟩ := bind_some hF
    refine rgn hb43 (op_call 2 rfl (caps := []) (args := [.agg (eGType y25.1.fMethod.fRet), .agg (eGType y29.1.fMethod.fRet)]) (rs := [.p (.bool y44)]) rfl rfl rfl Try_cal_21 (method_Alike_ok h45) rfl rfl rfl) ?_
    refine rgn hb43 (op_not rfl rfl rfl rfl) ?_
    refine rpf hb43 ?_
    refine reg_nil ?_
    cases hF
    exact post_cut _ rfl (imps [0, 1] ⟨by kernel_rfl, by kernel_rfl, by kernel_rfl, trivial⟩ ⟨by kernel_rfl, by kernel_rfl, trivial⟩)
  rintro _ rfl
  have hF := hK48
  clear hK48
  refine post_next ?_
  rcases ite_some hF with ⟨hb49, hF⟩ | ⟨hb49, hF⟩
  · refine aw_cond_t rfl hb49 ?_
    refine aw_seq ?_
    refine aw_region ?_
    refine ras ?_
    refine reg_nil ?_
    refine post_imp (s' := ⟨129, [(6, some (.pv (.bool false)))], [], 0, [], [], 0, []⟩) (imps [] ⟨by kernel_rfl, trivial⟩ trivial) ?_
    refine post_next ?_
    refine aw_ret ?_
    refine post_then_ret ?_
    obtain rfl := Option.some.inj hF
    exact prt
  refine aw_cond_f rfl hb49 ?_
  refine aw_skip ?_
  refine post_next ?_
  iterate 2 (refine aw_seq ?_)
  refine aw_region ?_
  refine ras ?_
  refine reg_nil ?_
  refine post_imp (s' := ⟨129, [(7, some (.lp 0 0)), (9, some (.lp 1 0)), (11, some (.pv (.int .i64 0)))], [(0, some (.box 35 (bxv (eGFound_method y25.1)))), (1, some (.box 35 (bxv (eGFound_method y29.1))))], 2, [], [], 0, []⟩) (imps [0, 1] ⟨by kernel_rfl, by kernel_rfl, by kernel_rfl, trivial⟩ ⟨by kernel_rfl, by kernel_rfl, trivial⟩) ?_
  refine post_next ?_
  obtain ⟨lr95, hF, hK96⟩ := bind_some hF
  refine aw_for ((((y25.1.fMethod.fParams.length : Int) : Int) - (0)).toNat + 1) (fun s1 => ∃ q, lr95 = .next q ∧ s1 = ⟨129, [], [], 0, [], [], 0, []⟩) ?_ ?_
  · refine rnd_loop (α := Int) (fun q => ⟨129, [(7, some (.lp 0 0)), (9, some (.lp 1 0)), (11, some (.pv (.int .i64 q)))], [(0, some (.box 35 (bxv (eGFound_method y25.1)))), (1, some (.box 35 (bxv (eGFound_method y29.1))))], 2, [], [], 0, []⟩) (fun k q => law17_MethodKeeps_L1 y25 y29 k q = some lr95) 0 (imps [0, 1] ⟨by kernel_rfl, by kernel_rfl, by kernel_rfl, trivial⟩ ⟨by kernel_rfl, by kernel_rfl, trivial⟩) hF (fun q h => by cases h) ?_
    clear hF
    rintro k x64 hF ih
    refine rnd_succ ?_
    iterate 2 (refine aw_seq ?_)
    refine aw_region ?_
    refine rmv ?_
    refine rgp (op_field_lp rfl rfl Try_fld_35_1 rfl rfl) ?_
    refine rgp (op_field_lp rfl rfl Try_fld_33_3 rfl rfl) ?_
    refine rgp (op_load_lp (v := .pv (.vs 13 (List.map eGVar y25.1.fMethod.fParams))) rfl rfl rfl rfl Try_one_30 rfl rfl) ?_
    refine rgp (op_len_vs (n := y25.1.fMethod.fParams.length) rfl rfl (List.length_map ..) Try_slc_30 rfl rfl) ?_
    refine rgp (op_int (k := .i64) (m := x64) (n := (y25.1.fMethod.fParams.length : Int)) rfl rfl rfl rfl rfl rfl) ?_
    refine reg_nil ?_
    refine post_imp (s' := ⟨129, [(7, some (.lp 0 0)), (9, some (.lp 1 0)), (11, some (.pv (.int .i64 x64))), (109, some (.pv (.bool (decide (x64 < (y25.1.fMethod.fParams.length : Int))))))], [(0, some (.box 35 (bxv (eGFound_method y25.1)))), (1, some (.box 35 (bxv (eGFound_method y29.1))))], 2, [], [], 0, []⟩) (imps [0, 1] ⟨by kernel_rfl, by kernel_rfl, by kernel_rfl, by kernel_rfl, trivial⟩ ⟨by kernel_rfl, by kernel_rfl, trivial⟩) ?_
    refine post_next ?_
    rcases ite_some hF with ⟨hb80, hF⟩ | ⟨hb80, hF⟩
    · refine aw_cond_t rfl hb80 ?_
      refine aw_skip ?_
      refine post_next ?_
      refine aw_seq ?_
      refine aw_block ?_
      refine aw_seq ?_
      refine dr_start ⟨_, _, _⟩ rfl ?_
      refine dr_cons { need := [(7, .lp 0 0)], dst := some 112, val := some (.lp 0 1) } (fun m h => step_on (guard_no rfl) (op_field_lp rfl h.1.1 Try_fld_35_1 rfl rfl) rfl) ⟨⟨rfl, trivial⟩, trivial, trivial⟩ ?_
      refine dr_cons { need := [(112, .lp 0 1)], dst := some 113, val := some (.lp 0 14) } (fun m h => step_on (guard_no rfl) (op_field_lp rfl h.1.1 Try_fld_33_3 rfl rfl) rfl) ⟨⟨rfl, trivial⟩, trivial, trivial⟩ ?_
      refine dr_cons { need := [(113, .lp 0 14)], hneed := [(0, .box 35 (bxv (eGFound_method y25.1)))], dst := some 114, val := some (.pv (.vs 13 (List.map eGVar y25.1.fMethod.fParams))) } (fun m h => step_on (guard_no rfl) (op_load_lp (v := .pv (.vs 13 (List.map eGVar y25.1.fMethod.fParams))) rfl h.1.1 h.2.1.1 rfl Try_one_30 rfl rfl) rfl) ⟨⟨rfl, trivial⟩, ⟨rfl, trivial⟩, trivial⟩ ?_
      refine drm ?_
      obtain ⟨y87, h88, hF⟩ := bind_some hF
      refine dr_cons { need := [(114, .pv (.vs 13 (List.map eGVar y25.1.fMethod.fParams))), (115, .pv (.int .i64 x64))], dst := some 116, val := some (.pv (.vp (eGVar y87))) } (fun m h => step_on (guard_no rfl) (op_index_vs (k := .i64) rfl h.1.1 h.1.2.1 (idx_map eGVar h88) Try_slc_30 rfl rfl) rfl) ⟨⟨rfl, rfl, trivial⟩, trivial, trivial⟩ ?_
      refine dr_cons { need := [(116, .pv (.vp (eGVar y87)))], dst := some 117, val := some (.pv (.vp (List.drop 1 (eGVar y87)))) } (fun m h => step_on (guard_no rfl) (op_field_vp rfl h.1.1 Try_fld_50_1 rfl rfl) rfl) ⟨⟨rfl, trivial⟩, trivial, trivial⟩ ?_
      refine dr_cons { need := [(117, .pv (.vp (List.drop 1 (eGVar y87))))], dst := some 118, val := some (.pv (.agg (eGType y87.fType))) } (fun m h => step_on (guard_no rfl) (op_load_vp_agg (ps := eGType y87.fType) rfl h.1.1 rfl rfl Try_agg_29 rfl rfl) rfl) ⟨⟨rfl, trivial⟩, trivial, trivial⟩ ?_
      refine dr_cons { need := [(9, .lp 1 0)], dst := some 119, val := some (.lp 1 1) } (fun m h => step_on (guard_no rfl) (op_field_lp rfl h.1.1 Try_fld_35_1 rfl rfl) rfl) ⟨⟨rfl, trivial⟩, trivial, trivial⟩ ?_
      refine dr_cons { need := [(119, .lp 1 1)], dst := some 120, val := some (.lp 1 14) } (fun m h => step_on (guard_no rfl) (op_field_lp rfl h.1.1 Try_fld_33_3 rfl rfl) rfl) ⟨⟨rfl, trivial⟩, trivial, trivial⟩ ?_
      refine dr_cons { need := [(120, .lp 1 14)], hneed := [(1, .box 35 (bxv (eGFound_method y29.1)))], dst := some 121, val := some (.pv (.vs 13 (List.map eGVar y29.1.fMethod.fParams))) } (fun m h => step_on (guard_no rfl) (op_load_lp (v := .pv (.vs 13 (List.map eGVar y29.1.fMethod.fParams))) rfl h.1.1 h.2.1.1 rfl Try_one_30 rfl rfl) rfl) ⟨⟨rfl, trivial⟩, ⟨rfl, trivial⟩, trivial⟩ ?_
      refine drm ?_
      obtain ⟨y89, h90, hF⟩ := bind_some hF
      refine dr_cons { need := [(121, .pv (.vs 13 (List.map eGVar y29.1.fMethod.fParams))), (122, .pv (.int .i64 x64))], dst := some 123, val := some (.pv (.vp (eGVar y89))) } (fun m h => step_on (guard_no rfl) (op_index_vs (k := .i64) rfl h.1.1 h.1.2.1 (idx_map eGVar h90) Try_slc_30 rfl rfl) rfl) ⟨⟨rfl, rfl, trivial⟩, trivial, trivial⟩ ?_
      refine dr_cons { need := [(123, .pv (.vp (eGVar y89)))], dst := some 124, val := some (.pv (.vp (List.drop 1 (eGVar y89)))) } (fun m h => step_on (guard_no rfl) (op_field_vp rfl h.1.1 Try_fld_50_1 rfl rfl) rfl) ⟨⟨rfl, trivial⟩, trivial, trivial⟩ ?_
      refine dr_cons { need := [(124, .pv (.vp (List.drop 1 (eGVar y89))))], dst := some 125, val := some (.pv (.agg (eGType y89.fType))) } (fun m h => step_on (guard_no rfl) (op_load_vp_agg (ps := eGType y89.fType) rfl h.1.1 rfl rfl Try_agg_29 rfl rfl) rfl) ⟨⟨rfl, trivial⟩, trivial, trivial⟩ ?_
      obtain ⟨y91, h92, hF⟩ := bind_some hF
      refine dr_cons { need := [(125, .pv (.agg (eGType y89.fType))), (118, .pv (.agg (eGType y87.fType)))], dst := some 126, val := some (.pv (.bool y91)) } (fun m h => step_on (guard_no rfl) (op_call 2 rfl (caps := []) (args := [.agg (eGType y87.fType), .agg (eGType y89.fType)]) (rs := [.p (.bool y91)]) rfl rfl (evl_cons h.1.2.1 (evl_cons h.1.1 evl_nil)) Try_cal_21 (method_Alike_ok h92) rfl rfl rfl) rfl) ⟨⟨rfl, rfl, trivial⟩, trivial, trivial⟩ ?_
      refine dr_cons { need := [(126, .pv (.bool y91))], dst := some 127, val := some (.pv (.bool (!y91))) } (fun m h => step_on (guard_no rfl) (op_not rfl h.1.1 rfl rfl) rfl) ⟨⟨rfl, trivial⟩, trivial, trivial⟩ ?_
      refine dr_nil Try_mixed rfl (by kernel_rfl) ?_
      refine post_imp (s' := ⟨129, [(7, some (.lp 0 0)), (9, some (.lp 1 0)), (11, some (.pv (.int .i64 x64))), (127, some (.pv (.bool (!y91))))], [(0, some (.box 35 (bxv (eGFound_method y25.1)))), (1, some (.box 35 (bxv (eGFound_method y29.1))))], 2, [], [], 0, []⟩) (imps [0, 1] ⟨by kernel_rfl, by kernel_rfl, by kernel_rfl, by kernel_rfl, trivial⟩ ⟨by kernel_rfl, by kernel_rfl, trivial⟩) ?_
      refine post_next ?_
      rcases ite_some hF with ⟨hb93, hF⟩ | ⟨hb93, hF⟩
      · refine aw_cond_t rfl hb93 ?_
        refine aw_seq ?_
        refine aw_region ?_
        refine ras ?_
        refine reg_nil ?_
        refine post_imp (s' := ⟨129, [(6, some (.pv (.bool false)))], [], 0, [], [], 0, []⟩) (imps [] ⟨by kernel_rfl, trivial⟩ trivial) ?_
        refine post_next ?_
        refine aw_ret ?_
        refine post_block_ret ?_
        iterate 2 (refine post_then_ret ?_)
        refine post_lp_ret ?_
        obtain rfl := Option.some.inj hF
        have hF := elim_stop hK96
        refine post_then_ret ?_
        obtain rfl := Option.some.inj hF
        exact prt
      refine aw_cond_f rfl hb93 ?_
      refine aw_skip ?_
      refine post_block_normal ?_
      refine post_next ?_
      refine aw_region ?_
      refine rmv ?_
      refine rgp (op_int (k := .i64) (m := x64) (n := 1) rfl rfl rfl rfl rfl rfl) ?_
      refine ras ?_
      refine reg_nil ?_
      refine post_round ?_
      exact rnd_back (ih (w_i64 (x64 + 1)) hF) (imps [0, 1] ⟨by kernel_rfl, by kernel_rfl, by kernel_rfl, trivial⟩ ⟨by kernel_rfl, by kernel_rfl, trivial⟩)
    refine aw_cond_f rfl hb80 ?_
    refine aw_exit ?_
    iterate 2 (refine post_then_exit ?_)
    obtain rfl := Option.some.inj hF
    exact post_lp_break _ ⟨_, rfl, rfl⟩ (imps [] trivial trivial)
  rintro _ ⟨⟨⟩, rfl, rfl⟩
  have hF := elim_next hK96
  clear hK96
  refine post_next ?_
  refine aw_seq ?_
  refine aw_region ?_
  obtain ⟨y97, h98, hF⟩ := bind_some hF
  refine rgp (op_call 0 rfl (caps := []) (args := []) (rs := [.p (.bool y97)]) rfl rfl rfl Try_cal_11 (law17_awake_ok h98) rfl rfl rfl) ?_
  refine ras ?_
  refine reg_nil ?_
  refine post_imp (s' := ⟨129, [(6, some (.pv (.bool y97)))], [], 0, [], [], 0, []⟩) (imps [] ⟨by kernel_rfl, trivial⟩ trivial) ?_
  refine post_next ?_
  refine aw_ret ?_
  obtain rfl := Option.some.inj hF
  exact prt
end Go.Proofs.Ytahieoaggbmicaa
