/- A part of the proof that the law EventBack gives true for every input. -/
import Derived.Test.YtccladleehbmhaaDoorEventBackT
import Derived.Test.YtccladleehbmhaaDoorEventBackB
import Derived.Test.YtccladleehbmhaaDoorEventBackS
import Derived.Test.YtccladleehbmhaaDoorEventBackX
import Derived.Test.YtccladleehbmhaaDoorEventBackW0
/- Each Go function computes its plain function. -/
namespace Go.Proofs.YtccladleehbmhaaDoor
open Go.RowKit Go.Abs
set_option maxRecDepth 100000
set_option maxHeartbeats 4000000
theorem event_Lines_ok {a0 : List UInt8} {r : (List GEvent) × Int} (hF : event_Lines a0 = some r) : Abs.Fn globs_Tryd Tryd.prog 9 [.str a0] [.own 27 10 (List.map eGEvent r.1), .p (.int .i64 r.2)] := by
  unfold event_Lines at hF
  refine fn_of_body (n := 37) Tryd.func9 rfl rfl rfl ?_
  intro w O
  refine aw_seq ?_
  refine aw_region ?_
  iterate 2 (refine ras ?_)
  refine reg_nil ?_
  refine post_imp (s' := ⟨37, [(0, some (.pv (.str a0)))], [], 0, [], [], 0, []⟩) (imps [] ⟨by kernel_rfl, trivial⟩ trivial) ?_
  refine post_next ?_
  refine aw_seq ?_
  refine aw_region ?_
  refine ras ?_
  refine reg_imp (imp_nil_own 4 27 10 0 rfl rfl) ?_
  refine reg_nil ?_
  refine post_imp (s' := ⟨37, [(0, some (.pv (.str a0))), (4, some (.ls 0))], [(0, some (.row 27 10 (List.map eGEvent [])))], 1, [], [], 0, []⟩) (imps [0] ⟨by kernel_rfl, by kernel_rfl, trivial⟩ ⟨by kernel_rfl, trivial⟩) ?_
  refine post_next ?_
  refine aw_seq ?_
  obtain ⟨lr62, hF, hK63⟩ := bind_some hF
  refine aw_for (a0.length + 1) (fun s1 => ∃ q, lr62 = .next q ∧ s1 = ⟨37, [(4, some (.ls 0))], [(0, some (.row 27 10 (List.map eGEvent q)))], 1, [], [], 0, []⟩) ?_ ?_
  · refine rnd_loop (α := (List UInt8) × (List GEvent)) (fun q => ⟨37, [(0, some (.pv (.str q.1))), (4, some (.ls 0))], [(0, some (.row 27 10 (List.map eGEvent q.2)))], 1, [], [], 0, []⟩) (fun k q => event_Lines_L1 k q.1 q.2 = some lr62) (a0, []) (imps [0] ⟨by kernel_rfl, by kernel_rfl, trivial⟩ ⟨by kernel_rfl, trivial⟩) hF (fun q h => by cases h) ?_
    clear hF
    rintro k ⟨x19, x20⟩ hF ih
    refine rnd_succ ?_
    iterate 2 (refine aw_seq ?_)
    refine aw_region ?_
    refine rmv ?_
    refine rgp (op_str rfl rfl rfl rfl rfl rfl) ?_
    refine reg_nil ?_
    refine post_imp (s' := ⟨37, [(0, some (.pv (.str x19))), (4, some (.ls 0)), (11, some (.pv (.bool (!(x19 == [])))))], [(0, some (.row 27 10 (List.map eGEvent x20)))], 1, [], [], 0, []⟩) (imps [0] ⟨by kernel_rfl, by kernel_rfl, by kernel_rfl, trivial⟩ ⟨by kernel_rfl, trivial⟩) ?_
    refine post_next ?_
    rcases ite_some hF with ⟨hb41, hF⟩ | ⟨hb41, hF⟩
    · refine aw_cond_t rfl hb41 ?_
      refine aw_skip ?_
      refine post_next ?_
      refine aw_block ?_
      refine aw_seq ?_
      refine aw_region ?_
      refine rmv ?_
      obtain ⟨y44, h45, hF⟩ := bind_some hF
      refine rgp (op_call 1 rfl (caps := []) (args := [.str x19, .str [10]]) (rs := [.p (.str y44.1), .p (.str y44.2.1), .p (.bool y44.2.2)]) rfl rfl rfl Tryd_cal_23 (strings_Cut_ok h45) rfl rfl rfl) ?_
      refine rmv ?_
      iterate 3 (refine rgp (op_extract rfl rfl rfl rfl rfl) ?_)
      iterate 3 (refine ras ?_)
      refine reg_nil ?_
      refine post_imp (s' := ⟨37, [(4, some (.ls 0)), (5, some (.pv (.str y44.1))), (6, some (.pv (.str y44.2.1))), (7, some (.pv (.bool y44.2.2)))], [(0, some (.row 27 10 (List.map eGEvent x20)))], 1, [], [], 0, []⟩) (imps [0] ⟨by kernel_rfl, by kernel_rfl, by kernel_rfl, by kernel_rfl, trivial⟩ ⟨by kernel_rfl, trivial⟩) ?_
      refine post_next ?_
      refine aw_seq ?_
      refine aw_region ?_
      refine rmv ?_
      obtain ⟨y48, h49, hF⟩ := bind_some hF
      refine rgp (op_call 1 rfl (caps := []) (args := [.str y44.1]) (rs := [.p (.agg (eGEvent y48.1)), .p (.bool y48.2)]) rfl rfl rfl Tryd_cal_7 (event_Read_ok h49) rfl rfl rfl) ?_
      refine rmv ?_
      iterate 2 (refine rgp (op_extract rfl rfl rfl rfl rfl) ?_)
      refine rgp (op_alloc 1 rfl (ps := (eGEvent zGEvent)) rfl Tryd_zer_27 (by exact ⟨rfl, rfl, rfl, rfl, rfl, rfl, rfl, rfl, rfl, rfl, trivial⟩) rfl rfl) ?_
      refine rgp (op_store_lp (n := 10) rfl rfl rfl rfl rfl (or_agg Tryd_agg_27) (by rw [Tryd_non_27]; rfl) rfl rfl rfl) ?_
      refine ras ?_
      refine reg_nil ?_
      refine post_imp (s' := ⟨37, [(4, some (.ls 0)), (6, some (.pv (.str y44.2.1))), (7, some (.pv (.bool y44.2.2))), (8, some (.lp 1 0)), (9, some (.pv (.bool y48.2)))], [(0, some (.row 27 10 (List.map eGEvent x20))), (1, some (.box 27 (bxv (eGEvent y48.1))))], 2, [], [], 0, []⟩) (imps [0, 1] ⟨by kernel_rfl, by kernel_rfl, by kernel_rfl, by kernel_rfl, by kernel_rfl, trivial⟩ ⟨by kernel_rfl, by kernel_rfl, trivial⟩) ?_
      refine post_next ?_
      iterate 2 (refine aw_seq ?_)
      obtain ⟨x51, hF, hK53⟩ := bind_some hF
      refine aw_cut (fun s1 => s1 = ⟨37, [(4, some (.ls 0)), (6, some (.pv (.str y44.2.1))), (8, some (.lp 1 0)), (28, some (.pv (.bool x51)))], [(0, some (.row 27 10 (List.map eGEvent x20))), (1, some (.box 27 (bxv (eGEvent y48.1))))], 2, [], [], 0, []⟩) ?_ ?_
      · refine aw_region ?_
        refine rmv ?_
        refine rgp (op_not rfl rfl rfl rfl) ?_
        refine rmv ?_
        rcases ite_some hF with ⟨hb50, hF⟩ | ⟨hb50, hF⟩
        · refine rgo_t hb50 ?_
          refine rgo_t hb50 ?_
          refine rpt hb50 ?_
          refine reg_nil ?_
          cases hF
          exact post_cut _ rfl (imps [0, 1] ⟨by kernel_rfl, by kernel_rfl, by kernel_rfl, by kernel_rfl, trivial⟩ ⟨by kernel_rfl, by kernel_rfl, trivial⟩)
        refine rgn hb50 (op_move rfl rfl rfl rfl) ?_
        refine rgn hb50 (op_not rfl rfl rfl rfl) ?_
        refine rpf hb50 ?_
        refine reg_nil ?_
        cases hF
        exact post_cut _ rfl (imps [0, 1] ⟨by kernel_rfl, by kernel_rfl, by kernel_rfl, by kernel_rfl, trivial⟩ ⟨by kernel_rfl, by kernel_rfl, trivial⟩)
      rintro _ rfl
      have hF := hK53
      clear hK53
      refine post_next ?_
      rcases ite_some hF with ⟨hb54, hF⟩ | ⟨hb54, hF⟩
      · refine aw_cond_t rfl hb54 ?_
        refine aw_seq ?_
        refine aw_region ?_
        refine rmv ?_
        refine rgp (op_len_ls (n := x20.length) rfl rfl rfl (List.length_map ..) Tryd_slc_30 rfl rfl) ?_
        iterate 2 (refine ras ?_)
        refine reg_nil ?_
        refine post_imp (s' := ⟨37, [(2, some (.pv .nils)), (3, some (.pv (.int .i64 (x20.length : Int))))], [], 0, [], [], 0, []⟩) (imps [] ⟨by kernel_rfl, by kernel_rfl, trivial⟩ trivial) ?_
        refine post_next ?_
        refine aw_ret ?_
        refine post_then_ret ?_
        refine post_block_ret ?_
        refine post_then_ret ?_
        refine post_lp_ret ?_
        obtain rfl := Option.some.inj hF
        have hF := elim_stop hK63
        refine post_then_ret ?_
        refine post_imp (imp_nil_own 2 27 10 0 rfl rfl) ?_
        obtain rfl := Option.some.inj hF
        exact post_ret rfl rfl (.cons _ _ _ _ _ (.tmp _ _ rfl) (.own _ _ _ _ rfl nolent3) (.cons _ _ _ _ _ (.tmp _ _ rfl) (.p _) .nil)) (.inl rfl)
      refine aw_cond_f rfl hb54 ?_
      refine aw_skip ?_
      refine post_next ?_
      refine aw_seq ?_
      refine aw_region ?_
      refine rmv ?_
      refine rgp (op_load_lp_agg (ps := eGEvent y48.1) rfl rfl rfl rfl rfl rfl Tryd_agg_27 rfl rfl) ?_
      refine rgp (op_lit (rows := List.map eGEvent ([y48.1] : List GEvent)) (zs := (eGEvent zGEvent)) rfl rfl Tryd_slc_30 Tryd_zer_27 (by exact ⟨rfl, rfl, rfl, rfl, rfl, rfl, rfl, rfl, rfl, rfl, trivial⟩) rfl rfl rfl rfl rfl rfl rfl rfl) ?_
      obtain ⟨u57, h58, hF⟩ := bind_some hF
      refine rgp (op_append 2 rfl rfl rfl rfl rfl Tryd_slc_30 Tryd_elm_27 Tryd_zer_27 rfl rfl rfl (room_map (f := eGEvent) (g := eGEvent) h58) (List.map_append (f := eGEvent) (l₁ := x20) (l₂ := [y48.1])).symm rfl rfl) ?_
      refine ras ?_
      refine reg_nil ?_
      refine post_imp (s' := ⟨37, [(4, some (.ls 0)), (6, some (.pv (.str y44.2.1)))], [(0, some (.row 27 10 (List.map eGEvent (x20 ++ [y48.1]))))], 1, [], [], 0, []⟩) (imps [2] ⟨by kernel_rfl, by kernel_rfl, trivial⟩ ⟨by kernel_rfl, trivial⟩) ?_
      refine post_next ?_
      refine aw_region ?_
      refine rmv ?_
      refine ras ?_
      refine reg_nil ?_
      refine post_imp (s' := ⟨37, [(0, some (.pv (.str y44.2.1))), (4, some (.ls 0))], [(0, some (.row 27 10 (List.map eGEvent (x20 ++ [y48.1]))))], 1, [], [], 0, []⟩) (imps [0] ⟨by kernel_rfl, by kernel_rfl, trivial⟩ ⟨by kernel_rfl, trivial⟩) ?_
      refine post_block_normal ?_
      refine post_round ?_
      exact rnd_back (ih (y44.2.1, (x20 ++ [y48.1])) hF) (imps [0] ⟨by kernel_rfl, by kernel_rfl, trivial⟩ ⟨by kernel_rfl, trivial⟩)
    refine aw_cond_f rfl hb41 ?_
    refine aw_exit ?_
    iterate 2 (refine post_then_exit ?_)
    obtain rfl := Option.some.inj hF
    exact post_lp_break _ ⟨_, rfl, rfl⟩ (imps [0] ⟨by kernel_rfl, trivial⟩ ⟨by kernel_rfl, trivial⟩)
  rintro _ ⟨x61, rfl, rfl⟩
  have hF := elim_next hK63
  clear hK63
  refine post_next ?_
  refine aw_seq ?_
  refine aw_region ?_
  refine rmv ?_
  iterate 2 (refine ras ?_)
  refine reg_nil ?_
  refine post_imp (s' := ⟨37, [(2, some (.ls 0)), (3, some (.pv (.int .i64 (-1))))], [(0, some (.row 27 10 (List.map eGEvent x61)))], 1, [], [], 0, []⟩) (imps [0] ⟨by kernel_rfl, by kernel_rfl, trivial⟩ ⟨by kernel_rfl, trivial⟩) ?_
  refine post_next ?_
  refine aw_ret ?_
  obtain rfl := Option.some.inj hF
  exact post_ret rfl rfl (.cons _ _ _ _ _ (.tmp _ _ rfl) (.own _ _ _ _ rfl nolent3) (.cons _ _ _ _ _ (.tmp _ _ rfl) (.p _) .nil)) (.inl rfl)
theorem law42_same_ok {a0 : List GEvent} {a1 : List GEvent} {r : Bool} (hF : law42_same a0 a1 = some r) : Abs.Fn globs_Tryd Tryd.prog 11 [.vs 10 (List.map eGEvent a0), .vs 10 (List.map eGEvent a1)] [.p (.bool r)] := by
  unfold law42_same at hF
  refine fn_of_body (n := 26) Tryd.func11 rfl rfl rfl ?_
  intro w O
  refine aw_seq ?_
  refine aw_region ?_
  refine ras ?_
  refine reg_nil ?_
  refine post_imp (s' := ⟨26, [(0, some (.pv (.vs 10 (List.map eGEvent a0)))), (1, some (.pv (.vs 10 (List.map eGEvent a1))))], [], 0, [], [], 0, []⟩) (imps [] ⟨by kernel_rfl, by kernel_rfl, trivial⟩ trivial) ?_
  refine post_next ?_
  iterate 2 (refine aw_seq ?_)
  refine aw_region ?_
  refine rmv ?_
  refine rgp (op_len_vs (n := a0.length) rfl rfl (List.length_map ..) Tryd_slc_30 rfl rfl) ?_
  refine rmv ?_
  refine rgp (op_len_vs (n := a1.length) rfl rfl (List.length_map ..) Tryd_slc_30 rfl rfl) ?_
  refine rgp (op_int (k := .i64) (m := (a0.length : Int)) (n := (a1.length : Int)) rfl rfl rfl rfl rfl rfl) ?_
  refine reg_nil ?_
  refine post_imp (s' := ⟨26, [(0, some (.pv (.vs 10 (List.map eGEvent a0)))), (1, some (.pv (.vs 10 (List.map eGEvent a1)))), (10, some (.pv (.bool ((a0.length : Int) != (a1.length : Int)))))], [], 0, [], [], 0, []⟩) (imps [] ⟨by kernel_rfl, by kernel_rfl, by kernel_rfl, trivial⟩ trivial) ?_
  refine post_next ?_
  rcases ite_some hF with ⟨hb1, hF⟩ | ⟨hb1, hF⟩
  · refine aw_cond_t rfl hb1 ?_
    refine aw_seq ?_
    refine aw_region ?_
    refine ras ?_
    refine reg_nil ?_
    refine post_imp (s' := ⟨26, [(4, some (.pv (.bool false)))], [], 0, [], [], 0, []⟩) (imps [] ⟨by kernel_rfl, trivial⟩ trivial) ?_
    refine post_next ?_
    refine aw_ret ?_
    refine post_then_ret ?_
    obtain rfl := Option.some.inj hF
    exact prt
  refine aw_cond_f rfl hb1 ?_
  refine aw_skip ?_
  refine post_next ?_
  iterate 2 (refine aw_seq ?_)
  refine aw_region ?_
  refine ras ?_
  refine reg_nil ?_
  refine post_imp (s' := ⟨26, [(0, some (.pv (.vs 10 (List.map eGEvent a0)))), (1, some (.pv (.vs 10 (List.map eGEvent a1)))), (5, some (.pv (.int .i64 0)))], [], 0, [], [], 0, []⟩) (imps [] ⟨by kernel_rfl, by kernel_rfl, by kernel_rfl, trivial⟩ trivial) ?_
  refine post_next ?_
  obtain ⟨lr35, hF, hK36⟩ := bind_some hF
  refine aw_for ((((a0.length : Int) : Int) - (0)).toNat + 1) (fun s1 => ∃ q, lr35 = .next q ∧ s1 = ⟨26, [], [], 0, [], [], 0, []⟩) ?_ ?_
  · refine rnd_loop (α := Int) (fun q => ⟨26, [(0, some (.pv (.vs 10 (List.map eGEvent a0)))), (1, some (.pv (.vs 10 (List.map eGEvent a1)))), (5, some (.pv (.int .i64 q)))], [], 0, [], [], 0, []⟩) (fun k q => law42_same_L1 a0 a1 k q = some lr35) 0 (imps [] ⟨by kernel_rfl, by kernel_rfl, by kernel_rfl, trivial⟩ trivial) hF (fun q h => by cases h) ?_
    clear hF
    rintro k x12 hF ih
    refine rnd_succ ?_
    iterate 2 (refine aw_seq ?_)
    refine aw_region ?_
    iterate 2 (refine rmv ?_)
    refine rgp (op_len_vs (n := a0.length) rfl rfl (List.length_map ..) Tryd_slc_30 rfl rfl) ?_
    refine rgp (op_int (k := .i64) (m := x12) (n := (a0.length : Int)) rfl rfl rfl rfl rfl rfl) ?_
    refine reg_nil ?_
    refine post_imp (s' := ⟨26, [(0, some (.pv (.vs 10 (List.map eGEvent a0)))), (1, some (.pv (.vs 10 (List.map eGEvent a1)))), (5, some (.pv (.int .i64 x12))), (14, some (.pv (.bool (decide (x12 < (a0.length : Int))))))], [], 0, [], [], 0, []⟩) (imps [] ⟨by kernel_rfl, by kernel_rfl, by kernel_rfl, by kernel_rfl, trivial⟩ trivial) ?_
    refine post_next ?_
    rcases ite_some hF with ⟨hb24, hF⟩ | ⟨hb24, hF⟩
    · refine aw_cond_t rfl hb24 ?_
      refine aw_skip ?_
      refine post_next ?_
      refine aw_seq ?_
      refine aw_block ?_
      refine aw_seq ?_
      refine dr_start ⟨_, _, _⟩ rfl ?_
      iterate 2 (refine drm ?_)
      obtain ⟨y29, h30, hF⟩ := bind_some hF
      refine dr_cons { need := [(17, .pv (.vs 10 (List.map eGEvent a0))), (18, .pv (.int .i64 x12))], dst := some 19, val := some (.pv (.vp (eGEvent y29))) } (fun m h => step_on (guard_no rfl) (op_index_vs (k := .i64) rfl h.1.1 h.1.2.1 (idx_map eGEvent h30) Tryd_slc_30 rfl rfl) rfl) ⟨⟨rfl, rfl, trivial⟩, trivial, trivial⟩ ?_
      refine dr_cons { need := [(19, .pv (.vp (eGEvent y29)))], dst := some 20, val := some (.pv (.agg (eGEvent y29))) } (fun m h => step_on (guard_no rfl) (op_load_vp_agg (ps := eGEvent y29) rfl h.1.1 rfl rfl Tryd_agg_27 rfl rfl) rfl) ⟨⟨rfl, trivial⟩, trivial, trivial⟩ ?_
      iterate 2 (refine drm ?_)
      obtain ⟨y31, h32, hF⟩ := bind_some hF
      refine dr_cons { need := [(21, .pv (.vs 10 (List.map eGEvent a1))), (22, .pv (.int .i64 x12))], dst := some 23, val := some (.pv (.vp (eGEvent y31))) } (fun m h => step_on (guard_no rfl) (op_index_vs (k := .i64) rfl h.1.1 h.1.2.1 (idx_map eGEvent h32) Tryd_slc_30 rfl rfl) rfl) ⟨⟨rfl, rfl, trivial⟩, trivial, trivial⟩ ?_
      refine dr_cons { need := [(23, .pv (.vp (eGEvent y31)))], dst := some 24, val := some (.pv (.agg (eGEvent y31))) } (fun m h => step_on (guard_no rfl) (op_load_vp_agg (ps := eGEvent y31) rfl h.1.1 rfl rfl Tryd_agg_27 rfl rfl) rfl) ⟨⟨rfl, trivial⟩, trivial, trivial⟩ ?_
      refine dr_cons { need := [(20, .pv (.agg (eGEvent y29))), (24, .pv (.agg (eGEvent y31)))], dst := some 25, val := some (.pv (.bool (!(bGEvent y29 y31)))) } (fun m h => step_on (guard_no rfl) (op_eqAgg_neq (r := bGEvent y29 y31) rfl h.1.1 h.1.2.1 Tryd_eqt_27 rfl rfl rfl rfl rfl) rfl) ⟨⟨rfl, rfl, trivial⟩, trivial, trivial⟩ ?_
      refine dr_nil Tryd_mixed rfl (by kernel_rfl) ?_
      refine post_imp (s' := ⟨26, [(0, some (.pv (.vs 10 (List.map eGEvent a0)))), (1, some (.pv (.vs 10 (List.map eGEvent a1)))), (5, some (.pv (.int .i64 x12))), (25, some (.pv (.bool (!(bGEvent y29 y31)))))], [], 0, [], [], 0, []⟩) (imps [] ⟨by kernel_rfl, by kernel_rfl, by kernel_rfl, by kernel_rfl, trivial⟩ trivial) ?_
      refine post_next ?_
      rcases ite_some hF with ⟨hb33, hF⟩ | ⟨hb33, hF⟩
      · refine aw_cond_t rfl hb33 ?_
        refine aw_seq ?_
        refine aw_region ?_
        refine ras ?_
        refine reg_nil ?_
        refine post_imp (s' := ⟨26, [(4, some (.pv (.bool false)))], [], 0, [], [], 0, []⟩) (imps [] ⟨by kernel_rfl, trivial⟩ trivial) ?_
        refine post_next ?_
        refine aw_ret ?_
        refine post_block_ret ?_
        iterate 2 (refine post_then_ret ?_)
        refine post_lp_ret ?_
        obtain rfl := Option.some.inj hF
        have hF := elim_stop hK36
        refine post_then_ret ?_
        obtain rfl := Option.some.inj hF
        exact prt
      refine aw_cond_f rfl hb33 ?_
      refine aw_skip ?_
      refine post_block_normal ?_
      refine post_next ?_
      refine aw_region ?_
      refine rmv ?_
      refine rgp (op_int (k := .i64) (m := x12) (n := 1) rfl rfl rfl rfl rfl rfl) ?_
      refine ras ?_
      refine reg_nil ?_
      refine post_round ?_
      exact rnd_back (ih (w_i64 (x12 + 1)) hF) (imps [] ⟨by kernel_rfl, by kernel_rfl, by kernel_rfl, trivial⟩ trivial)
    refine aw_cond_f rfl hb24 ?_
    refine aw_exit ?_
    iterate 2 (refine post_then_exit ?_)
    obtain rfl := Option.some.inj hF
    exact post_lp_break _ ⟨_, rfl, rfl⟩ (imps [] trivial trivial)
  rintro _ ⟨⟨⟩, rfl, rfl⟩
  have hF := elim_next hK36
  clear hK36
  refine post_next ?_
  refine aw_seq ?_
  refine aw_region ?_
  refine ras ?_
  refine reg_nil ?_
  refine post_imp (s' := ⟨26, [(4, some (.pv (.bool true)))], [], 0, [], [], 0, []⟩) (imps [] ⟨by kernel_rfl, trivial⟩ trivial) ?_
  refine post_next ?_
  refine aw_ret ?_
  obtain rfl := Option.some.inj hF
  exact prt
theorem law42_EventBack_ok {a0 : List GEvent} {a1 : List UInt8} {r : Bool} (hF : law42_EventBack a0 a1 = some r) : Abs.Fn globs_Tryd Tryd.prog 5 [.vs 10 (List.map eGEvent a0), .str a1] [.p (.bool r)] := by
  unfold law42_EventBack at hF
  refine fn_of_body (n := 108) Tryd.func5 rfl rfl rfl ?_
  intro w O
  refine aw_seq ?_
  refine aw_region ?_
  refine ras ?_
  refine reg_nil ?_
  refine post_imp (s' := ⟨108, [(0, some (.pv (.vs 10 (List.map eGEvent a0)))), (1, some (.pv (.str a1)))], [], 0, [], [], 0, []⟩) (imps [] ⟨by kernel_rfl, by kernel_rfl, trivial⟩ trivial) ?_
  refine post_next ?_
  iterate 2 (refine aw_seq ?_)
  obtain ⟨x2, hF, hK4⟩ := bind_some hF
  refine aw_cut (fun s1 => s1 = ⟨108, [(0, some (.pv (.vs 10 (List.map eGEvent a0)))), (1, some (.pv (.str a1))), (20, some (.pv (.bool x2)))], [], 0, [], [], 0, []⟩) ?_ ?_
  · refine aw_region ?_
    refine rmv ?_
    refine rgp (op_len_vs (n := a0.length) rfl rfl (List.length_map ..) Tryd_slc_30 rfl rfl) ?_
    refine rgp (op_int (k := .i64) (m := (a0.length : Int)) (n := 100) rfl rfl rfl rfl rfl rfl) ?_
    refine rmv ?_
    rcases ite_some hF with ⟨hb1, hF⟩ | ⟨hb1, hF⟩
    · refine rgo_t hb1 ?_
      iterate 2 (refine rgo_t hb1 ?_)
      refine rpt hb1 ?_
      refine reg_nil ?_
      cases hF
      exact post_cut _ rfl (imps [] ⟨by kernel_rfl, by kernel_rfl, by kernel_rfl, trivial⟩ trivial)
    refine rgn hb1 (op_move rfl rfl rfl rfl) ?_
    refine rgn hb1 (op_len_str rfl rfl Tryd_und_9 rfl rfl) ?_
    refine rgn hb1 (op_int (k := .i64) (m := (a1.length : Int)) (n := 200) rfl rfl rfl rfl rfl rfl) ?_
    refine rpf hb1 ?_
    refine reg_nil ?_
    cases hF
    exact post_cut _ rfl (imps [] ⟨by kernel_rfl, by kernel_rfl, by kernel_rfl, trivial⟩ trivial)
  rintro _ rfl
  have hF := hK4
  clear hK4
  refine post_next ?_
  rcases ite_some hF with ⟨hb5, hF⟩ | ⟨hb5, hF⟩
  · refine aw_cond_t rfl hb5 ?_
    refine aw_seq ?_
    refine aw_region ?_
    obtain ⟨y6, h7, hF⟩ := bind_some hF
    refine rgp (op_call 0 rfl (caps := []) (args := []) (rs := [.p (.bool y6)]) rfl rfl rfl Tryd_cal_6 (law42_awake_ok h7) rfl rfl rfl) ?_
    refine ras ?_
    refine reg_nil ?_
    refine post_imp (s' := ⟨108, [(4, some (.pv (.bool y6)))], [], 0, [], [], 0, []⟩) (imps [] ⟨by kernel_rfl, trivial⟩ trivial) ?_
    refine post_next ?_
    refine aw_ret ?_
    refine post_then_ret ?_
    obtain rfl := Option.some.inj hF
    exact prt
  refine aw_cond_f rfl hb5 ?_
  refine aw_skip ?_
  refine post_next ?_
  refine aw_seq ?_
  refine aw_region ?_
  refine ras ?_
  refine reg_imp (imp_nil_own 5 27 10 0 rfl rfl) ?_
  refine reg_nil ?_
  refine post_imp (s' := ⟨108, [(0, some (.pv (.vs 10 (List.map eGEvent a0)))), (1, some (.pv (.str a1))), (5, some (.ls 0))], [(0, some (.row 27 10 (List.map eGEvent [])))], 1, [], [], 0, []⟩) (imps [0] ⟨by kernel_rfl, by kernel_rfl, by kernel_rfl, trivial⟩ ⟨by kernel_rfl, trivial⟩) ?_
  refine post_next ?_
  iterate 2 (refine aw_seq ?_)
  refine aw_region ?_
  refine ras ?_
  refine reg_nil ?_
  refine post_imp (s' := ⟨108, [(0, some (.pv (.vs 10 (List.map eGEvent a0)))), (1, some (.pv (.str a1))), (5, some (.ls 0)), (6, some (.pv (.int .i64 0)))], [(0, some (.row 27 10 (List.map eGEvent [])))], 1, [], [], 0, []⟩) (imps [0] ⟨by kernel_rfl, by kernel_rfl, by kernel_rfl, by kernel_rfl, trivial⟩ ⟨by kernel_rfl, trivial⟩) ?_
  refine post_next ?_
  obtain ⟨lr153, hF, hK154⟩ := bind_some hF
  refine aw_for ((((a0.length : Int) : Int) - (0)).toNat + 1) (fun s1 => ∃ q, lr153 = .next q ∧ s1 = ⟨108, [(1, some (.pv (.str a1))), (5, some (.ls 0))], [(0, some (.row 27 10 (List.map eGEvent q)))], 1, [], [], 0, []⟩) ?_ ?_
  · refine rnd_loop (α := (List GEvent) × Int) (fun q => ⟨108, [(0, some (.pv (.vs 10 (List.map eGEvent a0)))), (1, some (.pv (.str a1))), (5, some (.ls 0)), (6, some (.pv (.int .i64 q.2)))], [(0, some (.row 27 10 (List.map eGEvent q.1)))], 1, [], [], 0, []⟩) (fun k q => law42_EventBack_L1 a0 k q.1 q.2 = some lr153) ([], 0) (imps [0] ⟨by kernel_rfl, by kernel_rfl, by kernel_rfl, by kernel_rfl, trivial⟩ ⟨by kernel_rfl, trivial⟩) hF (fun q h => by cases h) ?_
    clear hF
    rintro k ⟨x54, x55⟩ hF ih
    refine rnd_succ ?_
    iterate 2 (refine aw_seq ?_)
    refine aw_region ?_
    iterate 2 (refine rmv ?_)
    refine rgp (op_len_vs (n := a0.length) rfl rfl (List.length_map ..) Tryd_slc_30 rfl rfl) ?_
    refine rgp (op_int (k := .i64) (m := x55) (n := (a0.length : Int)) rfl rfl rfl rfl rfl rfl) ?_
    refine reg_nil ?_
    refine post_imp (s' := ⟨108, [(0, some (.pv (.vs 10 (List.map eGEvent a0)))), (1, some (.pv (.str a1))), (5, some (.ls 0)), (6, some (.pv (.int .i64 x55))), (25, some (.pv (.bool (decide (x55 < (a0.length : Int))))))], [(0, some (.row 27 10 (List.map eGEvent x54)))], 1, [], [], 0, []⟩) (imps [0] ⟨by kernel_rfl, by kernel_rfl, by kernel_rfl, by kernel_rfl, by kernel_rfl, trivial⟩ ⟨by kernel_rfl, trivial⟩) ?_
    refine post_next ?_
    rcases ite_some hF with ⟨hb104, hF⟩ | ⟨hb104, hF⟩
    · refine aw_cond_t rfl hb104 ?_
      refine aw_skip ?_
      refine post_next ?_
      refine aw_seq ?_
      refine aw_join hF (fun q => ⟨108, [(0, some (.pv (.vs 10 (List.map eGEvent a0)))), (1, some (.pv (.str a1))), (5, some (.ls 0)), (6, some (.pv (.int .i64 x55)))], [(0, some (.row 27 10 (List.map eGEvent q)))], 1, [], [], 0, []⟩) ?_ ?_
      · refine aw_block ?_
        refine aw_seq ?_
        obtain ⟨x118, hF, hK120⟩ := go_bind hF
        refine aw_cut (fun s1 => s1 = ⟨108, [(0, some (.pv (.vs 10 (List.map eGEvent a0)))), (1, some (.pv (.str a1))), (5, some (.ls 0)), (6, some (.pv (.int .i64 x55))), (39, some (.pv (.bool x118)))], [(0, some (.row 27 10 (List.map eGEvent x54)))], 1, [], [], 0, []⟩) ?_ ?_
        · refine aw_region ?_
          iterate 2 (refine rmv ?_)
          obtain ⟨y109, h110, hF⟩ := bind_some hF
          refine rgp (op_index_vs (k := .i64) rfl rfl rfl (idx_map eGEvent h110) Tryd_slc_30 rfl rfl) ?_
          refine rgp (op_load_vp_agg (ps := eGEvent y109) rfl rfl rfl rfl Tryd_agg_27 rfl rfl) ?_
          obtain ⟨y111, h112, hF⟩ := bind_some hF
          refine rgp (op_call 1 rfl (caps := []) (args := [.agg (eGEvent y109)]) (rs := [.p (.bool y111)]) rfl rfl rfl Tryd_cal_12 (event_Right_ok h112) rfl rfl rfl) ?_
          refine rmv ?_
          rcases ite_some hF with ⟨hb113, hF⟩ | ⟨hb113, hF⟩
          · refine rgn hb113 (op_move rfl rfl rfl rfl) ?_
            refine rgn hb113 (op_move rfl rfl rfl rfl) ?_
            obtain ⟨y114, h115, hF⟩ := bind_some hF
            refine rgn hb113 (op_index_vs (k := .i64) rfl rfl rfl (idx_map eGEvent h115) Tryd_slc_30 rfl rfl) ?_
            refine rgn hb113 (op_load_vp_agg (ps := eGEvent y114) rfl rfl rfl rfl Tryd_agg_27 rfl rfl) ?_
            obtain ⟨y116, h117, hF⟩ := bind_some hF
            refine rgn hb113 (op_call 1 rfl (caps := []) (args := [.agg (eGEvent y114)]) (rs := [.p (.bool y116)]) rfl rfl rfl Tryd_cal_18 (ref42_Small_ok h117) rfl rfl rfl) ?_
            refine rpt hb113 ?_
            refine reg_nil ?_
            cases hF
            exact post_cut _ rfl (imps [0] ⟨by kernel_rfl, by kernel_rfl, by kernel_rfl, by kernel_rfl, by kernel_rfl, trivial⟩ ⟨by kernel_rfl, trivial⟩)
          iterate 5 (refine rgo_f hb113 ?_)
          refine rpf hb113 ?_
          refine reg_nil ?_
          cases hF
          exact post_cut _ rfl (imps [0] ⟨by kernel_rfl, by kernel_rfl, by kernel_rfl, by kernel_rfl, by kernel_rfl, trivial⟩ ⟨by kernel_rfl, trivial⟩)
        rintro _ rfl
        have hF := hK120
        clear hK120
        refine post_next ?_
        rcases go_ite hF with ⟨hb121, hF⟩ | ⟨hb121, hF⟩
        · refine aw_cond_t rfl hb121 ?_
          refine aw_seq ?_
          refine aw_region ?_
          iterate 3 (refine rmv ?_)
          obtain ⟨y126, h127, hF⟩ := go_bind hF
          refine rgp (op_index_vs (k := .i64) rfl rfl rfl (idx_map eGEvent h127) Tryd_slc_30 rfl rfl) ?_
          refine rgp (op_load_vp_agg (ps := eGEvent y126) rfl rfl rfl rfl Tryd_agg_27 rfl rfl) ?_
          refine rgp (op_lit (rows := List.map eGEvent ([y126] : List GEvent)) (zs := (eGEvent zGEvent)) rfl rfl Tryd_slc_30 Tryd_zer_27 (by exact ⟨rfl, rfl, rfl, rfl, rfl, rfl, rfl, rfl, rfl, rfl, trivial⟩) rfl rfl rfl rfl rfl rfl rfl rfl) ?_
          obtain ⟨u128, h129, hF⟩ := go_bind hF
          refine rgp (op_append 1 rfl rfl rfl rfl rfl Tryd_slc_30 Tryd_elm_27 Tryd_zer_27 rfl rfl rfl (room_map (f := eGEvent) (g := eGEvent) h129) (List.map_append (f := eGEvent) (l₁ := x54) (l₂ := [y126])).symm rfl rfl) ?_
          refine ras ?_
          refine reg_nil ?_
          refine post_imp (s' := ⟨108, [(0, some (.pv (.vs 10 (List.map eGEvent a0)))), (1, some (.pv (.str a1))), (5, some (.ls 0)), (6, some (.pv (.int .i64 x55)))], [(0, some (.row 27 10 (List.map eGEvent (x54 ++ [y126]))))], 1, [], [], 0, []⟩) (imps [1] ⟨by kernel_rfl, by kernel_rfl, by kernel_rfl, by kernel_rfl, trivial⟩ ⟨by kernel_rfl, trivial⟩) ?_
          refine post_next ?_
          refine aw_seq ?_
          refine aw_region ?_
          iterate 2 (refine rmv ?_)
          obtain ⟨y136, h137, hF⟩ := go_bind hF
          refine rgp (op_index_vs (k := .i64) rfl rfl rfl (idx_map eGEvent h137) Tryd_slc_30 rfl rfl) ?_
          refine rgp (op_load_vp_agg (ps := eGEvent y136) rfl rfl rfl rfl Tryd_agg_27 rfl rfl) ?_
          obtain ⟨y138, h139, hF⟩ := go_bind hF
          refine rgp (op_call 1 rfl (caps := []) (args := [.agg (eGEvent y136)]) (rs := [.p (.str y138)]) rfl rfl rfl Tryd_cal_14 (event_Text_ok h139) rfl rfl rfl) ?_
          obtain ⟨y140, h141, hF⟩ := go_bind hF
          refine rgp (op_call 1 rfl (caps := []) (args := [.str y138]) (rs := [.p (.agg (eGEvent y140.1)), .p (.bool y140.2)]) rfl rfl rfl Tryd_cal_7 (event_Read_ok h141) rfl rfl rfl) ?_
          refine rmv ?_
          iterate 2 (refine rgp (op_extract rfl rfl rfl rfl rfl) ?_)
          refine rgp (op_alloc 1 rfl (ps := (eGEvent zGEvent)) rfl Tryd_zer_27 (by exact ⟨rfl, rfl, rfl, rfl, rfl, rfl, rfl, rfl, rfl, rfl, trivial⟩) rfl rfl) ?_
          refine rgp (op_store_lp (n := 10) rfl rfl rfl rfl rfl (or_agg Tryd_agg_27) (by rw [Tryd_non_27]; rfl) rfl rfl rfl) ?_
          refine ras ?_
          refine reg_nil ?_
          refine post_imp (s' := ⟨108, [(0, some (.pv (.vs 10 (List.map eGEvent a0)))), (1, some (.pv (.str a1))), (5, some (.ls 0)), (6, some (.pv (.int .i64 x55))), (7, some (.lp 1 0)), (8, some (.pv (.bool y140.2)))], [(0, some (.row 27 10 (List.map eGEvent (x54 ++ [y126])))), (1, some (.box 27 (bxv (eGEvent y140.1))))], 2, [], [], 0, []⟩) (imps [0, 1] ⟨by kernel_rfl, by kernel_rfl, by kernel_rfl, by kernel_rfl, by kernel_rfl, by kernel_rfl, trivial⟩ ⟨by kernel_rfl, by kernel_rfl, trivial⟩) ?_
          refine post_next ?_
          refine aw_seq ?_
          obtain ⟨x145, hF, hK147⟩ := go_bind hF
          refine aw_cut (fun s1 => s1 = ⟨108, [(0, some (.pv (.vs 10 (List.map eGEvent a0)))), (1, some (.pv (.str a1))), (5, some (.ls 0)), (6, some (.pv (.int .i64 x55))), (65, some (.pv (.bool x145)))], [(0, some (.row 27 10 (List.map eGEvent (x54 ++ [y126]))))], 1, [], [], 0, []⟩) ?_ ?_
          · refine dr_start ⟨_, _, _⟩ rfl ?_
            refine drm ?_
            refine dr_cons { need := [(56, .pv (.bool y140.2))], dst := some 57, val := some (.pv (.bool (!y140.2))) } (fun m h => step_on (guard_no rfl) (op_not rfl h.1.1 rfl rfl) rfl) ⟨⟨rfl, trivial⟩, trivial, trivial⟩ ?_
            refine drm ?_
            rcases ite_some hF with ⟨hb142, hF⟩ | ⟨hb142, hF⟩
            · refine dro_t hb142 ?_
              iterate 5 (refine dro_t hb142 ?_)
              refine drpt hb142 ?_
              refine dr_nil Tryd_mixed rfl (by kernel_rfl) ?_
              refine post_imp (s' := ⟨108, [(0, some (.pv (.vs 10 (List.map eGEvent a0)))), (1, some (.pv (.str a1))), (5, some (.ls 0)), (6, some (.pv (.int .i64 x55))), (65, some (.pv (.bool true)))], [(0, some (.row 27 10 (List.map eGEvent (x54 ++ [y126]))))], 1, [], [], 0, []⟩) (imps [0] ⟨by kernel_rfl, by kernel_rfl, by kernel_rfl, by kernel_rfl, by kernel_rfl, trivial⟩ ⟨by kernel_rfl, trivial⟩) ?_
              cases hF
              exact post_cut _ rfl (imps [0] ⟨by kernel_rfl, by kernel_rfl, by kernel_rfl, by kernel_rfl, by kernel_rfl, trivial⟩ ⟨by kernel_rfl, trivial⟩)
            refine dr_cons { need := [(58, .pv (.bool (!y140.2))), (7, .lp 1 0)], hneed := [(1, .box 27 (bxv (eGEvent y140.1)))], dst := some 59, val := some (.pv (.agg (eGEvent y140.1))) } (fun m h => step_on (guard_on rfl rfl rfl h.1.1 hb142) (op_load_lp_agg (ps := eGEvent y140.1) rfl h.1.2.1 h.2.1.1 rfl rfl rfl Tryd_agg_27 rfl rfl) rfl) ⟨⟨rfl, rfl, trivial⟩, ⟨rfl, trivial⟩, trivial⟩ ?_
            refine dr_cons { need := [(58, .pv (.bool (!y140.2))), (0, .pv (.vs 10 (List.map eGEvent a0)))], dst := some 60, val := some (.pv (.vs 10 (List.map eGEvent a0))) } (fun m h => step_on (guard_on rfl rfl rfl h.1.1 hb142) (op_move rfl h.1.2.1 rfl rfl) rfl) ⟨⟨rfl, rfl, trivial⟩, trivial, trivial⟩ ?_
            refine dr_cons { need := [(58, .pv (.bool (!y140.2))), (6, .pv (.int .i64 x55))], dst := some 61, val := some (.pv (.int .i64 x55)) } (fun m h => step_on (guard_on rfl rfl rfl h.1.1 hb142) (op_move rfl h.1.2.1 rfl rfl) rfl) ⟨⟨rfl, rfl, trivial⟩, trivial, trivial⟩ ?_
            obtain ⟨y143, h144, hF⟩ := bind_some hF
            refine dr_cons { need := [(58, .pv (.bool (!y140.2))), (60, .pv (.vs 10 (List.map eGEvent a0))), (61, .pv (.int .i64 x55))], dst := some 62, val := some (.pv (.vp (eGEvent y143))) } (fun m h => step_on (guard_on rfl rfl rfl h.1.1 hb142) (op_index_vs (k := .i64) rfl h.1.2.1 h.1.2.2.1 (idx_map eGEvent h144) Tryd_slc_30 rfl rfl) rfl) ⟨⟨rfl, rfl, rfl, trivial⟩, trivial, trivial⟩ ?_
            refine dr_cons { need := [(58, .pv (.bool (!y140.2))), (62, .pv (.vp (eGEvent y143)))], dst := some 63, val := some (.pv (.agg (eGEvent y143))) } (fun m h => step_on (guard_on rfl rfl rfl h.1.1 hb142) (op_load_vp_agg (ps := eGEvent y143) rfl h.1.2.1 rfl rfl Tryd_agg_27 rfl rfl) rfl) ⟨⟨rfl, rfl, trivial⟩, trivial, trivial⟩ ?_
            refine dr_cons { need := [(58, .pv (.bool (!y140.2))), (59, .pv (.agg (eGEvent y140.1))), (63, .pv (.agg (eGEvent y143)))], dst := some 64, val := some (.pv (.bool (!(bGEvent y140.1 y143)))) } (fun m h => step_on (guard_on rfl rfl rfl h.1.1 hb142) (op_eqAgg_neq (r := bGEvent y140.1 y143) rfl h.1.2.1 h.1.2.2.1 Tryd_eqt_27 rfl rfl rfl rfl rfl) rfl) ⟨⟨rfl, rfl, rfl, trivial⟩, trivial, trivial⟩ ?_
            refine dr_cons { need := [(58, .pv (.bool (!y140.2))), (64, .pv (.bool (!(bGEvent y140.1 y143))))], dst := some 65, val := some (.pv (.bool (!(bGEvent y140.1 y143)))) } (fun m h => step_on (guard_no rfl) (op_pick_f rfl h.1.1 hb142 h.1.2.1 rfl rfl) rfl) ⟨⟨rfl, rfl, trivial⟩, trivial, trivial⟩ ?_
            refine dr_nil Tryd_mixed rfl (by kernel_rfl) ?_
            refine post_imp (s' := ⟨108, [(0, some (.pv (.vs 10 (List.map eGEvent a0)))), (1, some (.pv (.str a1))), (5, some (.ls 0)), (6, some (.pv (.int .i64 x55))), (65, some (.pv (.bool (!(bGEvent y140.1 y143)))))], [(0, some (.row 27 10 (List.map eGEvent (x54 ++ [y126]))))], 1, [], [], 0, []⟩) (imps [0] ⟨by kernel_rfl, by kernel_rfl, by kernel_rfl, by kernel_rfl, by kernel_rfl, trivial⟩ ⟨by kernel_rfl, trivial⟩) ?_
            cases hF
            exact post_cut _ rfl (imps [0] ⟨by kernel_rfl, by kernel_rfl, by kernel_rfl, by kernel_rfl, by kernel_rfl, trivial⟩ ⟨by kernel_rfl, trivial⟩)
          rintro _ rfl
          have hF := hK147
          clear hK147
          refine post_next ?_
          rcases go_ite hF with ⟨hb148, hF⟩ | ⟨hb148, hF⟩
          · refine aw_cond_t rfl hb148 ?_
            refine aw_seq ?_
            refine aw_region ?_
            refine ras ?_
            refine reg_nil ?_
            refine post_imp (s' := ⟨108, [(4, some (.pv (.bool false)))], [], 0, [], [], 0, []⟩) (imps [] ⟨by kernel_rfl, trivial⟩ trivial) ?_
            refine post_next ?_
            refine aw_ret ?_
            refine post_block_ret ?_
            refine post_cut_ret ?_
            replace hF := go_stop hF
            iterate 2 (refine post_then_ret ?_)
            refine post_lp_ret ?_
            obtain rfl := Option.some.inj hF
            have hF := elim_stop hK154
            refine post_then_ret ?_
            obtain rfl := Option.some.inj hF
            exact prt
          refine aw_cond_f rfl hb148 ?_
          refine aw_skip ?_
          refine post_block_normal ?_
          exact post_cut _ ⟨(x54 ++ [y126]), rfl, hF⟩ (imps [0] ⟨by kernel_rfl, by kernel_rfl, by kernel_rfl, by kernel_rfl, trivial⟩ ⟨by kernel_rfl, trivial⟩)
        refine aw_cond_f rfl hb121 ?_
        refine aw_skip ?_
        refine post_block_normal ?_
        exact post_cut _ ⟨x54, rfl, hF⟩ (imps [0] ⟨by kernel_rfl, by kernel_rfl, by kernel_rfl, by kernel_rfl, trivial⟩ ⟨by kernel_rfl, trivial⟩)
      rintro x149 hF
      refine post_next ?_
      refine aw_region ?_
      refine rmv ?_
      refine rgp (op_int (k := .i64) (m := x55) (n := 1) rfl rfl rfl rfl rfl rfl) ?_
      refine ras ?_
      refine reg_nil ?_
      refine post_round ?_
      exact rnd_back (ih (x149, w_i64 (x55 + 1)) hF) (imps [0] ⟨by kernel_rfl, by kernel_rfl, by kernel_rfl, by kernel_rfl, trivial⟩ ⟨by kernel_rfl, trivial⟩)
    refine aw_cond_f rfl hb104 ?_
    refine aw_exit ?_
    iterate 2 (refine post_then_exit ?_)
    obtain rfl := Option.some.inj hF
    exact post_lp_break _ ⟨_, rfl, rfl⟩ (imps [0] ⟨by kernel_rfl, by kernel_rfl, trivial⟩ ⟨by kernel_rfl, trivial⟩)
  rintro _ ⟨x152, rfl, rfl⟩
  have hF := elim_next hK154
  clear hK154
  refine post_next ?_
  refine aw_seq ?_
  refine aw_region ?_
  refine rmv ?_
  obtain ⟨y159, h160, hF⟩ := bind_some hF
  refine rgp (op_callB 1 rfl (caps := []) (args := [.vs 10 (List.map eGEvent x152)]) [(0, some (.row 27 10 (List.map eGEvent x152)))] rfl rfl rfl (FzH.spec ⟨rfl, trivial⟩) rfl rfl Tryd_cal_16 (event_All_ok h160) rfl rfl rfl) ?_
  obtain ⟨y161, h162, hF⟩ := bind_some hF
  refine rgp (op_call 1 rfl (caps := []) (args := [.str y159]) (rs := [.p (.vs 10 (List.map eGEvent y161.1)), .p (.int .i64 y161.2)]) rfl rfl rfl Tryd_cal_9 (Fn.frozen (event_Lines_ok h162)) rfl rfl rfl) ?_
  refine rmv ?_
  iterate 2 (refine rgp (op_extract rfl rfl rfl rfl rfl) ?_)
  iterate 2 (refine ras ?_)
  refine reg_nil ?_
  refine post_imp (s' := ⟨108, [(1, some (.pv (.str a1))), (5, some (.ls 0)), (9, some (.pv (.vs 10 (List.map eGEvent y161.1)))), (10, some (.pv (.int .i64 y161.2)))], [(0, some (.row 27 10 (List.map eGEvent x152)))], 1, [], [], 0, []⟩) (imps [0] ⟨by kernel_rfl, by kernel_rfl, by kernel_rfl, by kernel_rfl, trivial⟩ ⟨by kernel_rfl, trivial⟩) ?_
  refine post_next ?_
  refine aw_seq ?_
  refine aw_region ?_
  refine rmv ?_
  obtain ⟨y165, h166, hF⟩ := bind_some hF
  refine rgp (op_call 1 rfl (caps := []) (args := [.str a1]) (rs := [.p (.agg (eGEvent y165.1)), .p (.bool y165.2)]) rfl rfl rfl Tryd_cal_7 (event_Read_ok h166) rfl rfl rfl) ?_
  refine rmv ?_
  iterate 2 (refine rgp (op_extract rfl rfl rfl rfl rfl) ?_)
  refine rgp (op_alloc 1 rfl (ps := (eGEvent zGEvent)) rfl Tryd_zer_27 (by exact ⟨rfl, rfl, rfl, rfl, rfl, rfl, rfl, rfl, rfl, rfl, trivial⟩) rfl rfl) ?_
  refine rgp (op_store_lp (n := 10) rfl rfl rfl rfl rfl (or_agg Tryd_agg_27) (by rw [Tryd_non_27]; rfl) rfl rfl rfl) ?_
  refine ras ?_
  refine reg_nil ?_
  refine post_imp (s' := ⟨108, [(1, some (.pv (.str a1))), (5, some (.ls 0)), (9, some (.pv (.vs 10 (List.map eGEvent y161.1)))), (10, some (.pv (.int .i64 y161.2))), (11, some (.lp 1 0)), (12, some (.pv (.bool y165.2)))], [(0, some (.row 27 10 (List.map eGEvent x152))), (1, some (.box 27 (bxv (eGEvent y165.1))))], 2, [], [], 0, []⟩) (imps [0, 1] ⟨by kernel_rfl, by kernel_rfl, by kernel_rfl, by kernel_rfl, by kernel_rfl, by kernel_rfl, trivial⟩ ⟨by kernel_rfl, by kernel_rfl, trivial⟩) ?_
  refine post_next ?_
  iterate 2 (refine aw_seq ?_)
  obtain ⟨x176, hF, hK178⟩ := bind_some hF
  refine aw_cut (fun s1 => s1 = ⟨108, [(5, some (.ls 0)), (9, some (.pv (.vs 10 (List.map eGEvent y161.1)))), (10, some (.pv (.int .i64 y161.2))), (97, some (.pv (.bool x176)))], [(0, some (.row 27 10 (List.map eGEvent x152)))], 1, [], [], 0, []⟩) ?_ ?_
  · refine aw_region ?_
    iterate 2 (refine rmv ?_)
    rcases ite_some hF with ⟨hb167, hF⟩ | ⟨hb167, hF⟩
    · refine rgn hb167 (op_load_lp_agg (ps := eGEvent y165.1) rfl rfl rfl rfl rfl rfl Tryd_agg_27 rfl rfl) ?_
      obtain ⟨y168, h169, hF⟩ := bind_some hF
      refine rgn hb167 (op_call 2 rfl (caps := []) (args := [.agg (eGEvent y165.1)]) (rs := [.p (.str y168)]) rfl rfl rfl Tryd_cal_14 (event_Text_ok h169) rfl rfl rfl) ?_
      refine rgn hb167 (op_move rfl rfl rfl rfl) ?_
      refine rgn hb167 (op_str rfl rfl rfl rfl rfl rfl) ?_
      refine rgn hb167 (op_move rfl rfl rfl rfl) ?_
      rcases ite_some hF with ⟨hb170, hF⟩ | ⟨hb170, hF⟩
      · refine rgo_t hb170 ?_
        iterate 2 (refine rgo_t hb170 ?_)
        refine rgn hb167 (op_pick_t rfl rfl hb170 rfl rfl rfl) ?_
        refine rpt hb167 ?_
        refine rmv ?_
        iterate 3 (refine rgo_t rfl ?_)
        iterate 3 (refine rgu ?_)
        refine rgo_t rfl ?_
        refine rpt rfl ?_
        refine reg_nil ?_
        cases hF
        exact post_cut _ rfl (imps [0] ⟨by kernel_rfl, by kernel_rfl, by kernel_rfl, by kernel_rfl, trivial⟩ ⟨by kernel_rfl, trivial⟩)
      refine rgn hb170 (op_load_lp_agg (ps := eGEvent y165.1) rfl rfl rfl rfl rfl rfl Tryd_agg_27 rfl rfl) ?_
      obtain ⟨y171, h172, hF⟩ := bind_some hF
      refine rgn hb170 (op_call 2 rfl (caps := []) (args := [.agg (eGEvent y165.1)]) (rs := [.p (.bool y171)]) rfl rfl rfl Tryd_cal_12 (event_Right_ok h172) rfl rfl rfl) ?_
      refine rgn hb170 (op_not rfl rfl rfl rfl) ?_
      refine rgn hb167 (op_pick_f rfl rfl hb170 rfl rfl rfl) ?_
      refine rpt hb167 ?_
      refine rmv ?_
      rcases ite_some hF with ⟨hb173, hF⟩ | ⟨hb173, hF⟩
      · refine rgo_t hb173 ?_
        iterate 2 (refine rgo_t hb173 ?_)
        iterate 3 (refine rgu ?_)
        refine rgo_t hb173 ?_
        refine rpt hb173 ?_
        refine reg_nil ?_
        cases hF
        exact post_cut _ rfl (imps [0] ⟨by kernel_rfl, by kernel_rfl, by kernel_rfl, by kernel_rfl, trivial⟩ ⟨by kernel_rfl, trivial⟩)
      refine rgn hb173 (op_move rfl rfl rfl rfl) ?_
      refine rgn hb173 (op_not rfl rfl rfl rfl) ?_
      refine rgn hb173 (op_move rfl rfl rfl rfl) ?_
      rcases ite_some hF with ⟨hb174, hF⟩ | ⟨hb174, hF⟩
      · refine rgn hb174 (op_load_lp_agg (ps := eGEvent y165.1) rfl rfl rfl rfl rfl rfl Tryd_agg_27 rfl rfl) ?_
        refine rgn hb174 (op_build (zs := (eGEvent zGEvent)) (r := eGEvent ({ fKind := 0, fWho := 0, fObj := 0, fName := [], fV := zGVal, fOwn := (⟨0, 0, 0, 0⟩ : A4 Int) } : GEvent)) rfl Tryd_zer_27 (by exact ⟨rfl, rfl, rfl, rfl, rfl, rfl, rfl, rfl, rfl, rfl, trivial⟩) Tryd_plc_27 rfl rfl rfl rfl) ?_
        refine rgn hb174 (op_eqAgg_neq (r := bGEvent y165.1 ({ fKind := 0, fWho := 0, fObj := 0, fName := [], fV := zGVal, fOwn := (⟨0, 0, 0, 0⟩ : A4 Int) } : GEvent)) rfl rfl rfl Tryd_eqt_27 rfl rfl rfl rfl rfl) ?_
        refine rgn hb173 (op_pick_t rfl rfl hb174 rfl rfl rfl) ?_
        refine rpf hb173 ?_
        refine reg_nil ?_
        cases hF
        exact post_cut _ rfl (imps [0] ⟨by kernel_rfl, by kernel_rfl, by kernel_rfl, by kernel_rfl, trivial⟩ ⟨by kernel_rfl, trivial⟩)
      iterate 3 (refine rgo_f hb174 ?_)
      refine rgn hb173 (op_pick_f rfl rfl hb174 rfl rfl rfl) ?_
      refine rpf hb173 ?_
      refine reg_nil ?_
      cases hF
      exact post_cut _ rfl (imps [0] ⟨by kernel_rfl, by kernel_rfl, by kernel_rfl, by kernel_rfl, trivial⟩ ⟨by kernel_rfl, trivial⟩)
    iterate 5 (refine rgo_f hb167 ?_)
    iterate 3 (refine rgu ?_)
    refine rgo_f hb167 ?_
    refine rpf hb167 ?_
    refine rmv ?_
    refine rgn rfl (op_move rfl rfl rfl rfl) ?_
    refine rgn rfl (op_not rfl rfl rfl rfl) ?_
    refine rgn rfl (op_move rfl rfl rfl rfl) ?_
    rcases ite_some hF with ⟨hb175, hF⟩ | ⟨hb175, hF⟩
    · refine rgn hb175 (op_load_lp_agg (ps := eGEvent y165.1) rfl rfl rfl rfl rfl rfl Tryd_agg_27 rfl rfl) ?_
      refine rgn hb175 (op_build (zs := (eGEvent zGEvent)) (r := eGEvent ({ fKind := 0, fWho := 0, fObj := 0, fName := [], fV := zGVal, fOwn := (⟨0, 0, 0, 0⟩ : A4 Int) } : GEvent)) rfl Tryd_zer_27 (by exact ⟨rfl, rfl, rfl, rfl, rfl, rfl, rfl, rfl, rfl, rfl, trivial⟩) Tryd_plc_27 rfl rfl rfl rfl) ?_
      refine rgn hb175 (op_eqAgg_neq (r := bGEvent y165.1 ({ fKind := 0, fWho := 0, fObj := 0, fName := [], fV := zGVal, fOwn := (⟨0, 0, 0, 0⟩ : A4 Int) } : GEvent)) rfl rfl rfl Tryd_eqt_27 rfl rfl rfl rfl rfl) ?_
      refine rgn rfl (op_pick_t rfl rfl hb175 rfl rfl rfl) ?_
      refine rpf rfl ?_
      refine reg_nil ?_
      cases hF
      exact post_cut _ rfl (imps [0] ⟨by kernel_rfl, by kernel_rfl, by kernel_rfl, by kernel_rfl, trivial⟩ ⟨by kernel_rfl, trivial⟩)
    iterate 3 (refine rgo_f hb175 ?_)
    refine rgn rfl (op_pick_f rfl rfl hb175 rfl rfl rfl) ?_
    refine rpf rfl ?_
    refine reg_nil ?_
    cases hF
    exact post_cut _ rfl (imps [0] ⟨by kernel_rfl, by kernel_rfl, by kernel_rfl, by kernel_rfl, trivial⟩ ⟨by kernel_rfl, trivial⟩)
  rintro _ rfl
  have hF := hK178
  clear hK178
  refine post_next ?_
  rcases ite_some hF with ⟨hb179, hF⟩ | ⟨hb179, hF⟩
  · refine aw_cond_t rfl hb179 ?_
    refine aw_seq ?_
    refine aw_region ?_
    refine ras ?_
    refine reg_nil ?_
    refine post_imp (s' := ⟨108, [(4, some (.pv (.bool false)))], [], 0, [], [], 0, []⟩) (imps [] ⟨by kernel_rfl, trivial⟩ trivial) ?_
    refine post_next ?_
    refine aw_ret ?_
    refine post_then_ret ?_
    obtain rfl := Option.some.inj hF
    exact prt
  refine aw_cond_f rfl hb179 ?_
  refine aw_skip ?_
  refine post_next ?_
  refine aw_seq ?_
  refine aw_region ?_
  refine rmv ?_
  refine rgp (op_int (k := .i64) (m := y161.2) (n := (-1)) rfl rfl rfl rfl rfl rfl) ?_
  refine rmv ?_
  rcases ite_some hF with ⟨hb180, hF⟩ | ⟨hb180, hF⟩
  · refine rgn hb180 (op_move rfl rfl rfl rfl) ?_
    refine rgn hb180 (op_move rfl rfl rfl rfl) ?_
    obtain ⟨y181, h182, hF⟩ := bind_some hF
    refine rgn hb180 (op_callB 1 rfl (caps := []) (args := [.vs 10 (List.map eGEvent y161.1), .vs 10 (List.map eGEvent x152)]) [(0, some (.row 27 10 (List.map eGEvent x152)))] rfl rfl rfl (FzH.spec ⟨rfl, trivial⟩) rfl rfl Tryd_cal_11 (law42_same_ok h182) rfl rfl rfl) ?_
    refine rpt hb180 ?_
    refine rmv ?_
    rcases ite_some hF with ⟨hb183, hF⟩ | ⟨hb183, hF⟩
    · obtain ⟨y184, h185, hF⟩ := bind_some hF
      refine rgn hb183 (op_call 1 rfl (caps := []) (args := []) (rs := [.p (.bool y184)]) rfl rfl rfl Tryd_cal_6 (law42_awake_ok h185) rfl rfl rfl) ?_
      refine rpt hb183 ?_
      refine ras ?_
      refine reg_nil ?_
      refine post_imp (s' := ⟨108, [(4, some (.pv (.bool y184)))], [], 0, [], [], 0, []⟩) (imps [] ⟨by kernel_rfl, trivial⟩ trivial) ?_
      refine post_next ?_
      refine aw_ret ?_
      obtain rfl := Option.some.inj hF
      exact prt
    refine rgo_f hb183 ?_
    refine rpf hb183 ?_
    refine ras ?_
    refine reg_nil ?_
    refine post_imp (s' := ⟨108, [(4, some (.pv (.bool false)))], [], 0, [], [], 0, []⟩) (imps [] ⟨by kernel_rfl, trivial⟩ trivial) ?_
    refine post_next ?_
    refine aw_ret ?_
    obtain rfl := Option.some.inj hF
    exact prt
  iterate 3 (refine rgo_f hb180 ?_)
  refine rpf hb180 ?_
  refine rmv ?_
  refine rgo_f rfl ?_
  refine rpf rfl ?_
  refine ras ?_
  refine reg_nil ?_
  refine post_imp (s' := ⟨108, [(4, some (.pv (.bool false)))], [], 0, [], [], 0, []⟩) (imps [] ⟨by kernel_rfl, trivial⟩ trivial) ?_
  refine post_next ?_
  refine aw_ret ?_
  obtain rfl := Option.some.inj hF
  exact prt
theorem ref42_words_ok {a0 : List UInt8} {r : (List (List UInt8))} (hF : ref42_words a0 = some r) : Abs.Fn globs_Tryd Tryd.prog 20 [.str a0] [.own 9 1 (List.map eS r)] := by
  unfold ref42_words at hF
  refine fn_of_body (n := 33) Tryd.func20 rfl rfl rfl ?_
  intro w O
  refine aw_seq ?_
  refine aw_region ?_
  refine ras ?_
  refine reg_nil ?_
  refine post_imp (s' := ⟨33, [(0, some (.pv (.str a0)))], [], 0, [], [], 0, []⟩) (imps [] ⟨by kernel_rfl, trivial⟩ trivial) ?_
  refine post_next ?_
  refine aw_seq ?_
  refine aw_region ?_
  refine rgp (op_litOwn 0 rfl (rows := List.map eS ([[]] : List (List UInt8))) (zs := [.str []]) rfl rfl Tryd_slc_41 Tryd_zer_9 (by exact ⟨rfl, trivial⟩) rfl rfl rfl rfl rfl rfl rfl rfl) ?_
  refine ras ?_
  refine reg_nil ?_
  refine post_imp (s' := ⟨33, [(0, some (.pv (.str a0))), (3, some (.ls 0))], [(0, some (.row 9 1 (List.map eS [[]])))], 1, [], [], 0, []⟩) (imps [0] ⟨by kernel_rfl, by kernel_rfl, trivial⟩ ⟨by kernel_rfl, trivial⟩) ?_
  refine post_next ?_
  iterate 2 (refine aw_seq ?_)
  refine aw_region ?_
  refine ras ?_
  refine reg_nil ?_
  refine post_imp (s' := ⟨33, [(0, some (.pv (.str a0))), (3, some (.ls 0)), (4, some (.pv (.int .i64 0)))], [(0, some (.row 9 1 (List.map eS [[]])))], 1, [], [], 0, []⟩) (imps [0] ⟨by kernel_rfl, by kernel_rfl, by kernel_rfl, trivial⟩ ⟨by kernel_rfl, trivial⟩) ?_
  refine post_next ?_
  obtain ⟨x64, hF, hK65⟩ := bind_some hF
  refine aw_for ((((a0.length : Int) : Int) - (0)).toNat + 1) (fun s1 => s1 = ⟨33, [(3, some (.ls 0))], [(0, some (.row 9 1 (List.map eS x64)))], 1, [], [], 0, []⟩) ?_ ?_
  · refine rnd_loop (α := (List (List UInt8)) × Int) (fun q => ⟨33, [(0, some (.pv (.str a0))), (3, some (.ls 0)), (4, some (.pv (.int .i64 q.2)))], [(0, some (.row 9 1 (List.map eS q.1)))], 1, [], [], 0, []⟩) (fun k q => ref42_words_L1 a0 k q.1 q.2 = some x64) ([[]], 0) (imps [0] ⟨by kernel_rfl, by kernel_rfl, by kernel_rfl, trivial⟩ ⟨by kernel_rfl, trivial⟩) hF (fun q h => by cases h) ?_
    clear hF
    rintro k ⟨x20, x21⟩ hF ih
    refine rnd_succ ?_
    iterate 2 (refine aw_seq ?_)
    refine aw_region ?_
    iterate 2 (refine rmv ?_)
    refine rgp (op_len_str rfl rfl Tryd_und_9 rfl rfl) ?_
    refine rgp (op_int (k := .i64) (m := x21) (n := (a0.length : Int)) rfl rfl rfl rfl rfl rfl) ?_
    refine reg_nil ?_
    refine post_imp (s' := ⟨33, [(0, some (.pv (.str a0))), (3, some (.ls 0)), (4, some (.pv (.int .i64 x21))), (9, some (.pv (.bool (decide (x21 < (a0.length : Int))))))], [(0, some (.row 9 1 (List.map eS x20)))], 1, [], [], 0, []⟩) (imps [0] ⟨by kernel_rfl, by kernel_rfl, by kernel_rfl, by kernel_rfl, trivial⟩ ⟨by kernel_rfl, trivial⟩) ?_
    refine post_next ?_
    rcases ite_some hF with ⟨hb43, hF⟩ | ⟨hb43, hF⟩
    · refine aw_cond_t rfl hb43 ?_
      refine aw_skip ?_
      refine post_next ?_
      refine aw_seq ?_
      obtain ⟨x59, hF, hK61⟩ := bind_some hF
      refine aw_cut (fun s1 => s1 = ⟨33, [(0, some (.pv (.str a0))), (3, some (.ls 0)), (4, some (.pv (.int .i64 x21)))], [(0, some (.row 9 1 (List.map eS x59)))], 1, [], [], 0, []⟩) ?_ ?_
      · refine aw_block ?_
        refine aw_seq ?_
        refine aw_region ?_
        iterate 2 (refine rmv ?_)
        obtain ⟨y46, h47, hF⟩ := bind_some hF
        refine rgp (op_index_str (k := .i64) rfl rfl rfl h47 Tryd_und_9 rfl rfl) ?_
        refine rgp (op_int (k := .u8) (m := (y46.toNat : Int)) (n := 32) rfl rfl rfl rfl rfl rfl) ?_
        refine reg_nil ?_
        refine post_imp (s' := ⟨33, [(0, some (.pv (.str a0))), (3, some (.ls 0)), (4, some (.pv (.int .i64 x21))), (15, some (.pv (.bool ((y46.toNat : Int) == 32))))], [(0, some (.row 9 1 (List.map eS x20)))], 1, [], [], 0, []⟩) (imps [0] ⟨by kernel_rfl, by kernel_rfl, by kernel_rfl, by kernel_rfl, trivial⟩ ⟨by kernel_rfl, trivial⟩) ?_
        refine post_next ?_
        rcases ite_some hF with ⟨hb48, hF⟩ | ⟨hb48, hF⟩
        · refine aw_cond_t rfl hb48 ?_
          refine aw_region ?_
          refine rmv ?_
          refine rgp (op_lit (rows := List.map eS ([[]] : List (List UInt8))) (zs := [.str []]) rfl rfl Tryd_slc_41 Tryd_zer_9 (by exact ⟨rfl, trivial⟩) rfl rfl rfl rfl rfl rfl rfl rfl) ?_
          obtain ⟨u49, h50, hF⟩ := bind_some hF
          refine rgp (op_append 1 rfl rfl rfl rfl rfl Tryd_slc_41 Tryd_elm_9 Tryd_zer_9 rfl rfl rfl (room_map (f := eS) (g := eS) h50) (List.map_append (f := eS) (l₁ := x20) (l₂ := [[]])).symm rfl rfl) ?_
          refine ras ?_
          refine reg_nil ?_
          refine post_imp (s' := ⟨33, [(0, some (.pv (.str a0))), (3, some (.ls 0)), (4, some (.pv (.int .i64 x21)))], [(0, some (.row 9 1 (List.map eS (x20 ++ [[]]))))], 1, [], [], 0, []⟩) (imps [1] ⟨by kernel_rfl, by kernel_rfl, by kernel_rfl, trivial⟩ ⟨by kernel_rfl, trivial⟩) ?_
          refine post_block_normal ?_
          cases hF
          exact post_cut _ rfl (imps [0] ⟨by kernel_rfl, by kernel_rfl, by kernel_rfl, trivial⟩ ⟨by kernel_rfl, trivial⟩)
        refine aw_cond_f rfl hb48 ?_
        refine dr_start ⟨_, _, _⟩ rfl ?_
        iterate 2 (refine drm ?_)
        refine dr_cons { need := [(20, .ls 0)], hneed := [(0, .row 9 1 (List.map eS x20))], dst := some 21, val := some (.pv (.int .i64 (x20.length : Int))) } (fun m h => step_on (guard_no rfl) (op_len_ls (n := x20.length) rfl h.1.1 h.2.1.1 (List.length_map ..) Tryd_slc_41 rfl rfl) rfl) ⟨⟨rfl, trivial⟩, ⟨rfl, trivial⟩, trivial⟩ ?_
        refine dr_cons { need := [(21, .pv (.int .i64 (x20.length : Int)))], dst := some 22, val := some (.pv (.int .i64 (w_i64 ((x20.length : Int) - 1)))) } (fun m h => step_on (guard_no rfl) (op_int (k := .i64) (m := (x20.length : Int)) (n := 1) rfl h.1.1 rfl rfl rfl rfl) rfl) ⟨⟨rfl, trivial⟩, trivial, trivial⟩ ?_
        obtain ⟨y51, h52, hF⟩ := bind_some hF
        refine dr_cons { need := [(19, .ls 0), (22, .pv (.int .i64 (w_i64 ((x20.length : Int) - 1))))], hneed := [(0, .row 9 1 (List.map eS x20))], dst := some 23, val := some (.le 0 1 (w_i64 ((x20.length : Int) - 1) : Int).toNat 0) } (fun m h => step_on (guard_no rfl) (op_index_ls (k := .i64) rfl h.1.1 h.1.2.1 h.2.1.1 (idx_map eS h52) Tryd_slc_41 rfl rfl) rfl) ⟨⟨rfl, rfl, trivial⟩, ⟨rfl, trivial⟩, trivial⟩ ?_
        refine dr_cons { need := [(23, .le 0 1 (w_i64 ((x20.length : Int) - 1) : Int).toNat 0)], hneed := [(0, .row 9 1 (List.map eS x20))], dst := some 24, val := some (.pv (.str y51)) } (fun m h => step_on (guard_no rfl) (op_load_le (p := .str y51) rfl h.1.1 h.2.1.1 (map_get eS h52) rfl Tryd_one_9 rfl rfl) rfl) ⟨⟨rfl, trivial⟩, ⟨rfl, trivial⟩, trivial⟩ ?_
        iterate 3 (refine drm ?_)
        refine dr_cons { need := [(27, .pv (.int .i64 x21))], dst := some 28, val := some (.pv (.int .i64 (w_i64 (x21 + 1)))) } (fun m h => step_on (guard_no rfl) (op_int (k := .i64) (m := x21) (n := 1) rfl h.1.1 rfl rfl rfl rfl) rfl) ⟨⟨rfl, trivial⟩, trivial, trivial⟩ ?_
        obtain ⟨y53, h54, hF⟩ := bind_some hF
        refine dr_cons { need := [(25, .pv (.str a0)), (26, .pv (.int .i64 x21)), (28, .pv (.int .i64 (w_i64 (x21 + 1))))], dst := some 29, val := some (.pv (.str y53)) } (fun m h => step_on (guard_no rfl) (op_slice_str (nl := (some x21)) (nh := (some (w_i64 (x21 + 1)))) rfl h.1.1 (evo_some h.1.2.1) (evo_some h.1.2.2.1) Tryd_und_9 h54 rfl rfl) rfl) ⟨⟨rfl, rfl, rfl, trivial⟩, trivial, trivial⟩ ?_
        obtain ⟨u55, h56, hF⟩ := bind_some hF
        refine dr_cons { need := [(24, .pv (.str y51)), (29, .pv (.str y53))], dst := some 30, val := some (.pv (.str (y51 ++ y53))) } (fun m h => step_on (guard_no rfl) (op_concat rfl h.1.1 h.1.2.1 (room_str h56) rfl rfl) rfl) ⟨⟨rfl, rfl, trivial⟩, trivial, trivial⟩ ?_
        obtain ⟨y57, h58, hF⟩ := bind_some hF
        refine dr_cons { need := [(19, .ls 0), (22, .pv (.int .i64 (w_i64 ((x20.length : Int) - 1))))], hneed := [(0, .row 9 1 (List.map eS x20))], dst := some 31, val := some (.le 0 1 (w_i64 ((x20.length : Int) - 1) : Int).toNat 0) } (fun m h => step_on (guard_no rfl) (op_index_ls (k := .i64) rfl h.1.1 h.1.2.1 h.2.1.1 (idx_map eS h58) Tryd_slc_41 rfl rfl) rfl) ⟨⟨rfl, rfl, trivial⟩, ⟨rfl, trivial⟩, trivial⟩ ?_
        refine dr_cons { need := [(31, .le 0 1 (w_i64 ((x20.length : Int) - 1) : Int).toNat 0), (30, .pv (.str (y51 ++ y53)))], hneed := [(0, .row 9 1 (List.map eS x20))], upd := [(0, some (.row 9 1 (List.map eS (x20.set (w_i64 ((x20.length : Int) - 1) : Int).toNat (y51 ++ y53)))))] } (fun m h => step_on (guard_no rfl) (op_store_le (n := 1) rfl h.1.1 h.1.2.1 rfl h.2.1.1 (map_get eS h58) (or_one Tryd_one_9) (by rw [Tryd_one_9]; rfl) rfl (map_set' eS x20 _ (y51 ++ y53)) rfl rfl) rfl) ⟨⟨rfl, rfl, trivial⟩, ⟨rfl, trivial⟩, trivial⟩ ?_
        refine dr_nil Tryd_mixed rfl (by kernel_rfl) ?_
        refine post_imp (s' := ⟨33, [(0, some (.pv (.str a0))), (3, some (.ls 0)), (4, some (.pv (.int .i64 x21)))], [(0, some (.row 9 1 (List.map eS (x20.set (w_i64 ((x20.length : Int) - 1) : Int).toNat (y51 ++ y53)))))], 1, [], [], 0, []⟩) (imps [0] ⟨by kernel_rfl, by kernel_rfl, by kernel_rfl, trivial⟩ ⟨by kernel_rfl, trivial⟩) ?_
        refine post_block_normal ?_
        cases hF
        exact post_cut _ rfl (imps [0] ⟨by kernel_rfl, by kernel_rfl, by kernel_rfl, trivial⟩ ⟨by kernel_rfl, trivial⟩)
      rintro _ rfl
      have hF := hK61
      clear hK61
      refine post_next ?_
      refine aw_region ?_
      refine rmv ?_
      refine rgp (op_int (k := .i64) (m := x21) (n := 1) rfl rfl rfl rfl rfl rfl) ?_
      refine ras ?_
      refine reg_nil ?_
      refine post_round ?_
      exact rnd_back (ih (x59, w_i64 (x21 + 1)) hF) (imps [0] ⟨by kernel_rfl, by kernel_rfl, by kernel_rfl, trivial⟩ ⟨by kernel_rfl, trivial⟩)
    refine aw_cond_f rfl hb43 ?_
    refine aw_exit ?_
    iterate 2 (refine post_then_exit ?_)
    obtain rfl := Option.some.inj hF
    exact post_lp_break _ rfl (imps [0] ⟨by kernel_rfl, trivial⟩ ⟨by kernel_rfl, trivial⟩)
  rintro _ rfl
  have hF := hK65
  clear hK65
  refine post_next ?_
  refine aw_seq ?_
  refine aw_region ?_
  refine rmv ?_
  refine ras ?_
  refine reg_nil ?_
  refine post_imp (s' := ⟨33, [(2, some (.ls 0))], [(0, some (.row 9 1 (List.map eS x64)))], 1, [], [], 0, []⟩) (imps [0] ⟨by kernel_rfl, trivial⟩ ⟨by kernel_rfl, trivial⟩) ?_
  refine post_next ?_
  refine aw_ret ?_
  obtain rfl := Option.some.inj hF
  exact post_ret rfl rfl (.cons _ _ _ _ _ (.tmp _ _ rfl) (.own _ _ _ _ rfl nolent3) .nil) (.inl rfl)
theorem ref02_Digit_ok {a0 : Int} {r : Bool} (hF : ref02_Digit a0 = some r) : Abs.Fn globs_Tryd Tryd.prog 48 [.int .u8 a0] [.p (.bool r)] := by
  unfold ref02_Digit at hF
  refine fn_of_body (n := 9) Tryd.func48 rfl rfl rfl ?_
  intro w O
  refine aw_seq ?_
  refine aw_region ?_
  refine ras ?_
  refine reg_nil ?_
  refine post_imp (s' := ⟨9, [(0, some (.pv (.int .u8 a0)))], [], 0, [], [], 0, []⟩) (imps [] ⟨by kernel_rfl, trivial⟩ trivial) ?_
  refine post_next ?_
  refine aw_seq ?_
  refine aw_region ?_
  refine rmv ?_
  refine rgp (op_int (k := .u8) (m := a0) (n := 48) rfl rfl rfl rfl rfl rfl) ?_
  refine rmv ?_
  rcases ite_some hF with ⟨hb1, hF⟩ | ⟨hb1, hF⟩
  · refine rgn hb1 (op_move rfl rfl rfl rfl) ?_
    refine rgn hb1 (op_int (k := .u8) (m := a0) (n := 57) rfl rfl rfl rfl rfl rfl) ?_
    refine rpt hb1 ?_
    refine ras ?_
    refine reg_nil ?_
    refine post_imp (s' := ⟨9, [(2, some (.pv (.bool (decide (a0 ≤ 57)))))], [], 0, [], [], 0, []⟩) (imps [] ⟨by kernel_rfl, trivial⟩ trivial) ?_
    refine post_next ?_
    refine aw_ret ?_
    obtain rfl := Option.some.inj hF
    exact prt
  iterate 2 (refine rgo_f hb1 ?_)
  refine rpf hb1 ?_
  refine ras ?_
  refine reg_nil ?_
  refine post_imp (s' := ⟨9, [(2, some (.pv (.bool false)))], [], 0, [], [], 0, []⟩) (imps [] ⟨by kernel_rfl, trivial⟩ trivial) ?_
  refine post_next ?_
  refine aw_ret ?_
  obtain rfl := Option.some.inj hF
  exact prt
theorem ref02_Number_ok {a0 : List UInt8} {r : Int × Bool} (hF : ref02_Number a0 = some r) : Abs.Fn globs_Tryd Tryd.prog 39 [.str a0] [.p (.int .i64 r.1), .p (.bool r.2)] := by
  unfold ref02_Number at hF
  refine fn_of_body (n := 44) Tryd.func39 rfl rfl rfl ?_
  intro w O
  refine aw_seq ?_
  refine aw_region ?_
  iterate 2 (refine ras ?_)
  refine reg_nil ?_
  refine post_imp (s' := ⟨44, [(0, some (.pv (.str a0)))], [], 0, [], [], 0, []⟩) (imps [] ⟨by kernel_rfl, trivial⟩ trivial) ?_
  refine post_next ?_
  iterate 2 (refine aw_seq ?_)
  obtain ⟨x6, hF, hK8⟩ := bind_some hF
  refine aw_cut (fun s1 => s1 = ⟨44, [(0, some (.pv (.str a0))), (23, some (.pv (.bool x6)))], [], 0, [], [], 0, []⟩) ?_ ?_
  · refine aw_region ?_
    refine rmv ?_
    refine rgp (op_len_str rfl rfl Tryd_und_9 rfl rfl) ?_
    refine rgp (op_int (k := .i64) (m := (a0.length : Int)) (n := 1) rfl rfl rfl rfl rfl rfl) ?_
    refine rmv ?_
    rcases ite_some hF with ⟨hb1, hF⟩ | ⟨hb1, hF⟩
    · refine rgo_t hb1 ?_
      iterate 2 (refine rgo_t hb1 ?_)
      refine rpt hb1 ?_
      refine rmv ?_
      iterate 4 (refine rgo_t rfl ?_)
      iterate 3 (refine rgu ?_)
      refine rgo_t rfl ?_
      refine rpt rfl ?_
      refine reg_nil ?_
      cases hF
      exact post_cut _ rfl (imps [] ⟨by kernel_rfl, by kernel_rfl, trivial⟩ trivial)
    refine rgn hb1 (op_move rfl rfl rfl rfl) ?_
    refine rgn hb1 (op_len_str rfl rfl Tryd_und_9 rfl rfl) ?_
    refine rgn hb1 (op_int (k := .i64) (m := (a0.length : Int)) (n := 9) rfl rfl rfl rfl rfl rfl) ?_
    refine rpf hb1 ?_
    refine rmv ?_
    rcases ite_some hF with ⟨hb2, hF⟩ | ⟨hb2, hF⟩
    · refine rgo_t hb2 ?_
      iterate 3 (refine rgo_t hb2 ?_)
      iterate 3 (refine rgu ?_)
      refine rgo_t hb2 ?_
      refine rpt hb2 ?_
      refine reg_nil ?_
      cases hF
      exact post_cut _ rfl (imps [] ⟨by kernel_rfl, by kernel_rfl, trivial⟩ trivial)
    refine rgn hb2 (op_move rfl rfl rfl rfl) ?_
    obtain ⟨y3, h4, hF⟩ := bind_some hF
    refine rgn hb2 (op_index_str (k := .i64) rfl rfl rfl h4 Tryd_und_9 rfl rfl) ?_
    refine rgn hb2 (op_int (k := .u8) (m := (y3.toNat : Int)) (n := 48) rfl rfl rfl rfl rfl rfl) ?_
    refine rgn hb2 (op_move rfl rfl rfl rfl) ?_
    rcases ite_some hF with ⟨hb5, hF⟩ | ⟨hb5, hF⟩
    · refine rgn hb5 (op_move rfl rfl rfl rfl) ?_
      refine rgn hb5 (op_len_str rfl rfl Tryd_und_9 rfl rfl) ?_
      refine rgn hb5 (op_int (k := .i64) (m := (a0.length : Int)) (n := 1) rfl rfl rfl rfl rfl rfl) ?_
      refine rgn hb2 (op_pick_t rfl rfl hb5 rfl rfl rfl) ?_
      refine rpf hb2 ?_
      refine reg_nil ?_
      cases hF
      exact post_cut _ rfl (imps [] ⟨by kernel_rfl, by kernel_rfl, trivial⟩ trivial)
    iterate 3 (refine rgo_f hb5 ?_)
    refine rgn hb2 (op_pick_f rfl rfl hb5 rfl rfl rfl) ?_
    refine rpf hb2 ?_
    refine reg_nil ?_
    cases hF
    exact post_cut _ rfl (imps [] ⟨by kernel_rfl, by kernel_rfl, trivial⟩ trivial)
  rintro _ rfl
  have hF := hK8
  clear hK8
  refine post_next ?_
  rcases ite_some hF with ⟨hb9, hF⟩ | ⟨hb9, hF⟩
  · refine aw_cond_t rfl hb9 ?_
    refine aw_seq ?_
    refine aw_region ?_
    iterate 2 (refine ras ?_)
    refine reg_nil ?_
    refine post_imp (s' := ⟨44, [(2, some (.pv (.int .i64 0))), (3, some (.pv (.bool false)))], [], 0, [], [], 0, []⟩) (imps [] ⟨by kernel_rfl, by kernel_rfl, trivial⟩ trivial) ?_
    refine post_next ?_
    refine aw_ret ?_
    refine post_then_ret ?_
    obtain rfl := Option.some.inj hF
    exact post_ret rfl rfl (.cons _ _ _ _ _ (.tmp _ _ rfl) (.p _) (.cons _ _ _ _ _ (.tmp _ _ rfl) (.p _) .nil)) (.inl rfl)
  refine aw_cond_f rfl hb9 ?_
  refine aw_skip ?_
  refine post_next ?_
  refine aw_seq ?_
  refine aw_region ?_
  refine ras ?_
  refine reg_nil ?_
  refine post_imp (s' := ⟨44, [(0, some (.pv (.str a0))), (4, some (.pv (.int .i64 0)))], [], 0, [], [], 0, []⟩) (imps [] ⟨by kernel_rfl, by kernel_rfl, trivial⟩ trivial) ?_
  refine post_next ?_
  iterate 2 (refine aw_seq ?_)
  refine aw_region ?_
  refine ras ?_
  refine reg_nil ?_
  refine post_imp (s' := ⟨44, [(0, some (.pv (.str a0))), (4, some (.pv (.int .i64 0))), (5, some (.pv (.int .i64 0)))], [], 0, [], [], 0, []⟩) (imps [] ⟨by kernel_rfl, by kernel_rfl, by kernel_rfl, trivial⟩ trivial) ?_
  refine post_next ?_
  obtain ⟨lr59, hF, hK60⟩ := bind_some hF
  refine aw_for ((((a0.length : Int) : Int) - (0)).toNat + 1) (fun s1 => ∃ q, lr59 = .next q ∧ s1 = ⟨44, [(4, some (.pv (.int .i64 q)))], [], 0, [], [], 0, []⟩) ?_ ?_
  · refine rnd_loop (α := Int × Int) (fun q => ⟨44, [(0, some (.pv (.str a0))), (4, some (.pv (.int .i64 q.1))), (5, some (.pv (.int .i64 q.2)))], [], 0, [], [], 0, []⟩) (fun k q => ref02_Number_L1 a0 k q.1 q.2 = some lr59) (0, 0) (imps [] ⟨by kernel_rfl, by kernel_rfl, by kernel_rfl, trivial⟩ trivial) hF (fun q h => by cases h) ?_
    clear hF
    rintro k ⟨x24, x25⟩ hF ih
    refine rnd_succ ?_
    iterate 2 (refine aw_seq ?_)
    refine aw_region ?_
    iterate 2 (refine rmv ?_)
    refine rgp (op_len_str rfl rfl Tryd_und_9 rfl rfl) ?_
    refine rgp (op_int (k := .i64) (m := x25) (n := (a0.length : Int)) rfl rfl rfl rfl rfl rfl) ?_
    refine reg_nil ?_
    refine post_imp (s' := ⟨44, [(0, some (.pv (.str a0))), (4, some (.pv (.int .i64 x24))), (5, some (.pv (.int .i64 x25))), (27, some (.pv (.bool (decide (x25 < (a0.length : Int))))))], [], 0, [], [], 0, []⟩) (imps [] ⟨by kernel_rfl, by kernel_rfl, by kernel_rfl, by kernel_rfl, trivial⟩ trivial) ?_
    refine post_next ?_
    rcases ite_some hF with ⟨hb42, hF⟩ | ⟨hb42, hF⟩
    · refine aw_cond_t rfl hb42 ?_
      refine aw_skip ?_
      refine post_next ?_
      refine aw_seq ?_
      refine aw_block ?_
      iterate 2 (refine aw_seq ?_)
      refine aw_region ?_
      iterate 2 (refine rmv ?_)
      obtain ⟨y47, h48, hF⟩ := bind_some hF
      refine rgp (op_index_str (k := .i64) rfl rfl rfl h48 Tryd_und_9 rfl rfl) ?_
      obtain ⟨y49, h50, hF⟩ := bind_some hF
      refine rgp (op_call 0 rfl (caps := []) (args := [.int .u8 (y47.toNat : Int)]) (rs := [.p (.bool y49)]) rfl rfl rfl Tryd_cal_48 (ref02_Digit_ok h50) rfl rfl rfl) ?_
      refine rgp (op_not rfl rfl rfl rfl) ?_
      refine reg_nil ?_
      refine post_imp (s' := ⟨44, [(0, some (.pv (.str a0))), (4, some (.pv (.int .i64 x24))), (5, some (.pv (.int .i64 x25))), (34, some (.pv (.bool (!y49))))], [], 0, [], [], 0, []⟩) (imps [] ⟨by kernel_rfl, by kernel_rfl, by kernel_rfl, by kernel_rfl, trivial⟩ trivial) ?_
      refine post_next ?_
      rcases ite_some hF with ⟨hb51, hF⟩ | ⟨hb51, hF⟩
      · refine aw_cond_t rfl hb51 ?_
        refine aw_seq ?_
        refine aw_region ?_
        iterate 2 (refine ras ?_)
        refine reg_nil ?_
        refine post_imp (s' := ⟨44, [(2, some (.pv (.int .i64 0))), (3, some (.pv (.bool false)))], [], 0, [], [], 0, []⟩) (imps [] ⟨by kernel_rfl, by kernel_rfl, trivial⟩ trivial) ?_
        refine post_next ?_
        refine aw_ret ?_
        refine post_then_ret ?_
        refine post_block_ret ?_
        iterate 2 (refine post_then_ret ?_)
        refine post_lp_ret ?_
        obtain rfl := Option.some.inj hF
        have hF := elim_stop hK60
        refine post_then_ret ?_
        obtain rfl := Option.some.inj hF
        exact post_ret rfl rfl (.cons _ _ _ _ _ (.tmp _ _ rfl) (.p _) (.cons _ _ _ _ _ (.tmp _ _ rfl) (.p _) .nil)) (.inl rfl)
      refine aw_cond_f rfl hb51 ?_
      refine aw_skip ?_
      refine post_next ?_
      refine aw_region ?_
      refine rmv ?_
      refine rgp (op_int (k := .i64) (m := 10) (n := x24) rfl rfl rfl rfl rfl rfl) ?_
      iterate 2 (refine rmv ?_)
      obtain ⟨y54, h55, hF⟩ := bind_some hF
      refine rgp (op_index_str (k := .i64) rfl rfl rfl h55 Tryd_und_9 rfl rfl) ?_
      refine rgp (op_int (k := .u8) (m := (y54.toNat : Int)) (n := 48) rfl rfl rfl rfl rfl rfl) ?_
      refine rgp (op_convInt rfl rfl Tryd_und_5 Tryd_und_3 rfl rfl) ?_
      refine rgp (op_int (k := .i64) (m := w_i64 (10 * x24)) (n := w_i64 (w_u8 ((y54.toNat : Int) - 48))) rfl rfl rfl rfl rfl rfl) ?_
      refine ras ?_
      refine reg_nil ?_
      refine post_imp (s' := ⟨44, [(0, some (.pv (.str a0))), (4, some (.pv (.int .i64 (w_i64 ((w_i64 (10 * x24)) + (w_i64 (w_u8 ((y54.toNat : Int) - 48)))))))), (5, some (.pv (.int .i64 x25)))], [], 0, [], [], 0, []⟩) (imps [] ⟨by kernel_rfl, by kernel_rfl, by kernel_rfl, trivial⟩ trivial) ?_
      refine post_block_normal ?_
      refine post_next ?_
      refine aw_region ?_
      refine rmv ?_
      refine rgp (op_int (k := .i64) (m := x25) (n := 1) rfl rfl rfl rfl rfl rfl) ?_
      refine ras ?_
      refine reg_nil ?_
      refine post_round ?_
      exact rnd_back (ih (w_i64 ((w_i64 (10 * x24)) + (w_i64 (w_u8 ((y54.toNat : Int) - 48)))), w_i64 (x25 + 1)) hF) (imps [] ⟨by kernel_rfl, by kernel_rfl, by kernel_rfl, trivial⟩ trivial)
    refine aw_cond_f rfl hb42 ?_
    refine aw_exit ?_
    iterate 2 (refine post_then_exit ?_)
    obtain rfl := Option.some.inj hF
    exact post_lp_break _ ⟨_, rfl, rfl⟩ (imps [] ⟨by kernel_rfl, trivial⟩ trivial)
  rintro _ ⟨x58, rfl, rfl⟩
  have hF := elim_next hK60
  clear hK60
  refine post_next ?_
  refine aw_seq ?_
  refine aw_region ?_
  refine rmv ?_
  iterate 2 (refine ras ?_)
  refine reg_nil ?_
  refine post_imp (s' := ⟨44, [(2, some (.pv (.int .i64 x58))), (3, some (.pv (.bool true)))], [], 0, [], [], 0, []⟩) (imps [] ⟨by kernel_rfl, by kernel_rfl, trivial⟩ trivial) ?_
  refine post_next ?_
  refine aw_ret ?_
  obtain rfl := Option.some.inj hF
  exact post_ret rfl rfl (.cons _ _ _ _ _ (.tmp _ _ rfl) (.p _) (.cons _ _ _ _ _ (.tmp _ _ rfl) (.p _) .nil)) (.inl rfl)
theorem ref42_number_ok {a0 : List UInt8} {r : Int} (hF : ref42_number a0 = some r) : Abs.Fn globs_Tryd Tryd.prog 21 [.str a0] [.p (.int .i64 r)] := by
  unfold ref42_number at hF
  refine fn_of_body (n := 29) Tryd.func21 rfl rfl rfl ?_
  intro w O
  refine aw_seq ?_
  refine aw_region ?_
  refine ras ?_
  refine reg_nil ?_
  refine post_imp (s' := ⟨29, [(0, some (.pv (.str a0)))], [], 0, [], [], 0, []⟩) (imps [] ⟨by kernel_rfl, trivial⟩ trivial) ?_
  refine post_next ?_
  iterate 2 (refine aw_seq ?_)
  obtain ⟨x4, hF, hK6⟩ := bind_some hF
  refine aw_cut (fun s1 => s1 = ⟨29, [(0, some (.pv (.str a0))), (14, some (.pv (.bool x4)))], [], 0, [], [], 0, []⟩) ?_ ?_
  · refine aw_region ?_
    refine rmv ?_
    refine rgp (op_len_str rfl rfl Tryd_und_9 rfl rfl) ?_
    refine rgp (op_int (k := .i64) (m := (a0.length : Int)) (n := 0) rfl rfl rfl rfl rfl rfl) ?_
    refine rmv ?_
    rcases ite_some hF with ⟨hb1, hF⟩ | ⟨hb1, hF⟩
    · refine rgn hb1 (op_move rfl rfl rfl rfl) ?_
      obtain ⟨y2, h3, hF⟩ := bind_some hF
      refine rgn hb1 (op_index_str (k := .i64) rfl rfl rfl h3 Tryd_und_9 rfl rfl) ?_
      refine rgn hb1 (op_int (k := .u8) (m := (y2.toNat : Int)) (n := 45) rfl rfl rfl rfl rfl rfl) ?_
      refine rpt hb1 ?_
      refine reg_nil ?_
      cases hF
      exact post_cut _ rfl (imps [] ⟨by kernel_rfl, by kernel_rfl, trivial⟩ trivial)
    iterate 3 (refine rgo_f hb1 ?_)
    refine rpf hb1 ?_
    refine reg_nil ?_
    cases hF
    exact post_cut _ rfl (imps [] ⟨by kernel_rfl, by kernel_rfl, trivial⟩ trivial)
  rintro _ rfl
  have hF := hK6
  clear hK6
  refine post_next ?_
  rcases ite_some hF with ⟨hb7, hF⟩ | ⟨hb7, hF⟩
  · refine aw_cond_t rfl hb7 ?_
    refine aw_seq ?_
    refine aw_region ?_
    refine rmv ?_
    obtain ⟨y8, h9, hF⟩ := bind_some hF
    refine rgp (op_slice_str (nl := (some 1)) (nh := none) rfl rfl rfl rfl Tryd_und_9 h9 rfl rfl) ?_
    obtain ⟨y10, h11, hF⟩ := bind_some hF
    refine rgp (op_call 0 rfl (caps := []) (args := [.str y8]) (rs := [.p (.int .i64 y10.1), .p (.bool y10.2)]) rfl rfl rfl Tryd_cal_39 (ref02_Number_ok h11) rfl rfl rfl) ?_
    refine rmv ?_
    iterate 2 (refine rgp (op_extract rfl rfl rfl rfl rfl) ?_)
    iterate 2 (refine ras ?_)
    refine reg_nil ?_
    refine post_imp (s' := ⟨29, [(3, some (.pv (.int .i64 y10.1)))], [], 0, [], [], 0, []⟩) (imps [] ⟨by kernel_rfl, trivial⟩ trivial) ?_
    refine post_next ?_
    refine aw_seq ?_
    refine aw_region ?_
    refine rmv ?_
    refine rgp (op_neg rfl rfl rfl rfl) ?_
    refine ras ?_
    refine reg_nil ?_
    refine post_imp (s' := ⟨29, [(2, some (.pv (.int .i64 (w_i64 (0 - y10.1)))))], [], 0, [], [], 0, []⟩) (imps [] ⟨by kernel_rfl, trivial⟩ trivial) ?_
    refine post_next ?_
    refine aw_ret ?_
    refine post_then_ret ?_
    obtain rfl := Option.some.inj hF
    exact prt
  refine aw_cond_f rfl hb7 ?_
  refine aw_skip ?_
  refine post_next ?_
  refine aw_seq ?_
  refine aw_region ?_
  refine rmv ?_
  obtain ⟨y12, h13, hF⟩ := bind_some hF
  refine rgp (op_call 0 rfl (caps := []) (args := [.str a0]) (rs := [.p (.int .i64 y12.1), .p (.bool y12.2)]) rfl rfl rfl Tryd_cal_39 (ref02_Number_ok h13) rfl rfl rfl) ?_
  refine rmv ?_
  iterate 2 (refine rgp (op_extract rfl rfl rfl rfl rfl) ?_)
  iterate 2 (refine ras ?_)
  refine reg_nil ?_
  refine post_imp (s' := ⟨29, [(5, some (.pv (.int .i64 y12.1)))], [], 0, [], [], 0, []⟩) (imps [] ⟨by kernel_rfl, trivial⟩ trivial) ?_
  refine post_next ?_
  refine aw_seq ?_
  refine aw_region ?_
  refine rmv ?_
  refine ras ?_
  refine reg_nil ?_
  refine post_imp (s' := ⟨29, [(2, some (.pv (.int .i64 y12.1)))], [], 0, [], [], 0, []⟩) (imps [] ⟨by kernel_rfl, trivial⟩ trivial) ?_
  refine post_next ?_
  refine aw_ret ?_
  obtain rfl := Option.some.inj hF
  exact prt
theorem ref42_val_ok {a0 : List UInt8} {r : GVal} (hF : ref42_val a0 = some r) : Abs.Fn globs_Tryd Tryd.prog 22 [.str a0] [.p (.agg (eGVal r))] := by
  unfold ref42_val at hF
  refine fn_of_body (n := 18) Tryd.func22 rfl rfl rfl ?_
  intro w O
  refine aw_seq ?_
  refine aw_region ?_
  refine rgp (op_alloc 0 rfl (ps := (eGVal zGVal)) rfl Tryd_zer_24 (by exact ⟨rfl, rfl, trivial⟩) rfl rfl) ?_
  refine reg_nil ?_
  refine post_imp (s' := ⟨18, [(0, some (.pv (.str a0))), (2, some (.lp 0 0))], [(0, some (.box 24 (bxv (eGVal zGVal))))], 1, [], [], 0, []⟩) (imps [0] ⟨by kernel_rfl, by kernel_rfl, trivial⟩ ⟨by kernel_rfl, trivial⟩) ?_
  refine post_next ?_
  iterate 2 (refine aw_seq ?_)
  obtain ⟨x4, hF, hK6⟩ := bind_some hF
  refine aw_cut (fun s1 => s1 = ⟨18, [(0, some (.pv (.str a0))), (2, some (.lp 0 0)), (10, some (.pv (.bool x4)))], [(0, some (.box 24 (bxv (eGVal zGVal))))], 1, [], [], 0, []⟩) ?_ ?_
  · refine aw_region ?_
    refine rmv ?_
    refine rgp (op_len_str rfl rfl Tryd_und_9 rfl rfl) ?_
    refine rgp (op_int (k := .i64) (m := (a0.length : Int)) (n := 0) rfl rfl rfl rfl rfl rfl) ?_
    refine rmv ?_
    rcases ite_some hF with ⟨hb1, hF⟩ | ⟨hb1, hF⟩
    · refine rgn hb1 (op_move rfl rfl rfl rfl) ?_
      obtain ⟨y2, h3, hF⟩ := bind_some hF
      refine rgn hb1 (op_index_str (k := .i64) rfl rfl rfl h3 Tryd_und_9 rfl rfl) ?_
      refine rgn hb1 (op_int (k := .u8) (m := (y2.toNat : Int)) (n := 64) rfl rfl rfl rfl rfl rfl) ?_
      refine rpt hb1 ?_
      refine reg_nil ?_
      cases hF
      exact post_cut _ rfl (imps [0] ⟨by kernel_rfl, by kernel_rfl, by kernel_rfl, trivial⟩ ⟨by kernel_rfl, trivial⟩)
    iterate 3 (refine rgo_f hb1 ?_)
    refine rpf hb1 ?_
    refine reg_nil ?_
    cases hF
    exact post_cut _ rfl (imps [0] ⟨by kernel_rfl, by kernel_rfl, by kernel_rfl, trivial⟩ ⟨by kernel_rfl, trivial⟩)
  rintro _ rfl
  have hF := hK6
  clear hK6
  refine post_next ?_
  rcases ite_some hF with ⟨hb7, hF⟩ | ⟨hb7, hF⟩
  · refine aw_cond_t rfl hb7 ?_
    refine aw_seq ?_
    refine aw_region ?_
    refine rmv ?_
    obtain ⟨y8, h9, hF⟩ := bind_some hF
    refine rgp (op_slice_str (nl := (some 1)) (nh := none) rfl rfl rfl rfl Tryd_und_9 h9 rfl rfl) ?_
    obtain ⟨y10, h11, hF⟩ := bind_some hF
    refine rgp (op_call 1 rfl (caps := []) (args := [.str y8]) (rs := [.p (.int .i64 y10)]) rfl rfl rfl Tryd_cal_21 (ref42_number_ok h11) rfl rfl rfl) ?_
    refine rgp (op_build (zs := (eGVal zGVal)) (r := eGVal ({ fRef := true, fN := y10 } : GVal)) rfl Tryd_zer_24 (by exact ⟨rfl, rfl, trivial⟩) Tryd_plc_24 rfl rfl rfl rfl) ?_
    refine rgp (op_store_lp (n := 2) rfl rfl rfl rfl rfl (or_agg Tryd_agg_24) (by rw [Tryd_non_24]; rfl) rfl rfl rfl) ?_
    refine reg_nil ?_
    refine post_imp (s' := ⟨18, [(2, some (.lp 0 0))], [(0, some (.box 24 (bxv (eGVal ({ fRef := true, fN := y10 } : GVal)))))], 1, [], [], 0, []⟩) (imps [0] ⟨by kernel_rfl, trivial⟩ ⟨by kernel_rfl, trivial⟩) ?_
    refine post_next ?_
    refine aw_ret ?_
    refine post_then_ret ?_
    obtain rfl := Option.some.inj hF
    exact post_ret rfl rfl (.cons _ _ _ _ _ (.agg _ _ _ _ _ 2 _ _ rfl rfl Tryd_agg_24 rfl rfl rfl) (.p _) .nil) (.inl rfl)
  refine aw_cond_f rfl hb7 ?_
  refine aw_skip ?_
  refine post_next ?_
  refine aw_seq ?_
  refine aw_region ?_
  refine rmv ?_
  obtain ⟨y12, h13, hF⟩ := bind_some hF
  refine rgp (op_call 1 rfl (caps := []) (args := [.str a0]) (rs := [.p (.int .i64 y12)]) rfl rfl rfl Tryd_cal_21 (ref42_number_ok h13) rfl rfl rfl) ?_
  refine rgp (op_build (zs := (eGVal zGVal)) (r := eGVal ({ fRef := false, fN := y12 } : GVal)) rfl Tryd_zer_24 (by exact ⟨rfl, rfl, trivial⟩) Tryd_plc_24 rfl rfl rfl rfl) ?_
  refine rgp (op_store_lp (n := 2) rfl rfl rfl rfl rfl (or_agg Tryd_agg_24) (by rw [Tryd_non_24]; rfl) rfl rfl rfl) ?_
  refine reg_nil ?_
  refine post_imp (s' := ⟨18, [(2, some (.lp 0 0))], [(0, some (.box 24 (bxv (eGVal ({ fRef := false, fN := y12 } : GVal)))))], 1, [], [], 0, []⟩) (imps [0] ⟨by kernel_rfl, trivial⟩ ⟨by kernel_rfl, trivial⟩) ?_
  refine post_next ?_
  refine aw_ret ?_
  obtain rfl := Option.some.inj hF
  exact post_ret rfl rfl (.cons _ _ _ _ _ (.agg _ _ _ _ _ 2 _ _ rfl rfl Tryd_agg_24 rfl rfl rfl) (.p _) .nil) (.inl rfl)
theorem ref42_only_ok {a0 : GEvent} {r : GEvent} (hF : ref42_only a0 = some r) : Abs.Fn globs_Tryd Tryd.prog 28 [.agg (eGEvent a0)] [.p (.agg (eGEvent r))] := by
  unfold ref42_only at hF
  refine fn_of_body (n := 51) Tryd.func28 rfl rfl rfl ?_
  intro w O
  refine aw_seq ?_
  refine aw_region ?_
  refine rgp (op_box 0 rfl rfl rfl rfl rfl rfl) ?_
  refine rgp (op_alloc 1 rfl (ps := (eGEvent zGEvent)) rfl Tryd_zer_27 (by exact ⟨rfl, rfl, rfl, rfl, rfl, rfl, rfl, rfl, rfl, rfl, trivial⟩) rfl rfl) ?_
  refine reg_nil ?_
  refine post_imp (s' := ⟨51, [(1, some (.lp 0 0)), (2, some (.lp 1 0))], [(0, some (.box 27 (bxv (eGEvent a0)))), (1, some (.box 27 (bxv (eGEvent zGEvent))))], 2, [], [], 0, []⟩) (imps [0, 1] ⟨by kernel_rfl, by kernel_rfl, trivial⟩ ⟨by kernel_rfl, by kernel_rfl, trivial⟩) ?_
  refine post_next ?_
  refine aw_seq ?_
  refine aw_region ?_
  refine rgp (op_field_lp rfl rfl Tryd_fld_27_0 rfl rfl) ?_
  refine rgp (op_load_lp (v := .pv (.int .i64 a0.fKind)) rfl rfl rfl rfl Tryd_one_3 rfl rfl) ?_
  refine ras ?_
  refine reg_nil ?_
  refine post_imp (s' := ⟨51, [(1, some (.lp 0 0)), (2, some (.lp 1 0)), (3, some (.pv (.int .i64 a0.fKind)))], [(0, some (.box 27 (bxv (eGEvent a0)))), (1, some (.box 27 (bxv (eGEvent zGEvent))))], 2, [], [], 0, []⟩) (imps [0, 1] ⟨by kernel_rfl, by kernel_rfl, by kernel_rfl, trivial⟩ ⟨by kernel_rfl, by kernel_rfl, trivial⟩) ?_
  refine post_next ?_
  refine aw_seq ?_
  refine aw_region ?_
  refine rmv ?_
  refine rgp (op_field_lp rfl rfl Tryd_fld_27_1 rfl rfl) ?_
  refine rgp (op_load_lp (v := .pv (.int .i64 a0.fWho)) rfl rfl rfl rfl Tryd_one_3 rfl rfl) ?_
  refine rgp (op_build (zs := (eGEvent zGEvent)) (r := eGEvent ({ fKind := a0.fKind, fWho := a0.fWho, fObj := 0, fName := [], fV := zGVal, fOwn := (⟨0, 0, 0, 0⟩ : A4 Int) } : GEvent)) rfl Tryd_zer_27 (by exact ⟨rfl, rfl, rfl, rfl, rfl, rfl, rfl, rfl, rfl, rfl, trivial⟩) Tryd_plc_27 rfl rfl rfl rfl) ?_
  refine rgp (op_alloc 2 rfl (ps := (eGEvent zGEvent)) rfl Tryd_zer_27 (by exact ⟨rfl, rfl, rfl, rfl, rfl, rfl, rfl, rfl, rfl, rfl, trivial⟩) rfl rfl) ?_
  refine rgp (op_store_lp (n := 10) rfl rfl rfl rfl rfl (or_agg Tryd_agg_27) (by rw [Tryd_non_27]; rfl) rfl rfl rfl) ?_
  refine reg_nil ?_
  refine post_imp (s' := ⟨51, [(1, some (.lp 0 0)), (2, some (.lp 1 0)), (3, some (.pv (.int .i64 a0.fKind))), (4, some (.lp 2 0))], [(0, some (.box 27 (bxv (eGEvent a0)))), (1, some (.box 27 (bxv (eGEvent zGEvent)))), (2, some (.box 27 (bxv (eGEvent ({ fKind := a0.fKind, fWho := a0.fWho, fObj := 0, fName := [], fV := zGVal, fOwn := (⟨0, 0, 0, 0⟩ : A4 Int) } : GEvent)))))], 3, [], [], 0, []⟩) (imps [0, 1, 2] ⟨by kernel_rfl, by kernel_rfl, by kernel_rfl, by kernel_rfl, trivial⟩ ⟨by kernel_rfl, by kernel_rfl, by kernel_rfl, trivial⟩) ?_
  refine post_next ?_
  refine aw_seq ?_
  obtain ⟨x2, hF, hK4⟩ := bind_some hF
  refine aw_cut (fun s1 => s1 = ⟨51, [(1, some (.lp 0 0)), (2, some (.lp 1 0)), (3, some (.pv (.int .i64 a0.fKind))), (4, some (.lp 2 0))], [(0, some (.box 27 (bxv (eGEvent a0)))), (1, some (.box 27 (bxv (eGEvent zGEvent)))), (2, some (.box 27 (bxv (eGEvent x2))))], 3, [], [], 0, []⟩) ?_ ?_
  · refine aw_seq ?_
    refine aw_region ?_
    refine rmv ?_
    refine rgp (op_int (k := .i64) (m := a0.fKind) (n := 4) rfl rfl rfl rfl rfl rfl) ?_
    refine reg_nil ?_
    refine post_imp (s' := ⟨51, [(1, some (.lp 0 0)), (2, some (.lp 1 0)), (3, some (.pv (.int .i64 a0.fKind))), (4, some (.lp 2 0)), (12, some (.pv (.bool (a0.fKind != 4))))], [(0, some (.box 27 (bxv (eGEvent a0)))), (1, some (.box 27 (bxv (eGEvent zGEvent)))), (2, some (.box 27 (bxv (eGEvent ({ fKind := a0.fKind, fWho := a0.fWho, fObj := 0, fName := [], fV := zGVal, fOwn := (⟨0, 0, 0, 0⟩ : A4 Int) } : GEvent)))))], 3, [], [], 0, []⟩) (imps [0, 1, 2] ⟨by kernel_rfl, by kernel_rfl, by kernel_rfl, by kernel_rfl, by kernel_rfl, trivial⟩ ⟨by kernel_rfl, by kernel_rfl, by kernel_rfl, trivial⟩) ?_
    refine post_next ?_
    rcases ite_some hF with ⟨hb1, hF⟩ | ⟨hb1, hF⟩
    · refine aw_cond_t rfl hb1 ?_
      refine aw_region ?_
      refine rgp (op_field_lp rfl rfl Tryd_fld_27_2 rfl rfl) ?_
      refine rgp (op_load_lp (v := .pv (.int .i64 a0.fObj)) rfl rfl rfl rfl Tryd_one_3 rfl rfl) ?_
      refine rgp (op_field_lp rfl rfl Tryd_fld_27_2 rfl rfl) ?_
      refine rgp (op_store_lp (n := 1) rfl rfl rfl rfl rfl (or_one Tryd_one_3) (by rw [Tryd_one_3]; rfl) rfl rfl rfl) ?_
      refine reg_nil ?_
      cases hF
      exact post_cut _ rfl (imps [0, 1, 2] ⟨by kernel_rfl, by kernel_rfl, by kernel_rfl, by kernel_rfl, trivial⟩ ⟨by kernel_rfl, by kernel_rfl, by kernel_rfl, trivial⟩)
    refine aw_cond_f rfl hb1 ?_
    refine aw_skip ?_
    cases hF
    exact post_cut _ rfl (imps [0, 1, 2] ⟨by kernel_rfl, by kernel_rfl, by kernel_rfl, by kernel_rfl, trivial⟩ ⟨by kernel_rfl, by kernel_rfl, by kernel_rfl, trivial⟩)
  rintro _ rfl
  have hF := hK4
  clear hK4
  refine post_next ?_
  refine aw_seq ?_
  obtain ⟨x11, hF, hK13⟩ := bind_some hF
  refine aw_cut (fun s1 => s1 = ⟨51, [(1, some (.lp 0 0)), (2, some (.lp 1 0)), (3, some (.pv (.int .i64 a0.fKind))), (4, some (.lp 2 0))], [(0, some (.box 27 (bxv (eGEvent a0)))), (1, some (.box 27 (bxv (eGEvent zGEvent)))), (2, some (.box 27 (bxv (eGEvent x11))))], 3, [], [], 0, []⟩) ?_ ?_
  · refine aw_seq ?_
    obtain ⟨x7, hF, hK9⟩ := bind_some hF
    refine aw_cut (fun s1 => s1 = ⟨51, [(1, some (.lp 0 0)), (2, some (.lp 1 0)), (3, some (.pv (.int .i64 a0.fKind))), (4, some (.lp 2 0)), (25, some (.pv (.bool x7)))], [(0, some (.box 27 (bxv (eGEvent a0)))), (1, some (.box 27 (bxv (eGEvent zGEvent)))), (2, some (.box 27 (bxv (eGEvent x2))))], 3, [], [], 0, []⟩) ?_ ?_
    · refine aw_region ?_
      refine rmv ?_
      refine rgp (op_int (k := .i64) (m := a0.fKind) (n := 1) rfl rfl rfl rfl rfl rfl) ?_
      refine rmv ?_
      rcases ite_some hF with ⟨hb5, hF⟩ | ⟨hb5, hF⟩
      · refine rgo_t hb5 ?_
        refine rgo_t hb5 ?_
        refine rpt hb5 ?_
        refine rmv ?_
        iterate 2 (refine rgo_t rfl ?_)
        refine rpt rfl ?_
        refine reg_nil ?_
        cases hF
        exact post_cut _ rfl (imps [0, 1, 2] ⟨by kernel_rfl, by kernel_rfl, by kernel_rfl, by kernel_rfl, by kernel_rfl, trivial⟩ ⟨by kernel_rfl, by kernel_rfl, by kernel_rfl, trivial⟩)
      refine rgn hb5 (op_move rfl rfl rfl rfl) ?_
      refine rgn hb5 (op_int (k := .i64) (m := a0.fKind) (n := 2) rfl rfl rfl rfl rfl rfl) ?_
      refine rpf hb5 ?_
      refine rmv ?_
      rcases ite_some hF with ⟨hb6, hF⟩ | ⟨hb6, hF⟩
      · refine rgo_t hb6 ?_
        refine rgo_t hb6 ?_
        refine rpt hb6 ?_
        refine reg_nil ?_
        cases hF
        exact post_cut _ rfl (imps [0, 1, 2] ⟨by kernel_rfl, by kernel_rfl, by kernel_rfl, by kernel_rfl, by kernel_rfl, trivial⟩ ⟨by kernel_rfl, by kernel_rfl, by kernel_rfl, trivial⟩)
      refine rgn hb6 (op_move rfl rfl rfl rfl) ?_
      refine rgn hb6 (op_int (k := .i64) (m := a0.fKind) (n := 3) rfl rfl rfl rfl rfl rfl) ?_
      refine rpf hb6 ?_
      refine reg_nil ?_
      cases hF
      exact post_cut _ rfl (imps [0, 1, 2] ⟨by kernel_rfl, by kernel_rfl, by kernel_rfl, by kernel_rfl, by kernel_rfl, trivial⟩ ⟨by kernel_rfl, by kernel_rfl, by kernel_rfl, trivial⟩)
    rintro _ rfl
    have hF := hK9
    clear hK9
    refine post_next ?_
    rcases ite_some hF with ⟨hb10, hF⟩ | ⟨hb10, hF⟩
    · refine aw_cond_t rfl hb10 ?_
      refine aw_region ?_
      refine rgp (op_field_lp rfl rfl Tryd_fld_27_3 rfl rfl) ?_
      refine rgp (op_load_lp (v := .pv (.str a0.fName)) rfl rfl rfl rfl Tryd_one_9 rfl rfl) ?_
      refine rgp (op_field_lp rfl rfl Tryd_fld_27_3 rfl rfl) ?_
      refine rgp (op_store_lp (n := 1) rfl rfl rfl rfl rfl (or_one Tryd_one_9) (by rw [Tryd_one_9]; rfl) rfl rfl rfl) ?_
      refine reg_nil ?_
      cases hF
      exact post_cut _ rfl (imps [0, 1, 2] ⟨by kernel_rfl, by kernel_rfl, by kernel_rfl, by kernel_rfl, trivial⟩ ⟨by kernel_rfl, by kernel_rfl, by kernel_rfl, trivial⟩)
    refine aw_cond_f rfl hb10 ?_
    refine aw_skip ?_
    cases hF
    exact post_cut _ rfl (imps [0, 1, 2] ⟨by kernel_rfl, by kernel_rfl, by kernel_rfl, by kernel_rfl, trivial⟩ ⟨by kernel_rfl, by kernel_rfl, by kernel_rfl, trivial⟩)
  rintro _ rfl
  have hF := hK13
  clear hK13
  refine post_next ?_
  refine aw_seq ?_
  obtain ⟨x19, hF, hK21⟩ := bind_some hF
  refine aw_cut (fun s1 => s1 = ⟨51, [(1, some (.lp 0 0)), (2, some (.lp 1 0)), (3, some (.pv (.int .i64 a0.fKind))), (4, some (.lp 2 0))], [(0, some (.box 27 (bxv (eGEvent a0)))), (1, some (.box 27 (bxv (eGEvent zGEvent)))), (2, some (.box 27 (bxv (eGEvent x19))))], 3, [], [], 0, []⟩) ?_ ?_
  · refine aw_seq ?_
    obtain ⟨x15, hF, hK17⟩ := bind_some hF
    refine aw_cut (fun s1 => s1 = ⟨51, [(1, some (.lp 0 0)), (2, some (.lp 1 0)), (3, some (.pv (.int .i64 a0.fKind))), (4, some (.lp 2 0)), (34, some (.pv (.bool x15)))], [(0, some (.box 27 (bxv (eGEvent a0)))), (1, some (.box 27 (bxv (eGEvent zGEvent)))), (2, some (.box 27 (bxv (eGEvent x11))))], 3, [], [], 0, []⟩) ?_ ?_
    · refine aw_region ?_
      refine rmv ?_
      refine rgp (op_int (k := .i64) (m := a0.fKind) (n := 2) rfl rfl rfl rfl rfl rfl) ?_
      refine rmv ?_
      rcases ite_some hF with ⟨hb14, hF⟩ | ⟨hb14, hF⟩
      · refine rgo_t hb14 ?_
        refine rgo_t hb14 ?_
        refine rpt hb14 ?_
        refine reg_nil ?_
        cases hF
        exact post_cut _ rfl (imps [0, 1, 2] ⟨by kernel_rfl, by kernel_rfl, by kernel_rfl, by kernel_rfl, by kernel_rfl, trivial⟩ ⟨by kernel_rfl, by kernel_rfl, by kernel_rfl, trivial⟩)
      refine rgn hb14 (op_move rfl rfl rfl rfl) ?_
      refine rgn hb14 (op_int (k := .i64) (m := a0.fKind) (n := 4) rfl rfl rfl rfl rfl rfl) ?_
      refine rpf hb14 ?_
      refine reg_nil ?_
      cases hF
      exact post_cut _ rfl (imps [0, 1, 2] ⟨by kernel_rfl, by kernel_rfl, by kernel_rfl, by kernel_rfl, by kernel_rfl, trivial⟩ ⟨by kernel_rfl, by kernel_rfl, by kernel_rfl, trivial⟩)
    rintro _ rfl
    have hF := hK17
    clear hK17
    refine post_next ?_
    rcases ite_some hF with ⟨hb18, hF⟩ | ⟨hb18, hF⟩
    · refine aw_cond_t rfl hb18 ?_
      refine aw_region ?_
      refine rgp (op_field_lp rfl rfl Tryd_fld_27_4 rfl rfl) ?_
      refine rgp (op_load_lp_agg (ps := eGVal a0.fV) rfl rfl rfl rfl rfl rfl Tryd_agg_24 rfl rfl) ?_
      refine rgp (op_field_lp rfl rfl Tryd_fld_27_4 rfl rfl) ?_
      refine rgp (op_store_lp (n := 2) rfl rfl rfl rfl rfl (or_agg Tryd_agg_24) (by rw [Tryd_non_24]; rfl) rfl rfl rfl) ?_
      refine reg_nil ?_
      cases hF
      exact post_cut _ rfl (imps [0, 1, 2] ⟨by kernel_rfl, by kernel_rfl, by kernel_rfl, by kernel_rfl, trivial⟩ ⟨by kernel_rfl, by kernel_rfl, by kernel_rfl, trivial⟩)
    refine aw_cond_f rfl hb18 ?_
    refine aw_skip ?_
    cases hF
    exact post_cut _ rfl (imps [0, 1, 2] ⟨by kernel_rfl, by kernel_rfl, by kernel_rfl, by kernel_rfl, trivial⟩ ⟨by kernel_rfl, by kernel_rfl, by kernel_rfl, trivial⟩)
  rintro _ rfl
  have hF := hK21
  clear hK21
  refine post_next ?_
  refine aw_seq ?_
  obtain ⟨x23, hF, hK25⟩ := bind_some hF
  refine aw_cut (fun s1 => s1 = ⟨51, [(1, some (.lp 0 0)), (2, some (.lp 1 0)), (3, some (.pv (.int .i64 a0.fKind))), (4, some (.lp 2 0))], [(0, some (.box 27 (bxv (eGEvent a0)))), (1, some (.box 27 (bxv (eGEvent zGEvent)))), (2, some (.box 27 (bxv (eGEvent x23))))], 3, [], [], 0, []⟩) ?_ ?_
  · refine aw_seq ?_
    refine aw_region ?_
    refine rmv ?_
    refine rgp (op_int (k := .i64) (m := a0.fKind) (n := 1) rfl rfl rfl rfl rfl rfl) ?_
    refine reg_nil ?_
    refine post_imp (s' := ⟨51, [(1, some (.lp 0 0)), (2, some (.lp 1 0)), (3, some (.pv (.int .i64 a0.fKind))), (4, some (.lp 2 0)), (39, some (.pv (.bool (a0.fKind == 1))))], [(0, some (.box 27 (bxv (eGEvent a0)))), (1, some (.box 27 (bxv (eGEvent zGEvent)))), (2, some (.box 27 (bxv (eGEvent x19))))], 3, [], [], 0, []⟩) (imps [0, 1, 2] ⟨by kernel_rfl, by kernel_rfl, by kernel_rfl, by kernel_rfl, by kernel_rfl, trivial⟩ ⟨by kernel_rfl, by kernel_rfl, by kernel_rfl, trivial⟩) ?_
    refine post_next ?_
    rcases ite_some hF with ⟨hb22, hF⟩ | ⟨hb22, hF⟩
    · refine aw_cond_t rfl hb22 ?_
      refine aw_region ?_
      refine rgp (op_field_lp rfl rfl Tryd_fld_27_5 rfl rfl) ?_
      refine rgp (op_load_lp_agg (ps := (eA4 eI) a0.fOwn) rfl rfl rfl rfl rfl rfl Tryd_agg_25 rfl rfl) ?_
      refine rgp (op_field_lp rfl rfl Tryd_fld_27_5 rfl rfl) ?_
      refine rgp (op_store_lp (n := 4) rfl rfl rfl rfl rfl (or_agg Tryd_agg_25) (by rw [Tryd_non_25]; rfl) rfl rfl rfl) ?_
      refine reg_nil ?_
      cases hF
      exact post_cut _ rfl (imps [0, 1, 2] ⟨by kernel_rfl, by kernel_rfl, by kernel_rfl, by kernel_rfl, trivial⟩ ⟨by kernel_rfl, by kernel_rfl, by kernel_rfl, trivial⟩)
    refine aw_cond_f rfl hb22 ?_
    refine aw_skip ?_
    cases hF
    exact post_cut _ rfl (imps [0, 1, 2] ⟨by kernel_rfl, by kernel_rfl, by kernel_rfl, by kernel_rfl, trivial⟩ ⟨by kernel_rfl, by kernel_rfl, by kernel_rfl, trivial⟩)
  rintro _ rfl
  have hF := hK25
  clear hK25
  refine post_next ?_
  iterate 2 (refine aw_seq ?_)
  refine aw_region ?_
  refine rmv ?_
  refine rgp (op_int (k := .i64) (m := a0.fKind) (n := 5) rfl rfl rfl rfl rfl rfl) ?_
  refine reg_nil ?_
  refine post_imp (s' := ⟨51, [(1, some (.lp 0 0)), (2, some (.lp 1 0)), (4, some (.lp 2 0)), (44, some (.pv (.bool (a0.fKind == 5))))], [(0, some (.box 27 (bxv (eGEvent a0)))), (1, some (.box 27 (bxv (eGEvent zGEvent)))), (2, some (.box 27 (bxv (eGEvent x23))))], 3, [], [], 0, []⟩) (imps [0, 1, 2] ⟨by kernel_rfl, by kernel_rfl, by kernel_rfl, by kernel_rfl, trivial⟩ ⟨by kernel_rfl, by kernel_rfl, by kernel_rfl, trivial⟩) ?_
  refine post_next ?_
  rcases ite_some hF with ⟨hb26, hF⟩ | ⟨hb26, hF⟩
  · refine aw_cond_t rfl hb26 ?_
    refine aw_region ?_
    refine rgp (op_field_lp rfl rfl Tryd_fld_27_5 rfl rfl) ?_
    refine rgp (op_arr_lp (k := .i64) (m := 0) (n := 4) rfl rfl rfl Tryd_arr_25 rfl rfl rfl rfl) ?_
    refine rgp (op_load_lp (v := .pv (.int .i64 a0.fOwn.a0)) rfl rfl rfl rfl Tryd_one_3 rfl rfl) ?_
    refine rgp (op_field_lp rfl rfl Tryd_fld_27_5 rfl rfl) ?_
    refine rgp (op_arr_lp (k := .i64) (m := 0) (n := 4) rfl rfl rfl Tryd_arr_25 rfl rfl rfl rfl) ?_
    refine rgp (op_store_lp (n := 1) rfl rfl rfl rfl rfl (or_one Tryd_one_3) (by rw [Tryd_one_3]; rfl) rfl rfl rfl) ?_
    refine reg_nil ?_
    refine post_imp (s' := ⟨51, [(2, some (.lp 0 0)), (4, some (.lp 1 0))], [(0, some (.box 27 (bxv (eGEvent zGEvent)))), (1, some (.box 27 (bxv (eGEvent ({ x23 with fOwn := ({ x23.fOwn with a0 := a0.fOwn.a0 } : A4 Int) } : GEvent)))))], 2, [], [], 0, []⟩) (imps [1, 2] ⟨by kernel_rfl, by kernel_rfl, trivial⟩ ⟨by kernel_rfl, by kernel_rfl, trivial⟩) ?_
    refine post_next ?_
    refine aw_seq ?_
    refine aw_region ?_
    refine rgp (op_load_lp_agg (ps := eGEvent ({ x23 with fOwn := ({ x23.fOwn with a0 := a0.fOwn.a0 } : A4 Int) } : GEvent)) rfl rfl rfl rfl rfl rfl Tryd_agg_27 rfl rfl) ?_
    refine rgp (op_store_lp (n := 10) rfl rfl rfl rfl rfl (or_agg Tryd_agg_27) (by rw [Tryd_non_27]; rfl) rfl rfl rfl) ?_
    refine reg_nil ?_
    refine post_imp (s' := ⟨51, [(2, some (.lp 0 0))], [(0, some (.box 27 (bxv (eGEvent ({ x23 with fOwn := ({ x23.fOwn with a0 := a0.fOwn.a0 } : A4 Int) } : GEvent)))))], 1, [], [], 0, []⟩) (imps [0] ⟨by kernel_rfl, trivial⟩ ⟨by kernel_rfl, trivial⟩) ?_
    refine post_next ?_
    refine aw_ret ?_
    obtain rfl := Option.some.inj hF
    exact post_ret rfl rfl (.cons _ _ _ _ _ (.agg _ _ _ _ _ 10 _ _ rfl rfl Tryd_agg_27 rfl rfl rfl) (.p _) .nil) (.inl rfl)
  refine aw_cond_f rfl hb26 ?_
  refine aw_skip ?_
  refine post_next ?_
  refine aw_seq ?_
  refine aw_region ?_
  refine rgp (op_load_lp_agg (ps := eGEvent x23) rfl rfl rfl rfl rfl rfl Tryd_agg_27 rfl rfl) ?_
  refine rgp (op_store_lp (n := 10) rfl rfl rfl rfl rfl (or_agg Tryd_agg_27) (by rw [Tryd_non_27]; rfl) rfl rfl rfl) ?_
  refine reg_nil ?_
  refine post_imp (s' := ⟨51, [(2, some (.lp 0 0))], [(0, some (.box 27 (bxv (eGEvent x23))))], 1, [], [], 0, []⟩) (imps [1] ⟨by kernel_rfl, trivial⟩ ⟨by kernel_rfl, trivial⟩) ?_
  refine post_next ?_
  refine aw_ret ?_
  obtain rfl := Option.some.inj hF
  exact post_ret rfl rfl (.cons _ _ _ _ _ (.agg _ _ _ _ _ 10 _ _ rfl rfl Tryd_agg_27 rfl rfl rfl) (.p _) .nil) (.inl rfl)
theorem ref02_Letter_ok {a0 : Int} {r : Bool} (hF : ref02_Letter a0 = some r) : Abs.Fn globs_Tryd Tryd.prog 46 [.int .u8 a0] [.p (.bool r)] := by
  unfold ref02_Letter at hF
  refine fn_of_body (n := 17) Tryd.func46 rfl rfl rfl ?_
  intro w O
  refine aw_seq ?_
  refine aw_region ?_
  refine ras ?_
  refine reg_nil ?_
  refine post_imp (s' := ⟨17, [(0, some (.pv (.int .u8 a0)))], [], 0, [], [], 0, []⟩) (imps [] ⟨by kernel_rfl, trivial⟩ trivial) ?_
  refine post_next ?_
  refine aw_seq ?_
  refine aw_region ?_
  refine rmv ?_
  refine rgp (op_int (k := .u8) (m := a0) (n := 97) rfl rfl rfl rfl rfl rfl) ?_
  refine rmv ?_
  rcases ite_some hF with ⟨hb1, hF⟩ | ⟨hb1, hF⟩
  · refine rgn hb1 (op_move rfl rfl rfl rfl) ?_
    refine rgn hb1 (op_int (k := .u8) (m := a0) (n := 122) rfl rfl rfl rfl rfl rfl) ?_
    refine rpt hb1 ?_
    refine rmv ?_
    rcases ite_some hF with ⟨hb2, hF⟩ | ⟨hb2, hF⟩
    · refine rgo_t hb2 ?_
      iterate 2 (refine rgo_t hb2 ?_)
      iterate 2 (refine rgu ?_)
      refine rgo_t hb2 ?_
      refine rpt hb2 ?_
      refine ras ?_
      refine reg_nil ?_
      refine post_imp (s' := ⟨17, [(2, some (.pv (.bool true)))], [], 0, [], [], 0, []⟩) (imps [] ⟨by kernel_rfl, trivial⟩ trivial) ?_
      refine post_next ?_
      refine aw_ret ?_
      obtain rfl := Option.some.inj hF
      exact prt
    refine rgn hb2 (op_move rfl rfl rfl rfl) ?_
    refine rgn hb2 (op_int (k := .u8) (m := a0) (n := 65) rfl rfl rfl rfl rfl rfl) ?_
    refine rgn hb2 (op_move rfl rfl rfl rfl) ?_
    rcases ite_some hF with ⟨hb3, hF⟩ | ⟨hb3, hF⟩
    · refine rgn hb3 (op_move rfl rfl rfl rfl) ?_
      refine rgn hb3 (op_int (k := .u8) (m := a0) (n := 90) rfl rfl rfl rfl rfl rfl) ?_
      refine rgn hb2 (op_pick_t rfl rfl hb3 rfl rfl rfl) ?_
      refine rpf hb2 ?_
      refine ras ?_
      refine reg_nil ?_
      refine post_imp (s' := ⟨17, [(2, some (.pv (.bool (decide (a0 ≤ 90)))))], [], 0, [], [], 0, []⟩) (imps [] ⟨by kernel_rfl, trivial⟩ trivial) ?_
      refine post_next ?_
      refine aw_ret ?_
      obtain rfl := Option.some.inj hF
      exact prt
    iterate 2 (refine rgo_f hb3 ?_)
    refine rgn hb2 (op_pick_f rfl rfl hb3 rfl rfl rfl) ?_
    refine rpf hb2 ?_
    refine ras ?_
    refine reg_nil ?_
    refine post_imp (s' := ⟨17, [(2, some (.pv (.bool false)))], [], 0, [], [], 0, []⟩) (imps [] ⟨by kernel_rfl, trivial⟩ trivial) ?_
    refine post_next ?_
    refine aw_ret ?_
    obtain rfl := Option.some.inj hF
    exact prt
  iterate 2 (refine rgo_f hb1 ?_)
  refine rpf hb1 ?_
  refine rmv ?_
  refine rgn rfl (op_move rfl rfl rfl rfl) ?_
  refine rgn rfl (op_int (k := .u8) (m := a0) (n := 65) rfl rfl rfl rfl rfl rfl) ?_
  refine rgn rfl (op_move rfl rfl rfl rfl) ?_
  rcases ite_some hF with ⟨hb4, hF⟩ | ⟨hb4, hF⟩
  · refine rgn hb4 (op_move rfl rfl rfl rfl) ?_
    refine rgn hb4 (op_int (k := .u8) (m := a0) (n := 90) rfl rfl rfl rfl rfl rfl) ?_
    refine rgn rfl (op_pick_t rfl rfl hb4 rfl rfl rfl) ?_
    refine rpf rfl ?_
    refine ras ?_
    refine reg_nil ?_
    refine post_imp (s' := ⟨17, [(2, some (.pv (.bool (decide (a0 ≤ 90)))))], [], 0, [], [], 0, []⟩) (imps [] ⟨by kernel_rfl, trivial⟩ trivial) ?_
    refine post_next ?_
    refine aw_ret ?_
    obtain rfl := Option.some.inj hF
    exact prt
  iterate 2 (refine rgo_f hb4 ?_)
  refine rgn rfl (op_pick_f rfl rfl hb4 rfl rfl rfl) ?_
  refine rpf rfl ?_
  refine ras ?_
  refine reg_nil ?_
  refine post_imp (s' := ⟨17, [(2, some (.pv (.bool false)))], [], 0, [], [], 0, []⟩) (imps [] ⟨by kernel_rfl, trivial⟩ trivial) ?_
  refine post_next ?_
  refine aw_ret ?_
  obtain rfl := Option.some.inj hF
  exact prt
theorem ref02_Words_ok  {r : (List (List UInt8))} (hF : ref02_Words = some r) : Abs.Fn globs_Tryd Tryd.prog 60 [] [.p (.vs 1 (List.map eS r))] := by
  unfold ref02_Words at hF
  refine fn_of_body (n := 2) Tryd.func60 rfl rfl rfl ?_
  intro w O
  refine aw_seq ?_
  refine aw_region ?_
  refine ras ?_
  refine reg_nil ?_
  refine post_imp (s' := ⟨2, [], [], 0, [], [], 0, []⟩) (imps [] trivial trivial) ?_
  refine post_next ?_
  refine aw_seq ?_
  refine aw_region ?_
  refine rgp (op_lit (rows := List.map eS ([[99, 108, 97, 115, 115], [101, 120, 116, 101, 110, 100, 115], [114, 101, 112], [112, 101, 101, 114], [119, 111, 114, 108, 100], [97, 110, 121], [117, 110, 105, 113, 117, 101], [112, 117, 114, 101], [118, 111, 105, 100], [105, 110, 116], [105, 102], [101, 108, 115, 101], [119, 104, 105, 108, 101], [114, 101, 116, 117, 114, 110], [110, 101, 119], [109, 111, 118, 101], [100, 101, 108, 101, 116, 101], [116, 104, 105, 115], [110, 117, 108, 108], [105, 110, 112, 117, 116], [110, 105, 108], [115, 97, 109, 101], [99, 97, 115, 116]] : List (List UInt8))) (zs := [.str []]) rfl rfl Tryd_slc_41 Tryd_zer_9 (by exact ⟨rfl, trivial⟩) rfl rfl rfl rfl rfl rfl rfl rfl) ?_
  refine ras ?_
  refine reg_nil ?_
  refine post_imp (s' := ⟨2, [(0, some (.pv (.vs 1 (List.map eS [[99, 108, 97, 115, 115], [101, 120, 116, 101, 110, 100, 115], [114, 101, 112], [112, 101, 101, 114], [119, 111, 114, 108, 100], [97, 110, 121], [117, 110, 105, 113, 117, 101], [112, 117, 114, 101], [118, 111, 105, 100], [105, 110, 116], [105, 102], [101, 108, 115, 101], [119, 104, 105, 108, 101], [114, 101, 116, 117, 114, 110], [110, 101, 119], [109, 111, 118, 101], [100, 101, 108, 101, 116, 101], [116, 104, 105, 115], [110, 117, 108, 108], [105, 110, 112, 117, 116], [110, 105, 108], [115, 97, 109, 101], [99, 97, 115, 116]]))))], [], 0, [], [], 0, []⟩) (imps [] ⟨by kernel_rfl, trivial⟩ trivial) ?_
  refine post_next ?_
  refine aw_ret ?_
  obtain rfl := Option.some.inj hF
  exact prt
theorem ref02_Find_ok {a0 : List UInt8} {r : Int} (hF : ref02_Find a0 = some r) : Abs.Fn globs_Tryd Tryd.prog 47 [.str a0] [.p (.int .i64 r)] := by
  unfold ref02_Find at hF
  refine fn_of_body (n := 20) Tryd.func47 rfl rfl rfl ?_
  intro w O
  refine aw_seq ?_
  refine aw_region ?_
  refine ras ?_
  refine reg_nil ?_
  refine post_imp (s' := ⟨20, [(0, some (.pv (.str a0)))], [], 0, [], [], 0, []⟩) (imps [] ⟨by kernel_rfl, trivial⟩ trivial) ?_
  refine post_next ?_
  refine aw_seq ?_
  refine aw_region ?_
  obtain ⟨y3, h4, hF⟩ := bind_some hF
  refine rgp (op_call 0 rfl (caps := []) (args := []) (rs := [.p (.vs 1 (List.map eS y3))]) rfl rfl rfl Tryd_cal_60 (ref02_Words_ok h4) rfl rfl rfl) ?_
  refine ras ?_
  refine reg_nil ?_
  refine post_imp (s' := ⟨20, [(0, some (.pv (.str a0))), (3, some (.pv (.vs 1 (List.map eS y3))))], [], 0, [], [], 0, []⟩) (imps [] ⟨by kernel_rfl, by kernel_rfl, trivial⟩ trivial) ?_
  refine post_next ?_
  iterate 2 (refine aw_seq ?_)
  refine aw_region ?_
  refine ras ?_
  refine reg_nil ?_
  refine post_imp (s' := ⟨20, [(0, some (.pv (.str a0))), (3, some (.pv (.vs 1 (List.map eS y3)))), (4, some (.pv (.int .i64 0)))], [], 0, [], [], 0, []⟩) (imps [] ⟨by kernel_rfl, by kernel_rfl, by kernel_rfl, trivial⟩ trivial) ?_
  refine post_next ?_
  obtain ⟨lr26, hF, hK27⟩ := bind_some hF
  refine aw_for ((((y3.length : Int) : Int) - (0)).toNat + 1) (fun s1 => ∃ q, lr26 = .next q ∧ s1 = ⟨20, [], [], 0, [], [], 0, []⟩) ?_ ?_
  · refine rnd_loop (α := Int) (fun q => ⟨20, [(0, some (.pv (.str a0))), (3, some (.pv (.vs 1 (List.map eS y3)))), (4, some (.pv (.int .i64 q)))], [], 0, [], [], 0, []⟩) (fun k q => ref02_Find_L1 a0 y3 k q = some lr26) 0 (imps [] ⟨by kernel_rfl, by kernel_rfl, by kernel_rfl, trivial⟩ trivial) hF (fun q h => by cases h) ?_
    clear hF
    rintro k x11 hF ih
    refine rnd_succ ?_
    iterate 2 (refine aw_seq ?_)
    refine aw_region ?_
    iterate 2 (refine rmv ?_)
    refine rgp (op_len_vs (n := y3.length) rfl rfl (List.length_map ..) Tryd_slc_41 rfl rfl) ?_
    refine rgp (op_int (k := .i64) (m := x11) (n := (y3.length : Int)) rfl rfl rfl rfl rfl rfl) ?_
    refine reg_nil ?_
    refine post_imp (s' := ⟨20, [(0, some (.pv (.str a0))), (3, some (.pv (.vs 1 (List.map eS y3)))), (4, some (.pv (.int .i64 x11))), (9, some (.pv (.bool (decide (x11 < (y3.length : Int))))))], [], 0, [], [], 0, []⟩) (imps [] ⟨by kernel_rfl, by kernel_rfl, by kernel_rfl, by kernel_rfl, trivial⟩ trivial) ?_
    refine post_next ?_
    rcases ite_some hF with ⟨hb19, hF⟩ | ⟨hb19, hF⟩
    · refine aw_cond_t rfl hb19 ?_
      refine aw_skip ?_
      refine post_next ?_
      refine aw_seq ?_
      refine aw_block ?_
      refine aw_seq ?_
      refine aw_region ?_
      iterate 2 (refine rmv ?_)
      obtain ⟨y22, h23, hF⟩ := bind_some hF
      refine rgp (op_index_vs (k := .i64) rfl rfl rfl (idx_map eS h23) Tryd_slc_41 rfl rfl) ?_
      refine rgp (op_load_vp (p := .str y22) rfl rfl rfl Tryd_one_9 rfl rfl) ?_
      refine rmv ?_
      refine rgp (op_str rfl rfl rfl rfl rfl rfl) ?_
      refine reg_nil ?_
      refine post_imp (s' := ⟨20, [(0, some (.pv (.str a0))), (3, some (.pv (.vs 1 (List.map eS y3)))), (4, some (.pv (.int .i64 x11))), (17, some (.pv (.bool (y22 == a0))))], [], 0, [], [], 0, []⟩) (imps [] ⟨by kernel_rfl, by kernel_rfl, by kernel_rfl, by kernel_rfl, trivial⟩ trivial) ?_
      refine post_next ?_
      rcases ite_some hF with ⟨hb24, hF⟩ | ⟨hb24, hF⟩
      · refine aw_cond_t rfl hb24 ?_
        refine aw_seq ?_
        refine aw_region ?_
        refine rmv ?_
        refine rgp (op_int (k := .i64) (m := x11) (n := 1) rfl rfl rfl rfl rfl rfl) ?_
        refine ras ?_
        refine reg_nil ?_
        refine post_imp (s' := ⟨20, [(2, some (.pv (.int .i64 (w_i64 (x11 + 1)))))], [], 0, [], [], 0, []⟩) (imps [] ⟨by kernel_rfl, trivial⟩ trivial) ?_
        refine post_next ?_
        refine aw_ret ?_
        refine post_block_ret ?_
        iterate 2 (refine post_then_ret ?_)
        refine post_lp_ret ?_
        obtain rfl := Option.some.inj hF
        have hF := elim_stop hK27
        refine post_then_ret ?_
        obtain rfl := Option.some.inj hF
        exact prt
      refine aw_cond_f rfl hb24 ?_
      refine aw_skip ?_
      refine post_block_normal ?_
      refine post_next ?_
      refine aw_region ?_
      refine rmv ?_
      refine rgp (op_int (k := .i64) (m := x11) (n := 1) rfl rfl rfl rfl rfl rfl) ?_
      refine ras ?_
      refine reg_nil ?_
      refine post_round ?_
      exact rnd_back (ih (w_i64 (x11 + 1)) hF) (imps [] ⟨by kernel_rfl, by kernel_rfl, by kernel_rfl, trivial⟩ trivial)
    refine aw_cond_f rfl hb19 ?_
    refine aw_exit ?_
    iterate 2 (refine post_then_exit ?_)
    obtain rfl := Option.some.inj hF
    exact post_lp_break _ ⟨_, rfl, rfl⟩ (imps [] trivial trivial)
  rintro _ ⟨⟨⟩, rfl, rfl⟩
  have hF := elim_next hK27
  clear hK27
  refine post_next ?_
  refine aw_seq ?_
  refine aw_region ?_
  refine ras ?_
  refine reg_nil ?_
  refine post_imp (s' := ⟨20, [(2, some (.pv (.int .i64 0)))], [], 0, [], [], 0, []⟩) (imps [] ⟨by kernel_rfl, trivial⟩ trivial) ?_
  refine post_next ?_
  refine aw_ret ?_
  obtain rfl := Option.some.inj hF
  exact prt
theorem ref02_Name_ok {a0 : List UInt8} {r : Bool} (hF : ref02_Name a0 = some r) : Abs.Fn globs_Tryd Tryd.prog 29 [.str a0] [.p (.bool r)] := by
  unfold ref02_Name at hF
  refine fn_of_body (n := 41) Tryd.func29 rfl rfl rfl ?_
  intro w O
  refine aw_seq ?_
  refine aw_region ?_
  refine ras ?_
  refine reg_nil ?_
  refine post_imp (s' := ⟨41, [(0, some (.pv (.str a0)))], [], 0, [], [], 0, []⟩) (imps [] ⟨by kernel_rfl, trivial⟩ trivial) ?_
  refine post_next ?_
  iterate 2 (refine aw_seq ?_)
  obtain ⟨x10, hF, hK12⟩ := bind_some hF
  refine aw_cut (fun s1 => s1 = ⟨41, [(0, some (.pv (.str a0))), (22, some (.pv (.bool x10)))], [], 0, [], [], 0, []⟩) ?_ ?_
  · refine aw_region ?_
    refine rmv ?_
    refine rgp (op_len_str rfl rfl Tryd_und_9 rfl rfl) ?_
    refine rgp (op_int (k := .i64) (m := (a0.length : Int)) (n := 1) rfl rfl rfl rfl rfl rfl) ?_
    refine rmv ?_
    rcases ite_some hF with ⟨hb1, hF⟩ | ⟨hb1, hF⟩
    · refine rgo_t hb1 ?_
      iterate 2 (refine rgo_t hb1 ?_)
      refine rpt hb1 ?_
      refine rmv ?_
      iterate 4 (refine rgo_t rfl ?_)
      refine rpt rfl ?_
      refine rmv ?_
      iterate 3 (refine rgo_t rfl ?_)
      refine rpt rfl ?_
      refine reg_nil ?_
      cases hF
      exact post_cut _ rfl (imps [] ⟨by kernel_rfl, by kernel_rfl, trivial⟩ trivial)
    refine rgn hb1 (op_move rfl rfl rfl rfl) ?_
    refine rgn hb1 (op_len_str rfl rfl Tryd_und_9 rfl rfl) ?_
    refine rgn hb1 (op_int (k := .i64) (m := (a0.length : Int)) (n := 20) rfl rfl rfl rfl rfl rfl) ?_
    refine rpf hb1 ?_
    refine rmv ?_
    rcases ite_some hF with ⟨hb2, hF⟩ | ⟨hb2, hF⟩
    · refine rgo_t hb2 ?_
      iterate 3 (refine rgo_t hb2 ?_)
      refine rpt hb2 ?_
      refine rmv ?_
      iterate 3 (refine rgo_t rfl ?_)
      refine rpt rfl ?_
      refine reg_nil ?_
      cases hF
      exact post_cut _ rfl (imps [] ⟨by kernel_rfl, by kernel_rfl, trivial⟩ trivial)
    refine rgn hb2 (op_move rfl rfl rfl rfl) ?_
    obtain ⟨y3, h4, hF⟩ := bind_some hF
    refine rgn hb2 (op_index_str (k := .i64) rfl rfl rfl h4 Tryd_und_9 rfl rfl) ?_
    obtain ⟨y5, h6, hF⟩ := bind_some hF
    refine rgn hb2 (op_call 0 rfl (caps := []) (args := [.int .u8 (y3.toNat : Int)]) (rs := [.p (.bool y5)]) rfl rfl rfl Tryd_cal_46 (ref02_Letter_ok h6) rfl rfl rfl) ?_
    refine rgn hb2 (op_not rfl rfl rfl rfl) ?_
    refine rpf hb2 ?_
    refine rmv ?_
    rcases ite_some hF with ⟨hb7, hF⟩ | ⟨hb7, hF⟩
    · refine rgo_t hb7 ?_
      iterate 2 (refine rgo_t hb7 ?_)
      refine rpt hb7 ?_
      refine reg_nil ?_
      cases hF
      exact post_cut _ rfl (imps [] ⟨by kernel_rfl, by kernel_rfl, trivial⟩ trivial)
    refine rgn hb7 (op_move rfl rfl rfl rfl) ?_
    obtain ⟨y8, h9, hF⟩ := bind_some hF
    refine rgn hb7 (op_call 0 rfl (caps := []) (args := [.str a0]) (rs := [.p (.int .i64 y8)]) rfl rfl rfl Tryd_cal_47 (ref02_Find_ok h9) rfl rfl rfl) ?_
    refine rgn hb7 (op_int (k := .i64) (m := y8) (n := 0) rfl rfl rfl rfl rfl rfl) ?_
    refine rpf hb7 ?_
    refine reg_nil ?_
    cases hF
    exact post_cut _ rfl (imps [] ⟨by kernel_rfl, by kernel_rfl, trivial⟩ trivial)
  rintro _ rfl
  have hF := hK12
  clear hK12
  refine post_next ?_
  rcases ite_some hF with ⟨hb13, hF⟩ | ⟨hb13, hF⟩
  · refine aw_cond_t rfl hb13 ?_
    refine aw_seq ?_
    refine aw_region ?_
    refine ras ?_
    refine reg_nil ?_
    refine post_imp (s' := ⟨41, [(2, some (.pv (.bool false)))], [], 0, [], [], 0, []⟩) (imps [] ⟨by kernel_rfl, trivial⟩ trivial) ?_
    refine post_next ?_
    refine aw_ret ?_
    refine post_then_ret ?_
    obtain rfl := Option.some.inj hF
    exact prt
  refine aw_cond_f rfl hb13 ?_
  refine aw_skip ?_
  refine post_next ?_
  iterate 2 (refine aw_seq ?_)
  refine aw_region ?_
  refine ras ?_
  refine reg_nil ?_
  refine post_imp (s' := ⟨41, [(0, some (.pv (.str a0))), (3, some (.pv (.int .i64 0)))], [], 0, [], [], 0, []⟩) (imps [] ⟨by kernel_rfl, by kernel_rfl, trivial⟩ trivial) ?_
  refine post_next ?_
  obtain ⟨lr71, hF, hK72⟩ := bind_some hF
  refine aw_for ((((a0.length : Int) : Int) - (0)).toNat + 1) (fun s1 => ∃ q, lr71 = .next q ∧ s1 = ⟨41, [], [], 0, [], [], 0, []⟩) ?_ ?_
  · refine rnd_loop (α := Int) (fun q => ⟨41, [(0, some (.pv (.str a0))), (3, some (.pv (.int .i64 q)))], [], 0, [], [], 0, []⟩) (fun k q => ref02_Name_L1 a0 k q = some lr71) 0 (imps [] ⟨by kernel_rfl, by kernel_rfl, trivial⟩ trivial) hF (fun q h => by cases h) ?_
    clear hF
    rintro k x32 hF ih
    refine rnd_succ ?_
    iterate 2 (refine aw_seq ?_)
    refine aw_region ?_
    iterate 2 (refine rmv ?_)
    refine rgp (op_len_str rfl rfl Tryd_und_9 rfl rfl) ?_
    refine rgp (op_int (k := .i64) (m := x32) (n := (a0.length : Int)) rfl rfl rfl rfl rfl rfl) ?_
    refine reg_nil ?_
    refine post_imp (s' := ⟨41, [(0, some (.pv (.str a0))), (3, some (.pv (.int .i64 x32))), (26, some (.pv (.bool (decide (x32 < (a0.length : Int))))))], [], 0, [], [], 0, []⟩) (imps [] ⟨by kernel_rfl, by kernel_rfl, by kernel_rfl, trivial⟩ trivial) ?_
    refine post_next ?_
    rcases ite_some hF with ⟨hb52, hF⟩ | ⟨hb52, hF⟩
    · refine aw_cond_t rfl hb52 ?_
      refine aw_skip ?_
      refine post_next ?_
      refine aw_seq ?_
      refine aw_block ?_
      refine aw_seq ?_
      obtain ⟨x66, hF, hK68⟩ := bind_some hF
      refine aw_cut (fun s1 => s1 = ⟨41, [(0, some (.pv (.str a0))), (3, some (.pv (.int .i64 x32))), (40, some (.pv (.bool x66)))], [], 0, [], [], 0, []⟩) ?_ ?_
      · refine aw_region ?_
        iterate 2 (refine rmv ?_)
        obtain ⟨y57, h58, hF⟩ := bind_some hF
        refine rgp (op_index_str (k := .i64) rfl rfl rfl h58 Tryd_und_9 rfl rfl) ?_
        obtain ⟨y59, h60, hF⟩ := bind_some hF
        refine rgp (op_call 0 rfl (caps := []) (args := [.int .u8 (y57.toNat : Int)]) (rs := [.p (.bool y59)]) rfl rfl rfl Tryd_cal_46 (ref02_Letter_ok h60) rfl rfl rfl) ?_
        refine rgp (op_not rfl rfl rfl rfl) ?_
        refine rmv ?_
        rcases ite_some hF with ⟨hb61, hF⟩ | ⟨hb61, hF⟩
        · refine rgn hb61 (op_move rfl rfl rfl rfl) ?_
          refine rgn hb61 (op_move rfl rfl rfl rfl) ?_
          obtain ⟨y62, h63, hF⟩ := bind_some hF
          refine rgn hb61 (op_index_str (k := .i64) rfl rfl rfl h63 Tryd_und_9 rfl rfl) ?_
          obtain ⟨y64, h65, hF⟩ := bind_some hF
          refine rgn hb61 (op_call 0 rfl (caps := []) (args := [.int .u8 (y62.toNat : Int)]) (rs := [.p (.bool y64)]) rfl rfl rfl Tryd_cal_48 (ref02_Digit_ok h65) rfl rfl rfl) ?_
          refine rgn hb61 (op_not rfl rfl rfl rfl) ?_
          refine rpt hb61 ?_
          refine reg_nil ?_
          cases hF
          exact post_cut _ rfl (imps [] ⟨by kernel_rfl, by kernel_rfl, by kernel_rfl, trivial⟩ trivial)
        iterate 5 (refine rgo_f hb61 ?_)
        refine rpf hb61 ?_
        refine reg_nil ?_
        cases hF
        exact post_cut _ rfl (imps [] ⟨by kernel_rfl, by kernel_rfl, by kernel_rfl, trivial⟩ trivial)
      rintro _ rfl
      have hF := hK68
      clear hK68
      refine post_next ?_
      rcases ite_some hF with ⟨hb69, hF⟩ | ⟨hb69, hF⟩
      · refine aw_cond_t rfl hb69 ?_
        refine aw_seq ?_
        refine aw_region ?_
        refine ras ?_
        refine reg_nil ?_
        refine post_imp (s' := ⟨41, [(2, some (.pv (.bool false)))], [], 0, [], [], 0, []⟩) (imps [] ⟨by kernel_rfl, trivial⟩ trivial) ?_
        refine post_next ?_
        refine aw_ret ?_
        refine post_block_ret ?_
        iterate 2 (refine post_then_ret ?_)
        refine post_lp_ret ?_
        obtain rfl := Option.some.inj hF
        have hF := elim_stop hK72
        refine post_then_ret ?_
        obtain rfl := Option.some.inj hF
        exact prt
      refine aw_cond_f rfl hb69 ?_
      refine aw_skip ?_
      refine post_block_normal ?_
      refine post_next ?_
      refine aw_region ?_
      refine rmv ?_
      refine rgp (op_int (k := .i64) (m := x32) (n := 1) rfl rfl rfl rfl rfl rfl) ?_
      refine ras ?_
      refine reg_nil ?_
      refine post_round ?_
      exact rnd_back (ih (w_i64 (x32 + 1)) hF) (imps [] ⟨by kernel_rfl, by kernel_rfl, trivial⟩ trivial)
    refine aw_cond_f rfl hb52 ?_
    refine aw_exit ?_
    iterate 2 (refine post_then_exit ?_)
    obtain rfl := Option.some.inj hF
    exact post_lp_break _ ⟨_, rfl, rfl⟩ (imps [] trivial trivial)
  rintro _ ⟨⟨⟩, rfl, rfl⟩
  have hF := elim_next hK72
  clear hK72
  refine post_next ?_
  refine aw_seq ?_
  refine aw_region ?_
  refine ras ?_
  refine reg_nil ?_
  refine post_imp (s' := ⟨41, [(2, some (.pv (.bool true)))], [], 0, [], [], 0, []⟩) (imps [] ⟨by kernel_rfl, trivial⟩ trivial) ?_
  refine post_next ?_
  refine aw_ret ?_
  obtain rfl := Option.some.inj hF
  exact prt
abbrev ref42_Right_e213  : Eff := { need := [(26, .pv (.bool false))], dst := some 2, val := some (.pv (.bool false)) }
theorem ref42_Right_ok {a0 : GEvent} {r : Bool} (hF : ref42_Right a0 = some r) : Abs.Fn globs_Tryd Tryd.prog 13 [.agg (eGEvent a0)] [.p (.bool r)] := by
  unfold ref42_Right at hF
  refine fn_of_body (n := 27) Tryd.func13 rfl rfl rfl ?_
  intro w O
  refine aw_seq ?_
  refine aw_region ?_
  refine rgp (op_box 0 rfl rfl rfl rfl rfl rfl) ?_
  refine ras ?_
  refine reg_nil ?_
  refine post_imp (s' := ⟨27, [(1, some (.lp 0 0))], [(0, some (.box 27 (bxv (eGEvent a0))))], 1, [], [], 0, []⟩) (imps [0] ⟨by kernel_rfl, trivial⟩ ⟨by kernel_rfl, trivial⟩) ?_
  refine post_next ?_
  refine aw_seq ?_
  refine dr_start ⟨_, _, _⟩ rfl ?_
  refine dr_cons { need := [(1, .lp 0 0)], dst := some 3, val := some (.lp 0 0) } (fun m h => step_on (guard_no rfl) (op_field_lp rfl h.1.1 Tryd_fld_27_0 rfl rfl) rfl) ⟨⟨rfl, trivial⟩, trivial, trivial⟩ ?_
  refine dr_cons { need := [(3, .lp 0 0)], hneed := [(0, .box 27 (bxv (eGEvent a0)))], dst := some 4, val := some (.pv (.int .i64 a0.fKind)) } (fun m h => step_on (guard_no rfl) (op_load_lp (v := .pv (.int .i64 a0.fKind)) rfl h.1.1 h.2.1.1 rfl Tryd_one_3 rfl rfl) rfl) ⟨⟨rfl, trivial⟩, ⟨rfl, trivial⟩, trivial⟩ ?_
  refine dr_cons { need := [(4, .pv (.int .i64 a0.fKind))], dst := some 5, val := some (.pv (.bool (decide (a0.fKind ≥ 1)))) } (fun m h => step_on (guard_no rfl) (op_int (k := .i64) (m := a0.fKind) (n := 1) rfl h.1.1 rfl rfl rfl rfl) rfl) ⟨⟨rfl, trivial⟩, trivial, trivial⟩ ?_
  refine drm ?_
  rcases ite_some hF with ⟨hb1, hF⟩ | ⟨hb1, hF⟩
  · refine dr_cons { need := [(6, .pv (.bool (decide (a0.fKind ≥ 1)))), (1, .lp 0 0)], dst := some 7, val := some (.lp 0 0) } (fun m h => step_on (guard_on rfl rfl rfl h.1.1 hb1) (op_field_lp rfl h.1.2.1 Tryd_fld_27_0 rfl rfl) rfl) ⟨⟨rfl, rfl, trivial⟩, trivial, trivial⟩ ?_
    refine dr_cons { need := [(6, .pv (.bool (decide (a0.fKind ≥ 1)))), (7, .lp 0 0)], hneed := [(0, .box 27 (bxv (eGEvent a0)))], dst := some 8, val := some (.pv (.int .i64 a0.fKind)) } (fun m h => step_on (guard_on rfl rfl rfl h.1.1 hb1) (op_load_lp (v := .pv (.int .i64 a0.fKind)) rfl h.1.2.1 h.2.1.1 rfl Tryd_one_3 rfl rfl) rfl) ⟨⟨rfl, rfl, trivial⟩, ⟨rfl, trivial⟩, trivial⟩ ?_
    refine dr_cons { need := [(6, .pv (.bool (decide (a0.fKind ≥ 1)))), (8, .pv (.int .i64 a0.fKind))], dst := some 9, val := some (.pv (.bool (decide (a0.fKind ≤ 6)))) } (fun m h => step_on (guard_on rfl rfl rfl h.1.1 hb1) (op_int (k := .i64) (m := a0.fKind) (n := 6) rfl h.1.2.1 rfl rfl rfl rfl) rfl) ⟨⟨rfl, rfl, trivial⟩, trivial, trivial⟩ ?_
    refine dr_cons { need := [(6, .pv (.bool (decide (a0.fKind ≥ 1)))), (9, .pv (.bool (decide (a0.fKind ≤ 6))))], dst := some 10, val := some (.pv (.bool (decide (a0.fKind ≤ 6)))) } (fun m h => step_on (guard_no rfl) (op_pick_t rfl h.1.1 hb1 h.1.2.1 rfl rfl) rfl) ⟨⟨rfl, rfl, trivial⟩, trivial, trivial⟩ ?_
    refine drm ?_
    rcases ite_some hF with ⟨hb2, hF⟩ | ⟨hb2, hF⟩
    · refine dr_cons { need := [(11, .pv (.bool (decide (a0.fKind ≤ 6)))), (1, .lp 0 0)], hneed := [(0, .box 27 (bxv (eGEvent a0)))], dst := some 12, val := some (.pv (.agg (eGEvent a0))) } (fun m h => step_on (guard_on rfl rfl rfl h.1.1 hb2) (op_load_lp_agg (ps := eGEvent a0) rfl h.1.2.1 h.2.1.1 rfl rfl rfl Tryd_agg_27 rfl rfl) rfl) ⟨⟨rfl, rfl, trivial⟩, ⟨rfl, trivial⟩, trivial⟩ ?_
      refine dr_cons { need := [(11, .pv (.bool (decide (a0.fKind ≤ 6)))), (1, .lp 0 0)], hneed := [(0, .box 27 (bxv (eGEvent a0)))], dst := some 13, val := some (.pv (.agg (eGEvent a0))) } (fun m h => step_on (guard_on rfl rfl rfl h.1.1 hb2) (op_load_lp_agg (ps := eGEvent a0) rfl h.1.2.1 h.2.1.1 rfl rfl rfl Tryd_agg_27 rfl rfl) rfl) ⟨⟨rfl, rfl, trivial⟩, ⟨rfl, trivial⟩, trivial⟩ ?_
      obtain ⟨y3, h4, hF⟩ := bind_some hF
      refine dr_cons { need := [(11, .pv (.bool (decide (a0.fKind ≤ 6)))), (13, .pv (.agg (eGEvent a0)))], dst := some 14, val := some (.pv (.agg (eGEvent y3))) } (fun m h => step_on (guard_on rfl rfl rfl h.1.1 hb2) (op_call 1 rfl (caps := []) (args := [.agg (eGEvent a0)]) (rs := [.p (.agg (eGEvent y3))]) rfl rfl (evl_cons h.1.2.1 evl_nil) Tryd_cal_28 (ref42_only_ok h4) rfl rfl rfl) rfl) ⟨⟨rfl, rfl, trivial⟩, trivial, trivial⟩ ?_
      refine dr_cons { need := [(11, .pv (.bool (decide (a0.fKind ≤ 6)))), (12, .pv (.agg (eGEvent a0))), (14, .pv (.agg (eGEvent y3)))], dst := some 15, val := some (.pv (.bool (bGEvent a0 y3))) } (fun m h => step_on (guard_on rfl rfl rfl h.1.1 hb2) (op_eqAgg_eql (r := bGEvent a0 y3) rfl h.1.2.1 h.1.2.2.1 Tryd_eqt_27 rfl rfl rfl rfl rfl) rfl) ⟨⟨rfl, rfl, rfl, trivial⟩, trivial, trivial⟩ ?_
      refine dr_cons { need := [(11, .pv (.bool (decide (a0.fKind ≤ 6)))), (15, .pv (.bool (bGEvent a0 y3)))], dst := some 16, val := some (.pv (.bool (bGEvent a0 y3))) } (fun m h => step_on (guard_no rfl) (op_pick_t rfl h.1.1 hb2 h.1.2.1 rfl rfl) rfl) ⟨⟨rfl, rfl, trivial⟩, trivial, trivial⟩ ?_
      refine drm ?_
      rcases ite_some hF with ⟨hb5, hF⟩ | ⟨hb5, hF⟩
      · refine dr_cons { need := [(17, .pv (.bool (bGEvent a0 y3))), (1, .lp 0 0)], dst := some 18, val := some (.lp 0 0) } (fun m h => step_on (guard_on rfl rfl rfl h.1.1 hb5) (op_field_lp rfl h.1.2.1 Tryd_fld_27_0 rfl rfl) rfl) ⟨⟨rfl, rfl, trivial⟩, trivial, trivial⟩ ?_
        refine dr_cons { need := [(17, .pv (.bool (bGEvent a0 y3))), (18, .lp 0 0)], hneed := [(0, .box 27 (bxv (eGEvent a0)))], dst := some 19, val := some (.pv (.int .i64 a0.fKind)) } (fun m h => step_on (guard_on rfl rfl rfl h.1.1 hb5) (op_load_lp (v := .pv (.int .i64 a0.fKind)) rfl h.1.2.1 h.2.1.1 rfl Tryd_one_3 rfl rfl) rfl) ⟨⟨rfl, rfl, trivial⟩, ⟨rfl, trivial⟩, trivial⟩ ?_
        refine dr_cons { need := [(17, .pv (.bool (bGEvent a0 y3))), (19, .pv (.int .i64 a0.fKind))], dst := some 20, val := some (.pv (.bool (decide (a0.fKind > 3)))) } (fun m h => step_on (guard_on rfl rfl rfl h.1.1 hb5) (op_int (k := .i64) (m := a0.fKind) (n := 3) rfl h.1.2.1 rfl rfl rfl rfl) rfl) ⟨⟨rfl, rfl, trivial⟩, trivial, trivial⟩ ?_
        refine dr_cons { need := [(17, .pv (.bool (bGEvent a0 y3))), (20, .pv (.bool (decide (a0.fKind > 3))))], dst := some 21, val := some (.pv (.bool (decide (a0.fKind > 3)))) } (fun m h => step_on (guard_on rfl rfl rfl h.1.1 hb5) (op_move rfl h.1.2.1 rfl rfl) rfl) ⟨⟨rfl, rfl, trivial⟩, trivial, trivial⟩ ?_
        rcases ite_some hF with ⟨hb6, hF⟩ | ⟨hb6, hF⟩
        · refine dro_t hb6 ?_
          iterate 2 (refine dro_t hb6 ?_)
          refine dr_cons { need := [(17, .pv (.bool (bGEvent a0 y3))), (21, .pv (.bool (decide (a0.fKind > 3))))], dst := some 25, val := some (.pv (.bool true)) } (fun m h => step_on (guard_on rfl rfl rfl h.1.1 hb5) (op_pick_t rfl h.1.2.1 hb6 rfl rfl rfl) rfl) ⟨⟨rfl, rfl, trivial⟩, trivial, trivial⟩ ?_
          refine dr_cons { need := [(17, .pv (.bool (bGEvent a0 y3))), (25, .pv (.bool true))], dst := some 26, val := some (.pv (.bool true)) } (fun m h => step_on (guard_no rfl) (op_pick_t rfl h.1.1 hb5 h.1.2.1 rfl rfl) rfl) ⟨⟨rfl, rfl, trivial⟩, trivial, trivial⟩ ?_
          refine dr_cons { need := [(26, .pv (.bool true))], dst := some 2, val := some (.pv (.bool true)) } (fun m h => step_on (guard_no rfl) (op_assign rfl h.1.1 rfl rfl) rfl) ⟨⟨rfl, trivial⟩, trivial, trivial⟩ ?_
          refine dr_nil Tryd_mixed rfl (by kernel_rfl) ?_
          refine post_imp (s' := ⟨27, [(2, some (.pv (.bool true)))], [], 0, [], [], 0, []⟩) (imps [] ⟨by kernel_rfl, trivial⟩ trivial) ?_
          refine post_next ?_
          refine aw_ret ?_
          obtain rfl := Option.some.inj hF
          exact prt
        refine dr_cons { need := [(21, .pv (.bool (decide (a0.fKind > 3)))), (1, .lp 0 0)], dst := some 22, val := some (.lp 0 3) } (fun m h => step_on (guard_on rfl rfl rfl h.1.1 hb6) (op_field_lp rfl h.1.2.1 Tryd_fld_27_3 rfl rfl) rfl) ⟨⟨rfl, rfl, trivial⟩, trivial, trivial⟩ ?_
        refine dr_cons { need := [(21, .pv (.bool (decide (a0.fKind > 3)))), (22, .lp 0 3)], hneed := [(0, .box 27 (bxv (eGEvent a0)))], dst := some 23, val := some (.pv (.str a0.fName)) } (fun m h => step_on (guard_on rfl rfl rfl h.1.1 hb6) (op_load_lp (v := .pv (.str a0.fName)) rfl h.1.2.1 h.2.1.1 rfl Tryd_one_9 rfl rfl) rfl) ⟨⟨rfl, rfl, trivial⟩, ⟨rfl, trivial⟩, trivial⟩ ?_
        obtain ⟨y7, h8, hF⟩ := bind_some hF
        refine dr_cons { need := [(21, .pv (.bool (decide (a0.fKind > 3)))), (23, .pv (.str a0.fName))], dst := some 24, val := some (.pv (.bool y7)) } (fun m h => step_on (guard_on rfl rfl rfl h.1.1 hb6) (op_call 1 rfl (caps := []) (args := [.str a0.fName]) (rs := [.p (.bool y7)]) rfl rfl (evl_cons h.1.2.1 evl_nil) Tryd_cal_29 (ref02_Name_ok h8) rfl rfl rfl) rfl) ⟨⟨rfl, rfl, trivial⟩, trivial, trivial⟩ ?_
        refine dr_cons { need := [(17, .pv (.bool (bGEvent a0 y3))), (21, .pv (.bool (decide (a0.fKind > 3)))), (24, .pv (.bool y7))], dst := some 25, val := some (.pv (.bool y7)) } (fun m h => step_on (guard_on rfl rfl rfl h.1.1 hb5) (op_pick_f rfl h.1.2.1 hb6 h.1.2.2.1 rfl rfl) rfl) ⟨⟨rfl, rfl, rfl, trivial⟩, trivial, trivial⟩ ?_
        refine dr_cons { need := [(17, .pv (.bool (bGEvent a0 y3))), (25, .pv (.bool y7))], dst := some 26, val := some (.pv (.bool y7)) } (fun m h => step_on (guard_no rfl) (op_pick_t rfl h.1.1 hb5 h.1.2.1 rfl rfl) rfl) ⟨⟨rfl, rfl, trivial⟩, trivial, trivial⟩ ?_
        refine dr_cons { need := [(26, .pv (.bool y7))], dst := some 2, val := some (.pv (.bool y7)) } (fun m h => step_on (guard_no rfl) (op_assign rfl h.1.1 rfl rfl) rfl) ⟨⟨rfl, trivial⟩, trivial, trivial⟩ ?_
        refine dr_nil Tryd_mixed rfl (by kernel_rfl) ?_
        refine post_imp (s' := ⟨27, [(2, some (.pv (.bool y7)))], [], 0, [], [], 0, []⟩) (imps [] ⟨by kernel_rfl, trivial⟩ trivial) ?_
        refine post_next ?_
        refine aw_ret ?_
        obtain rfl := Option.some.inj hF
        exact prt
      iterate 4 (refine dro_f hb5 ?_)
      iterate 3 (refine dru ?_)
      refine dro_f hb5 ?_
      refine drpf hb5 ?_
      refine dr_cons ref42_Right_e213 (fun m h => step_on (guard_no rfl) (op_assign rfl h.1.1 rfl rfl) rfl) ⟨⟨rfl, trivial⟩, trivial, trivial⟩ ?_
      refine dr_nil Tryd_mixed rfl (by kernel_rfl) ?_
      refine post_imp (s' := ⟨27, [(2, some (.pv (.bool false)))], [], 0, [], [], 0, []⟩) (imps [] ⟨by kernel_rfl, trivial⟩ trivial) ?_
      refine post_next ?_
      refine aw_ret ?_
      obtain rfl := Option.some.inj hF
      exact prt
    iterate 4 (refine dro_f hb2 ?_)
    refine drpf hb2 ?_
    refine drm ?_
    iterate 4 (refine dro_f rfl ?_)
    iterate 3 (refine dru ?_)
    refine dro_f rfl ?_
    refine drpf rfl ?_
    refine dr_cons ref42_Right_e213 (fun m h => step_on (guard_no rfl) (op_assign rfl h.1.1 rfl rfl) rfl) ⟨⟨rfl, trivial⟩, trivial, trivial⟩ ?_
    refine dr_nil Tryd_mixed rfl (by kernel_rfl) ?_
    refine post_imp (s' := ⟨27, [(2, some (.pv (.bool false)))], [], 0, [], [], 0, []⟩) (imps [] ⟨by kernel_rfl, trivial⟩ trivial) ?_
    refine post_next ?_
    refine aw_ret ?_
    obtain rfl := Option.some.inj hF
    exact prt
  iterate 3 (refine dro_f hb1 ?_)
  refine drpf hb1 ?_
  refine drm ?_
  iterate 4 (refine dro_f rfl ?_)
  refine drpf rfl ?_
  refine drm ?_
  iterate 4 (refine dro_f rfl ?_)
  iterate 3 (refine dru ?_)
  refine dro_f rfl ?_
  refine drpf rfl ?_
  refine dr_cons ref42_Right_e213 (fun m h => step_on (guard_no rfl) (op_assign rfl h.1.1 rfl rfl) rfl) ⟨⟨rfl, trivial⟩, trivial, trivial⟩ ?_
  refine dr_nil Tryd_mixed rfl (by kernel_rfl) ?_
  refine post_imp (s' := ⟨27, [(2, some (.pv (.bool false)))], [], 0, [], [], 0, []⟩) (imps [] ⟨by kernel_rfl, trivial⟩ trivial) ?_
  refine post_next ?_
  refine aw_ret ?_
  obtain rfl := Option.some.inj hF
  exact prt
theorem ref02_Digits_ok {a0 : Int} {r : (List UInt8)} (hF : ref02_Digits a0 = some r) : Abs.Fn globs_Tryd Tryd.prog 51 [.int .i64 a0] [.p (.str r)] := by
  unfold ref02_Digits at hF
  refine fn_of_body (n := 30) Tryd.func51 rfl rfl rfl ?_
  intro w O
  refine aw_seq ?_
  refine aw_region ?_
  refine ras ?_
  refine reg_nil ?_
  refine post_imp (s' := ⟨30, [(0, some (.pv (.int .i64 a0)))], [], 0, [], [], 0, []⟩) (imps [] ⟨by kernel_rfl, trivial⟩ trivial) ?_
  refine post_next ?_
  refine aw_seq ?_
  refine aw_region ?_
  refine ras ?_
  refine reg_nil ?_
  refine post_imp (s' := ⟨30, [(0, some (.pv (.int .i64 a0))), (3, some (.pv (.str [])))], [], 0, [], [], 0, []⟩) (imps [] ⟨by kernel_rfl, by kernel_rfl, trivial⟩ trivial) ?_
  refine post_next ?_
  refine aw_seq ?_
  obtain ⟨p4, hF, hK5⟩ := bind_some hF
  obtain ⟨x2, x3⟩ := p4
  refine aw_cut (fun s1 => s1 = ⟨30, [(0, some (.pv (.int .i64 x2))), (3, some (.pv (.str x3)))], [], 0, [], [], 0, []⟩) ?_ ?_
  · refine aw_seq ?_
    refine aw_region ?_
    refine rmv ?_
    refine rgp (op_int (k := .i64) (m := a0) (n := 0) rfl rfl rfl rfl rfl rfl) ?_
    refine reg_nil ?_
    refine post_imp (s' := ⟨30, [(0, some (.pv (.int .i64 a0))), (3, some (.pv (.str []))), (6, some (.pv (.bool (decide (a0 < 0)))))], [], 0, [], [], 0, []⟩) (imps [] ⟨by kernel_rfl, by kernel_rfl, by kernel_rfl, trivial⟩ trivial) ?_
    refine post_next ?_
    rcases ite_some hF with ⟨hb1, hF⟩ | ⟨hb1, hF⟩
    · refine aw_cond_t rfl hb1 ?_
      refine aw_region ?_
      refine ras ?_
      refine reg_nil ?_
      cases hF
      exact post_cut _ rfl (imps [] ⟨by kernel_rfl, by kernel_rfl, trivial⟩ trivial)
    refine aw_cond_f rfl hb1 ?_
    refine aw_region ?_
    refine rmv ?_
    refine rgp (op_neg rfl rfl rfl rfl) ?_
    refine ras ?_
    refine reg_nil ?_
    cases hF
    exact post_cut _ rfl (imps [] ⟨by kernel_rfl, by kernel_rfl, trivial⟩ trivial)
  rintro _ rfl
  have hF := hK5
  clear hK5
  refine post_next ?_
  refine aw_seq ?_
  refine aw_region ?_
  refine rmv ?_
  refine rgp (op_int2 (k := .i64) (m := x2) (n := 10) rfl rfl rfl (rem_op (by decide)) rfl rfl) ?_
  refine rgp (op_int (k := .i64) (m := 48) (n := Int.tmod x2 10) rfl rfl rfl rfl rfl rfl) ?_
  refine rgp (op_convInt rfl rfl Tryd_und_3 Tryd_und_5 rfl rfl) ?_
  refine rgp (op_lit (rows := List.map eI_u8 ([w_u8 (w_i64 (48 - (Int.tmod x2 10)))] : List Int)) (zs := [.int .u8 0]) rfl rfl Tryd_slc_55 Tryd_zer_5 (by exact ⟨rfl, trivial⟩) rfl rfl rfl rfl rfl rfl rfl rfl) ?_
  refine rgp (op_bytesStr (E := eI_u8) rfl rfl rfl Tryd_und_55 Tryd_und_5 Tryd_und_9 rfl rfl) ?_
  refine ras ?_
  refine reg_nil ?_
  refine post_imp (s' := ⟨30, [(0, some (.pv (.int .i64 x2))), (3, some (.pv (.str x3))), (4, some (.pv (.str (strL [w_u8 (w_i64 (48 - (Int.tmod x2 10)))]))))], [], 0, [], [], 0, []⟩) (imps [] ⟨by kernel_rfl, by kernel_rfl, by kernel_rfl, trivial⟩ trivial) ?_
  refine post_next ?_
  refine aw_seq ?_
  obtain ⟨x21, hF, hK22⟩ := bind_some hF
  refine aw_for 21 (fun s1 => s1 = ⟨30, [(3, some (.pv (.str x3))), (4, some (.pv (.str x21)))], [], 0, [], [], 0, []⟩) ?_ ?_
  · refine rnd_loop (α := Int × (List UInt8)) (fun q => ⟨30, [(0, some (.pv (.int .i64 q.1))), (3, some (.pv (.str x3))), (4, some (.pv (.str q.2)))], [], 0, [], [], 0, []⟩) (fun k q => ref02_Digits_L1 k q.1 q.2 = some x21) (x2, strL [w_u8 (w_i64 (48 - (Int.tmod x2 10)))]) (imps [] ⟨by kernel_rfl, by kernel_rfl, by kernel_rfl, trivial⟩ trivial) hF (fun q h => by cases h) ?_
    clear hF
    rintro k ⟨x9, x10⟩ hF ih
    refine rnd_succ ?_
    iterate 2 (refine aw_seq ?_)
    refine aw_region ?_
    refine rmv ?_
    refine rgp (op_int (k := .i64) (m := x9) (n := (-10)) rfl rfl rfl rfl rfl rfl) ?_
    refine reg_nil ?_
    refine post_imp (s' := ⟨30, [(0, some (.pv (.int .i64 x9))), (3, some (.pv (.str x3))), (4, some (.pv (.str x10))), (16, some (.pv (.bool (decide (x9 ≤ (-10))))))], [], 0, [], [], 0, []⟩) (imps [] ⟨by kernel_rfl, by kernel_rfl, by kernel_rfl, by kernel_rfl, trivial⟩ trivial) ?_
    refine post_next ?_
    rcases ite_some hF with ⟨hb16, hF⟩ | ⟨hb16, hF⟩
    · refine aw_cond_t rfl hb16 ?_
      refine aw_skip ?_
      refine post_next ?_
      refine aw_block ?_
      refine aw_seq ?_
      refine aw_region ?_
      refine rmv ?_
      refine rgp (op_int2 (k := .i64) (m := x9) (n := 10) rfl rfl rfl (quo_op (by decide)) rfl rfl) ?_
      refine ras ?_
      refine reg_nil ?_
      refine post_imp (s' := ⟨30, [(0, some (.pv (.int .i64 (w_i64 (Int.tdiv x9 10))))), (3, some (.pv (.str x3))), (4, some (.pv (.str x10)))], [], 0, [], [], 0, []⟩) (imps [] ⟨by kernel_rfl, by kernel_rfl, by kernel_rfl, trivial⟩ trivial) ?_
      refine post_next ?_
      refine aw_region ?_
      refine rmv ?_
      refine rgp (op_int2 (k := .i64) (m := w_i64 (Int.tdiv x9 10)) (n := 10) rfl rfl rfl (rem_op (by decide)) rfl rfl) ?_
      refine rgp (op_int (k := .i64) (m := 48) (n := Int.tmod (w_i64 (Int.tdiv x9 10)) 10) rfl rfl rfl rfl rfl rfl) ?_
      refine rgp (op_convInt rfl rfl Tryd_und_3 Tryd_und_5 rfl rfl) ?_
      refine rgp (op_lit (rows := List.map eI_u8 ([w_u8 (w_i64 (48 - (Int.tmod (w_i64 (Int.tdiv x9 10)) 10)))] : List Int)) (zs := [.int .u8 0]) rfl rfl Tryd_slc_55 Tryd_zer_5 (by exact ⟨rfl, trivial⟩) rfl rfl rfl rfl rfl rfl rfl rfl) ?_
      refine rgp (op_bytesStr (E := eI_u8) rfl rfl rfl Tryd_und_55 Tryd_und_5 Tryd_und_9 rfl rfl) ?_
      refine rmv ?_
      obtain ⟨u17, h18, hF⟩ := bind_some hF
      refine rgp (op_concat rfl rfl rfl (room_str h18) rfl rfl) ?_
      refine ras ?_
      refine reg_nil ?_
      refine post_imp (s' := ⟨30, [(0, some (.pv (.int .i64 (w_i64 (Int.tdiv x9 10))))), (3, some (.pv (.str x3))), (4, some (.pv (.str (strL [w_u8 (w_i64 (48 - (Int.tmod (w_i64 (Int.tdiv x9 10)) 10)))] ++ x10))))], [], 0, [], [], 0, []⟩) (imps [] ⟨by kernel_rfl, by kernel_rfl, by kernel_rfl, trivial⟩ trivial) ?_
      refine post_block_normal ?_
      refine post_round ?_
      exact rnd_back (ih (w_i64 (Int.tdiv x9 10), (strL [w_u8 (w_i64 (48 - (Int.tmod (w_i64 (Int.tdiv x9 10)) 10)))] ++ x10)) hF) (imps [] ⟨by kernel_rfl, by kernel_rfl, by kernel_rfl, trivial⟩ trivial)
    refine aw_cond_f rfl hb16 ?_
    refine aw_exit ?_
    iterate 2 (refine post_then_exit ?_)
    obtain rfl := Option.some.inj hF
    exact post_lp_break _ rfl (imps [] ⟨by kernel_rfl, by kernel_rfl, trivial⟩ trivial)
  rintro _ rfl
  have hF := hK22
  clear hK22
  refine post_next ?_
  refine aw_seq ?_
  refine aw_region ?_
  iterate 2 (refine rmv ?_)
  obtain ⟨u23, h24, hF⟩ := bind_some hF
  refine rgp (op_concat rfl rfl rfl (room_str h24) rfl rfl) ?_
  refine ras ?_
  refine reg_nil ?_
  refine post_imp (s' := ⟨30, [(2, some (.pv (.str (x3 ++ x21))))], [], 0, [], [], 0, []⟩) (imps [] ⟨by kernel_rfl, trivial⟩ trivial) ?_
  refine post_next ?_
  refine aw_ret ?_
  obtain rfl := Option.some.inj hF
  exact prt
theorem ref42_d_ok {a0 : Int} {r : (List UInt8)} (hF : ref42_d a0 = some r) : Abs.Fn globs_Tryd Tryd.prog 31 [.int .i64 a0] [.p (.str r)] := by
  unfold ref42_d at hF
  refine fn_of_body (n := 5) Tryd.func31 rfl rfl rfl ?_
  intro w O
  refine aw_seq ?_
  refine aw_region ?_
  refine ras ?_
  refine reg_nil ?_
  refine post_imp (s' := ⟨5, [(0, some (.pv (.int .i64 a0)))], [], 0, [], [], 0, []⟩) (imps [] ⟨by kernel_rfl, trivial⟩ trivial) ?_
  refine post_next ?_
  refine aw_seq ?_
  refine aw_region ?_
  refine rmv ?_
  obtain ⟨y1, h2, hF⟩ := bind_some hF
  refine rgp (op_call 0 rfl (caps := []) (args := [.int .i64 a0]) (rs := [.p (.str y1)]) rfl rfl rfl Tryd_cal_51 (ref02_Digits_ok h2) rfl rfl rfl) ?_
  refine ras ?_
  refine reg_nil ?_
  refine post_imp (s' := ⟨5, [(2, some (.pv (.str y1)))], [], 0, [], [], 0, []⟩) (imps [] ⟨by kernel_rfl, trivial⟩ trivial) ?_
  refine post_next ?_
  refine aw_ret ?_
  obtain rfl := Option.some.inj hF
  exact prt
theorem ref42_value_ok {a0 : GVal} {r : (List UInt8)} (hF : ref42_value a0 = some r) : Abs.Fn globs_Tryd Tryd.prog 32 [.agg (eGVal a0)] [.p (.str r)] := by
  unfold ref42_value at hF
  refine fn_of_body (n := 12) Tryd.func32 rfl rfl rfl ?_
  intro w O
  refine aw_seq ?_
  refine aw_region ?_
  refine rgp (op_box 0 rfl rfl rfl rfl rfl rfl) ?_
  refine ras ?_
  refine reg_nil ?_
  refine post_imp (s' := ⟨12, [(1, some (.lp 0 0))], [(0, some (.box 24 (bxv (eGVal a0))))], 1, [], [], 0, []⟩) (imps [0] ⟨by kernel_rfl, trivial⟩ ⟨by kernel_rfl, trivial⟩) ?_
  refine post_next ?_
  iterate 2 (refine aw_seq ?_)
  refine aw_region ?_
  refine rgp (op_field_lp rfl rfl Tryd_fld_24_0 rfl rfl) ?_
  refine rgp (op_load_lp (v := .pv (.bool a0.fRef)) rfl rfl rfl rfl Tryd_one_4 rfl rfl) ?_
  refine reg_nil ?_
  refine post_imp (s' := ⟨12, [(1, some (.lp 0 0)), (4, some (.pv (.bool a0.fRef)))], [(0, some (.box 24 (bxv (eGVal a0))))], 1, [], [], 0, []⟩) (imps [0] ⟨by kernel_rfl, by kernel_rfl, trivial⟩ ⟨by kernel_rfl, trivial⟩) ?_
  refine post_next ?_
  rcases ite_some hF with ⟨hb1, hF⟩ | ⟨hb1, hF⟩
  · refine aw_cond_t rfl hb1 ?_
    refine aw_seq ?_
    refine aw_region ?_
    refine rgp (op_field_lp rfl rfl Tryd_fld_24_1 rfl rfl) ?_
    refine rgp (op_load_lp (v := .pv (.int .i64 a0.fN)) rfl rfl rfl rfl Tryd_one_3 rfl rfl) ?_
    obtain ⟨y2, h3, hF⟩ := bind_some hF
    refine rgp (op_call 1 rfl (caps := []) (args := [.int .i64 a0.fN]) (rs := [.p (.str y2)]) rfl rfl rfl Tryd_cal_31 (ref42_d_ok h3) rfl rfl rfl) ?_
    obtain ⟨u4, h5, hF⟩ := bind_some hF
    refine rgp (op_concat rfl rfl rfl (room_str h5) rfl rfl) ?_
    refine ras ?_
    refine reg_nil ?_
    refine post_imp (s' := ⟨12, [(2, some (.pv (.str ([64] ++ y2))))], [], 0, [], [], 0, []⟩) (imps [] ⟨by kernel_rfl, trivial⟩ trivial) ?_
    refine post_next ?_
    refine aw_ret ?_
    refine post_then_ret ?_
    obtain rfl := Option.some.inj hF
    exact prt
  refine aw_cond_f rfl hb1 ?_
  refine aw_skip ?_
  refine post_next ?_
  refine aw_seq ?_
  refine aw_region ?_
  refine rgp (op_field_lp rfl rfl Tryd_fld_24_1 rfl rfl) ?_
  refine rgp (op_load_lp (v := .pv (.int .i64 a0.fN)) rfl rfl rfl rfl Tryd_one_3 rfl rfl) ?_
  obtain ⟨y6, h7, hF⟩ := bind_some hF
  refine rgp (op_call 1 rfl (caps := []) (args := [.int .i64 a0.fN]) (rs := [.p (.str y6)]) rfl rfl rfl Tryd_cal_31 (ref42_d_ok h7) rfl rfl rfl) ?_
  refine ras ?_
  refine reg_nil ?_
  refine post_imp (s' := ⟨12, [(2, some (.pv (.str y6)))], [], 0, [], [], 0, []⟩) (imps [] ⟨by kernel_rfl, trivial⟩ trivial) ?_
  refine post_next ?_
  refine aw_ret ?_
  obtain rfl := Option.some.inj hF
  exact prt
theorem ref42_Text_ok {a0 : GEvent} {r : (List UInt8)} (hF : ref42_Text a0 = some r) : Abs.Fn globs_Tryd Tryd.prog 15 [.agg (eGEvent a0)] [.p (.str r)] := by
  unfold ref42_Text at hF
  refine fn_of_body (n := 114) Tryd.func15 rfl rfl rfl ?_
  intro w O
  refine aw_seq ?_
  refine aw_region ?_
  refine rgp (op_box 0 rfl rfl rfl rfl rfl rfl) ?_
  refine ras ?_
  refine reg_nil ?_
  refine post_imp (s' := ⟨114, [(1, some (.lp 0 0))], [(0, some (.box 27 (bxv (eGEvent a0))))], 1, [], [], 0, []⟩) (imps [0] ⟨by kernel_rfl, trivial⟩ ⟨by kernel_rfl, trivial⟩) ?_
  refine post_next ?_
  iterate 2 (refine aw_seq ?_)
  refine aw_region ?_
  refine rgp (op_load_lp_agg (ps := eGEvent a0) rfl rfl rfl rfl rfl rfl Tryd_agg_27 rfl rfl) ?_
  obtain ⟨y3, h4, hF⟩ := bind_some hF
  refine rgp (op_call 1 rfl (caps := []) (args := [.agg (eGEvent a0)]) (rs := [.p (.bool y3)]) rfl rfl rfl Tryd_cal_13 (ref42_Right_ok h4) rfl rfl rfl) ?_
  refine rgp (op_not rfl rfl rfl rfl) ?_
  refine reg_nil ?_
  refine post_imp (s' := ⟨114, [(1, some (.lp 0 0)), (6, some (.pv (.bool (!y3))))], [(0, some (.box 27 (bxv (eGEvent a0))))], 1, [], [], 0, []⟩) (imps [0] ⟨by kernel_rfl, by kernel_rfl, trivial⟩ ⟨by kernel_rfl, trivial⟩) ?_
  refine post_next ?_
  rcases ite_some hF with ⟨hb5, hF⟩ | ⟨hb5, hF⟩
  · refine aw_cond_t rfl hb5 ?_
    refine aw_seq ?_
    refine aw_region ?_
    refine ras ?_
    refine reg_nil ?_
    refine post_imp (s' := ⟨114, [(2, some (.pv (.str [])))], [], 0, [], [], 0, []⟩) (imps [] ⟨by kernel_rfl, trivial⟩ trivial) ?_
    refine post_next ?_
    refine aw_ret ?_
    refine post_then_ret ?_
    obtain rfl := Option.some.inj hF
    exact prt
  refine aw_cond_f rfl hb5 ?_
  refine aw_skip ?_
  refine post_next ?_
  refine aw_seq ?_
  refine dr_start ⟨_, _, _⟩ rfl ?_
  refine dr_cons { need := [(1, .lp 0 0)], dst := some 7, val := some (.lp 0 2) } (fun m h => step_on (guard_no rfl) (op_field_lp rfl h.1.1 Tryd_fld_27_2 rfl rfl) rfl) ⟨⟨rfl, trivial⟩, trivial, trivial⟩ ?_
  refine dr_cons { need := [(7, .lp 0 2)], hneed := [(0, .box 27 (bxv (eGEvent a0)))], dst := some 8, val := some (.pv (.int .i64 a0.fObj)) } (fun m h => step_on (guard_no rfl) (op_load_lp (v := .pv (.int .i64 a0.fObj)) rfl h.1.1 h.2.1.1 rfl Tryd_one_3 rfl rfl) rfl) ⟨⟨rfl, trivial⟩, ⟨rfl, trivial⟩, trivial⟩ ?_
  obtain ⟨y114, h115, hF⟩ := bind_some hF
  refine dr_cons { need := [(8, .pv (.int .i64 a0.fObj))], dst := some 9, val := some (.pv (.str y114)) } (fun m h => step_on (guard_no rfl) (op_call 1 rfl (caps := []) (args := [.int .i64 a0.fObj]) (rs := [.p (.str y114)]) rfl rfl (evl_cons h.1.1 evl_nil) Tryd_cal_31 (ref42_d_ok h115) rfl rfl rfl) rfl) ⟨⟨rfl, trivial⟩, trivial, trivial⟩ ?_
  obtain ⟨u116, h117, hF⟩ := bind_some hF
  refine dr_cons { need := [(9, .pv (.str y114))], dst := some 10, val := some (.pv (.str ([110, 101, 119, 32] ++ y114))) } (fun m h => step_on (guard_no rfl) (op_concat rfl rfl h.1.1 (room_str h117) rfl rfl) rfl) ⟨⟨rfl, trivial⟩, trivial, trivial⟩ ?_
  obtain ⟨u118, h119, hF⟩ := bind_some hF
  refine dr_cons { need := [(10, .pv (.str ([110, 101, 119, 32] ++ y114)))], dst := some 11, val := some (.pv (.str (([110, 101, 119, 32] ++ y114) ++ [32]))) } (fun m h => step_on (guard_no rfl) (op_concat rfl h.1.1 rfl (room_str h119) rfl rfl) rfl) ⟨⟨rfl, trivial⟩, trivial, trivial⟩ ?_
  refine dr_cons { need := [(1, .lp 0 0)], dst := some 12, val := some (.lp 0 3) } (fun m h => step_on (guard_no rfl) (op_field_lp rfl h.1.1 Tryd_fld_27_3 rfl rfl) rfl) ⟨⟨rfl, trivial⟩, trivial, trivial⟩ ?_
  refine dr_cons { need := [(12, .lp 0 3)], hneed := [(0, .box 27 (bxv (eGEvent a0)))], dst := some 13, val := some (.pv (.str a0.fName)) } (fun m h => step_on (guard_no rfl) (op_load_lp (v := .pv (.str a0.fName)) rfl h.1.1 h.2.1.1 rfl Tryd_one_9 rfl rfl) rfl) ⟨⟨rfl, trivial⟩, ⟨rfl, trivial⟩, trivial⟩ ?_
  obtain ⟨u120, h121, hF⟩ := bind_some hF
  refine dr_cons { need := [(11, .pv (.str (([110, 101, 119, 32] ++ y114) ++ [32]))), (13, .pv (.str a0.fName))], dst := some 14, val := some (.pv (.str ((([110, 101, 119, 32] ++ y114) ++ [32]) ++ a0.fName))) } (fun m h => step_on (guard_no rfl) (op_concat rfl h.1.1 h.1.2.1 (room_str h121) rfl rfl) rfl) ⟨⟨rfl, rfl, trivial⟩, trivial, trivial⟩ ?_
  obtain ⟨u122, h123, hF⟩ := bind_some hF
  refine dr_cons { need := [(14, .pv (.str ((([110, 101, 119, 32] ++ y114) ++ [32]) ++ a0.fName)))], dst := some 15, val := some (.pv (.str (((([110, 101, 119, 32] ++ y114) ++ [32]) ++ a0.fName) ++ [32, 98, 121, 32]))) } (fun m h => step_on (guard_no rfl) (op_concat rfl h.1.1 rfl (room_str h123) rfl rfl) rfl) ⟨⟨rfl, trivial⟩, trivial, trivial⟩ ?_
  refine dr_cons { need := [(1, .lp 0 0)], dst := some 16, val := some (.lp 0 1) } (fun m h => step_on (guard_no rfl) (op_field_lp rfl h.1.1 Tryd_fld_27_1 rfl rfl) rfl) ⟨⟨rfl, trivial⟩, trivial, trivial⟩ ?_
  refine dr_cons { need := [(16, .lp 0 1)], hneed := [(0, .box 27 (bxv (eGEvent a0)))], dst := some 17, val := some (.pv (.int .i64 a0.fWho)) } (fun m h => step_on (guard_no rfl) (op_load_lp (v := .pv (.int .i64 a0.fWho)) rfl h.1.1 h.2.1.1 rfl Tryd_one_3 rfl rfl) rfl) ⟨⟨rfl, trivial⟩, ⟨rfl, trivial⟩, trivial⟩ ?_
  obtain ⟨y124, h125, hF⟩ := bind_some hF
  refine dr_cons { need := [(17, .pv (.int .i64 a0.fWho))], dst := some 18, val := some (.pv (.str y124)) } (fun m h => step_on (guard_no rfl) (op_call 1 rfl (caps := []) (args := [.int .i64 a0.fWho]) (rs := [.p (.str y124)]) rfl rfl (evl_cons h.1.1 evl_nil) Tryd_cal_31 (ref42_d_ok h125) rfl rfl rfl) rfl) ⟨⟨rfl, trivial⟩, trivial, trivial⟩ ?_
  obtain ⟨u126, h127, hF⟩ := bind_some hF
  refine dr_cons { need := [(15, .pv (.str (((([110, 101, 119, 32] ++ y114) ++ [32]) ++ a0.fName) ++ [32, 98, 121, 32]))), (18, .pv (.str y124))], dst := some 19, val := some (.pv (.str ((((([110, 101, 119, 32] ++ y114) ++ [32]) ++ a0.fName) ++ [32, 98, 121, 32]) ++ y124))) } (fun m h => step_on (guard_no rfl) (op_concat rfl h.1.1 h.1.2.1 (room_str h127) rfl rfl) rfl) ⟨⟨rfl, rfl, trivial⟩, trivial, trivial⟩ ?_
  obtain ⟨u128, h129, hF⟩ := bind_some hF
  refine dr_cons { need := [(19, .pv (.str ((((([110, 101, 119, 32] ++ y114) ++ [32]) ++ a0.fName) ++ [32, 98, 121, 32]) ++ y124)))], dst := some 20, val := some (.pv (.str (((((([110, 101, 119, 32] ++ y114) ++ [32]) ++ a0.fName) ++ [32, 98, 121, 32]) ++ y124) ++ [32, 105, 110, 32]))) } (fun m h => step_on (guard_no rfl) (op_concat rfl h.1.1 rfl (room_str h129) rfl rfl) rfl) ⟨⟨rfl, trivial⟩, trivial, trivial⟩ ?_
  refine dr_cons { need := [(1, .lp 0 0)], dst := some 21, val := some (.lp 0 6) } (fun m h => step_on (guard_no rfl) (op_field_lp rfl h.1.1 Tryd_fld_27_5 rfl rfl) rfl) ⟨⟨rfl, trivial⟩, trivial, trivial⟩ ?_
  refine dr_cons { need := [(21, .lp 0 6)], dst := some 22, val := some (.lp 0 6) } (fun m h => step_on (guard_no rfl) (op_arr_lp (k := .i64) (m := 0) (n := 4) rfl h.1.1 rfl Tryd_arr_25 rfl rfl rfl rfl) rfl) ⟨⟨rfl, trivial⟩, trivial, trivial⟩ ?_
  refine dr_cons { need := [(22, .lp 0 6)], hneed := [(0, .box 27 (bxv (eGEvent a0)))], dst := some 23, val := some (.pv (.int .i64 a0.fOwn.a0)) } (fun m h => step_on (guard_no rfl) (op_load_lp (v := .pv (.int .i64 a0.fOwn.a0)) rfl h.1.1 h.2.1.1 rfl Tryd_one_3 rfl rfl) rfl) ⟨⟨rfl, trivial⟩, ⟨rfl, trivial⟩, trivial⟩ ?_
  obtain ⟨y130, h131, hF⟩ := bind_some hF
  refine dr_cons { need := [(23, .pv (.int .i64 a0.fOwn.a0))], dst := some 24, val := some (.pv (.str y130)) } (fun m h => step_on (guard_no rfl) (op_call 1 rfl (caps := []) (args := [.int .i64 a0.fOwn.a0]) (rs := [.p (.str y130)]) rfl rfl (evl_cons h.1.1 evl_nil) Tryd_cal_31 (ref42_d_ok h131) rfl rfl rfl) rfl) ⟨⟨rfl, trivial⟩, trivial, trivial⟩ ?_
  obtain ⟨u132, h133, hF⟩ := bind_some hF
  refine dr_cons { need := [(20, .pv (.str (((((([110, 101, 119, 32] ++ y114) ++ [32]) ++ a0.fName) ++ [32, 98, 121, 32]) ++ y124) ++ [32, 105, 110, 32]))), (24, .pv (.str y130))], dst := some 25, val := some (.pv (.str ((((((([110, 101, 119, 32] ++ y114) ++ [32]) ++ a0.fName) ++ [32, 98, 121, 32]) ++ y124) ++ [32, 105, 110, 32]) ++ y130))) } (fun m h => step_on (guard_no rfl) (op_concat rfl h.1.1 h.1.2.1 (room_str h133) rfl rfl) rfl) ⟨⟨rfl, rfl, trivial⟩, trivial, trivial⟩ ?_
  obtain ⟨u134, h135, hF⟩ := bind_some hF
  refine dr_cons { need := [(25, .pv (.str ((((((([110, 101, 119, 32] ++ y114) ++ [32]) ++ a0.fName) ++ [32, 98, 121, 32]) ++ y124) ++ [32, 105, 110, 32]) ++ y130)))], dst := some 26, val := some (.pv (.str (((((((([110, 101, 119, 32] ++ y114) ++ [32]) ++ a0.fName) ++ [32, 98, 121, 32]) ++ y124) ++ [32, 105, 110, 32]) ++ y130) ++ [32]))) } (fun m h => step_on (guard_no rfl) (op_concat rfl h.1.1 rfl (room_str h135) rfl rfl) rfl) ⟨⟨rfl, trivial⟩, trivial, trivial⟩ ?_
  refine dr_cons { need := [(1, .lp 0 0)], dst := some 27, val := some (.lp 0 6) } (fun m h => step_on (guard_no rfl) (op_field_lp rfl h.1.1 Tryd_fld_27_5 rfl rfl) rfl) ⟨⟨rfl, trivial⟩, trivial, trivial⟩ ?_
  refine dr_cons { need := [(27, .lp 0 6)], dst := some 28, val := some (.lp 0 7) } (fun m h => step_on (guard_no rfl) (op_arr_lp (k := .i64) (m := 1) (n := 4) rfl h.1.1 rfl Tryd_arr_25 rfl rfl rfl rfl) rfl) ⟨⟨rfl, trivial⟩, trivial, trivial⟩ ?_
  refine dr_cons { need := [(28, .lp 0 7)], hneed := [(0, .box 27 (bxv (eGEvent a0)))], dst := some 29, val := some (.pv (.int .i64 a0.fOwn.a1)) } (fun m h => step_on (guard_no rfl) (op_load_lp (v := .pv (.int .i64 a0.fOwn.a1)) rfl h.1.1 h.2.1.1 rfl Tryd_one_3 rfl rfl) rfl) ⟨⟨rfl, trivial⟩, ⟨rfl, trivial⟩, trivial⟩ ?_
  obtain ⟨y136, h137, hF⟩ := bind_some hF
  refine dr_cons { need := [(29, .pv (.int .i64 a0.fOwn.a1))], dst := some 30, val := some (.pv (.str y136)) } (fun m h => step_on (guard_no rfl) (op_call 1 rfl (caps := []) (args := [.int .i64 a0.fOwn.a1]) (rs := [.p (.str y136)]) rfl rfl (evl_cons h.1.1 evl_nil) Tryd_cal_31 (ref42_d_ok h137) rfl rfl rfl) rfl) ⟨⟨rfl, trivial⟩, trivial, trivial⟩ ?_
  obtain ⟨u138, h139, hF⟩ := bind_some hF
  refine dr_cons { need := [(26, .pv (.str (((((((([110, 101, 119, 32] ++ y114) ++ [32]) ++ a0.fName) ++ [32, 98, 121, 32]) ++ y124) ++ [32, 105, 110, 32]) ++ y130) ++ [32]))), (30, .pv (.str y136))], dst := some 31, val := some (.pv (.str ((((((((([110, 101, 119, 32] ++ y114) ++ [32]) ++ a0.fName) ++ [32, 98, 121, 32]) ++ y124) ++ [32, 105, 110, 32]) ++ y130) ++ [32]) ++ y136))) } (fun m h => step_on (guard_no rfl) (op_concat rfl h.1.1 h.1.2.1 (room_str h139) rfl rfl) rfl) ⟨⟨rfl, rfl, trivial⟩, trivial, trivial⟩ ?_
  obtain ⟨u140, h141, hF⟩ := bind_some hF
  refine dr_cons { need := [(31, .pv (.str ((((((((([110, 101, 119, 32] ++ y114) ++ [32]) ++ a0.fName) ++ [32, 98, 121, 32]) ++ y124) ++ [32, 105, 110, 32]) ++ y130) ++ [32]) ++ y136)))], dst := some 32, val := some (.pv (.str (((((((((([110, 101, 119, 32] ++ y114) ++ [32]) ++ a0.fName) ++ [32, 98, 121, 32]) ++ y124) ++ [32, 105, 110, 32]) ++ y130) ++ [32]) ++ y136) ++ [32]))) } (fun m h => step_on (guard_no rfl) (op_concat rfl h.1.1 rfl (room_str h141) rfl rfl) rfl) ⟨⟨rfl, trivial⟩, trivial, trivial⟩ ?_
  refine dr_cons { need := [(1, .lp 0 0)], dst := some 33, val := some (.lp 0 6) } (fun m h => step_on (guard_no rfl) (op_field_lp rfl h.1.1 Tryd_fld_27_5 rfl rfl) rfl) ⟨⟨rfl, trivial⟩, trivial, trivial⟩ ?_
  refine dr_cons { need := [(33, .lp 0 6)], dst := some 34, val := some (.lp 0 8) } (fun m h => step_on (guard_no rfl) (op_arr_lp (k := .i64) (m := 2) (n := 4) rfl h.1.1 rfl Tryd_arr_25 rfl rfl rfl rfl) rfl) ⟨⟨rfl, trivial⟩, trivial, trivial⟩ ?_
  refine dr_cons { need := [(34, .lp 0 8)], hneed := [(0, .box 27 (bxv (eGEvent a0)))], dst := some 35, val := some (.pv (.int .i64 a0.fOwn.a2)) } (fun m h => step_on (guard_no rfl) (op_load_lp (v := .pv (.int .i64 a0.fOwn.a2)) rfl h.1.1 h.2.1.1 rfl Tryd_one_3 rfl rfl) rfl) ⟨⟨rfl, trivial⟩, ⟨rfl, trivial⟩, trivial⟩ ?_
  obtain ⟨y142, h143, hF⟩ := bind_some hF
  refine dr_cons { need := [(35, .pv (.int .i64 a0.fOwn.a2))], dst := some 36, val := some (.pv (.str y142)) } (fun m h => step_on (guard_no rfl) (op_call 1 rfl (caps := []) (args := [.int .i64 a0.fOwn.a2]) (rs := [.p (.str y142)]) rfl rfl (evl_cons h.1.1 evl_nil) Tryd_cal_31 (ref42_d_ok h143) rfl rfl rfl) rfl) ⟨⟨rfl, trivial⟩, trivial, trivial⟩ ?_
  obtain ⟨u144, h145, hF⟩ := bind_some hF
  refine dr_cons { need := [(32, .pv (.str (((((((((([110, 101, 119, 32] ++ y114) ++ [32]) ++ a0.fName) ++ [32, 98, 121, 32]) ++ y124) ++ [32, 105, 110, 32]) ++ y130) ++ [32]) ++ y136) ++ [32]))), (36, .pv (.str y142))], dst := some 37, val := some (.pv (.str ((((((((((([110, 101, 119, 32] ++ y114) ++ [32]) ++ a0.fName) ++ [32, 98, 121, 32]) ++ y124) ++ [32, 105, 110, 32]) ++ y130) ++ [32]) ++ y136) ++ [32]) ++ y142))) } (fun m h => step_on (guard_no rfl) (op_concat rfl h.1.1 h.1.2.1 (room_str h145) rfl rfl) rfl) ⟨⟨rfl, rfl, trivial⟩, trivial, trivial⟩ ?_
  obtain ⟨u146, h147, hF⟩ := bind_some hF
  refine dr_cons { need := [(37, .pv (.str ((((((((((([110, 101, 119, 32] ++ y114) ++ [32]) ++ a0.fName) ++ [32, 98, 121, 32]) ++ y124) ++ [32, 105, 110, 32]) ++ y130) ++ [32]) ++ y136) ++ [32]) ++ y142)))], dst := some 38, val := some (.pv (.str (((((((((((([110, 101, 119, 32] ++ y114) ++ [32]) ++ a0.fName) ++ [32, 98, 121, 32]) ++ y124) ++ [32, 105, 110, 32]) ++ y130) ++ [32]) ++ y136) ++ [32]) ++ y142) ++ [32]))) } (fun m h => step_on (guard_no rfl) (op_concat rfl h.1.1 rfl (room_str h147) rfl rfl) rfl) ⟨⟨rfl, trivial⟩, trivial, trivial⟩ ?_
  refine dr_cons { need := [(1, .lp 0 0)], dst := some 39, val := some (.lp 0 6) } (fun m h => step_on (guard_no rfl) (op_field_lp rfl h.1.1 Tryd_fld_27_5 rfl rfl) rfl) ⟨⟨rfl, trivial⟩, trivial, trivial⟩ ?_
  refine dr_cons { need := [(39, .lp 0 6)], dst := some 40, val := some (.lp 0 9) } (fun m h => step_on (guard_no rfl) (op_arr_lp (k := .i64) (m := 3) (n := 4) rfl h.1.1 rfl Tryd_arr_25 rfl rfl rfl rfl) rfl) ⟨⟨rfl, trivial⟩, trivial, trivial⟩ ?_
  refine dr_cons { need := [(40, .lp 0 9)], hneed := [(0, .box 27 (bxv (eGEvent a0)))], dst := some 41, val := some (.pv (.int .i64 a0.fOwn.a3)) } (fun m h => step_on (guard_no rfl) (op_load_lp (v := .pv (.int .i64 a0.fOwn.a3)) rfl h.1.1 h.2.1.1 rfl Tryd_one_3 rfl rfl) rfl) ⟨⟨rfl, trivial⟩, ⟨rfl, trivial⟩, trivial⟩ ?_
  obtain ⟨y148, h149, hF⟩ := bind_some hF
  refine dr_cons { need := [(41, .pv (.int .i64 a0.fOwn.a3))], dst := some 42, val := some (.pv (.str y148)) } (fun m h => step_on (guard_no rfl) (op_call 1 rfl (caps := []) (args := [.int .i64 a0.fOwn.a3]) (rs := [.p (.str y148)]) rfl rfl (evl_cons h.1.1 evl_nil) Tryd_cal_31 (ref42_d_ok h149) rfl rfl rfl) rfl) ⟨⟨rfl, trivial⟩, trivial, trivial⟩ ?_
  obtain ⟨u150, h151, hF⟩ := bind_some hF
  refine dr_cons { need := [(38, .pv (.str (((((((((((([110, 101, 119, 32] ++ y114) ++ [32]) ++ a0.fName) ++ [32, 98, 121, 32]) ++ y124) ++ [32, 105, 110, 32]) ++ y130) ++ [32]) ++ y136) ++ [32]) ++ y142) ++ [32]))), (42, .pv (.str y148))], dst := some 43, val := some (.pv (.str ((((((((((((([110, 101, 119, 32] ++ y114) ++ [32]) ++ a0.fName) ++ [32, 98, 121, 32]) ++ y124) ++ [32, 105, 110, 32]) ++ y130) ++ [32]) ++ y136) ++ [32]) ++ y142) ++ [32]) ++ y148))) } (fun m h => step_on (guard_no rfl) (op_concat rfl h.1.1 h.1.2.1 (room_str h151) rfl rfl) rfl) ⟨⟨rfl, rfl, trivial⟩, trivial, trivial⟩ ?_
  refine dr_cons { need := [(1, .lp 0 0)], dst := some 44, val := some (.lp 0 2) } (fun m h => step_on (guard_no rfl) (op_field_lp rfl h.1.1 Tryd_fld_27_2 rfl rfl) rfl) ⟨⟨rfl, trivial⟩, trivial, trivial⟩ ?_
  refine dr_cons { need := [(44, .lp 0 2)], hneed := [(0, .box 27 (bxv (eGEvent a0)))], dst := some 45, val := some (.pv (.int .i64 a0.fObj)) } (fun m h => step_on (guard_no rfl) (op_load_lp (v := .pv (.int .i64 a0.fObj)) rfl h.1.1 h.2.1.1 rfl Tryd_one_3 rfl rfl) rfl) ⟨⟨rfl, trivial⟩, ⟨rfl, trivial⟩, trivial⟩ ?_
  obtain ⟨y152, h153, hF⟩ := bind_some hF
  refine dr_cons { need := [(45, .pv (.int .i64 a0.fObj))], dst := some 46, val := some (.pv (.str y152)) } (fun m h => step_on (guard_no rfl) (op_call 1 rfl (caps := []) (args := [.int .i64 a0.fObj]) (rs := [.p (.str y152)]) rfl rfl (evl_cons h.1.1 evl_nil) Tryd_cal_31 (ref42_d_ok h153) rfl rfl rfl) rfl) ⟨⟨rfl, trivial⟩, trivial, trivial⟩ ?_
  obtain ⟨u154, h155, hF⟩ := bind_some hF
  refine dr_cons { need := [(46, .pv (.str y152))], dst := some 47, val := some (.pv (.str ([112, 117, 116, 32] ++ y152))) } (fun m h => step_on (guard_no rfl) (op_concat rfl rfl h.1.1 (room_str h155) rfl rfl) rfl) ⟨⟨rfl, trivial⟩, trivial, trivial⟩ ?_
  obtain ⟨u156, h157, hF⟩ := bind_some hF
  refine dr_cons { need := [(47, .pv (.str ([112, 117, 116, 32] ++ y152)))], dst := some 48, val := some (.pv (.str (([112, 117, 116, 32] ++ y152) ++ [32]))) } (fun m h => step_on (guard_no rfl) (op_concat rfl h.1.1 rfl (room_str h157) rfl rfl) rfl) ⟨⟨rfl, trivial⟩, trivial, trivial⟩ ?_
  refine dr_cons { need := [(1, .lp 0 0)], dst := some 49, val := some (.lp 0 3) } (fun m h => step_on (guard_no rfl) (op_field_lp rfl h.1.1 Tryd_fld_27_3 rfl rfl) rfl) ⟨⟨rfl, trivial⟩, trivial, trivial⟩ ?_
  refine dr_cons { need := [(49, .lp 0 3)], hneed := [(0, .box 27 (bxv (eGEvent a0)))], dst := some 50, val := some (.pv (.str a0.fName)) } (fun m h => step_on (guard_no rfl) (op_load_lp (v := .pv (.str a0.fName)) rfl h.1.1 h.2.1.1 rfl Tryd_one_9 rfl rfl) rfl) ⟨⟨rfl, trivial⟩, ⟨rfl, trivial⟩, trivial⟩ ?_
  obtain ⟨u158, h159, hF⟩ := bind_some hF
  refine dr_cons { need := [(48, .pv (.str (([112, 117, 116, 32] ++ y152) ++ [32]))), (50, .pv (.str a0.fName))], dst := some 51, val := some (.pv (.str ((([112, 117, 116, 32] ++ y152) ++ [32]) ++ a0.fName))) } (fun m h => step_on (guard_no rfl) (op_concat rfl h.1.1 h.1.2.1 (room_str h159) rfl rfl) rfl) ⟨⟨rfl, rfl, trivial⟩, trivial, trivial⟩ ?_
  obtain ⟨u160, h161, hF⟩ := bind_some hF
  refine dr_cons { need := [(51, .pv (.str ((([112, 117, 116, 32] ++ y152) ++ [32]) ++ a0.fName)))], dst := some 52, val := some (.pv (.str (((([112, 117, 116, 32] ++ y152) ++ [32]) ++ a0.fName) ++ [32, 98, 121, 32]))) } (fun m h => step_on (guard_no rfl) (op_concat rfl h.1.1 rfl (room_str h161) rfl rfl) rfl) ⟨⟨rfl, trivial⟩, trivial, trivial⟩ ?_
  refine dr_cons { need := [(1, .lp 0 0)], dst := some 53, val := some (.lp 0 1) } (fun m h => step_on (guard_no rfl) (op_field_lp rfl h.1.1 Tryd_fld_27_1 rfl rfl) rfl) ⟨⟨rfl, trivial⟩, trivial, trivial⟩ ?_
  refine dr_cons { need := [(53, .lp 0 1)], hneed := [(0, .box 27 (bxv (eGEvent a0)))], dst := some 54, val := some (.pv (.int .i64 a0.fWho)) } (fun m h => step_on (guard_no rfl) (op_load_lp (v := .pv (.int .i64 a0.fWho)) rfl h.1.1 h.2.1.1 rfl Tryd_one_3 rfl rfl) rfl) ⟨⟨rfl, trivial⟩, ⟨rfl, trivial⟩, trivial⟩ ?_
  obtain ⟨y162, h163, hF⟩ := bind_some hF
  refine dr_cons { need := [(54, .pv (.int .i64 a0.fWho))], dst := some 55, val := some (.pv (.str y162)) } (fun m h => step_on (guard_no rfl) (op_call 1 rfl (caps := []) (args := [.int .i64 a0.fWho]) (rs := [.p (.str y162)]) rfl rfl (evl_cons h.1.1 evl_nil) Tryd_cal_31 (ref42_d_ok h163) rfl rfl rfl) rfl) ⟨⟨rfl, trivial⟩, trivial, trivial⟩ ?_
  obtain ⟨u164, h165, hF⟩ := bind_some hF
  refine dr_cons { need := [(52, .pv (.str (((([112, 117, 116, 32] ++ y152) ++ [32]) ++ a0.fName) ++ [32, 98, 121, 32]))), (55, .pv (.str y162))], dst := some 56, val := some (.pv (.str ((((([112, 117, 116, 32] ++ y152) ++ [32]) ++ a0.fName) ++ [32, 98, 121, 32]) ++ y162))) } (fun m h => step_on (guard_no rfl) (op_concat rfl h.1.1 h.1.2.1 (room_str h165) rfl rfl) rfl) ⟨⟨rfl, rfl, trivial⟩, trivial, trivial⟩ ?_
  obtain ⟨u166, h167, hF⟩ := bind_some hF
  refine dr_cons { need := [(56, .pv (.str ((((([112, 117, 116, 32] ++ y152) ++ [32]) ++ a0.fName) ++ [32, 98, 121, 32]) ++ y162)))], dst := some 57, val := some (.pv (.str (((((([112, 117, 116, 32] ++ y152) ++ [32]) ++ a0.fName) ++ [32, 98, 121, 32]) ++ y162) ++ [32]))) } (fun m h => step_on (guard_no rfl) (op_concat rfl h.1.1 rfl (room_str h167) rfl rfl) rfl) ⟨⟨rfl, trivial⟩, trivial, trivial⟩ ?_
  refine dr_cons { need := [(1, .lp 0 0)], dst := some 58, val := some (.lp 0 4) } (fun m h => step_on (guard_no rfl) (op_field_lp rfl h.1.1 Tryd_fld_27_4 rfl rfl) rfl) ⟨⟨rfl, trivial⟩, trivial, trivial⟩ ?_
  refine dr_cons { need := [(58, .lp 0 4)], hneed := [(0, .box 27 (bxv (eGEvent a0)))], dst := some 59, val := some (.pv (.agg (eGVal a0.fV))) } (fun m h => step_on (guard_no rfl) (op_load_lp_agg (ps := eGVal a0.fV) rfl h.1.1 h.2.1.1 rfl rfl rfl Tryd_agg_24 rfl rfl) rfl) ⟨⟨rfl, trivial⟩, ⟨rfl, trivial⟩, trivial⟩ ?_
  obtain ⟨y168, h169, hF⟩ := bind_some hF
  refine dr_cons { need := [(59, .pv (.agg (eGVal a0.fV)))], dst := some 60, val := some (.pv (.str y168)) } (fun m h => step_on (guard_no rfl) (op_call 1 rfl (caps := []) (args := [.agg (eGVal a0.fV)]) (rs := [.p (.str y168)]) rfl rfl (evl_cons h.1.1 evl_nil) Tryd_cal_32 (ref42_value_ok h169) rfl rfl rfl) rfl) ⟨⟨rfl, trivial⟩, trivial, trivial⟩ ?_
  obtain ⟨u170, h171, hF⟩ := bind_some hF
  refine dr_cons { need := [(57, .pv (.str (((((([112, 117, 116, 32] ++ y152) ++ [32]) ++ a0.fName) ++ [32, 98, 121, 32]) ++ y162) ++ [32]))), (60, .pv (.str y168))], dst := some 61, val := some (.pv (.str ((((((([112, 117, 116, 32] ++ y152) ++ [32]) ++ a0.fName) ++ [32, 98, 121, 32]) ++ y162) ++ [32]) ++ y168))) } (fun m h => step_on (guard_no rfl) (op_concat rfl h.1.1 h.1.2.1 (room_str h171) rfl rfl) rfl) ⟨⟨rfl, rfl, trivial⟩, trivial, trivial⟩ ?_
  refine dr_cons { need := [(1, .lp 0 0)], dst := some 62, val := some (.lp 0 2) } (fun m h => step_on (guard_no rfl) (op_field_lp rfl h.1.1 Tryd_fld_27_2 rfl rfl) rfl) ⟨⟨rfl, trivial⟩, trivial, trivial⟩ ?_
  refine dr_cons { need := [(62, .lp 0 2)], hneed := [(0, .box 27 (bxv (eGEvent a0)))], dst := some 63, val := some (.pv (.int .i64 a0.fObj)) } (fun m h => step_on (guard_no rfl) (op_load_lp (v := .pv (.int .i64 a0.fObj)) rfl h.1.1 h.2.1.1 rfl Tryd_one_3 rfl rfl) rfl) ⟨⟨rfl, trivial⟩, ⟨rfl, trivial⟩, trivial⟩ ?_
  obtain ⟨y172, h173, hF⟩ := bind_some hF
  refine dr_cons { need := [(63, .pv (.int .i64 a0.fObj))], dst := some 64, val := some (.pv (.str y172)) } (fun m h => step_on (guard_no rfl) (op_call 1 rfl (caps := []) (args := [.int .i64 a0.fObj]) (rs := [.p (.str y172)]) rfl rfl (evl_cons h.1.1 evl_nil) Tryd_cal_31 (ref42_d_ok h173) rfl rfl rfl) rfl) ⟨⟨rfl, trivial⟩, trivial, trivial⟩ ?_
  obtain ⟨u174, h175, hF⟩ := bind_some hF
  refine dr_cons { need := [(64, .pv (.str y172))], dst := some 65, val := some (.pv (.str ([99, 97, 108, 108, 32] ++ y172))) } (fun m h => step_on (guard_no rfl) (op_concat rfl rfl h.1.1 (room_str h175) rfl rfl) rfl) ⟨⟨rfl, trivial⟩, trivial, trivial⟩ ?_
  obtain ⟨u176, h177, hF⟩ := bind_some hF
  refine dr_cons { need := [(65, .pv (.str ([99, 97, 108, 108, 32] ++ y172)))], dst := some 66, val := some (.pv (.str (([99, 97, 108, 108, 32] ++ y172) ++ [32]))) } (fun m h => step_on (guard_no rfl) (op_concat rfl h.1.1 rfl (room_str h177) rfl rfl) rfl) ⟨⟨rfl, trivial⟩, trivial, trivial⟩ ?_
  refine dr_cons { need := [(1, .lp 0 0)], dst := some 67, val := some (.lp 0 3) } (fun m h => step_on (guard_no rfl) (op_field_lp rfl h.1.1 Tryd_fld_27_3 rfl rfl) rfl) ⟨⟨rfl, trivial⟩, trivial, trivial⟩ ?_
  refine dr_cons { need := [(67, .lp 0 3)], hneed := [(0, .box 27 (bxv (eGEvent a0)))], dst := some 68, val := some (.pv (.str a0.fName)) } (fun m h => step_on (guard_no rfl) (op_load_lp (v := .pv (.str a0.fName)) rfl h.1.1 h.2.1.1 rfl Tryd_one_9 rfl rfl) rfl) ⟨⟨rfl, trivial⟩, ⟨rfl, trivial⟩, trivial⟩ ?_
  obtain ⟨u178, h179, hF⟩ := bind_some hF
  refine dr_cons { need := [(66, .pv (.str (([99, 97, 108, 108, 32] ++ y172) ++ [32]))), (68, .pv (.str a0.fName))], dst := some 69, val := some (.pv (.str ((([99, 97, 108, 108, 32] ++ y172) ++ [32]) ++ a0.fName))) } (fun m h => step_on (guard_no rfl) (op_concat rfl h.1.1 h.1.2.1 (room_str h179) rfl rfl) rfl) ⟨⟨rfl, rfl, trivial⟩, trivial, trivial⟩ ?_
  obtain ⟨u180, h181, hF⟩ := bind_some hF
  refine dr_cons { need := [(69, .pv (.str ((([99, 97, 108, 108, 32] ++ y172) ++ [32]) ++ a0.fName)))], dst := some 70, val := some (.pv (.str (((([99, 97, 108, 108, 32] ++ y172) ++ [32]) ++ a0.fName) ++ [32, 98, 121, 32]))) } (fun m h => step_on (guard_no rfl) (op_concat rfl h.1.1 rfl (room_str h181) rfl rfl) rfl) ⟨⟨rfl, trivial⟩, trivial, trivial⟩ ?_
  refine dr_cons { need := [(1, .lp 0 0)], dst := some 71, val := some (.lp 0 1) } (fun m h => step_on (guard_no rfl) (op_field_lp rfl h.1.1 Tryd_fld_27_1 rfl rfl) rfl) ⟨⟨rfl, trivial⟩, trivial, trivial⟩ ?_
  refine dr_cons { need := [(71, .lp 0 1)], hneed := [(0, .box 27 (bxv (eGEvent a0)))], dst := some 72, val := some (.pv (.int .i64 a0.fWho)) } (fun m h => step_on (guard_no rfl) (op_load_lp (v := .pv (.int .i64 a0.fWho)) rfl h.1.1 h.2.1.1 rfl Tryd_one_3 rfl rfl) rfl) ⟨⟨rfl, trivial⟩, ⟨rfl, trivial⟩, trivial⟩ ?_
  obtain ⟨y182, h183, hF⟩ := bind_some hF
  refine dr_cons { need := [(72, .pv (.int .i64 a0.fWho))], dst := some 73, val := some (.pv (.str y182)) } (fun m h => step_on (guard_no rfl) (op_call 1 rfl (caps := []) (args := [.int .i64 a0.fWho]) (rs := [.p (.str y182)]) rfl rfl (evl_cons h.1.1 evl_nil) Tryd_cal_31 (ref42_d_ok h183) rfl rfl rfl) rfl) ⟨⟨rfl, trivial⟩, trivial, trivial⟩ ?_
  obtain ⟨u184, h185, hF⟩ := bind_some hF
  refine dr_cons { need := [(70, .pv (.str (((([99, 97, 108, 108, 32] ++ y172) ++ [32]) ++ a0.fName) ++ [32, 98, 121, 32]))), (73, .pv (.str y182))], dst := some 74, val := some (.pv (.str ((((([99, 97, 108, 108, 32] ++ y172) ++ [32]) ++ a0.fName) ++ [32, 98, 121, 32]) ++ y182))) } (fun m h => step_on (guard_no rfl) (op_concat rfl h.1.1 h.1.2.1 (room_str h185) rfl rfl) rfl) ⟨⟨rfl, rfl, trivial⟩, trivial, trivial⟩ ?_
  refine dr_cons { need := [(1, .lp 0 0)], dst := some 75, val := some (.lp 0 1) } (fun m h => step_on (guard_no rfl) (op_field_lp rfl h.1.1 Tryd_fld_27_1 rfl rfl) rfl) ⟨⟨rfl, trivial⟩, trivial, trivial⟩ ?_
  refine dr_cons { need := [(75, .lp 0 1)], hneed := [(0, .box 27 (bxv (eGEvent a0)))], dst := some 76, val := some (.pv (.int .i64 a0.fWho)) } (fun m h => step_on (guard_no rfl) (op_load_lp (v := .pv (.int .i64 a0.fWho)) rfl h.1.1 h.2.1.1 rfl Tryd_one_3 rfl rfl) rfl) ⟨⟨rfl, trivial⟩, ⟨rfl, trivial⟩, trivial⟩ ?_
  obtain ⟨y186, h187, hF⟩ := bind_some hF
  refine dr_cons { need := [(76, .pv (.int .i64 a0.fWho))], dst := some 77, val := some (.pv (.str y186)) } (fun m h => step_on (guard_no rfl) (op_call 1 rfl (caps := []) (args := [.int .i64 a0.fWho]) (rs := [.p (.str y186)]) rfl rfl (evl_cons h.1.1 evl_nil) Tryd_cal_31 (ref42_d_ok h187) rfl rfl rfl) rfl) ⟨⟨rfl, trivial⟩, trivial, trivial⟩ ?_
  obtain ⟨u188, h189, hF⟩ := bind_some hF
  refine dr_cons { need := [(77, .pv (.str y186))], dst := some 78, val := some (.pv (.str ([98, 97, 99, 107, 32] ++ y186))) } (fun m h => step_on (guard_no rfl) (op_concat rfl rfl h.1.1 (room_str h189) rfl rfl) rfl) ⟨⟨rfl, trivial⟩, trivial, trivial⟩ ?_
  obtain ⟨u190, h191, hF⟩ := bind_some hF
  refine dr_cons { need := [(78, .pv (.str ([98, 97, 99, 107, 32] ++ y186)))], dst := some 79, val := some (.pv (.str (([98, 97, 99, 107, 32] ++ y186) ++ [32]))) } (fun m h => step_on (guard_no rfl) (op_concat rfl h.1.1 rfl (room_str h191) rfl rfl) rfl) ⟨⟨rfl, trivial⟩, trivial, trivial⟩ ?_
  refine dr_cons { need := [(1, .lp 0 0)], dst := some 80, val := some (.lp 0 4) } (fun m h => step_on (guard_no rfl) (op_field_lp rfl h.1.1 Tryd_fld_27_4 rfl rfl) rfl) ⟨⟨rfl, trivial⟩, trivial, trivial⟩ ?_
  refine dr_cons { need := [(80, .lp 0 4)], hneed := [(0, .box 27 (bxv (eGEvent a0)))], dst := some 81, val := some (.pv (.agg (eGVal a0.fV))) } (fun m h => step_on (guard_no rfl) (op_load_lp_agg (ps := eGVal a0.fV) rfl h.1.1 h.2.1.1 rfl rfl rfl Tryd_agg_24 rfl rfl) rfl) ⟨⟨rfl, trivial⟩, ⟨rfl, trivial⟩, trivial⟩ ?_
  obtain ⟨y192, h193, hF⟩ := bind_some hF
  refine dr_cons { need := [(81, .pv (.agg (eGVal a0.fV)))], dst := some 82, val := some (.pv (.str y192)) } (fun m h => step_on (guard_no rfl) (op_call 1 rfl (caps := []) (args := [.agg (eGVal a0.fV)]) (rs := [.p (.str y192)]) rfl rfl (evl_cons h.1.1 evl_nil) Tryd_cal_32 (ref42_value_ok h193) rfl rfl rfl) rfl) ⟨⟨rfl, trivial⟩, trivial, trivial⟩ ?_
  obtain ⟨u194, h195, hF⟩ := bind_some hF
  refine dr_cons { need := [(79, .pv (.str (([98, 97, 99, 107, 32] ++ y186) ++ [32]))), (82, .pv (.str y192))], dst := some 83, val := some (.pv (.str ((([98, 97, 99, 107, 32] ++ y186) ++ [32]) ++ y192))) } (fun m h => step_on (guard_no rfl) (op_concat rfl h.1.1 h.1.2.1 (room_str h195) rfl rfl) rfl) ⟨⟨rfl, rfl, trivial⟩, trivial, trivial⟩ ?_
  refine dr_cons { need := [(1, .lp 0 0)], dst := some 84, val := some (.lp 0 2) } (fun m h => step_on (guard_no rfl) (op_field_lp rfl h.1.1 Tryd_fld_27_2 rfl rfl) rfl) ⟨⟨rfl, trivial⟩, trivial, trivial⟩ ?_
  refine dr_cons { need := [(84, .lp 0 2)], hneed := [(0, .box 27 (bxv (eGEvent a0)))], dst := some 85, val := some (.pv (.int .i64 a0.fObj)) } (fun m h => step_on (guard_no rfl) (op_load_lp (v := .pv (.int .i64 a0.fObj)) rfl h.1.1 h.2.1.1 rfl Tryd_one_3 rfl rfl) rfl) ⟨⟨rfl, trivial⟩, ⟨rfl, trivial⟩, trivial⟩ ?_
  obtain ⟨y196, h197, hF⟩ := bind_some hF
  refine dr_cons { need := [(85, .pv (.int .i64 a0.fObj))], dst := some 86, val := some (.pv (.str y196)) } (fun m h => step_on (guard_no rfl) (op_call 1 rfl (caps := []) (args := [.int .i64 a0.fObj]) (rs := [.p (.str y196)]) rfl rfl (evl_cons h.1.1 evl_nil) Tryd_cal_31 (ref42_d_ok h197) rfl rfl rfl) rfl) ⟨⟨rfl, trivial⟩, trivial, trivial⟩ ?_
  obtain ⟨u198, h199, hF⟩ := bind_some hF
  refine dr_cons { need := [(86, .pv (.str y196))], dst := some 87, val := some (.pv (.str ([109, 111, 118, 101, 32] ++ y196))) } (fun m h => step_on (guard_no rfl) (op_concat rfl rfl h.1.1 (room_str h199) rfl rfl) rfl) ⟨⟨rfl, trivial⟩, trivial, trivial⟩ ?_
  obtain ⟨u200, h201, hF⟩ := bind_some hF
  refine dr_cons { need := [(87, .pv (.str ([109, 111, 118, 101, 32] ++ y196)))], dst := some 88, val := some (.pv (.str (([109, 111, 118, 101, 32] ++ y196) ++ [32, 116, 111, 32]))) } (fun m h => step_on (guard_no rfl) (op_concat rfl h.1.1 rfl (room_str h201) rfl rfl) rfl) ⟨⟨rfl, trivial⟩, trivial, trivial⟩ ?_
  refine dr_cons { need := [(1, .lp 0 0)], dst := some 89, val := some (.lp 0 6) } (fun m h => step_on (guard_no rfl) (op_field_lp rfl h.1.1 Tryd_fld_27_5 rfl rfl) rfl) ⟨⟨rfl, trivial⟩, trivial, trivial⟩ ?_
  refine dr_cons { need := [(89, .lp 0 6)], dst := some 90, val := some (.lp 0 6) } (fun m h => step_on (guard_no rfl) (op_arr_lp (k := .i64) (m := 0) (n := 4) rfl h.1.1 rfl Tryd_arr_25 rfl rfl rfl rfl) rfl) ⟨⟨rfl, trivial⟩, trivial, trivial⟩ ?_
  refine dr_cons { need := [(90, .lp 0 6)], hneed := [(0, .box 27 (bxv (eGEvent a0)))], dst := some 91, val := some (.pv (.int .i64 a0.fOwn.a0)) } (fun m h => step_on (guard_no rfl) (op_load_lp (v := .pv (.int .i64 a0.fOwn.a0)) rfl h.1.1 h.2.1.1 rfl Tryd_one_3 rfl rfl) rfl) ⟨⟨rfl, trivial⟩, ⟨rfl, trivial⟩, trivial⟩ ?_
  obtain ⟨y202, h203, hF⟩ := bind_some hF
  refine dr_cons { need := [(91, .pv (.int .i64 a0.fOwn.a0))], dst := some 92, val := some (.pv (.str y202)) } (fun m h => step_on (guard_no rfl) (op_call 1 rfl (caps := []) (args := [.int .i64 a0.fOwn.a0]) (rs := [.p (.str y202)]) rfl rfl (evl_cons h.1.1 evl_nil) Tryd_cal_31 (ref42_d_ok h203) rfl rfl rfl) rfl) ⟨⟨rfl, trivial⟩, trivial, trivial⟩ ?_
  obtain ⟨u204, h205, hF⟩ := bind_some hF
  refine dr_cons { need := [(88, .pv (.str (([109, 111, 118, 101, 32] ++ y196) ++ [32, 116, 111, 32]))), (92, .pv (.str y202))], dst := some 93, val := some (.pv (.str ((([109, 111, 118, 101, 32] ++ y196) ++ [32, 116, 111, 32]) ++ y202))) } (fun m h => step_on (guard_no rfl) (op_concat rfl h.1.1 h.1.2.1 (room_str h205) rfl rfl) rfl) ⟨⟨rfl, rfl, trivial⟩, trivial, trivial⟩ ?_
  obtain ⟨u206, h207, hF⟩ := bind_some hF
  refine dr_cons { need := [(93, .pv (.str ((([109, 111, 118, 101, 32] ++ y196) ++ [32, 116, 111, 32]) ++ y202)))], dst := some 94, val := some (.pv (.str (((([109, 111, 118, 101, 32] ++ y196) ++ [32, 116, 111, 32]) ++ y202) ++ [32, 98, 121, 32]))) } (fun m h => step_on (guard_no rfl) (op_concat rfl h.1.1 rfl (room_str h207) rfl rfl) rfl) ⟨⟨rfl, trivial⟩, trivial, trivial⟩ ?_
  refine dr_cons { need := [(1, .lp 0 0)], dst := some 95, val := some (.lp 0 1) } (fun m h => step_on (guard_no rfl) (op_field_lp rfl h.1.1 Tryd_fld_27_1 rfl rfl) rfl) ⟨⟨rfl, trivial⟩, trivial, trivial⟩ ?_
  refine dr_cons { need := [(95, .lp 0 1)], hneed := [(0, .box 27 (bxv (eGEvent a0)))], dst := some 96, val := some (.pv (.int .i64 a0.fWho)) } (fun m h => step_on (guard_no rfl) (op_load_lp (v := .pv (.int .i64 a0.fWho)) rfl h.1.1 h.2.1.1 rfl Tryd_one_3 rfl rfl) rfl) ⟨⟨rfl, trivial⟩, ⟨rfl, trivial⟩, trivial⟩ ?_
  obtain ⟨y208, h209, hF⟩ := bind_some hF
  refine dr_cons { need := [(96, .pv (.int .i64 a0.fWho))], dst := some 97, val := some (.pv (.str y208)) } (fun m h => step_on (guard_no rfl) (op_call 1 rfl (caps := []) (args := [.int .i64 a0.fWho]) (rs := [.p (.str y208)]) rfl rfl (evl_cons h.1.1 evl_nil) Tryd_cal_31 (ref42_d_ok h209) rfl rfl rfl) rfl) ⟨⟨rfl, trivial⟩, trivial, trivial⟩ ?_
  obtain ⟨u210, h211, hF⟩ := bind_some hF
  refine dr_cons { need := [(94, .pv (.str (((([109, 111, 118, 101, 32] ++ y196) ++ [32, 116, 111, 32]) ++ y202) ++ [32, 98, 121, 32]))), (97, .pv (.str y208))], dst := some 98, val := some (.pv (.str ((((([109, 111, 118, 101, 32] ++ y196) ++ [32, 116, 111, 32]) ++ y202) ++ [32, 98, 121, 32]) ++ y208))) } (fun m h => step_on (guard_no rfl) (op_concat rfl h.1.1 h.1.2.1 (room_str h211) rfl rfl) rfl) ⟨⟨rfl, rfl, trivial⟩, trivial, trivial⟩ ?_
  refine dr_cons { need := [(1, .lp 0 0)], dst := some 99, val := some (.lp 0 2) } (fun m h => step_on (guard_no rfl) (op_field_lp rfl h.1.1 Tryd_fld_27_2 rfl rfl) rfl) ⟨⟨rfl, trivial⟩, trivial, trivial⟩ ?_
  refine dr_cons { need := [(99, .lp 0 2)], hneed := [(0, .box 27 (bxv (eGEvent a0)))], dst := some 100, val := some (.pv (.int .i64 a0.fObj)) } (fun m h => step_on (guard_no rfl) (op_load_lp (v := .pv (.int .i64 a0.fObj)) rfl h.1.1 h.2.1.1 rfl Tryd_one_3 rfl rfl) rfl) ⟨⟨rfl, trivial⟩, ⟨rfl, trivial⟩, trivial⟩ ?_
  obtain ⟨y212, h213, hF⟩ := bind_some hF
  refine dr_cons { need := [(100, .pv (.int .i64 a0.fObj))], dst := some 101, val := some (.pv (.str y212)) } (fun m h => step_on (guard_no rfl) (op_call 1 rfl (caps := []) (args := [.int .i64 a0.fObj]) (rs := [.p (.str y212)]) rfl rfl (evl_cons h.1.1 evl_nil) Tryd_cal_31 (ref42_d_ok h213) rfl rfl rfl) rfl) ⟨⟨rfl, trivial⟩, trivial, trivial⟩ ?_
  obtain ⟨u214, h215, hF⟩ := bind_some hF
  refine dr_cons { need := [(101, .pv (.str y212))], dst := some 102, val := some (.pv (.str ([100, 101, 108, 101, 116, 101, 32] ++ y212))) } (fun m h => step_on (guard_no rfl) (op_concat rfl rfl h.1.1 (room_str h215) rfl rfl) rfl) ⟨⟨rfl, trivial⟩, trivial, trivial⟩ ?_
  obtain ⟨u216, h217, hF⟩ := bind_some hF
  refine dr_cons { need := [(102, .pv (.str ([100, 101, 108, 101, 116, 101, 32] ++ y212)))], dst := some 103, val := some (.pv (.str (([100, 101, 108, 101, 116, 101, 32] ++ y212) ++ [32, 98, 121, 32]))) } (fun m h => step_on (guard_no rfl) (op_concat rfl h.1.1 rfl (room_str h217) rfl rfl) rfl) ⟨⟨rfl, trivial⟩, trivial, trivial⟩ ?_
  refine dr_cons { need := [(1, .lp 0 0)], dst := some 104, val := some (.lp 0 1) } (fun m h => step_on (guard_no rfl) (op_field_lp rfl h.1.1 Tryd_fld_27_1 rfl rfl) rfl) ⟨⟨rfl, trivial⟩, trivial, trivial⟩ ?_
  refine dr_cons { need := [(104, .lp 0 1)], hneed := [(0, .box 27 (bxv (eGEvent a0)))], dst := some 105, val := some (.pv (.int .i64 a0.fWho)) } (fun m h => step_on (guard_no rfl) (op_load_lp (v := .pv (.int .i64 a0.fWho)) rfl h.1.1 h.2.1.1 rfl Tryd_one_3 rfl rfl) rfl) ⟨⟨rfl, trivial⟩, ⟨rfl, trivial⟩, trivial⟩ ?_
  obtain ⟨y218, h219, hF⟩ := bind_some hF
  refine dr_cons { need := [(105, .pv (.int .i64 a0.fWho))], dst := some 106, val := some (.pv (.str y218)) } (fun m h => step_on (guard_no rfl) (op_call 1 rfl (caps := []) (args := [.int .i64 a0.fWho]) (rs := [.p (.str y218)]) rfl rfl (evl_cons h.1.1 evl_nil) Tryd_cal_31 (ref42_d_ok h219) rfl rfl rfl) rfl) ⟨⟨rfl, trivial⟩, trivial, trivial⟩ ?_
  obtain ⟨u220, h221, hF⟩ := bind_some hF
  refine dr_cons { need := [(103, .pv (.str (([100, 101, 108, 101, 116, 101, 32] ++ y212) ++ [32, 98, 121, 32]))), (106, .pv (.str y218))], dst := some 107, val := some (.pv (.str ((([100, 101, 108, 101, 116, 101, 32] ++ y212) ++ [32, 98, 121, 32]) ++ y218))) } (fun m h => step_on (guard_no rfl) (op_concat rfl h.1.1 h.1.2.1 (room_str h221) rfl rfl) rfl) ⟨⟨rfl, rfl, trivial⟩, trivial, trivial⟩ ?_
  refine dr_cons { need := [(107, .pv (.str ((([100, 101, 108, 101, 116, 101, 32] ++ y212) ++ [32, 98, 121, 32]) ++ y218))), (98, .pv (.str ((((([109, 111, 118, 101, 32] ++ y196) ++ [32, 116, 111, 32]) ++ y202) ++ [32, 98, 121, 32]) ++ y208))), (83, .pv (.str ((([98, 97, 99, 107, 32] ++ y186) ++ [32]) ++ y192))), (74, .pv (.str ((((([99, 97, 108, 108, 32] ++ y172) ++ [32]) ++ a0.fName) ++ [32, 98, 121, 32]) ++ y182))), (61, .pv (.str ((((((([112, 117, 116, 32] ++ y152) ++ [32]) ++ a0.fName) ++ [32, 98, 121, 32]) ++ y162) ++ [32]) ++ y168))), (43, .pv (.str ((((((((((((([110, 101, 119, 32] ++ y114) ++ [32]) ++ a0.fName) ++ [32, 98, 121, 32]) ++ y124) ++ [32, 105, 110, 32]) ++ y130) ++ [32]) ++ y136) ++ [32]) ++ y142) ++ [32]) ++ y148)))], dst := some 108, val := some (.pv (.vs 1 (List.map eS [[], ((((((((((((([110, 101, 119, 32] ++ y114) ++ [32]) ++ a0.fName) ++ [32, 98, 121, 32]) ++ y124) ++ [32, 105, 110, 32]) ++ y130) ++ [32]) ++ y136) ++ [32]) ++ y142) ++ [32]) ++ y148), ((((((([112, 117, 116, 32] ++ y152) ++ [32]) ++ a0.fName) ++ [32, 98, 121, 32]) ++ y162) ++ [32]) ++ y168), ((((([99, 97, 108, 108, 32] ++ y172) ++ [32]) ++ a0.fName) ++ [32, 98, 121, 32]) ++ y182), ((([98, 97, 99, 107, 32] ++ y186) ++ [32]) ++ y192), ((((([109, 111, 118, 101, 32] ++ y196) ++ [32, 116, 111, 32]) ++ y202) ++ [32, 98, 121, 32]) ++ y208), ((([100, 101, 108, 101, 116, 101, 32] ++ y212) ++ [32, 98, 121, 32]) ++ y218)]))) } (fun m h => step_on (guard_no rfl) (op_lit (rows := List.map eS ([[], ((((((((((((([110, 101, 119, 32] ++ y114) ++ [32]) ++ a0.fName) ++ [32, 98, 121, 32]) ++ y124) ++ [32, 105, 110, 32]) ++ y130) ++ [32]) ++ y136) ++ [32]) ++ y142) ++ [32]) ++ y148), ((((((([112, 117, 116, 32] ++ y152) ++ [32]) ++ a0.fName) ++ [32, 98, 121, 32]) ++ y162) ++ [32]) ++ y168), ((((([99, 97, 108, 108, 32] ++ y172) ++ [32]) ++ a0.fName) ++ [32, 98, 121, 32]) ++ y182), ((([98, 97, 99, 107, 32] ++ y186) ++ [32]) ++ y192), ((((([109, 111, 118, 101, 32] ++ y196) ++ [32, 116, 111, 32]) ++ y202) ++ [32, 98, 121, 32]) ++ y208), ((([100, 101, 108, 101, 116, 101, 32] ++ y212) ++ [32, 98, 121, 32]) ++ y218)] : List (List UInt8))) (zs := [.str []]) rfl rfl Tryd_slc_41 Tryd_zer_9 (by exact ⟨rfl, trivial⟩) rfl rfl rfl (evs_cons rfl (evs_cons h.1.2.2.2.2.2.1 (evs_cons h.1.2.2.2.2.1 (evs_cons h.1.2.2.2.1 (evs_cons h.1.2.2.1 (evs_cons h.1.2.1 (evs_cons h.1.1 evs_nil))))))) rfl rfl rfl rfl) rfl) ⟨⟨rfl, rfl, rfl, rfl, rfl, rfl, trivial⟩, trivial, trivial⟩ ?_
  refine dr_cons { need := [(108, .pv (.vs 1 (List.map eS [[], ((((((((((((([110, 101, 119, 32] ++ y114) ++ [32]) ++ a0.fName) ++ [32, 98, 121, 32]) ++ y124) ++ [32, 105, 110, 32]) ++ y130) ++ [32]) ++ y136) ++ [32]) ++ y142) ++ [32]) ++ y148), ((((((([112, 117, 116, 32] ++ y152) ++ [32]) ++ a0.fName) ++ [32, 98, 121, 32]) ++ y162) ++ [32]) ++ y168), ((((([99, 97, 108, 108, 32] ++ y172) ++ [32]) ++ a0.fName) ++ [32, 98, 121, 32]) ++ y182), ((([98, 97, 99, 107, 32] ++ y186) ++ [32]) ++ y192), ((((([109, 111, 118, 101, 32] ++ y196) ++ [32, 116, 111, 32]) ++ y202) ++ [32, 98, 121, 32]) ++ y208), ((([100, 101, 108, 101, 116, 101, 32] ++ y212) ++ [32, 98, 121, 32]) ++ y218)])))], dst := some 3, val := some (.pv (.vs 1 (List.map eS [[], ((((((((((((([110, 101, 119, 32] ++ y114) ++ [32]) ++ a0.fName) ++ [32, 98, 121, 32]) ++ y124) ++ [32, 105, 110, 32]) ++ y130) ++ [32]) ++ y136) ++ [32]) ++ y142) ++ [32]) ++ y148), ((((((([112, 117, 116, 32] ++ y152) ++ [32]) ++ a0.fName) ++ [32, 98, 121, 32]) ++ y162) ++ [32]) ++ y168), ((((([99, 97, 108, 108, 32] ++ y172) ++ [32]) ++ a0.fName) ++ [32, 98, 121, 32]) ++ y182), ((([98, 97, 99, 107, 32] ++ y186) ++ [32]) ++ y192), ((((([109, 111, 118, 101, 32] ++ y196) ++ [32, 116, 111, 32]) ++ y202) ++ [32, 98, 121, 32]) ++ y208), ((([100, 101, 108, 101, 116, 101, 32] ++ y212) ++ [32, 98, 121, 32]) ++ y218)]))) } (fun m h => step_on (guard_no rfl) (op_assign rfl h.1.1 rfl rfl) rfl) ⟨⟨rfl, trivial⟩, trivial, trivial⟩ ?_
  refine dr_nil Tryd_mixed rfl (by kernel_rfl) ?_
  refine post_imp (s' := ⟨114, [(1, some (.lp 0 0)), (3, some (.pv (.vs 1 (List.map eS [[], ((((((((((((([110, 101, 119, 32] ++ y114) ++ [32]) ++ a0.fName) ++ [32, 98, 121, 32]) ++ y124) ++ [32, 105, 110, 32]) ++ y130) ++ [32]) ++ y136) ++ [32]) ++ y142) ++ [32]) ++ y148), ((((((([112, 117, 116, 32] ++ y152) ++ [32]) ++ a0.fName) ++ [32, 98, 121, 32]) ++ y162) ++ [32]) ++ y168), ((((([99, 97, 108, 108, 32] ++ y172) ++ [32]) ++ a0.fName) ++ [32, 98, 121, 32]) ++ y182), ((([98, 97, 99, 107, 32] ++ y186) ++ [32]) ++ y192), ((((([109, 111, 118, 101, 32] ++ y196) ++ [32, 116, 111, 32]) ++ y202) ++ [32, 98, 121, 32]) ++ y208), ((([100, 101, 108, 101, 116, 101, 32] ++ y212) ++ [32, 98, 121, 32]) ++ y218)]))))], [(0, some (.box 27 (bxv (eGEvent a0))))], 1, [], [], 0, []⟩) (imps [0] ⟨by kernel_rfl, by kernel_rfl, trivial⟩ ⟨by kernel_rfl, trivial⟩) ?_
  refine post_next ?_
  refine aw_seq ?_
  refine aw_region ?_
  refine rmv ?_
  refine rgp (op_field_lp rfl rfl Tryd_fld_27_0 rfl rfl) ?_
  refine rgp (op_load_lp (v := .pv (.int .i64 a0.fKind)) rfl rfl rfl rfl Tryd_one_3 rfl rfl) ?_
  obtain ⟨y222, h223, hF⟩ := bind_some hF
  refine rgp (op_index_vs (k := .i64) rfl rfl rfl (idx_map eS h223) Tryd_slc_41 rfl rfl) ?_
  refine rgp (op_load_vp (p := .str y222) rfl rfl rfl Tryd_one_9 rfl rfl) ?_
  refine ras ?_
  refine reg_nil ?_
  refine post_imp (s' := ⟨114, [(2, some (.pv (.str y222)))], [], 0, [], [], 0, []⟩) (imps [] ⟨by kernel_rfl, trivial⟩ trivial) ?_
  refine post_next ?_
  refine aw_ret ?_
  obtain rfl := Option.some.inj hF
  exact prt
theorem ref42_Read_ok {a0 : List UInt8} {r : GEvent × Bool} (hF : ref42_Read a0 = some r) : Abs.Fn globs_Tryd Tryd.prog 8 [.str a0] [.p (.agg (eGEvent r.1)), .p (.bool r.2)] := by
  unfold ref42_Read at hF
  refine fn_of_body (n := 123) Tryd.func8 rfl rfl rfl ?_
  intro w O
  refine aw_seq ?_
  refine aw_region ?_
  refine rgp (op_alloc 0 rfl (ps := (eGEvent zGEvent)) rfl Tryd_zer_27 (by exact ⟨rfl, rfl, rfl, rfl, rfl, rfl, rfl, rfl, rfl, rfl, trivial⟩) rfl rfl) ?_
  refine ras ?_
  refine reg_nil ?_
  refine post_imp (s' := ⟨123, [(0, some (.pv (.str a0))), (2, some (.lp 0 0))], [(0, some (.box 27 (bxv (eGEvent zGEvent))))], 1, [], [], 0, []⟩) (imps [0] ⟨by kernel_rfl, by kernel_rfl, trivial⟩ ⟨by kernel_rfl, trivial⟩) ?_
  refine post_next ?_
  refine aw_seq ?_
  refine aw_region ?_
  refine rmv ?_
  obtain ⟨y5, h6, hF⟩ := bind_some hF
  refine rgp (op_call 1 rfl (caps := []) (args := [.str a0]) (rs := [.own 9 1 (List.map eS y5)]) rfl rfl rfl Tryd_cal_20 (ref42_words_ok h6) rfl rfl rfl) ?_
  refine rgp (op_lit (rows := List.map eS ([[], [], [], [], [], [], [], [], [], []] : List (List UInt8))) (zs := [.str []]) rfl rfl Tryd_slc_41 Tryd_zer_9 (by exact ⟨rfl, trivial⟩) rfl rfl rfl rfl rfl rfl rfl rfl) ?_
  obtain ⟨u7, h8, hF⟩ := bind_some hF
  refine rgp (op_append 2 rfl rfl rfl rfl rfl Tryd_slc_41 Tryd_elm_9 Tryd_zer_9 rfl rfl rfl (room_map (f := eS) (g := eS) h8) (List.map_append (f := eS) (l₁ := y5) (l₂ := [[], [], [], [], [], [], [], [], [], []])).symm rfl rfl) ?_
  refine ras ?_
  refine reg_nil ?_
  refine post_imp (s' := ⟨123, [(0, some (.pv (.str a0))), (2, some (.lp 0 0)), (4, some (.ls 1))], [(0, some (.box 27 (bxv (eGEvent zGEvent)))), (1, some (.row 9 1 (List.map eS (y5 ++ [[], [], [], [], [], [], [], [], [], []]))))], 2, [], [], 0, []⟩) (imps [0, 2] ⟨by kernel_rfl, by kernel_rfl, by kernel_rfl, trivial⟩ ⟨by kernel_rfl, by kernel_rfl, trivial⟩) ?_
  refine post_next ?_
  refine aw_seq ?_
  refine dr_start ⟨_, _, _⟩ rfl ?_
  refine drm ?_
  obtain ⟨y87, h88, hF⟩ := bind_some hF
  refine dr_cons { need := [(11, .ls 1)], hneed := [(1, .row 9 1 (List.map eS (y5 ++ [[], [], [], [], [], [], [], [], [], []])))], dst := some 12, val := some (.le 1 1 (1 : Int).toNat 0) } (fun m h => step_on (guard_no rfl) (op_index_ls (k := .i64) rfl h.1.1 rfl h.2.1.1 (idx_map eS h88) Tryd_slc_41 rfl rfl) rfl) ⟨⟨rfl, trivial⟩, ⟨rfl, trivial⟩, trivial⟩ ?_
  refine dr_cons { need := [(12, .le 1 1 (1 : Int).toNat 0)], hneed := [(1, .row 9 1 (List.map eS (y5 ++ [[], [], [], [], [], [], [], [], [], []])))], dst := some 13, val := some (.pv (.str y87)) } (fun m h => step_on (guard_no rfl) (op_load_le (p := .str y87) rfl h.1.1 h.2.1.1 (map_get eS h88) rfl Tryd_one_9 rfl rfl) rfl) ⟨⟨rfl, trivial⟩, ⟨rfl, trivial⟩, trivial⟩ ?_
  obtain ⟨y89, h90, hF⟩ := bind_some hF
  refine dr_cons { need := [(13, .pv (.str y87))], dst := some 14, val := some (.pv (.int .i64 y89)) } (fun m h => step_on (guard_no rfl) (op_call 2 rfl (caps := []) (args := [.str y87]) (rs := [.p (.int .i64 y89)]) rfl rfl (evl_cons h.1.1 evl_nil) Tryd_cal_21 (ref42_number_ok h90) rfl rfl rfl) rfl) ⟨⟨rfl, trivial⟩, trivial, trivial⟩ ?_
  refine drm ?_
  obtain ⟨y91, h92, hF⟩ := bind_some hF
  refine dr_cons { need := [(15, .ls 1)], hneed := [(1, .row 9 1 (List.map eS (y5 ++ [[], [], [], [], [], [], [], [], [], []])))], dst := some 16, val := some (.le 1 1 (2 : Int).toNat 0) } (fun m h => step_on (guard_no rfl) (op_index_ls (k := .i64) rfl h.1.1 rfl h.2.1.1 (idx_map eS h92) Tryd_slc_41 rfl rfl) rfl) ⟨⟨rfl, trivial⟩, ⟨rfl, trivial⟩, trivial⟩ ?_
  refine dr_cons { need := [(16, .le 1 1 (2 : Int).toNat 0)], hneed := [(1, .row 9 1 (List.map eS (y5 ++ [[], [], [], [], [], [], [], [], [], []])))], dst := some 17, val := some (.pv (.str y91)) } (fun m h => step_on (guard_no rfl) (op_load_le (p := .str y91) rfl h.1.1 h.2.1.1 (map_get eS h92) rfl Tryd_one_9 rfl rfl) rfl) ⟨⟨rfl, trivial⟩, ⟨rfl, trivial⟩, trivial⟩ ?_
  refine drm ?_
  obtain ⟨y93, h94, hF⟩ := bind_some hF
  refine dr_cons { need := [(18, .ls 1)], hneed := [(1, .row 9 1 (List.map eS (y5 ++ [[], [], [], [], [], [], [], [], [], []])))], dst := some 19, val := some (.le 1 1 (4 : Int).toNat 0) } (fun m h => step_on (guard_no rfl) (op_index_ls (k := .i64) rfl h.1.1 rfl h.2.1.1 (idx_map eS h94) Tryd_slc_41 rfl rfl) rfl) ⟨⟨rfl, trivial⟩, ⟨rfl, trivial⟩, trivial⟩ ?_
  refine dr_cons { need := [(19, .le 1 1 (4 : Int).toNat 0)], hneed := [(1, .row 9 1 (List.map eS (y5 ++ [[], [], [], [], [], [], [], [], [], []])))], dst := some 20, val := some (.pv (.str y93)) } (fun m h => step_on (guard_no rfl) (op_load_le (p := .str y93) rfl h.1.1 h.2.1.1 (map_get eS h94) rfl Tryd_one_9 rfl rfl) rfl) ⟨⟨rfl, trivial⟩, ⟨rfl, trivial⟩, trivial⟩ ?_
  obtain ⟨y95, h96, hF⟩ := bind_some hF
  refine dr_cons { need := [(20, .pv (.str y93))], dst := some 21, val := some (.pv (.int .i64 y95)) } (fun m h => step_on (guard_no rfl) (op_call 2 rfl (caps := []) (args := [.str y93]) (rs := [.p (.int .i64 y95)]) rfl rfl (evl_cons h.1.1 evl_nil) Tryd_cal_21 (ref42_number_ok h96) rfl rfl rfl) rfl) ⟨⟨rfl, trivial⟩, trivial, trivial⟩ ?_
  refine drm ?_
  obtain ⟨y97, h98, hF⟩ := bind_some hF
  refine dr_cons { need := [(22, .ls 1)], hneed := [(1, .row 9 1 (List.map eS (y5 ++ [[], [], [], [], [], [], [], [], [], []])))], dst := some 23, val := some (.le 1 1 (6 : Int).toNat 0) } (fun m h => step_on (guard_no rfl) (op_index_ls (k := .i64) rfl h.1.1 rfl h.2.1.1 (idx_map eS h98) Tryd_slc_41 rfl rfl) rfl) ⟨⟨rfl, trivial⟩, ⟨rfl, trivial⟩, trivial⟩ ?_
  refine dr_cons { need := [(23, .le 1 1 (6 : Int).toNat 0)], hneed := [(1, .row 9 1 (List.map eS (y5 ++ [[], [], [], [], [], [], [], [], [], []])))], dst := some 24, val := some (.pv (.str y97)) } (fun m h => step_on (guard_no rfl) (op_load_le (p := .str y97) rfl h.1.1 h.2.1.1 (map_get eS h98) rfl Tryd_one_9 rfl rfl) rfl) ⟨⟨rfl, trivial⟩, ⟨rfl, trivial⟩, trivial⟩ ?_
  obtain ⟨y99, h100, hF⟩ := bind_some hF
  refine dr_cons { need := [(24, .pv (.str y97))], dst := some 25, val := some (.pv (.int .i64 y99)) } (fun m h => step_on (guard_no rfl) (op_call 2 rfl (caps := []) (args := [.str y97]) (rs := [.p (.int .i64 y99)]) rfl rfl (evl_cons h.1.1 evl_nil) Tryd_cal_21 (ref42_number_ok h100) rfl rfl rfl) rfl) ⟨⟨rfl, trivial⟩, trivial, trivial⟩ ?_
  refine drm ?_
  obtain ⟨y101, h102, hF⟩ := bind_some hF
  refine dr_cons { need := [(26, .ls 1)], hneed := [(1, .row 9 1 (List.map eS (y5 ++ [[], [], [], [], [], [], [], [], [], []])))], dst := some 27, val := some (.le 1 1 (7 : Int).toNat 0) } (fun m h => step_on (guard_no rfl) (op_index_ls (k := .i64) rfl h.1.1 rfl h.2.1.1 (idx_map eS h102) Tryd_slc_41 rfl rfl) rfl) ⟨⟨rfl, trivial⟩, ⟨rfl, trivial⟩, trivial⟩ ?_
  refine dr_cons { need := [(27, .le 1 1 (7 : Int).toNat 0)], hneed := [(1, .row 9 1 (List.map eS (y5 ++ [[], [], [], [], [], [], [], [], [], []])))], dst := some 28, val := some (.pv (.str y101)) } (fun m h => step_on (guard_no rfl) (op_load_le (p := .str y101) rfl h.1.1 h.2.1.1 (map_get eS h102) rfl Tryd_one_9 rfl rfl) rfl) ⟨⟨rfl, trivial⟩, ⟨rfl, trivial⟩, trivial⟩ ?_
  obtain ⟨y103, h104, hF⟩ := bind_some hF
  refine dr_cons { need := [(28, .pv (.str y101))], dst := some 29, val := some (.pv (.int .i64 y103)) } (fun m h => step_on (guard_no rfl) (op_call 2 rfl (caps := []) (args := [.str y101]) (rs := [.p (.int .i64 y103)]) rfl rfl (evl_cons h.1.1 evl_nil) Tryd_cal_21 (ref42_number_ok h104) rfl rfl rfl) rfl) ⟨⟨rfl, trivial⟩, trivial, trivial⟩ ?_
  refine drm ?_
  obtain ⟨y105, h106, hF⟩ := bind_some hF
  refine dr_cons { need := [(30, .ls 1)], hneed := [(1, .row 9 1 (List.map eS (y5 ++ [[], [], [], [], [], [], [], [], [], []])))], dst := some 31, val := some (.le 1 1 (8 : Int).toNat 0) } (fun m h => step_on (guard_no rfl) (op_index_ls (k := .i64) rfl h.1.1 rfl h.2.1.1 (idx_map eS h106) Tryd_slc_41 rfl rfl) rfl) ⟨⟨rfl, trivial⟩, ⟨rfl, trivial⟩, trivial⟩ ?_
  refine dr_cons { need := [(31, .le 1 1 (8 : Int).toNat 0)], hneed := [(1, .row 9 1 (List.map eS (y5 ++ [[], [], [], [], [], [], [], [], [], []])))], dst := some 32, val := some (.pv (.str y105)) } (fun m h => step_on (guard_no rfl) (op_load_le (p := .str y105) rfl h.1.1 h.2.1.1 (map_get eS h106) rfl Tryd_one_9 rfl rfl) rfl) ⟨⟨rfl, trivial⟩, ⟨rfl, trivial⟩, trivial⟩ ?_
  obtain ⟨y107, h108, hF⟩ := bind_some hF
  refine dr_cons { need := [(32, .pv (.str y105))], dst := some 33, val := some (.pv (.int .i64 y107)) } (fun m h => step_on (guard_no rfl) (op_call 2 rfl (caps := []) (args := [.str y105]) (rs := [.p (.int .i64 y107)]) rfl rfl (evl_cons h.1.1 evl_nil) Tryd_cal_21 (ref42_number_ok h108) rfl rfl rfl) rfl) ⟨⟨rfl, trivial⟩, trivial, trivial⟩ ?_
  refine drm ?_
  obtain ⟨y109, h110, hF⟩ := bind_some hF
  refine dr_cons { need := [(34, .ls 1)], hneed := [(1, .row 9 1 (List.map eS (y5 ++ [[], [], [], [], [], [], [], [], [], []])))], dst := some 35, val := some (.le 1 1 (9 : Int).toNat 0) } (fun m h => step_on (guard_no rfl) (op_index_ls (k := .i64) rfl h.1.1 rfl h.2.1.1 (idx_map eS h110) Tryd_slc_41 rfl rfl) rfl) ⟨⟨rfl, trivial⟩, ⟨rfl, trivial⟩, trivial⟩ ?_
  refine dr_cons { need := [(35, .le 1 1 (9 : Int).toNat 0)], hneed := [(1, .row 9 1 (List.map eS (y5 ++ [[], [], [], [], [], [], [], [], [], []])))], dst := some 36, val := some (.pv (.str y109)) } (fun m h => step_on (guard_no rfl) (op_load_le (p := .str y109) rfl h.1.1 h.2.1.1 (map_get eS h110) rfl Tryd_one_9 rfl rfl) rfl) ⟨⟨rfl, trivial⟩, ⟨rfl, trivial⟩, trivial⟩ ?_
  obtain ⟨y111, h112, hF⟩ := bind_some hF
  refine dr_cons { need := [(36, .pv (.str y109))], dst := some 37, val := some (.pv (.int .i64 y111)) } (fun m h => step_on (guard_no rfl) (op_call 2 rfl (caps := []) (args := [.str y109]) (rs := [.p (.int .i64 y111)]) rfl rfl (evl_cons h.1.1 evl_nil) Tryd_cal_21 (ref42_number_ok h112) rfl rfl rfl) rfl) ⟨⟨rfl, trivial⟩, trivial, trivial⟩ ?_
  refine dr_cons { need := [(37, .pv (.int .i64 y111)), (33, .pv (.int .i64 y107)), (29, .pv (.int .i64 y103)), (25, .pv (.int .i64 y99))], dst := some 38, val := some (.pv (.agg ((eA4 eI) (⟨y99, y103, y107, y111⟩ : A4 Int)))) } (fun m h => step_on (guard_no rfl) (op_buildArr (zs := ((eA4 eI) (⟨0, 0, 0, 0⟩ : A4 Int))) (r := (eA4 eI) (⟨y99, y103, y107, y111⟩ : A4 Int)) rfl Tryd_zer_25 (by exact ⟨rfl, rfl, rfl, rfl, trivial⟩) Tryd_arr_25 (evs_cons h.1.2.2.2.1 (evs_cons h.1.2.2.1 (evs_cons h.1.2.1 (evs_cons h.1.1 evs_nil)))) rfl rfl rfl) rfl) ⟨⟨rfl, rfl, rfl, rfl, trivial⟩, trivial, trivial⟩ ?_
  refine dr_cons { need := [(38, .pv (.agg ((eA4 eI) (⟨y99, y103, y107, y111⟩ : A4 Int)))), (21, .pv (.int .i64 y95)), (17, .pv (.str y91)), (14, .pv (.int .i64 y89))], dst := some 39, val := some (.pv (.agg (eGEvent ({ fKind := 1, fWho := y95, fObj := y89, fName := y91, fV := zGVal, fOwn := (⟨y99, y103, y107, y111⟩ : A4 Int) } : GEvent)))) } (fun m h => step_on (guard_no rfl) (op_build (zs := (eGEvent zGEvent)) (r := eGEvent ({ fKind := 1, fWho := y95, fObj := y89, fName := y91, fV := zGVal, fOwn := (⟨y99, y103, y107, y111⟩ : A4 Int) } : GEvent)) rfl Tryd_zer_27 (by exact ⟨rfl, rfl, rfl, rfl, rfl, rfl, rfl, rfl, rfl, rfl, trivial⟩) Tryd_plc_27 (evs_cons rfl (evs_cons h.1.2.2.2.1 (evs_cons h.1.2.2.1 (evs_cons h.1.2.1 (evs_cons h.1.1 evs_nil))))) rfl rfl rfl) rfl) ⟨⟨rfl, rfl, rfl, rfl, trivial⟩, trivial, trivial⟩ ?_
  refine drm ?_
  obtain ⟨y113, h114, hF⟩ := bind_some hF
  refine dr_cons { need := [(40, .ls 1)], hneed := [(1, .row 9 1 (List.map eS (y5 ++ [[], [], [], [], [], [], [], [], [], []])))], dst := some 41, val := some (.le 1 1 (1 : Int).toNat 0) } (fun m h => step_on (guard_no rfl) (op_index_ls (k := .i64) rfl h.1.1 rfl h.2.1.1 (idx_map eS h114) Tryd_slc_41 rfl rfl) rfl) ⟨⟨rfl, trivial⟩, ⟨rfl, trivial⟩, trivial⟩ ?_
  refine dr_cons { need := [(41, .le 1 1 (1 : Int).toNat 0)], hneed := [(1, .row 9 1 (List.map eS (y5 ++ [[], [], [], [], [], [], [], [], [], []])))], dst := some 42, val := some (.pv (.str y113)) } (fun m h => step_on (guard_no rfl) (op_load_le (p := .str y113) rfl h.1.1 h.2.1.1 (map_get eS h114) rfl Tryd_one_9 rfl rfl) rfl) ⟨⟨rfl, trivial⟩, ⟨rfl, trivial⟩, trivial⟩ ?_
  obtain ⟨y115, h116, hF⟩ := bind_some hF
  refine dr_cons { need := [(42, .pv (.str y113))], dst := some 43, val := some (.pv (.int .i64 y115)) } (fun m h => step_on (guard_no rfl) (op_call 2 rfl (caps := []) (args := [.str y113]) (rs := [.p (.int .i64 y115)]) rfl rfl (evl_cons h.1.1 evl_nil) Tryd_cal_21 (ref42_number_ok h116) rfl rfl rfl) rfl) ⟨⟨rfl, trivial⟩, trivial, trivial⟩ ?_
  refine drm ?_
  obtain ⟨y117, h118, hF⟩ := bind_some hF
  refine dr_cons { need := [(44, .ls 1)], hneed := [(1, .row 9 1 (List.map eS (y5 ++ [[], [], [], [], [], [], [], [], [], []])))], dst := some 45, val := some (.le 1 1 (2 : Int).toNat 0) } (fun m h => step_on (guard_no rfl) (op_index_ls (k := .i64) rfl h.1.1 rfl h.2.1.1 (idx_map eS h118) Tryd_slc_41 rfl rfl) rfl) ⟨⟨rfl, trivial⟩, ⟨rfl, trivial⟩, trivial⟩ ?_
  refine dr_cons { need := [(45, .le 1 1 (2 : Int).toNat 0)], hneed := [(1, .row 9 1 (List.map eS (y5 ++ [[], [], [], [], [], [], [], [], [], []])))], dst := some 46, val := some (.pv (.str y117)) } (fun m h => step_on (guard_no rfl) (op_load_le (p := .str y117) rfl h.1.1 h.2.1.1 (map_get eS h118) rfl Tryd_one_9 rfl rfl) rfl) ⟨⟨rfl, trivial⟩, ⟨rfl, trivial⟩, trivial⟩ ?_
  refine drm ?_
  obtain ⟨y119, h120, hF⟩ := bind_some hF
  refine dr_cons { need := [(47, .ls 1)], hneed := [(1, .row 9 1 (List.map eS (y5 ++ [[], [], [], [], [], [], [], [], [], []])))], dst := some 48, val := some (.le 1 1 (4 : Int).toNat 0) } (fun m h => step_on (guard_no rfl) (op_index_ls (k := .i64) rfl h.1.1 rfl h.2.1.1 (idx_map eS h120) Tryd_slc_41 rfl rfl) rfl) ⟨⟨rfl, trivial⟩, ⟨rfl, trivial⟩, trivial⟩ ?_
  refine dr_cons { need := [(48, .le 1 1 (4 : Int).toNat 0)], hneed := [(1, .row 9 1 (List.map eS (y5 ++ [[], [], [], [], [], [], [], [], [], []])))], dst := some 49, val := some (.pv (.str y119)) } (fun m h => step_on (guard_no rfl) (op_load_le (p := .str y119) rfl h.1.1 h.2.1.1 (map_get eS h120) rfl Tryd_one_9 rfl rfl) rfl) ⟨⟨rfl, trivial⟩, ⟨rfl, trivial⟩, trivial⟩ ?_
  obtain ⟨y121, h122, hF⟩ := bind_some hF
  refine dr_cons { need := [(49, .pv (.str y119))], dst := some 50, val := some (.pv (.int .i64 y121)) } (fun m h => step_on (guard_no rfl) (op_call 2 rfl (caps := []) (args := [.str y119]) (rs := [.p (.int .i64 y121)]) rfl rfl (evl_cons h.1.1 evl_nil) Tryd_cal_21 (ref42_number_ok h122) rfl rfl rfl) rfl) ⟨⟨rfl, trivial⟩, trivial, trivial⟩ ?_
  refine drm ?_
  obtain ⟨y123, h124, hF⟩ := bind_some hF
  refine dr_cons { need := [(51, .ls 1)], hneed := [(1, .row 9 1 (List.map eS (y5 ++ [[], [], [], [], [], [], [], [], [], []])))], dst := some 52, val := some (.le 1 1 (5 : Int).toNat 0) } (fun m h => step_on (guard_no rfl) (op_index_ls (k := .i64) rfl h.1.1 rfl h.2.1.1 (idx_map eS h124) Tryd_slc_41 rfl rfl) rfl) ⟨⟨rfl, trivial⟩, ⟨rfl, trivial⟩, trivial⟩ ?_
  refine dr_cons { need := [(52, .le 1 1 (5 : Int).toNat 0)], hneed := [(1, .row 9 1 (List.map eS (y5 ++ [[], [], [], [], [], [], [], [], [], []])))], dst := some 53, val := some (.pv (.str y123)) } (fun m h => step_on (guard_no rfl) (op_load_le (p := .str y123) rfl h.1.1 h.2.1.1 (map_get eS h124) rfl Tryd_one_9 rfl rfl) rfl) ⟨⟨rfl, trivial⟩, ⟨rfl, trivial⟩, trivial⟩ ?_
  obtain ⟨y125, h126, hF⟩ := bind_some hF
  refine dr_cons { need := [(53, .pv (.str y123))], dst := some 54, val := some (.pv (.agg (eGVal y125))) } (fun m h => step_on (guard_no rfl) (op_call 2 rfl (caps := []) (args := [.str y123]) (rs := [.p (.agg (eGVal y125))]) rfl rfl (evl_cons h.1.1 evl_nil) Tryd_cal_22 (ref42_val_ok h126) rfl rfl rfl) rfl) ⟨⟨rfl, trivial⟩, trivial, trivial⟩ ?_
  refine dr_cons { need := [(54, .pv (.agg (eGVal y125))), (50, .pv (.int .i64 y121)), (46, .pv (.str y117)), (43, .pv (.int .i64 y115))], dst := some 55, val := some (.pv (.agg (eGEvent ({ fKind := 2, fWho := y121, fObj := y115, fName := y117, fV := y125, fOwn := (⟨0, 0, 0, 0⟩ : A4 Int) } : GEvent)))) } (fun m h => step_on (guard_no rfl) (op_build (zs := (eGEvent zGEvent)) (r := eGEvent ({ fKind := 2, fWho := y121, fObj := y115, fName := y117, fV := y125, fOwn := (⟨0, 0, 0, 0⟩ : A4 Int) } : GEvent)) rfl Tryd_zer_27 (by exact ⟨rfl, rfl, rfl, rfl, rfl, rfl, rfl, rfl, rfl, rfl, trivial⟩) Tryd_plc_27 (evs_cons rfl (evs_cons h.1.2.2.2.1 (evs_cons h.1.2.2.1 (evs_cons h.1.2.1 (evs_cons h.1.1 evs_nil))))) rfl rfl rfl) rfl) ⟨⟨rfl, rfl, rfl, rfl, trivial⟩, trivial, trivial⟩ ?_
  refine drm ?_
  obtain ⟨y127, h128, hF⟩ := bind_some hF
  refine dr_cons { need := [(56, .ls 1)], hneed := [(1, .row 9 1 (List.map eS (y5 ++ [[], [], [], [], [], [], [], [], [], []])))], dst := some 57, val := some (.le 1 1 (1 : Int).toNat 0) } (fun m h => step_on (guard_no rfl) (op_index_ls (k := .i64) rfl h.1.1 rfl h.2.1.1 (idx_map eS h128) Tryd_slc_41 rfl rfl) rfl) ⟨⟨rfl, trivial⟩, ⟨rfl, trivial⟩, trivial⟩ ?_
  refine dr_cons { need := [(57, .le 1 1 (1 : Int).toNat 0)], hneed := [(1, .row 9 1 (List.map eS (y5 ++ [[], [], [], [], [], [], [], [], [], []])))], dst := some 58, val := some (.pv (.str y127)) } (fun m h => step_on (guard_no rfl) (op_load_le (p := .str y127) rfl h.1.1 h.2.1.1 (map_get eS h128) rfl Tryd_one_9 rfl rfl) rfl) ⟨⟨rfl, trivial⟩, ⟨rfl, trivial⟩, trivial⟩ ?_
  obtain ⟨y129, h130, hF⟩ := bind_some hF
  refine dr_cons { need := [(58, .pv (.str y127))], dst := some 59, val := some (.pv (.int .i64 y129)) } (fun m h => step_on (guard_no rfl) (op_call 2 rfl (caps := []) (args := [.str y127]) (rs := [.p (.int .i64 y129)]) rfl rfl (evl_cons h.1.1 evl_nil) Tryd_cal_21 (ref42_number_ok h130) rfl rfl rfl) rfl) ⟨⟨rfl, trivial⟩, trivial, trivial⟩ ?_
  refine drm ?_
  obtain ⟨y131, h132, hF⟩ := bind_some hF
  refine dr_cons { need := [(60, .ls 1)], hneed := [(1, .row 9 1 (List.map eS (y5 ++ [[], [], [], [], [], [], [], [], [], []])))], dst := some 61, val := some (.le 1 1 (2 : Int).toNat 0) } (fun m h => step_on (guard_no rfl) (op_index_ls (k := .i64) rfl h.1.1 rfl h.2.1.1 (idx_map eS h132) Tryd_slc_41 rfl rfl) rfl) ⟨⟨rfl, trivial⟩, ⟨rfl, trivial⟩, trivial⟩ ?_
  refine dr_cons { need := [(61, .le 1 1 (2 : Int).toNat 0)], hneed := [(1, .row 9 1 (List.map eS (y5 ++ [[], [], [], [], [], [], [], [], [], []])))], dst := some 62, val := some (.pv (.str y131)) } (fun m h => step_on (guard_no rfl) (op_load_le (p := .str y131) rfl h.1.1 h.2.1.1 (map_get eS h132) rfl Tryd_one_9 rfl rfl) rfl) ⟨⟨rfl, trivial⟩, ⟨rfl, trivial⟩, trivial⟩ ?_
  refine drm ?_
  obtain ⟨y133, h134, hF⟩ := bind_some hF
  refine dr_cons { need := [(63, .ls 1)], hneed := [(1, .row 9 1 (List.map eS (y5 ++ [[], [], [], [], [], [], [], [], [], []])))], dst := some 64, val := some (.le 1 1 (4 : Int).toNat 0) } (fun m h => step_on (guard_no rfl) (op_index_ls (k := .i64) rfl h.1.1 rfl h.2.1.1 (idx_map eS h134) Tryd_slc_41 rfl rfl) rfl) ⟨⟨rfl, trivial⟩, ⟨rfl, trivial⟩, trivial⟩ ?_
  refine dr_cons { need := [(64, .le 1 1 (4 : Int).toNat 0)], hneed := [(1, .row 9 1 (List.map eS (y5 ++ [[], [], [], [], [], [], [], [], [], []])))], dst := some 65, val := some (.pv (.str y133)) } (fun m h => step_on (guard_no rfl) (op_load_le (p := .str y133) rfl h.1.1 h.2.1.1 (map_get eS h134) rfl Tryd_one_9 rfl rfl) rfl) ⟨⟨rfl, trivial⟩, ⟨rfl, trivial⟩, trivial⟩ ?_
  obtain ⟨y135, h136, hF⟩ := bind_some hF
  refine dr_cons { need := [(65, .pv (.str y133))], dst := some 66, val := some (.pv (.int .i64 y135)) } (fun m h => step_on (guard_no rfl) (op_call 2 rfl (caps := []) (args := [.str y133]) (rs := [.p (.int .i64 y135)]) rfl rfl (evl_cons h.1.1 evl_nil) Tryd_cal_21 (ref42_number_ok h136) rfl rfl rfl) rfl) ⟨⟨rfl, trivial⟩, trivial, trivial⟩ ?_
  refine dr_cons { need := [(66, .pv (.int .i64 y135)), (62, .pv (.str y131)), (59, .pv (.int .i64 y129))], dst := some 67, val := some (.pv (.agg (eGEvent ({ fKind := 3, fWho := y135, fObj := y129, fName := y131, fV := zGVal, fOwn := (⟨0, 0, 0, 0⟩ : A4 Int) } : GEvent)))) } (fun m h => step_on (guard_no rfl) (op_build (zs := (eGEvent zGEvent)) (r := eGEvent ({ fKind := 3, fWho := y135, fObj := y129, fName := y131, fV := zGVal, fOwn := (⟨0, 0, 0, 0⟩ : A4 Int) } : GEvent)) rfl Tryd_zer_27 (by exact ⟨rfl, rfl, rfl, rfl, rfl, rfl, rfl, rfl, rfl, rfl, trivial⟩) Tryd_plc_27 (evs_cons rfl (evs_cons h.1.2.2.1 (evs_cons h.1.2.1 (evs_cons h.1.1 evs_nil)))) rfl rfl rfl) rfl) ⟨⟨rfl, rfl, rfl, trivial⟩, trivial, trivial⟩ ?_
  refine drm ?_
  obtain ⟨y137, h138, hF⟩ := bind_some hF
  refine dr_cons { need := [(68, .ls 1)], hneed := [(1, .row 9 1 (List.map eS (y5 ++ [[], [], [], [], [], [], [], [], [], []])))], dst := some 69, val := some (.le 1 1 (1 : Int).toNat 0) } (fun m h => step_on (guard_no rfl) (op_index_ls (k := .i64) rfl h.1.1 rfl h.2.1.1 (idx_map eS h138) Tryd_slc_41 rfl rfl) rfl) ⟨⟨rfl, trivial⟩, ⟨rfl, trivial⟩, trivial⟩ ?_
  refine dr_cons { need := [(69, .le 1 1 (1 : Int).toNat 0)], hneed := [(1, .row 9 1 (List.map eS (y5 ++ [[], [], [], [], [], [], [], [], [], []])))], dst := some 70, val := some (.pv (.str y137)) } (fun m h => step_on (guard_no rfl) (op_load_le (p := .str y137) rfl h.1.1 h.2.1.1 (map_get eS h138) rfl Tryd_one_9 rfl rfl) rfl) ⟨⟨rfl, trivial⟩, ⟨rfl, trivial⟩, trivial⟩ ?_
  obtain ⟨y139, h140, hF⟩ := bind_some hF
  refine dr_cons { need := [(70, .pv (.str y137))], dst := some 71, val := some (.pv (.int .i64 y139)) } (fun m h => step_on (guard_no rfl) (op_call 2 rfl (caps := []) (args := [.str y137]) (rs := [.p (.int .i64 y139)]) rfl rfl (evl_cons h.1.1 evl_nil) Tryd_cal_21 (ref42_number_ok h140) rfl rfl rfl) rfl) ⟨⟨rfl, trivial⟩, trivial, trivial⟩ ?_
  refine drm ?_
  obtain ⟨y141, h142, hF⟩ := bind_some hF
  refine dr_cons { need := [(72, .ls 1)], hneed := [(1, .row 9 1 (List.map eS (y5 ++ [[], [], [], [], [], [], [], [], [], []])))], dst := some 73, val := some (.le 1 1 (2 : Int).toNat 0) } (fun m h => step_on (guard_no rfl) (op_index_ls (k := .i64) rfl h.1.1 rfl h.2.1.1 (idx_map eS h142) Tryd_slc_41 rfl rfl) rfl) ⟨⟨rfl, trivial⟩, ⟨rfl, trivial⟩, trivial⟩ ?_
  refine dr_cons { need := [(73, .le 1 1 (2 : Int).toNat 0)], hneed := [(1, .row 9 1 (List.map eS (y5 ++ [[], [], [], [], [], [], [], [], [], []])))], dst := some 74, val := some (.pv (.str y141)) } (fun m h => step_on (guard_no rfl) (op_load_le (p := .str y141) rfl h.1.1 h.2.1.1 (map_get eS h142) rfl Tryd_one_9 rfl rfl) rfl) ⟨⟨rfl, trivial⟩, ⟨rfl, trivial⟩, trivial⟩ ?_
  obtain ⟨y143, h144, hF⟩ := bind_some hF
  refine dr_cons { need := [(74, .pv (.str y141))], dst := some 75, val := some (.pv (.agg (eGVal y143))) } (fun m h => step_on (guard_no rfl) (op_call 2 rfl (caps := []) (args := [.str y141]) (rs := [.p (.agg (eGVal y143))]) rfl rfl (evl_cons h.1.1 evl_nil) Tryd_cal_22 (ref42_val_ok h144) rfl rfl rfl) rfl) ⟨⟨rfl, trivial⟩, trivial, trivial⟩ ?_
  refine dr_cons { need := [(75, .pv (.agg (eGVal y143))), (71, .pv (.int .i64 y139))], dst := some 76, val := some (.pv (.agg (eGEvent ({ fKind := 4, fWho := y139, fObj := 0, fName := [], fV := y143, fOwn := (⟨0, 0, 0, 0⟩ : A4 Int) } : GEvent)))) } (fun m h => step_on (guard_no rfl) (op_build (zs := (eGEvent zGEvent)) (r := eGEvent ({ fKind := 4, fWho := y139, fObj := 0, fName := [], fV := y143, fOwn := (⟨0, 0, 0, 0⟩ : A4 Int) } : GEvent)) rfl Tryd_zer_27 (by exact ⟨rfl, rfl, rfl, rfl, rfl, rfl, rfl, rfl, rfl, rfl, trivial⟩) Tryd_plc_27 (evs_cons rfl (evs_cons h.1.2.1 (evs_cons h.1.1 evs_nil))) rfl rfl rfl) rfl) ⟨⟨rfl, rfl, trivial⟩, trivial, trivial⟩ ?_
  refine drm ?_
  obtain ⟨y145, h146, hF⟩ := bind_some hF
  refine dr_cons { need := [(77, .ls 1)], hneed := [(1, .row 9 1 (List.map eS (y5 ++ [[], [], [], [], [], [], [], [], [], []])))], dst := some 78, val := some (.le 1 1 (1 : Int).toNat 0) } (fun m h => step_on (guard_no rfl) (op_index_ls (k := .i64) rfl h.1.1 rfl h.2.1.1 (idx_map eS h146) Tryd_slc_41 rfl rfl) rfl) ⟨⟨rfl, trivial⟩, ⟨rfl, trivial⟩, trivial⟩ ?_
  refine dr_cons { need := [(78, .le 1 1 (1 : Int).toNat 0)], hneed := [(1, .row 9 1 (List.map eS (y5 ++ [[], [], [], [], [], [], [], [], [], []])))], dst := some 79, val := some (.pv (.str y145)) } (fun m h => step_on (guard_no rfl) (op_load_le (p := .str y145) rfl h.1.1 h.2.1.1 (map_get eS h146) rfl Tryd_one_9 rfl rfl) rfl) ⟨⟨rfl, trivial⟩, ⟨rfl, trivial⟩, trivial⟩ ?_
  obtain ⟨y147, h148, hF⟩ := bind_some hF
  refine dr_cons { need := [(79, .pv (.str y145))], dst := some 80, val := some (.pv (.int .i64 y147)) } (fun m h => step_on (guard_no rfl) (op_call 2 rfl (caps := []) (args := [.str y145]) (rs := [.p (.int .i64 y147)]) rfl rfl (evl_cons h.1.1 evl_nil) Tryd_cal_21 (ref42_number_ok h148) rfl rfl rfl) rfl) ⟨⟨rfl, trivial⟩, trivial, trivial⟩ ?_
  refine drm ?_
  obtain ⟨y149, h150, hF⟩ := bind_some hF
  refine dr_cons { need := [(81, .ls 1)], hneed := [(1, .row 9 1 (List.map eS (y5 ++ [[], [], [], [], [], [], [], [], [], []])))], dst := some 82, val := some (.le 1 1 (3 : Int).toNat 0) } (fun m h => step_on (guard_no rfl) (op_index_ls (k := .i64) rfl h.1.1 rfl h.2.1.1 (idx_map eS h150) Tryd_slc_41 rfl rfl) rfl) ⟨⟨rfl, trivial⟩, ⟨rfl, trivial⟩, trivial⟩ ?_
  refine dr_cons { need := [(82, .le 1 1 (3 : Int).toNat 0)], hneed := [(1, .row 9 1 (List.map eS (y5 ++ [[], [], [], [], [], [], [], [], [], []])))], dst := some 83, val := some (.pv (.str y149)) } (fun m h => step_on (guard_no rfl) (op_load_le (p := .str y149) rfl h.1.1 h.2.1.1 (map_get eS h150) rfl Tryd_one_9 rfl rfl) rfl) ⟨⟨rfl, trivial⟩, ⟨rfl, trivial⟩, trivial⟩ ?_
  obtain ⟨y151, h152, hF⟩ := bind_some hF
  refine dr_cons { need := [(83, .pv (.str y149))], dst := some 84, val := some (.pv (.int .i64 y151)) } (fun m h => step_on (guard_no rfl) (op_call 2 rfl (caps := []) (args := [.str y149]) (rs := [.p (.int .i64 y151)]) rfl rfl (evl_cons h.1.1 evl_nil) Tryd_cal_21 (ref42_number_ok h152) rfl rfl rfl) rfl) ⟨⟨rfl, trivial⟩, trivial, trivial⟩ ?_
  refine dr_cons { need := [(84, .pv (.int .i64 y151))], dst := some 85, val := some (.pv (.agg ((eA4 eI) (⟨y151, 0, 0, 0⟩ : A4 Int)))) } (fun m h => step_on (guard_no rfl) (op_buildArr (zs := ((eA4 eI) (⟨0, 0, 0, 0⟩ : A4 Int))) (r := (eA4 eI) (⟨y151, 0, 0, 0⟩ : A4 Int)) rfl Tryd_zer_25 (by exact ⟨rfl, rfl, rfl, rfl, trivial⟩) Tryd_arr_25 (evs_cons h.1.1 evs_nil) rfl rfl rfl) rfl) ⟨⟨rfl, trivial⟩, trivial, trivial⟩ ?_
  refine drm ?_
  obtain ⟨y153, h154, hF⟩ := bind_some hF
  refine dr_cons { need := [(86, .ls 1)], hneed := [(1, .row 9 1 (List.map eS (y5 ++ [[], [], [], [], [], [], [], [], [], []])))], dst := some 87, val := some (.le 1 1 (5 : Int).toNat 0) } (fun m h => step_on (guard_no rfl) (op_index_ls (k := .i64) rfl h.1.1 rfl h.2.1.1 (idx_map eS h154) Tryd_slc_41 rfl rfl) rfl) ⟨⟨rfl, trivial⟩, ⟨rfl, trivial⟩, trivial⟩ ?_
  refine dr_cons { need := [(87, .le 1 1 (5 : Int).toNat 0)], hneed := [(1, .row 9 1 (List.map eS (y5 ++ [[], [], [], [], [], [], [], [], [], []])))], dst := some 88, val := some (.pv (.str y153)) } (fun m h => step_on (guard_no rfl) (op_load_le (p := .str y153) rfl h.1.1 h.2.1.1 (map_get eS h154) rfl Tryd_one_9 rfl rfl) rfl) ⟨⟨rfl, trivial⟩, ⟨rfl, trivial⟩, trivial⟩ ?_
  obtain ⟨y155, h156, hF⟩ := bind_some hF
  refine dr_cons { need := [(88, .pv (.str y153))], dst := some 89, val := some (.pv (.int .i64 y155)) } (fun m h => step_on (guard_no rfl) (op_call 2 rfl (caps := []) (args := [.str y153]) (rs := [.p (.int .i64 y155)]) rfl rfl (evl_cons h.1.1 evl_nil) Tryd_cal_21 (ref42_number_ok h156) rfl rfl rfl) rfl) ⟨⟨rfl, trivial⟩, trivial, trivial⟩ ?_
  refine dr_cons { need := [(89, .pv (.int .i64 y155)), (85, .pv (.agg ((eA4 eI) (⟨y151, 0, 0, 0⟩ : A4 Int)))), (80, .pv (.int .i64 y147))], dst := some 90, val := some (.pv (.agg (eGEvent ({ fKind := 5, fWho := y155, fObj := y147, fName := [], fV := zGVal, fOwn := (⟨y151, 0, 0, 0⟩ : A4 Int) } : GEvent)))) } (fun m h => step_on (guard_no rfl) (op_build (zs := (eGEvent zGEvent)) (r := eGEvent ({ fKind := 5, fWho := y155, fObj := y147, fName := [], fV := zGVal, fOwn := (⟨y151, 0, 0, 0⟩ : A4 Int) } : GEvent)) rfl Tryd_zer_27 (by exact ⟨rfl, rfl, rfl, rfl, rfl, rfl, rfl, rfl, rfl, rfl, trivial⟩) Tryd_plc_27 (evs_cons rfl (evs_cons h.1.2.2.1 (evs_cons h.1.2.1 (evs_cons h.1.1 evs_nil)))) rfl rfl rfl) rfl) ⟨⟨rfl, rfl, rfl, trivial⟩, trivial, trivial⟩ ?_
  refine drm ?_
  obtain ⟨y157, h158, hF⟩ := bind_some hF
  refine dr_cons { need := [(91, .ls 1)], hneed := [(1, .row 9 1 (List.map eS (y5 ++ [[], [], [], [], [], [], [], [], [], []])))], dst := some 92, val := some (.le 1 1 (1 : Int).toNat 0) } (fun m h => step_on (guard_no rfl) (op_index_ls (k := .i64) rfl h.1.1 rfl h.2.1.1 (idx_map eS h158) Tryd_slc_41 rfl rfl) rfl) ⟨⟨rfl, trivial⟩, ⟨rfl, trivial⟩, trivial⟩ ?_
  refine dr_cons { need := [(92, .le 1 1 (1 : Int).toNat 0)], hneed := [(1, .row 9 1 (List.map eS (y5 ++ [[], [], [], [], [], [], [], [], [], []])))], dst := some 93, val := some (.pv (.str y157)) } (fun m h => step_on (guard_no rfl) (op_load_le (p := .str y157) rfl h.1.1 h.2.1.1 (map_get eS h158) rfl Tryd_one_9 rfl rfl) rfl) ⟨⟨rfl, trivial⟩, ⟨rfl, trivial⟩, trivial⟩ ?_
  obtain ⟨y159, h160, hF⟩ := bind_some hF
  refine dr_cons { need := [(93, .pv (.str y157))], dst := some 94, val := some (.pv (.int .i64 y159)) } (fun m h => step_on (guard_no rfl) (op_call 2 rfl (caps := []) (args := [.str y157]) (rs := [.p (.int .i64 y159)]) rfl rfl (evl_cons h.1.1 evl_nil) Tryd_cal_21 (ref42_number_ok h160) rfl rfl rfl) rfl) ⟨⟨rfl, trivial⟩, trivial, trivial⟩ ?_
  refine drm ?_
  obtain ⟨y161, h162, hF⟩ := bind_some hF
  refine dr_cons { need := [(95, .ls 1)], hneed := [(1, .row 9 1 (List.map eS (y5 ++ [[], [], [], [], [], [], [], [], [], []])))], dst := some 96, val := some (.le 1 1 (3 : Int).toNat 0) } (fun m h => step_on (guard_no rfl) (op_index_ls (k := .i64) rfl h.1.1 rfl h.2.1.1 (idx_map eS h162) Tryd_slc_41 rfl rfl) rfl) ⟨⟨rfl, trivial⟩, ⟨rfl, trivial⟩, trivial⟩ ?_
  refine dr_cons { need := [(96, .le 1 1 (3 : Int).toNat 0)], hneed := [(1, .row 9 1 (List.map eS (y5 ++ [[], [], [], [], [], [], [], [], [], []])))], dst := some 97, val := some (.pv (.str y161)) } (fun m h => step_on (guard_no rfl) (op_load_le (p := .str y161) rfl h.1.1 h.2.1.1 (map_get eS h162) rfl Tryd_one_9 rfl rfl) rfl) ⟨⟨rfl, trivial⟩, ⟨rfl, trivial⟩, trivial⟩ ?_
  obtain ⟨y163, h164, hF⟩ := bind_some hF
  refine dr_cons { need := [(97, .pv (.str y161))], dst := some 98, val := some (.pv (.int .i64 y163)) } (fun m h => step_on (guard_no rfl) (op_call 2 rfl (caps := []) (args := [.str y161]) (rs := [.p (.int .i64 y163)]) rfl rfl (evl_cons h.1.1 evl_nil) Tryd_cal_21 (ref42_number_ok h164) rfl rfl rfl) rfl) ⟨⟨rfl, trivial⟩, trivial, trivial⟩ ?_
  refine dr_cons { need := [(98, .pv (.int .i64 y163)), (94, .pv (.int .i64 y159))], dst := some 99, val := some (.pv (.agg (eGEvent ({ fKind := 6, fWho := y163, fObj := y159, fName := [], fV := zGVal, fOwn := (⟨0, 0, 0, 0⟩ : A4 Int) } : GEvent)))) } (fun m h => step_on (guard_no rfl) (op_build (zs := (eGEvent zGEvent)) (r := eGEvent ({ fKind := 6, fWho := y163, fObj := y159, fName := [], fV := zGVal, fOwn := (⟨0, 0, 0, 0⟩ : A4 Int) } : GEvent)) rfl Tryd_zer_27 (by exact ⟨rfl, rfl, rfl, rfl, rfl, rfl, rfl, rfl, rfl, rfl, trivial⟩) Tryd_plc_27 (evs_cons rfl (evs_cons h.1.2.1 (evs_cons h.1.1 evs_nil))) rfl rfl rfl) rfl) ⟨⟨rfl, rfl, trivial⟩, trivial, trivial⟩ ?_
  refine dr_cons { need := [(99, .pv (.agg (eGEvent ({ fKind := 6, fWho := y163, fObj := y159, fName := [], fV := zGVal, fOwn := (⟨0, 0, 0, 0⟩ : A4 Int) } : GEvent)))), (90, .pv (.agg (eGEvent ({ fKind := 5, fWho := y155, fObj := y147, fName := [], fV := zGVal, fOwn := (⟨y151, 0, 0, 0⟩ : A4 Int) } : GEvent)))), (76, .pv (.agg (eGEvent ({ fKind := 4, fWho := y139, fObj := 0, fName := [], fV := y143, fOwn := (⟨0, 0, 0, 0⟩ : A4 Int) } : GEvent)))), (67, .pv (.agg (eGEvent ({ fKind := 3, fWho := y135, fObj := y129, fName := y131, fV := zGVal, fOwn := (⟨0, 0, 0, 0⟩ : A4 Int) } : GEvent)))), (55, .pv (.agg (eGEvent ({ fKind := 2, fWho := y121, fObj := y115, fName := y117, fV := y125, fOwn := (⟨0, 0, 0, 0⟩ : A4 Int) } : GEvent)))), (39, .pv (.agg (eGEvent ({ fKind := 1, fWho := y95, fObj := y89, fName := y91, fV := zGVal, fOwn := (⟨y99, y103, y107, y111⟩ : A4 Int) } : GEvent))))], dst := some 100, val := some (.pv (.vs 10 (List.map eGEvent [({ fKind := 1, fWho := y95, fObj := y89, fName := y91, fV := zGVal, fOwn := (⟨y99, y103, y107, y111⟩ : A4 Int) } : GEvent), ({ fKind := 2, fWho := y121, fObj := y115, fName := y117, fV := y125, fOwn := (⟨0, 0, 0, 0⟩ : A4 Int) } : GEvent), ({ fKind := 3, fWho := y135, fObj := y129, fName := y131, fV := zGVal, fOwn := (⟨0, 0, 0, 0⟩ : A4 Int) } : GEvent), ({ fKind := 4, fWho := y139, fObj := 0, fName := [], fV := y143, fOwn := (⟨0, 0, 0, 0⟩ : A4 Int) } : GEvent), ({ fKind := 5, fWho := y155, fObj := y147, fName := [], fV := zGVal, fOwn := (⟨y151, 0, 0, 0⟩ : A4 Int) } : GEvent), ({ fKind := 6, fWho := y163, fObj := y159, fName := [], fV := zGVal, fOwn := (⟨0, 0, 0, 0⟩ : A4 Int) } : GEvent)]))) } (fun m h => step_on (guard_no rfl) (op_lit (rows := List.map eGEvent ([({ fKind := 1, fWho := y95, fObj := y89, fName := y91, fV := zGVal, fOwn := (⟨y99, y103, y107, y111⟩ : A4 Int) } : GEvent), ({ fKind := 2, fWho := y121, fObj := y115, fName := y117, fV := y125, fOwn := (⟨0, 0, 0, 0⟩ : A4 Int) } : GEvent), ({ fKind := 3, fWho := y135, fObj := y129, fName := y131, fV := zGVal, fOwn := (⟨0, 0, 0, 0⟩ : A4 Int) } : GEvent), ({ fKind := 4, fWho := y139, fObj := 0, fName := [], fV := y143, fOwn := (⟨0, 0, 0, 0⟩ : A4 Int) } : GEvent), ({ fKind := 5, fWho := y155, fObj := y147, fName := [], fV := zGVal, fOwn := (⟨y151, 0, 0, 0⟩ : A4 Int) } : GEvent), ({ fKind := 6, fWho := y163, fObj := y159, fName := [], fV := zGVal, fOwn := (⟨0, 0, 0, 0⟩ : A4 Int) } : GEvent)] : List GEvent)) (zs := (eGEvent zGEvent)) rfl rfl Tryd_slc_30 Tryd_zer_27 (by exact ⟨rfl, rfl, rfl, rfl, rfl, rfl, rfl, rfl, rfl, rfl, trivial⟩) rfl rfl rfl (evs_cons h.1.2.2.2.2.2.1 (evs_cons h.1.2.2.2.2.1 (evs_cons h.1.2.2.2.1 (evs_cons h.1.2.2.1 (evs_cons h.1.2.1 (evs_cons h.1.1 evs_nil)))))) rfl rfl rfl rfl) rfl) ⟨⟨rfl, rfl, rfl, rfl, rfl, rfl, trivial⟩, trivial, trivial⟩ ?_
  refine dr_cons { need := [(100, .pv (.vs 10 (List.map eGEvent [({ fKind := 1, fWho := y95, fObj := y89, fName := y91, fV := zGVal, fOwn := (⟨y99, y103, y107, y111⟩ : A4 Int) } : GEvent), ({ fKind := 2, fWho := y121, fObj := y115, fName := y117, fV := y125, fOwn := (⟨0, 0, 0, 0⟩ : A4 Int) } : GEvent), ({ fKind := 3, fWho := y135, fObj := y129, fName := y131, fV := zGVal, fOwn := (⟨0, 0, 0, 0⟩ : A4 Int) } : GEvent), ({ fKind := 4, fWho := y139, fObj := 0, fName := [], fV := y143, fOwn := (⟨0, 0, 0, 0⟩ : A4 Int) } : GEvent), ({ fKind := 5, fWho := y155, fObj := y147, fName := [], fV := zGVal, fOwn := (⟨y151, 0, 0, 0⟩ : A4 Int) } : GEvent), ({ fKind := 6, fWho := y163, fObj := y159, fName := [], fV := zGVal, fOwn := (⟨0, 0, 0, 0⟩ : A4 Int) } : GEvent)])))], dst := some 5, val := some (.pv (.vs 10 (List.map eGEvent [({ fKind := 1, fWho := y95, fObj := y89, fName := y91, fV := zGVal, fOwn := (⟨y99, y103, y107, y111⟩ : A4 Int) } : GEvent), ({ fKind := 2, fWho := y121, fObj := y115, fName := y117, fV := y125, fOwn := (⟨0, 0, 0, 0⟩ : A4 Int) } : GEvent), ({ fKind := 3, fWho := y135, fObj := y129, fName := y131, fV := zGVal, fOwn := (⟨0, 0, 0, 0⟩ : A4 Int) } : GEvent), ({ fKind := 4, fWho := y139, fObj := 0, fName := [], fV := y143, fOwn := (⟨0, 0, 0, 0⟩ : A4 Int) } : GEvent), ({ fKind := 5, fWho := y155, fObj := y147, fName := [], fV := zGVal, fOwn := (⟨y151, 0, 0, 0⟩ : A4 Int) } : GEvent), ({ fKind := 6, fWho := y163, fObj := y159, fName := [], fV := zGVal, fOwn := (⟨0, 0, 0, 0⟩ : A4 Int) } : GEvent)]))) } (fun m h => step_on (guard_no rfl) (op_assign rfl h.1.1 rfl rfl) rfl) ⟨⟨rfl, trivial⟩, trivial, trivial⟩ ?_
  refine dr_nil Tryd_mixed rfl (by kernel_rfl) ?_
  refine post_imp (s' := ⟨123, [(0, some (.pv (.str a0))), (2, some (.lp 0 0)), (5, some (.pv (.vs 10 (List.map eGEvent [({ fKind := 1, fWho := y95, fObj := y89, fName := y91, fV := zGVal, fOwn := (⟨y99, y103, y107, y111⟩ : A4 Int) } : GEvent), ({ fKind := 2, fWho := y121, fObj := y115, fName := y117, fV := y125, fOwn := (⟨0, 0, 0, 0⟩ : A4 Int) } : GEvent), ({ fKind := 3, fWho := y135, fObj := y129, fName := y131, fV := zGVal, fOwn := (⟨0, 0, 0, 0⟩ : A4 Int) } : GEvent), ({ fKind := 4, fWho := y139, fObj := 0, fName := [], fV := y143, fOwn := (⟨0, 0, 0, 0⟩ : A4 Int) } : GEvent), ({ fKind := 5, fWho := y155, fObj := y147, fName := [], fV := zGVal, fOwn := (⟨y151, 0, 0, 0⟩ : A4 Int) } : GEvent), ({ fKind := 6, fWho := y163, fObj := y159, fName := [], fV := zGVal, fOwn := (⟨0, 0, 0, 0⟩ : A4 Int) } : GEvent)]))))], [(0, some (.box 27 (bxv (eGEvent zGEvent))))], 1, [], [], 0, []⟩) (imps [0] ⟨by kernel_rfl, by kernel_rfl, by kernel_rfl, trivial⟩ ⟨by kernel_rfl, trivial⟩) ?_
  refine post_next ?_
  iterate 2 (refine aw_seq ?_)
  refine aw_region ?_
  refine ras ?_
  refine reg_nil ?_
  refine post_imp (s' := ⟨123, [(0, some (.pv (.str a0))), (2, some (.lp 0 0)), (5, some (.pv (.vs 10 (List.map eGEvent [({ fKind := 1, fWho := y95, fObj := y89, fName := y91, fV := zGVal, fOwn := (⟨y99, y103, y107, y111⟩ : A4 Int) } : GEvent), ({ fKind := 2, fWho := y121, fObj := y115, fName := y117, fV := y125, fOwn := (⟨0, 0, 0, 0⟩ : A4 Int) } : GEvent), ({ fKind := 3, fWho := y135, fObj := y129, fName := y131, fV := zGVal, fOwn := (⟨0, 0, 0, 0⟩ : A4 Int) } : GEvent), ({ fKind := 4, fWho := y139, fObj := 0, fName := [], fV := y143, fOwn := (⟨0, 0, 0, 0⟩ : A4 Int) } : GEvent), ({ fKind := 5, fWho := y155, fObj := y147, fName := [], fV := zGVal, fOwn := (⟨y151, 0, 0, 0⟩ : A4 Int) } : GEvent), ({ fKind := 6, fWho := y163, fObj := y159, fName := [], fV := zGVal, fOwn := (⟨0, 0, 0, 0⟩ : A4 Int) } : GEvent)])))), (6, some (.pv (.int .i64 0)))], [(0, some (.box 27 (bxv (eGEvent zGEvent))))], 1, [], [], 0, []⟩) (imps [0] ⟨by kernel_rfl, by kernel_rfl, by kernel_rfl, by kernel_rfl, trivial⟩ ⟨by kernel_rfl, trivial⟩) ?_
  refine post_next ?_
  obtain ⟨lr204, hF, hK205⟩ := bind_some hF
  refine aw_for (((([({ fKind := 1, fWho := y95, fObj := y89, fName := y91, fV := zGVal, fOwn := (⟨y99, y103, y107, y111⟩ : A4 Int) } : GEvent), ({ fKind := 2, fWho := y121, fObj := y115, fName := y117, fV := y125, fOwn := (⟨0, 0, 0, 0⟩ : A4 Int) } : GEvent), ({ fKind := 3, fWho := y135, fObj := y129, fName := y131, fV := zGVal, fOwn := (⟨0, 0, 0, 0⟩ : A4 Int) } : GEvent), ({ fKind := 4, fWho := y139, fObj := 0, fName := [], fV := y143, fOwn := (⟨0, 0, 0, 0⟩ : A4 Int) } : GEvent), ({ fKind := 5, fWho := y155, fObj := y147, fName := [], fV := zGVal, fOwn := (⟨y151, 0, 0, 0⟩ : A4 Int) } : GEvent), ({ fKind := 6, fWho := y163, fObj := y159, fName := [], fV := zGVal, fOwn := (⟨0, 0, 0, 0⟩ : A4 Int) } : GEvent)].length : Int) : Int) - (0)).toNat + 1) (fun s1 => ∃ q, lr204 = .next q ∧ s1 = ⟨123, [(2, some (.lp 0 0))], [(0, some (.box 27 (bxv (eGEvent zGEvent))))], 1, [], [], 0, []⟩) ?_ ?_
  · refine rnd_loop (α := Int) (fun q => ⟨123, [(0, some (.pv (.str a0))), (2, some (.lp 0 0)), (5, some (.pv (.vs 10 (List.map eGEvent [({ fKind := 1, fWho := y95, fObj := y89, fName := y91, fV := zGVal, fOwn := (⟨y99, y103, y107, y111⟩ : A4 Int) } : GEvent), ({ fKind := 2, fWho := y121, fObj := y115, fName := y117, fV := y125, fOwn := (⟨0, 0, 0, 0⟩ : A4 Int) } : GEvent), ({ fKind := 3, fWho := y135, fObj := y129, fName := y131, fV := zGVal, fOwn := (⟨0, 0, 0, 0⟩ : A4 Int) } : GEvent), ({ fKind := 4, fWho := y139, fObj := 0, fName := [], fV := y143, fOwn := (⟨0, 0, 0, 0⟩ : A4 Int) } : GEvent), ({ fKind := 5, fWho := y155, fObj := y147, fName := [], fV := zGVal, fOwn := (⟨y151, 0, 0, 0⟩ : A4 Int) } : GEvent), ({ fKind := 6, fWho := y163, fObj := y159, fName := [], fV := zGVal, fOwn := (⟨0, 0, 0, 0⟩ : A4 Int) } : GEvent)])))), (6, some (.pv (.int .i64 q)))], [(0, some (.box 27 (bxv (eGEvent zGEvent))))], 1, [], [], 0, []⟩) (fun k q => ref42_Read_L1 a0 y89 y91 y95 y99 y103 y107 y111 y115 y117 y121 y125 y129 y131 y135 y139 y143 y147 y151 y155 y159 y163 k q = some lr204) 0 (imps [0] ⟨by kernel_rfl, by kernel_rfl, by kernel_rfl, by kernel_rfl, trivial⟩ ⟨by kernel_rfl, trivial⟩) hF (fun q h => by cases h) ?_
    clear hF
    rintro k x177 hF ih
    refine rnd_succ ?_
    iterate 2 (refine aw_seq ?_)
    refine aw_region ?_
    iterate 2 (refine rmv ?_)
    refine rgp (op_len_vs (n := [({ fKind := 1, fWho := y95, fObj := y89, fName := y91, fV := zGVal, fOwn := (⟨y99, y103, y107, y111⟩ : A4 Int) } : GEvent), ({ fKind := 2, fWho := y121, fObj := y115, fName := y117, fV := y125, fOwn := (⟨0, 0, 0, 0⟩ : A4 Int) } : GEvent), ({ fKind := 3, fWho := y135, fObj := y129, fName := y131, fV := zGVal, fOwn := (⟨0, 0, 0, 0⟩ : A4 Int) } : GEvent), ({ fKind := 4, fWho := y139, fObj := 0, fName := [], fV := y143, fOwn := (⟨0, 0, 0, 0⟩ : A4 Int) } : GEvent), ({ fKind := 5, fWho := y155, fObj := y147, fName := [], fV := zGVal, fOwn := (⟨y151, 0, 0, 0⟩ : A4 Int) } : GEvent), ({ fKind := 6, fWho := y163, fObj := y159, fName := [], fV := zGVal, fOwn := (⟨0, 0, 0, 0⟩ : A4 Int) } : GEvent)].length) rfl rfl (List.length_map ..) Tryd_slc_30 rfl rfl) ?_
    refine rgp (op_int (k := .i64) (m := x177) (n := ([({ fKind := 1, fWho := y95, fObj := y89, fName := y91, fV := zGVal, fOwn := (⟨y99, y103, y107, y111⟩ : A4 Int) } : GEvent), ({ fKind := 2, fWho := y121, fObj := y115, fName := y117, fV := y125, fOwn := (⟨0, 0, 0, 0⟩ : A4 Int) } : GEvent), ({ fKind := 3, fWho := y135, fObj := y129, fName := y131, fV := zGVal, fOwn := (⟨0, 0, 0, 0⟩ : A4 Int) } : GEvent), ({ fKind := 4, fWho := y139, fObj := 0, fName := [], fV := y143, fOwn := (⟨0, 0, 0, 0⟩ : A4 Int) } : GEvent), ({ fKind := 5, fWho := y155, fObj := y147, fName := [], fV := zGVal, fOwn := (⟨y151, 0, 0, 0⟩ : A4 Int) } : GEvent), ({ fKind := 6, fWho := y163, fObj := y159, fName := [], fV := zGVal, fOwn := (⟨0, 0, 0, 0⟩ : A4 Int) } : GEvent)].length : Int)) rfl rfl rfl rfl rfl rfl) ?_
    refine reg_nil ?_
    refine post_imp (s' := ⟨123, [(0, some (.pv (.str a0))), (2, some (.lp 0 0)), (5, some (.pv (.vs 10 (List.map eGEvent [({ fKind := 1, fWho := y95, fObj := y89, fName := y91, fV := zGVal, fOwn := (⟨y99, y103, y107, y111⟩ : A4 Int) } : GEvent), ({ fKind := 2, fWho := y121, fObj := y115, fName := y117, fV := y125, fOwn := (⟨0, 0, 0, 0⟩ : A4 Int) } : GEvent), ({ fKind := 3, fWho := y135, fObj := y129, fName := y131, fV := zGVal, fOwn := (⟨0, 0, 0, 0⟩ : A4 Int) } : GEvent), ({ fKind := 4, fWho := y139, fObj := 0, fName := [], fV := y143, fOwn := (⟨0, 0, 0, 0⟩ : A4 Int) } : GEvent), ({ fKind := 5, fWho := y155, fObj := y147, fName := [], fV := zGVal, fOwn := (⟨y151, 0, 0, 0⟩ : A4 Int) } : GEvent), ({ fKind := 6, fWho := y163, fObj := y159, fName := [], fV := zGVal, fOwn := (⟨0, 0, 0, 0⟩ : A4 Int) } : GEvent)])))), (6, some (.pv (.int .i64 x177))), (104, some (.pv (.bool (decide (x177 < ([({ fKind := 1, fWho := y95, fObj := y89, fName := y91, fV := zGVal, fOwn := (⟨y99, y103, y107, y111⟩ : A4 Int) } : GEvent), ({ fKind := 2, fWho := y121, fObj := y115, fName := y117, fV := y125, fOwn := (⟨0, 0, 0, 0⟩ : A4 Int) } : GEvent), ({ fKind := 3, fWho := y135, fObj := y129, fName := y131, fV := zGVal, fOwn := (⟨0, 0, 0, 0⟩ : A4 Int) } : GEvent), ({ fKind := 4, fWho := y139, fObj := 0, fName := [], fV := y143, fOwn := (⟨0, 0, 0, 0⟩ : A4 Int) } : GEvent), ({ fKind := 5, fWho := y155, fObj := y147, fName := [], fV := zGVal, fOwn := (⟨y151, 0, 0, 0⟩ : A4 Int) } : GEvent), ({ fKind := 6, fWho := y163, fObj := y159, fName := [], fV := zGVal, fOwn := (⟨0, 0, 0, 0⟩ : A4 Int) } : GEvent)].length : Int))))))], [(0, some (.box 27 (bxv (eGEvent zGEvent))))], 1, [], [], 0, []⟩) (imps [0] ⟨by kernel_rfl, by kernel_rfl, by kernel_rfl, by kernel_rfl, by kernel_rfl, trivial⟩ ⟨by kernel_rfl, trivial⟩) ?_
    refine post_next ?_
    rcases ite_some hF with ⟨hb191, hF⟩ | ⟨hb191, hF⟩
    · refine aw_cond_t rfl hb191 ?_
      refine aw_skip ?_
      refine post_next ?_
      refine aw_seq ?_
      refine aw_block ?_
      refine aw_seq ?_
      obtain ⟨x197, hF, hK199⟩ := bind_some hF
      refine aw_cut (fun s1 => s1 = ⟨123, [(0, some (.pv (.str a0))), (2, some (.lp 0 0)), (5, some (.pv (.vs 10 (List.map eGEvent [({ fKind := 1, fWho := y95, fObj := y89, fName := y91, fV := zGVal, fOwn := (⟨y99, y103, y107, y111⟩ : A4 Int) } : GEvent), ({ fKind := 2, fWho := y121, fObj := y115, fName := y117, fV := y125, fOwn := (⟨0, 0, 0, 0⟩ : A4 Int) } : GEvent), ({ fKind := 3, fWho := y135, fObj := y129, fName := y131, fV := zGVal, fOwn := (⟨0, 0, 0, 0⟩ : A4 Int) } : GEvent), ({ fKind := 4, fWho := y139, fObj := 0, fName := [], fV := y143, fOwn := (⟨0, 0, 0, 0⟩ : A4 Int) } : GEvent), ({ fKind := 5, fWho := y155, fObj := y147, fName := [], fV := zGVal, fOwn := (⟨y151, 0, 0, 0⟩ : A4 Int) } : GEvent), ({ fKind := 6, fWho := y163, fObj := y159, fName := [], fV := zGVal, fOwn := (⟨0, 0, 0, 0⟩ : A4 Int) } : GEvent)])))), (6, some (.pv (.int .i64 x177))), (117, some (.pv (.bool x197)))], [(0, some (.box 27 (bxv (eGEvent zGEvent))))], 1, [], [], 0, []⟩) ?_ ?_
      · refine aw_region ?_
        refine rmv ?_
        refine rgp (op_str rfl rfl rfl rfl rfl rfl) ?_
        refine rmv ?_
        rcases ite_some hF with ⟨hb192, hF⟩ | ⟨hb192, hF⟩
        · refine rgn hb192 (op_move rfl rfl rfl rfl) ?_
          refine rgn hb192 (op_move rfl rfl rfl rfl) ?_
          obtain ⟨y193, h194, hF⟩ := bind_some hF
          refine rgn hb192 (op_index_vs (k := .i64) rfl rfl rfl (idx_map eGEvent h194) Tryd_slc_30 rfl rfl) ?_
          refine rgn hb192 (op_load_vp_agg (ps := eGEvent y193) rfl rfl rfl rfl Tryd_agg_27 rfl rfl) ?_
          obtain ⟨y195, h196, hF⟩ := bind_some hF
          refine rgn hb192 (op_call 1 rfl (caps := []) (args := [.agg (eGEvent y193)]) (rs := [.p (.str y195)]) rfl rfl rfl Tryd_cal_15 (ref42_Text_ok h196) rfl rfl rfl) ?_
          refine rgn hb192 (op_move rfl rfl rfl rfl) ?_
          refine rgn hb192 (op_str rfl rfl rfl rfl rfl rfl) ?_
          refine rpt hb192 ?_
          refine reg_nil ?_
          cases hF
          exact post_cut _ rfl (imps [0] ⟨by kernel_rfl, by kernel_rfl, by kernel_rfl, by kernel_rfl, by kernel_rfl, trivial⟩ ⟨by kernel_rfl, trivial⟩)
        iterate 7 (refine rgo_f hb192 ?_)
        refine rpf hb192 ?_
        refine reg_nil ?_
        cases hF
        exact post_cut _ rfl (imps [0] ⟨by kernel_rfl, by kernel_rfl, by kernel_rfl, by kernel_rfl, by kernel_rfl, trivial⟩ ⟨by kernel_rfl, trivial⟩)
      rintro _ rfl
      have hF := hK199
      clear hK199
      refine post_next ?_
      rcases ite_some hF with ⟨hb200, hF⟩ | ⟨hb200, hF⟩
      · refine aw_cond_t rfl hb200 ?_
        refine aw_seq ?_
        refine aw_region ?_
        iterate 2 (refine rmv ?_)
        obtain ⟨y201, h202, hF⟩ := bind_some hF
        refine rgp (op_index_vs (k := .i64) rfl rfl rfl (idx_map eGEvent h202) Tryd_slc_30 rfl rfl) ?_
        refine rgp (op_load_vp_agg (ps := eGEvent y201) rfl rfl rfl rfl Tryd_agg_27 rfl rfl) ?_
        refine rgp (op_store_lp (n := 10) rfl rfl rfl rfl rfl (or_agg Tryd_agg_27) (by rw [Tryd_non_27]; rfl) rfl rfl rfl) ?_
        refine ras ?_
        refine reg_nil ?_
        refine post_imp (s' := ⟨123, [(2, some (.lp 0 0)), (3, some (.pv (.bool true)))], [(0, some (.box 27 (bxv (eGEvent y201))))], 1, [], [], 0, []⟩) (imps [0] ⟨by kernel_rfl, by kernel_rfl, trivial⟩ ⟨by kernel_rfl, trivial⟩) ?_
        refine post_next ?_
        refine aw_ret ?_
        refine post_block_ret ?_
        iterate 2 (refine post_then_ret ?_)
        refine post_lp_ret ?_
        obtain rfl := Option.some.inj hF
        have hF := elim_stop hK205
        refine post_then_ret ?_
        obtain rfl := Option.some.inj hF
        exact post_ret rfl rfl (.cons _ _ _ _ _ (.agg _ _ _ _ _ 10 _ _ rfl rfl Tryd_agg_27 rfl rfl rfl) (.p _) (.cons _ _ _ _ _ (.tmp _ _ rfl) (.p _) .nil)) (.inl rfl)
      refine aw_cond_f rfl hb200 ?_
      refine aw_skip ?_
      refine post_block_normal ?_
      refine post_next ?_
      refine aw_region ?_
      refine rmv ?_
      refine rgp (op_int (k := .i64) (m := x177) (n := 1) rfl rfl rfl rfl rfl rfl) ?_
      refine ras ?_
      refine reg_nil ?_
      refine post_round ?_
      exact rnd_back (ih (w_i64 (x177 + 1)) hF) (imps [0] ⟨by kernel_rfl, by kernel_rfl, by kernel_rfl, by kernel_rfl, trivial⟩ ⟨by kernel_rfl, trivial⟩)
    refine aw_cond_f rfl hb191 ?_
    refine aw_exit ?_
    iterate 2 (refine post_then_exit ?_)
    obtain rfl := Option.some.inj hF
    exact post_lp_break _ ⟨_, rfl, rfl⟩ (imps [0] ⟨by kernel_rfl, trivial⟩ ⟨by kernel_rfl, trivial⟩)
  rintro _ ⟨⟨⟩, rfl, rfl⟩
  have hF := elim_next hK205
  clear hK205
  refine post_next ?_
  refine aw_seq ?_
  refine aw_region ?_
  refine rgp (op_build (zs := (eGEvent zGEvent)) (r := eGEvent ({ fKind := 0, fWho := 0, fObj := 0, fName := [], fV := zGVal, fOwn := (⟨0, 0, 0, 0⟩ : A4 Int) } : GEvent)) rfl Tryd_zer_27 (by exact ⟨rfl, rfl, rfl, rfl, rfl, rfl, rfl, rfl, rfl, rfl, trivial⟩) Tryd_plc_27 rfl rfl rfl rfl) ?_
  refine rgp (op_store_lp (n := 10) rfl rfl rfl rfl rfl (or_agg Tryd_agg_27) (by rw [Tryd_non_27]; rfl) rfl rfl rfl) ?_
  refine ras ?_
  refine reg_nil ?_
  refine post_imp (s' := ⟨123, [(2, some (.lp 0 0)), (3, some (.pv (.bool false)))], [(0, some (.box 27 (bxv (eGEvent ({ fKind := 0, fWho := 0, fObj := 0, fName := [], fV := zGVal, fOwn := (⟨0, 0, 0, 0⟩ : A4 Int) } : GEvent)))))], 1, [], [], 0, []⟩) (imps [0] ⟨by kernel_rfl, by kernel_rfl, trivial⟩ ⟨by kernel_rfl, trivial⟩) ?_
  refine post_next ?_
  refine aw_ret ?_
  obtain rfl := Option.some.inj hF
  exact post_ret rfl rfl (.cons _ _ _ _ _ (.agg _ _ _ _ _ 10 _ _ rfl rfl Tryd_agg_27 rfl rfl rfl) (.p _) (.cons _ _ _ _ _ (.tmp _ _ rfl) (.p _) .nil)) (.inl rfl)
end Go.Proofs.YtccladleehbmhaaDoor
