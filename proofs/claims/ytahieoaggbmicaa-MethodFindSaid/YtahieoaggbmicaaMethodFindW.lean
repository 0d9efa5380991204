/- A part of the proof that the law MethodFind gives true for every input. -/
import Derived.Test.YtahieoaggbmicaaMethodFindT
import Derived.Test.YtahieoaggbmicaaMethodFindX
import Derived.Test.YtahieoaggbmicaaMethodFindI
import Derived.Test.YtahieoaggbmicaaMethodFindW0
/- Each Go function computes its plain function. -/
namespace Go.Proofs.Ytahieoaggbmicaa
open Go.RowKit Go.Abs
set_option maxRecDepth 100000
set_option maxHeartbeats 4000000
theorem ref14_Chain_ok {a0 : List GClass} {a1 : List UInt8} {r : (List Int)} (hF : ref14_Chain a0 a1 = some r) : Abs.Fn Try.prog 44 [.vs 7 (List.map eGClass a0), .str a1] [.own 3 1 (List.map eI r)] := by
  unfold ref14_Chain at hF
  refine fn_of_body (n := 37) Try.func44 rfl rfl rfl ?_
  intro w O
  refine aw_seq ?_
  refine aw_region ?_
  refine ras ?_
  refine reg_nil ?_
  refine post_imp (s' := ⟨37, [(0, some (.pv (.vs 7 (List.map eGClass a0)))), (1, some (.pv (.str a1)))], [], 0, [], [], 0, []⟩) (imps [] ⟨by kernel_rfl, by kernel_rfl, trivial⟩ trivial) ?_
  refine post_next ?_
  refine aw_seq ?_
  refine aw_region ?_
  refine ras ?_
  refine reg_imp (imp_nil_own 5 3 1 0 rfl rfl) ?_
  refine reg_nil ?_
  refine post_imp (s' := ⟨37, [(0, some (.pv (.vs 7 (List.map eGClass a0)))), (1, some (.pv (.str a1))), (5, some (.ls 0))], [(0, some (.row 3 1 (List.map eI [])))], 1, [], [], 0, []⟩) (imps [0] ⟨by kernel_rfl, by kernel_rfl, by kernel_rfl, trivial⟩ ⟨by kernel_rfl, trivial⟩) ?_
  refine post_next ?_
  refine aw_seq ?_
  refine aw_region ?_
  iterate 2 (refine rmv ?_)
  obtain ⟨y3, h4, hF⟩ := bind_some hF
  refine reg_cons (guard_no rfl) (op_call 1 rfl (caps := []) (args := [.vs 7 (List.map eGClass a0), .str a1]) (rs := [.p (.int .i64 y3)]) rfl rfl rfl Try_cal_50 (ref13_Find_ok h4) rfl rfl rfl) ?_
  refine ras ?_
  refine reg_nil ?_
  refine post_imp (s' := ⟨37, [(0, some (.pv (.vs 7 (List.map eGClass a0)))), (5, some (.ls 0)), (6, some (.pv (.int .i64 y3)))], [(0, some (.row 3 1 (List.map eI [])))], 1, [], [], 0, []⟩) (imps [0] ⟨by kernel_rfl, by kernel_rfl, by kernel_rfl, trivial⟩ ⟨by kernel_rfl, trivial⟩) ?_
  refine post_next ?_
  refine aw_seq ?_
  obtain ⟨lr72, hF, hK73⟩ := bind_some hF
  refine aw_for (a0.length + 2) (fun s1 => ∃ q, lr72 = .next q ∧ s1 = ⟨37, [(5, some (.ls 0))], [(0, some (.row 3 1 (List.map eI q)))], 1, [], [], 0, []⟩) ?_ ?_
  · refine rnd_loop (α := (List Int) × Int) (fun q => ⟨37, [(0, some (.pv (.vs 7 (List.map eGClass a0)))), (5, some (.ls 0)), (6, some (.pv (.int .i64 q.2)))], [(0, some (.row 3 1 (List.map eI q.1)))], 1, [], [], 0, []⟩) (fun k q => ref14_Chain_L1 a0 k q.1 q.2 = some lr72) ([], y3) (imps [0] ⟨by kernel_rfl, by kernel_rfl, by kernel_rfl, trivial⟩ ⟨by kernel_rfl, trivial⟩) hF (fun q h => by cases h) ?_
    clear hF
    rintro k ⟨x25, x26⟩ hF ih
    refine rnd_succ ?_
    iterate 2 (refine aw_seq ?_)
    obtain ⟨x52, hF, hK54⟩ := bind_some hF
    refine aw_cut (fun s1 => s1 = ⟨37, [(0, some (.pv (.vs 7 (List.map eGClass a0)))), (5, some (.ls 0)), (6, some (.pv (.int .i64 x26))), (17, some (.pv (.bool x52)))], [(0, some (.row 3 1 (List.map eI x25)))], 1, [], [], 0, []⟩) ?_ ?_
    · refine aw_region ?_
      refine rmv ?_
      refine reg_cons (guard_no rfl) (op_int (k := .i64) (m := x26) (n := 0) rfl rfl rfl rfl rfl rfl) ?_
      refine rmv ?_
      rcases ite_some hF with ⟨hb49, hF⟩ | ⟨hb49, hF⟩
      · refine reg_cons (guard_on rfl rfl rfl rfl hb49) (op_move rfl rfl rfl rfl) ?_
        refine reg_cons (guard_on rfl rfl rfl rfl hb49) (op_move rfl rfl rfl rfl) ?_
        obtain ⟨y50, h51, hF⟩ := bind_some hF
        refine reg_cons (guard_on rfl rfl rfl rfl hb49) (op_callB 1 rfl (caps := []) (args := [.vs 1 (List.map eI x25), .int .i64 x26]) [(0, some (.row 3 1 (List.map eI x25)))] rfl rfl rfl (FzH.spec ⟨rfl, trivial⟩) rfl rfl Try_cal_49 (ref14_has_ok h51) rfl rfl rfl) ?_
        refine reg_cons (guard_on rfl rfl rfl rfl hb49) (op_not rfl rfl rfl rfl) ?_
        refine rpt hb49 ?_
        refine reg_nil ?_
        cases hF
        exact post_cut _ rfl (imps [0] ⟨by kernel_rfl, by kernel_rfl, by kernel_rfl, by kernel_rfl, trivial⟩ ⟨by kernel_rfl, trivial⟩)
      iterate 4 (refine rgo_f hb49 ?_)
      refine rpf hb49 ?_
      refine reg_nil ?_
      cases hF
      exact post_cut _ rfl (imps [0] ⟨by kernel_rfl, by kernel_rfl, by kernel_rfl, by kernel_rfl, trivial⟩ ⟨by kernel_rfl, trivial⟩)
    rintro _ rfl
    have hF := hK54
    clear hK54
    refine post_next ?_
    rcases ite_some hF with ⟨hb55, hF⟩ | ⟨hb55, hF⟩
    · refine aw_cond_t rfl hb55 ?_
      refine aw_skip ?_
      refine post_next ?_
      refine aw_block ?_
      refine aw_seq ?_
      refine aw_region ?_
      iterate 2 (refine rmv ?_)
      refine reg_cons (guard_no rfl) (op_lit (rows := List.map eI ([x26] : List Int)) (zs := [.int .i64 0]) rfl rfl Try_slc_86 Try_zer_3 (by exact ⟨rfl, trivial⟩) rfl rfl rfl rfl rfl rfl rfl rfl) ?_
      obtain ⟨u58, h59, hF⟩ := bind_some hF
      refine reg_cons (guard_no rfl) (op_append 1 rfl rfl rfl rfl rfl Try_slc_86 Try_elm_3 Try_zer_3 rfl rfl rfl (room_map (f := eI) (g := eI) h59) (List.map_append (f := eI) (l₁ := x25) (l₂ := [x26])).symm rfl rfl) ?_
      refine ras ?_
      refine reg_nil ?_
      refine post_imp (s' := ⟨37, [(0, some (.pv (.vs 7 (List.map eGClass a0)))), (5, some (.ls 0)), (6, some (.pv (.int .i64 x26)))], [(0, some (.row 3 1 (List.map eI (x25 ++ [x26]))))], 1, [], [], 0, []⟩) (imps [1] ⟨by kernel_rfl, by kernel_rfl, by kernel_rfl, trivial⟩ ⟨by kernel_rfl, trivial⟩) ?_
      refine post_next ?_
      iterate 2 (refine aw_seq ?_)
      refine aw_region ?_
      iterate 2 (refine rmv ?_)
      obtain ⟨y62, h63, hF⟩ := bind_some hF
      refine reg_cons (guard_no rfl) (op_index_vs (k := .i64) rfl rfl rfl (idx_map eGClass h63) Try_slc_22 rfl rfl) ?_
      refine reg_cons (guard_no rfl) (op_field_vp rfl rfl Try_fld_56_2 rfl rfl) ?_
      refine reg_cons (guard_no rfl) (op_load_vp (p := .str y62.fSuper) rfl rfl rfl Try_one_9 rfl rfl) ?_
      refine reg_cons (guard_no rfl) (op_str rfl rfl rfl rfl rfl rfl) ?_
      refine reg_nil ?_
      refine post_imp (s' := ⟨37, [(0, some (.pv (.vs 7 (List.map eGClass a0)))), (5, some (.ls 0)), (6, some (.pv (.int .i64 x26))), (27, some (.pv (.bool (y62.fSuper == []))))], [(0, some (.row 3 1 (List.map eI (x25 ++ [x26]))))], 1, [], [], 0, []⟩) (imps [0] ⟨by kernel_rfl, by kernel_rfl, by kernel_rfl, by kernel_rfl, trivial⟩ ⟨by kernel_rfl, trivial⟩) ?_
      refine post_next ?_
      rcases ite_some hF with ⟨hb64, hF⟩ | ⟨hb64, hF⟩
      · refine aw_cond_t rfl hb64 ?_
        refine aw_seq ?_
        refine aw_region ?_
        refine rmv ?_
        refine ras ?_
        refine reg_nil ?_
        refine post_imp (s' := ⟨37, [(4, some (.ls 0))], [(0, some (.row 3 1 (List.map eI (x25 ++ [x26]))))], 1, [], [], 0, []⟩) (imps [0] ⟨by kernel_rfl, trivial⟩ ⟨by kernel_rfl, trivial⟩) ?_
        refine post_next ?_
        refine aw_ret ?_
        refine post_then_ret ?_
        refine post_block_ret ?_
        refine post_then_ret ?_
        refine post_lp_ret ?_
        obtain rfl := Option.some.inj hF
        have hF := elim_stop hK73
        refine post_then_ret ?_
        obtain rfl := Option.some.inj hF
        exact post_ret rfl rfl (.cons _ _ _ _ _ (.tmp _ _ rfl) (.own _ _ _ _ rfl nolent3) .nil) (.inl rfl)
      refine aw_cond_f rfl hb64 ?_
      refine aw_skip ?_
      refine post_next ?_
      refine aw_region ?_
      iterate 3 (refine rmv ?_)
      obtain ⟨y65, h66, hF⟩ := bind_some hF
      refine reg_cons (guard_no rfl) (op_index_vs (k := .i64) rfl rfl rfl (idx_map eGClass h66) Try_slc_22 rfl rfl) ?_
      refine reg_cons (guard_no rfl) (op_field_vp rfl rfl Try_fld_56_2 rfl rfl) ?_
      refine reg_cons (guard_no rfl) (op_load_vp (p := .str y65.fSuper) rfl rfl rfl Try_one_9 rfl rfl) ?_
      obtain ⟨y67, h68, hF⟩ := bind_some hF
      refine reg_cons (guard_no rfl) (op_call 1 rfl (caps := []) (args := [.vs 7 (List.map eGClass a0), .str y65.fSuper]) (rs := [.p (.int .i64 y67)]) rfl rfl rfl Try_cal_50 (ref13_Find_ok h68) rfl rfl rfl) ?_
      refine ras ?_
      refine reg_nil ?_
      refine post_imp (s' := ⟨37, [(0, some (.pv (.vs 7 (List.map eGClass a0)))), (5, some (.ls 0)), (6, some (.pv (.int .i64 y67)))], [(0, some (.row 3 1 (List.map eI (x25 ++ [x26]))))], 1, [], [], 0, []⟩) (imps [0] ⟨by kernel_rfl, by kernel_rfl, by kernel_rfl, trivial⟩ ⟨by kernel_rfl, trivial⟩) ?_
      refine post_block_normal ?_
      refine post_round ?_
      exact rnd_back (ih ((x25 ++ [x26]), y67) hF) (imps [0] ⟨by kernel_rfl, by kernel_rfl, by kernel_rfl, trivial⟩ ⟨by kernel_rfl, trivial⟩)
    refine aw_cond_f rfl hb55 ?_
    refine aw_exit ?_
    iterate 2 (refine post_then_exit ?_)
    obtain rfl := Option.some.inj hF
    exact post_lp_break _ ⟨_, rfl, rfl⟩ (imps [0] ⟨by kernel_rfl, trivial⟩ ⟨by kernel_rfl, trivial⟩)
  rintro _ ⟨x71, rfl, rfl⟩
  have hF := elim_next hK73
  clear hK73
  refine post_next ?_
  refine aw_seq ?_
  refine aw_region ?_
  refine rmv ?_
  refine ras ?_
  refine reg_nil ?_
  refine post_imp (s' := ⟨37, [(4, some (.ls 0))], [(0, some (.row 3 1 (List.map eI x71)))], 1, [], [], 0, []⟩) (imps [0] ⟨by kernel_rfl, trivial⟩ ⟨by kernel_rfl, trivial⟩) ?_
  refine post_next ?_
  refine aw_ret ?_
  obtain rfl := Option.some.inj hF
  exact post_ret rfl rfl (.cons _ _ _ _ _ (.tmp _ _ rfl) (.own _ _ _ _ rfl nolent3) .nil) (.inl rfl)
theorem ref17_own_ok {a0 : GClass} {a1 : List UInt8} {r : GFound_ref17 × Bool} (hF : ref17_own a0 a1 = some r) : Abs.Fn Try.prog 68 [.agg (eGClass a0), .str a1] [.p (.agg (eGFound_ref17 r.1)), .p (.bool r.2)] := by
  unfold ref17_own at hF
  refine fn_of_body (n := 31) Try.func68 rfl rfl rfl ?_
  intro w O
  refine aw_seq ?_
  refine aw_region ?_
  refine reg_cons (guard_no rfl) (op_box 0 rfl rfl rfl rfl rfl rfl) ?_
  refine reg_cons (guard_no rfl) (op_alloc 1 rfl (ps := (eGFound_ref17 zGFound_ref17)) rfl Try_zer_38 (by exact ⟨rfl, rfl, rfl, rfl, rfl, rfl, rfl, rfl, rfl, rfl, rfl, rfl, rfl, rfl, trivial, trivial, trivial, rfl, trivial⟩) rfl rfl) ?_
  refine ras ?_
  refine reg_nil ?_
  refine post_imp (s' := ⟨31, [(1, some (.pv (.str a1))), (2, some (.lp 0 0)), (4, some (.lp 1 0))], [(0, some (.box 56 (bxv (eGClass a0)))), (1, some (.box 38 (bxv (eGFound_ref17 zGFound_ref17))))], 2, [], [], 0, []⟩) (imps [0, 1] ⟨by kernel_rfl, by kernel_rfl, by kernel_rfl, trivial⟩ ⟨by kernel_rfl, by kernel_rfl, trivial⟩) ?_
  refine post_next ?_
  iterate 2 (refine aw_seq ?_)
  refine aw_region ?_
  refine ras ?_
  refine reg_nil ?_
  refine post_imp (s' := ⟨31, [(1, some (.pv (.str a1))), (2, some (.lp 0 0)), (4, some (.lp 1 0)), (6, some (.pv (.int .i64 0)))], [(0, some (.box 56 (bxv (eGClass a0)))), (1, some (.box 38 (bxv (eGFound_ref17 zGFound_ref17))))], 2, [], [], 0, []⟩) (imps [0, 1] ⟨by kernel_rfl, by kernel_rfl, by kernel_rfl, by kernel_rfl, trivial⟩ ⟨by kernel_rfl, by kernel_rfl, trivial⟩) ?_
  refine post_next ?_
  obtain ⟨lr28, hF, hK29⟩ := bind_some hF
  refine aw_for ((((a0.fMethods.length : Int) : Int) - (0)).toNat + 1) (fun s1 => ∃ q, lr28 = .next q ∧ s1 = ⟨31, [(4, some (.lp 0 0))], [(0, some (.box 38 (bxv (eGFound_ref17 zGFound_ref17))))], 1, [], [], 0, []⟩) ?_ ?_
  · refine rnd_loop (α := Int) (fun q => ⟨31, [(1, some (.pv (.str a1))), (2, some (.lp 0 0)), (4, some (.lp 1 0)), (6, some (.pv (.int .i64 q)))], [(0, some (.box 56 (bxv (eGClass a0)))), (1, some (.box 38 (bxv (eGFound_ref17 zGFound_ref17))))], 2, [], [], 0, []⟩) (fun k q => ref17_own_L1 a0 a1 k q = some lr28) 0 (imps [0, 1] ⟨by kernel_rfl, by kernel_rfl, by kernel_rfl, by kernel_rfl, trivial⟩ ⟨by kernel_rfl, by kernel_rfl, trivial⟩) hF (fun q h => by cases h) ?_
    clear hF
    rintro k x9 hF ih
    refine rnd_succ ?_
    iterate 2 (refine aw_seq ?_)
    refine aw_region ?_
    refine rmv ?_
    refine reg_cons (guard_no rfl) (op_field_lp rfl rfl Try_fld_56_5 rfl rfl) ?_
    refine reg_cons (guard_no rfl) (op_load_lp (v := .pv (.vs 17 (List.map eGMethod a0.fMethods))) rfl rfl rfl rfl Try_one_54 rfl rfl) ?_
    refine reg_cons (guard_no rfl) (op_len_vs (n := a0.fMethods.length) rfl rfl (List.length_map ..) Try_slc_54 rfl rfl) ?_
    refine reg_cons (guard_no rfl) (op_int (k := .i64) (m := x9) (n := (a0.fMethods.length : Int)) rfl rfl rfl rfl rfl rfl) ?_
    refine reg_nil ?_
    refine post_imp (s' := ⟨31, [(1, some (.pv (.str a1))), (2, some (.lp 0 0)), (4, some (.lp 1 0)), (6, some (.pv (.int .i64 x9))), (11, some (.pv (.bool (decide (x9 < (a0.fMethods.length : Int))))))], [(0, some (.box 56 (bxv (eGClass a0)))), (1, some (.box 38 (bxv (eGFound_ref17 zGFound_ref17))))], 2, [], [], 0, []⟩) (imps [0, 1] ⟨by kernel_rfl, by kernel_rfl, by kernel_rfl, by kernel_rfl, by kernel_rfl, trivial⟩ ⟨by kernel_rfl, by kernel_rfl, trivial⟩) ?_
    refine post_next ?_
    rcases ite_some hF with ⟨hb19, hF⟩ | ⟨hb19, hF⟩
    · refine aw_cond_t rfl hb19 ?_
      refine aw_skip ?_
      refine post_next ?_
      refine aw_seq ?_
      refine aw_block ?_
      refine aw_seq ?_
      refine aw_region ?_
      refine reg_cons (guard_no rfl) (op_field_lp rfl rfl Try_fld_56_5 rfl rfl) ?_
      refine reg_cons (guard_no rfl) (op_load_lp (v := .pv (.vs 17 (List.map eGMethod a0.fMethods))) rfl rfl rfl rfl Try_one_54 rfl rfl) ?_
      refine rmv ?_
      obtain ⟨y22, h23, hF⟩ := bind_some hF
      refine reg_cons (guard_no rfl) (op_index_vs (k := .i64) rfl rfl rfl (idx_map eGMethod h23) Try_slc_54 rfl rfl) ?_
      refine reg_cons (guard_no rfl) (op_field_vp rfl rfl Try_fld_33_0 rfl rfl) ?_
      refine reg_cons (guard_no rfl) (op_load_vp (p := .str y22.fName) rfl rfl rfl Try_one_9 rfl rfl) ?_
      refine rmv ?_
      refine reg_cons (guard_no rfl) (op_str rfl rfl rfl rfl rfl rfl) ?_
      refine reg_nil ?_
      refine post_imp (s' := ⟨31, [(1, some (.pv (.str a1))), (2, some (.lp 0 0)), (4, some (.lp 1 0)), (6, some (.pv (.int .i64 x9))), (21, some (.pv (.bool (y22.fName == a1))))], [(0, some (.box 56 (bxv (eGClass a0)))), (1, some (.box 38 (bxv (eGFound_ref17 zGFound_ref17))))], 2, [], [], 0, []⟩) (imps [0, 1] ⟨by kernel_rfl, by kernel_rfl, by kernel_rfl, by kernel_rfl, by kernel_rfl, trivial⟩ ⟨by kernel_rfl, by kernel_rfl, trivial⟩) ?_
      refine post_next ?_
      rcases ite_some hF with ⟨hb24, hF⟩ | ⟨hb24, hF⟩
      · refine aw_cond_t rfl hb24 ?_
        refine aw_seq ?_
        refine dr_start ⟨_, _, _⟩ rfl ?_
        refine dr_cons { need := [(2, .lp 0 0)], dst := some 22, val := some (.lp 0 0) } (fun m h => step_on (guard_no rfl) (op_field_lp rfl h.1.1 Try_fld_56_0 rfl rfl) rfl) ⟨⟨rfl, trivial⟩, trivial, trivial⟩ ?_
        refine dr_cons { need := [(22, .lp 0 0)], hneed := [(0, .box 56 (bxv (eGClass a0)))], dst := some 23, val := some (.pv (.str a0.fName)) } (fun m h => step_on (guard_no rfl) (op_load_lp (v := .pv (.str a0.fName)) rfl h.1.1 h.2.1.1 rfl Try_one_9 rfl rfl) rfl) ⟨⟨rfl, trivial⟩, ⟨rfl, trivial⟩, trivial⟩ ?_
        refine dr_cons { need := [(2, .lp 0 0)], dst := some 24, val := some (.lp 0 5) } (fun m h => step_on (guard_no rfl) (op_field_lp rfl h.1.1 Try_fld_56_5 rfl rfl) rfl) ⟨⟨rfl, trivial⟩, trivial, trivial⟩ ?_
        refine dr_cons { need := [(24, .lp 0 5)], hneed := [(0, .box 56 (bxv (eGClass a0)))], dst := some 25, val := some (.pv (.vs 17 (List.map eGMethod a0.fMethods))) } (fun m h => step_on (guard_no rfl) (op_load_lp (v := .pv (.vs 17 (List.map eGMethod a0.fMethods))) rfl h.1.1 h.2.1.1 rfl Try_one_54 rfl rfl) rfl) ⟨⟨rfl, trivial⟩, ⟨rfl, trivial⟩, trivial⟩ ?_
        refine drm ?_
        obtain ⟨y25, h26, hF⟩ := bind_some hF
        refine dr_cons { need := [(25, .pv (.vs 17 (List.map eGMethod a0.fMethods))), (26, .pv (.int .i64 x9))], dst := some 27, val := some (.pv (.vp (eGMethod y25))) } (fun m h => step_on (guard_no rfl) (op_index_vs (k := .i64) rfl h.1.1 h.1.2.1 (idx_map eGMethod h26) Try_slc_54 rfl rfl) rfl) ⟨⟨rfl, rfl, trivial⟩, trivial, trivial⟩ ?_
        refine dr_cons { need := [(27, .pv (.vp (eGMethod y25)))], dst := some 28, val := some (.pv (.agg (eGMethod y25))) } (fun m h => step_on (guard_no rfl) (op_load_vp_agg (ps := eGMethod y25) rfl h.1.1 rfl rfl Try_agg_33 rfl rfl) rfl) ⟨⟨rfl, trivial⟩, trivial, trivial⟩ ?_
        refine dr_cons { need := [(28, .pv (.agg (eGMethod y25))), (23, .pv (.str a0.fName))], dst := some 29, val := some (.pv (.agg (eGFound_ref17 ({ fClass := a0.fName, fMethod := y25 } : GFound_ref17)))) } (fun m h => step_on (guard_no rfl) (op_build (zs := (eGFound_ref17 zGFound_ref17)) (r := eGFound_ref17 ({ fClass := a0.fName, fMethod := y25 } : GFound_ref17)) rfl Try_zer_38 (by exact ⟨rfl, rfl, rfl, rfl, rfl, rfl, rfl, rfl, rfl, rfl, rfl, rfl, rfl, rfl, trivial, trivial, trivial, rfl, trivial⟩) Try_plc_38 (evs_cons h.1.2.1 (evs_cons h.1.1 evs_nil)) rfl rfl rfl) rfl) ⟨⟨rfl, rfl, trivial⟩, trivial, trivial⟩ ?_
        refine dr_cons { need := [(4, .lp 1 0), (29, .pv (.agg (eGFound_ref17 ({ fClass := a0.fName, fMethod := y25 } : GFound_ref17))))], hneed := [(1, .box 38 (bxv (eGFound_ref17 zGFound_ref17)))], upd := [(1, some (.box 38 (bxv (eGFound_ref17 ({ fClass := a0.fName, fMethod := y25 } : GFound_ref17)))))] } (fun m h => step_on (guard_no rfl) (op_store_lp (n := 18) rfl h.1.1 h.1.2.1 rfl h.2.1.1 (or_agg Try_agg_38) (by rw [Try_non_38]; rfl) rfl rfl rfl) rfl) ⟨⟨rfl, rfl, trivial⟩, ⟨rfl, trivial⟩, trivial⟩ ?_
        refine dr_cons { dst := some 5, val := some (.pv (.bool true)) } (fun m h => step_on (guard_no rfl) (op_assign rfl rfl rfl rfl) rfl) ⟨trivial, trivial, trivial⟩ ?_
        refine dr_nil Try_mixed rfl (by kernel_rfl) ?_
        refine post_imp (s' := ⟨31, [(4, some (.lp 0 0)), (5, some (.pv (.bool true)))], [(0, some (.box 38 (bxv (eGFound_ref17 ({ fClass := a0.fName, fMethod := y25 } : GFound_ref17)))))], 1, [], [], 0, []⟩) (imps [1] ⟨by kernel_rfl, by kernel_rfl, trivial⟩ ⟨by kernel_rfl, trivial⟩) ?_
        refine post_next ?_
        refine aw_ret ?_
        refine post_block_ret ?_
        iterate 2 (refine post_then_ret ?_)
        refine post_lp_ret ?_
        obtain rfl := Option.some.inj hF
        have hF := elim_stop hK29
        refine post_then_ret ?_
        obtain rfl := Option.some.inj hF
        exact post_ret rfl rfl (.cons _ _ _ _ _ (.agg _ _ _ _ _ 18 _ _ rfl rfl Try_agg_38 rfl rfl rfl) (.p _) (.cons _ _ _ _ _ (.tmp _ _ rfl) (.p _) .nil)) (.inl rfl)
      refine aw_cond_f rfl hb24 ?_
      refine aw_skip ?_
      refine post_block_normal ?_
      refine post_next ?_
      refine aw_region ?_
      refine rmv ?_
      refine reg_cons (guard_no rfl) (op_int (k := .i64) (m := x9) (n := 1) rfl rfl rfl rfl rfl rfl) ?_
      refine ras ?_
      refine reg_nil ?_
      refine post_round ?_
      exact rnd_back (ih (w_i64 (x9 + 1)) hF) (imps [0, 1] ⟨by kernel_rfl, by kernel_rfl, by kernel_rfl, by kernel_rfl, trivial⟩ ⟨by kernel_rfl, by kernel_rfl, trivial⟩)
    refine aw_cond_f rfl hb19 ?_
    refine aw_exit ?_
    iterate 2 (refine post_then_exit ?_)
    obtain rfl := Option.some.inj hF
    exact post_lp_break _ ⟨_, rfl, rfl⟩ (imps [1] ⟨by kernel_rfl, trivial⟩ ⟨by kernel_rfl, trivial⟩)
  rintro _ ⟨⟨⟩, rfl, rfl⟩
  have hF := elim_next hK29
  clear hK29
  refine post_next ?_
  refine aw_seq ?_
  refine aw_region ?_
  refine reg_cons (guard_no rfl) (op_build (zs := (eGFound_ref17 zGFound_ref17)) (r := eGFound_ref17 ({ fClass := [], fMethod := zGMethod } : GFound_ref17)) rfl Try_zer_38 (by exact ⟨rfl, rfl, rfl, rfl, rfl, rfl, rfl, rfl, rfl, rfl, rfl, rfl, rfl, rfl, trivial, trivial, trivial, rfl, trivial⟩) Try_plc_38 rfl rfl rfl rfl) ?_
  refine reg_cons (guard_no rfl) (op_store_lp (n := 18) rfl rfl rfl rfl rfl (or_agg Try_agg_38) (by rw [Try_non_38]; rfl) rfl rfl rfl) ?_
  refine ras ?_
  refine reg_nil ?_
  refine post_imp (s' := ⟨31, [(4, some (.lp 0 0)), (5, some (.pv (.bool false)))], [(0, some (.box 38 (bxv (eGFound_ref17 ({ fClass := [], fMethod := zGMethod } : GFound_ref17)))))], 1, [], [], 0, []⟩) (imps [0] ⟨by kernel_rfl, by kernel_rfl, trivial⟩ ⟨by kernel_rfl, trivial⟩) ?_
  refine post_next ?_
  refine aw_ret ?_
  obtain rfl := Option.some.inj hF
  exact post_ret rfl rfl (.cons _ _ _ _ _ (.agg _ _ _ _ _ 18 _ _ rfl rfl Try_agg_38 rfl rfl rfl) (.p _) (.cons _ _ _ _ _ (.tmp _ _ rfl) (.p _) .nil)) (.inl rfl)
theorem ref17_among_ok {a0 : List GClass} {a1 : List Int} {a2 : List UInt8} {r : GFound_ref17 × Bool} (hF : ref17_among a0 a1 a2 = some r) : Abs.Fn Try.prog 43 [.vs 7 (List.map eGClass a0), .vs 1 (List.map eI a1), .str a2] [.p (.agg (eGFound_ref17 r.1)), .p (.bool r.2)] := by
  unfold ref17_among at hF
  refine fn_of_body (n := 32) Try.func43 rfl rfl rfl ?_
  intro w O
  refine aw_seq ?_
  refine aw_region ?_
  refine reg_cons (guard_no rfl) (op_alloc 0 rfl (ps := (eGFound_ref17 zGFound_ref17)) rfl Try_zer_38 (by exact ⟨rfl, rfl, rfl, rfl, rfl, rfl, rfl, rfl, rfl, rfl, rfl, rfl, rfl, rfl, trivial, trivial, trivial, rfl, trivial⟩) rfl rfl) ?_
  refine ras ?_
  refine reg_nil ?_
  refine post_imp (s' := ⟨32, [(0, some (.pv (.vs 7 (List.map eGClass a0)))), (1, some (.pv (.vs 1 (List.map eI a1)))), (2, some (.pv (.str a2))), (6, some (.lp 0 0))], [(0, some (.box 38 (bxv (eGFound_ref17 zGFound_ref17))))], 1, [], [], 0, []⟩) (imps [0] ⟨by kernel_rfl, by kernel_rfl, by kernel_rfl, by kernel_rfl, trivial⟩ ⟨by kernel_rfl, trivial⟩) ?_
  refine post_next ?_
  iterate 2 (refine aw_seq ?_)
  refine aw_region ?_
  refine ras ?_
  refine reg_nil ?_
  refine post_imp (s' := ⟨32, [(0, some (.pv (.vs 7 (List.map eGClass a0)))), (1, some (.pv (.vs 1 (List.map eI a1)))), (2, some (.pv (.str a2))), (6, some (.lp 0 0)), (8, some (.pv (.int .i64 0)))], [(0, some (.box 38 (bxv (eGFound_ref17 zGFound_ref17))))], 1, [], [], 0, []⟩) (imps [0] ⟨by kernel_rfl, by kernel_rfl, by kernel_rfl, by kernel_rfl, by kernel_rfl, trivial⟩ ⟨by kernel_rfl, trivial⟩) ?_
  refine post_next ?_
  obtain ⟨lr46, hF, hK47⟩ := bind_some hF
  refine aw_for ((((a1.length : Int) : Int) - (0)).toNat + 1) (fun s1 => ∃ q, lr46 = .next q ∧ s1 = ⟨32, [(6, some (.lp 0 0))], [(0, some (.box 38 (bxv (eGFound_ref17 zGFound_ref17))))], 1, [], [], 0, []⟩) ?_ ?_
  · refine rnd_loop (α := Int) (fun q => ⟨32, [(0, some (.pv (.vs 7 (List.map eGClass a0)))), (1, some (.pv (.vs 1 (List.map eI a1)))), (2, some (.pv (.str a2))), (6, some (.lp 0 0)), (8, some (.pv (.int .i64 q)))], [(0, some (.box 38 (bxv (eGFound_ref17 zGFound_ref17))))], 1, [], [], 0, []⟩) (fun k q => ref17_among_L1 a0 a1 a2 k q = some lr46) 0 (imps [0] ⟨by kernel_rfl, by kernel_rfl, by kernel_rfl, by kernel_rfl, by kernel_rfl, trivial⟩ ⟨by kernel_rfl, trivial⟩) hF (fun q h => by cases h) ?_
    clear hF
    rintro k x15 hF ih
    refine rnd_succ ?_
    iterate 2 (refine aw_seq ?_)
    refine aw_region ?_
    iterate 2 (refine rmv ?_)
    refine reg_cons (guard_no rfl) (op_len_vs (n := a1.length) rfl rfl (List.length_map ..) Try_slc_86 rfl rfl) ?_
    refine reg_cons (guard_no rfl) (op_int (k := .i64) (m := x15) (n := (a1.length : Int)) rfl rfl rfl rfl rfl rfl) ?_
    refine reg_nil ?_
    refine post_imp (s' := ⟨32, [(0, some (.pv (.vs 7 (List.map eGClass a0)))), (1, some (.pv (.vs 1 (List.map eI a1)))), (2, some (.pv (.str a2))), (6, some (.lp 0 0)), (8, some (.pv (.int .i64 x15))), (14, some (.pv (.bool (decide (x15 < (a1.length : Int))))))], [(0, some (.box 38 (bxv (eGFound_ref17 zGFound_ref17))))], 1, [], [], 0, []⟩) (imps [0] ⟨by kernel_rfl, by kernel_rfl, by kernel_rfl, by kernel_rfl, by kernel_rfl, by kernel_rfl, trivial⟩ ⟨by kernel_rfl, trivial⟩) ?_
    refine post_next ?_
    rcases ite_some hF with ⟨hb31, hF⟩ | ⟨hb31, hF⟩
    · refine aw_cond_t rfl hb31 ?_
      refine aw_skip ?_
      refine post_next ?_
      refine aw_seq ?_
      refine aw_block ?_
      refine aw_seq ?_
      refine aw_region ?_
      iterate 3 (refine rmv ?_)
      obtain ⟨y38, h39, hF⟩ := bind_some hF
      refine reg_cons (guard_no rfl) (op_index_vs (k := .i64) rfl rfl rfl (idx_map eI h39) Try_slc_86 rfl rfl) ?_
      refine reg_cons (guard_no rfl) (op_load_vp (p := .int .i64 y38) rfl rfl rfl Try_one_3 rfl rfl) ?_
      obtain ⟨y40, h41, hF⟩ := bind_some hF
      refine reg_cons (guard_no rfl) (op_index_vs (k := .i64) rfl rfl rfl (idx_map eGClass h41) Try_slc_22 rfl rfl) ?_
      refine reg_cons (guard_no rfl) (op_load_vp_agg (ps := eGClass y40) rfl rfl rfl rfl Try_agg_56 rfl rfl) ?_
      refine rmv ?_
      obtain ⟨y42, h43, hF⟩ := bind_some hF
      refine reg_cons (guard_no rfl) (op_call 1 rfl (caps := []) (args := [.agg (eGClass y40), .str a2]) (rs := [.p (.agg (eGFound_ref17 y42.1)), .p (.bool y42.2)]) rfl rfl rfl Try_cal_68 (ref17_own_ok h43) rfl rfl rfl) ?_
      refine rmv ?_
      iterate 2 (refine reg_cons (guard_no rfl) (op_extract rfl rfl rfl rfl rfl) ?_)
      refine reg_cons (guard_no rfl) (op_alloc 1 rfl (ps := (eGFound_ref17 zGFound_ref17)) rfl Try_zer_38 (by exact ⟨rfl, rfl, rfl, rfl, rfl, rfl, rfl, rfl, rfl, rfl, rfl, rfl, rfl, rfl, trivial, trivial, trivial, rfl, trivial⟩) rfl rfl) ?_
      refine reg_cons (guard_no rfl) (op_store_lp (n := 18) rfl rfl rfl rfl rfl (or_agg Try_agg_38) (by rw [Try_non_38]; rfl) rfl rfl rfl) ?_
      refine ras ?_
      refine reg_nil ?_
      refine post_imp (s' := ⟨32, [(0, some (.pv (.vs 7 (List.map eGClass a0)))), (1, some (.pv (.vs 1 (List.map eI a1)))), (2, some (.pv (.str a2))), (6, some (.lp 0 0)), (8, some (.pv (.int .i64 x15))), (9, some (.lp 1 0)), (10, some (.pv (.bool y42.2)))], [(0, some (.box 38 (bxv (eGFound_ref17 zGFound_ref17)))), (1, some (.box 38 (bxv (eGFound_ref17 y42.1))))], 2, [], [], 0, []⟩) (imps [0, 1] ⟨by kernel_rfl, by kernel_rfl, by kernel_rfl, by kernel_rfl, by kernel_rfl, by kernel_rfl, by kernel_rfl, trivial⟩ ⟨by kernel_rfl, by kernel_rfl, trivial⟩) ?_
      refine post_next ?_
      refine aw_seq ?_
      refine aw_region ?_
      refine rmv ?_
      refine reg_nil ?_
      refine post_imp (s' := ⟨32, [(0, some (.pv (.vs 7 (List.map eGClass a0)))), (1, some (.pv (.vs 1 (List.map eI a1)))), (2, some (.pv (.str a2))), (6, some (.lp 0 0)), (8, some (.pv (.int .i64 x15))), (9, some (.lp 1 0)), (29, some (.pv (.bool y42.2)))], [(0, some (.box 38 (bxv (eGFound_ref17 zGFound_ref17)))), (1, some (.box 38 (bxv (eGFound_ref17 y42.1))))], 2, [], [], 0, []⟩) (imps [0, 1] ⟨by kernel_rfl, by kernel_rfl, by kernel_rfl, by kernel_rfl, by kernel_rfl, by kernel_rfl, by kernel_rfl, trivial⟩ ⟨by kernel_rfl, by kernel_rfl, trivial⟩) ?_
      refine post_next ?_
      rcases ite_some hF with ⟨hb44, hF⟩ | ⟨hb44, hF⟩
      · refine aw_cond_t rfl hb44 ?_
        refine aw_seq ?_
        refine aw_region ?_
        refine reg_cons (guard_no rfl) (op_load_lp_agg (ps := eGFound_ref17 y42.1) rfl rfl rfl rfl rfl rfl Try_agg_38 rfl rfl) ?_
        refine reg_cons (guard_no rfl) (op_store_lp (n := 18) rfl rfl rfl rfl rfl (or_agg Try_agg_38) (by rw [Try_non_38]; rfl) rfl rfl rfl) ?_
        refine ras ?_
        refine reg_nil ?_
        refine post_imp (s' := ⟨32, [(6, some (.lp 0 0)), (7, some (.pv (.bool true)))], [(0, some (.box 38 (bxv (eGFound_ref17 y42.1))))], 1, [], [], 0, []⟩) (imps [0] ⟨by kernel_rfl, by kernel_rfl, trivial⟩ ⟨by kernel_rfl, trivial⟩) ?_
        refine post_next ?_
        refine aw_ret ?_
        refine post_block_ret ?_
        iterate 2 (refine post_then_ret ?_)
        refine post_lp_ret ?_
        obtain rfl := Option.some.inj hF
        have hF := elim_stop hK47
        refine post_then_ret ?_
        obtain rfl := Option.some.inj hF
        exact post_ret rfl rfl (.cons _ _ _ _ _ (.agg _ _ _ _ _ 18 _ _ rfl rfl Try_agg_38 rfl rfl rfl) (.p _) (.cons _ _ _ _ _ (.tmp _ _ rfl) (.p _) .nil)) (.inl rfl)
      refine aw_cond_f rfl hb44 ?_
      refine aw_skip ?_
      refine post_block_normal ?_
      refine post_next ?_
      refine aw_region ?_
      refine rmv ?_
      refine reg_cons (guard_no rfl) (op_int (k := .i64) (m := x15) (n := 1) rfl rfl rfl rfl rfl rfl) ?_
      refine ras ?_
      refine reg_nil ?_
      refine post_round ?_
      exact rnd_back (ih (w_i64 (x15 + 1)) hF) (imps [0] ⟨by kernel_rfl, by kernel_rfl, by kernel_rfl, by kernel_rfl, by kernel_rfl, trivial⟩ ⟨by kernel_rfl, trivial⟩)
    refine aw_cond_f rfl hb31 ?_
    refine aw_exit ?_
    iterate 2 (refine post_then_exit ?_)
    obtain rfl := Option.some.inj hF
    exact post_lp_break _ ⟨_, rfl, rfl⟩ (imps [0] ⟨by kernel_rfl, trivial⟩ ⟨by kernel_rfl, trivial⟩)
  rintro _ ⟨⟨⟩, rfl, rfl⟩
  have hF := elim_next hK47
  clear hK47
  refine post_next ?_
  refine aw_seq ?_
  refine aw_region ?_
  refine reg_cons (guard_no rfl) (op_build (zs := (eGFound_ref17 zGFound_ref17)) (r := eGFound_ref17 ({ fClass := [], fMethod := zGMethod } : GFound_ref17)) rfl Try_zer_38 (by exact ⟨rfl, rfl, rfl, rfl, rfl, rfl, rfl, rfl, rfl, rfl, rfl, rfl, rfl, rfl, trivial, trivial, trivial, rfl, trivial⟩) Try_plc_38 rfl rfl rfl rfl) ?_
  refine reg_cons (guard_no rfl) (op_store_lp (n := 18) rfl rfl rfl rfl rfl (or_agg Try_agg_38) (by rw [Try_non_38]; rfl) rfl rfl rfl) ?_
  refine ras ?_
  refine reg_nil ?_
  refine post_imp (s' := ⟨32, [(6, some (.lp 0 0)), (7, some (.pv (.bool false)))], [(0, some (.box 38 (bxv (eGFound_ref17 ({ fClass := [], fMethod := zGMethod } : GFound_ref17)))))], 1, [], [], 0, []⟩) (imps [0] ⟨by kernel_rfl, by kernel_rfl, trivial⟩ ⟨by kernel_rfl, trivial⟩) ?_
  refine post_next ?_
  refine aw_ret ?_
  obtain rfl := Option.some.inj hF
  exact post_ret rfl rfl (.cons _ _ _ _ _ (.agg _ _ _ _ _ 18 _ _ rfl rfl Try_agg_38 rfl rfl rfl) (.p _) (.cons _ _ _ _ _ (.tmp _ _ rfl) (.p _) .nil)) (.inl rfl)
theorem ref17_Find_ok {a0 : List GClass} {a1 : List UInt8} {a2 : List UInt8} {r : GFound_ref17 × Bool} (hF : ref17_Find a0 a1 a2 = some r) : Abs.Fn Try.prog 13 [.vs 7 (List.map eGClass a0), .str a1, .str a2] [.p (.agg (eGFound_ref17 r.1)), .p (.bool r.2)] := by
  unfold ref17_Find at hF
  refine fn_of_body (n := 16) Try.func13 rfl rfl rfl ?_
  intro w O
  refine aw_seq ?_
  refine aw_region ?_
  refine reg_cons (guard_no rfl) (op_alloc 0 rfl (ps := (eGFound_ref17 zGFound_ref17)) rfl Try_zer_38 (by exact ⟨rfl, rfl, rfl, rfl, rfl, rfl, rfl, rfl, rfl, rfl, rfl, rfl, rfl, rfl, trivial, trivial, trivial, rfl, trivial⟩) rfl rfl) ?_
  refine ras ?_
  refine reg_nil ?_
  refine post_imp (s' := ⟨16, [(0, some (.pv (.vs 7 (List.map eGClass a0)))), (1, some (.pv (.str a1))), (2, some (.pv (.str a2))), (6, some (.lp 0 0))], [(0, some (.box 38 (bxv (eGFound_ref17 zGFound_ref17))))], 1, [], [], 0, []⟩) (imps [0] ⟨by kernel_rfl, by kernel_rfl, by kernel_rfl, by kernel_rfl, trivial⟩ ⟨by kernel_rfl, trivial⟩) ?_
  refine post_next ?_
  refine aw_seq ?_
  refine aw_region ?_
  iterate 3 (refine rmv ?_)
  obtain ⟨y1, h2, hF⟩ := bind_some hF
  refine reg_cons (guard_no rfl) (op_call 1 rfl (caps := []) (args := [.vs 7 (List.map eGClass a0), .str a1]) (rs := [.p (.vs 1 (List.map eI y1))]) rfl rfl rfl Try_cal_44 (Fn.frozen (ref14_Chain_ok h2)) rfl rfl rfl) ?_
  refine rmv ?_
  obtain ⟨y3, h4, hF⟩ := bind_some hF
  refine reg_cons (guard_no rfl) (op_call 1 rfl (caps := []) (args := [.vs 7 (List.map eGClass a0), .vs 1 (List.map eI y1), .str a2]) (rs := [.p (.agg (eGFound_ref17 y3.1)), .p (.bool y3.2)]) rfl rfl rfl Try_cal_43 (ref17_among_ok h4) rfl rfl rfl) ?_
  iterate 2 (refine reg_cons (guard_no rfl) (op_extract rfl rfl rfl rfl rfl) ?_)
  refine reg_cons (guard_no rfl) (op_store_lp (n := 18) rfl rfl rfl rfl rfl (or_agg Try_agg_38) (by rw [Try_non_38]; rfl) rfl rfl rfl) ?_
  refine ras ?_
  refine reg_nil ?_
  refine post_imp (s' := ⟨16, [(6, some (.lp 0 0)), (7, some (.pv (.bool y3.2)))], [(0, some (.box 38 (bxv (eGFound_ref17 y3.1))))], 1, [], [], 0, []⟩) (imps [0] ⟨by kernel_rfl, by kernel_rfl, trivial⟩ ⟨by kernel_rfl, trivial⟩) ?_
  refine post_next ?_
  refine aw_ret ?_
  obtain rfl := Option.some.inj hF
  exact post_ret rfl rfl (.cons _ _ _ _ _ (.agg _ _ _ _ _ 18 _ _ rfl rfl Try_agg_38 rfl rfl rfl) (.p _) (.cons _ _ _ _ _ (.tmp _ _ rfl) (.p _) .nil)) (.inl rfl)
theorem ref17_Over_ok {a0 : List GClass} {a1 : List UInt8} {a2 : List UInt8} {r : GFound_ref17 × Bool} (hF : ref17_Over a0 a1 a2 = some r) : Abs.Fn Try.prog 15 [.vs 7 (List.map eGClass a0), .str a1, .str a2] [.p (.agg (eGFound_ref17 r.1)), .p (.bool r.2)] := by
  unfold ref17_Over at hF
  refine fn_of_body (n := 23) Try.func15 rfl rfl rfl ?_
  intro w O
  refine aw_seq ?_
  refine aw_region ?_
  refine reg_cons (guard_no rfl) (op_alloc 0 rfl (ps := (eGFound_ref17 zGFound_ref17)) rfl Try_zer_38 (by exact ⟨rfl, rfl, rfl, rfl, rfl, rfl, rfl, rfl, rfl, rfl, rfl, rfl, rfl, rfl, trivial, trivial, trivial, rfl, trivial⟩) rfl rfl) ?_
  refine ras ?_
  refine reg_nil ?_
  refine post_imp (s' := ⟨23, [(0, some (.pv (.vs 7 (List.map eGClass a0)))), (1, some (.pv (.str a1))), (2, some (.pv (.str a2))), (6, some (.lp 0 0))], [(0, some (.box 38 (bxv (eGFound_ref17 zGFound_ref17))))], 1, [], [], 0, []⟩) (imps [0] ⟨by kernel_rfl, by kernel_rfl, by kernel_rfl, by kernel_rfl, trivial⟩ ⟨by kernel_rfl, trivial⟩) ?_
  refine post_next ?_
  refine aw_seq ?_
  refine aw_region ?_
  iterate 2 (refine rmv ?_)
  obtain ⟨y3, h4, hF⟩ := bind_some hF
  refine reg_cons (guard_no rfl) (op_call 1 rfl (caps := []) (args := [.vs 7 (List.map eGClass a0), .str a1]) (rs := [.p (.vs 1 (List.map eI y3))]) rfl rfl rfl Try_cal_44 (Fn.frozen (ref14_Chain_ok h4)) rfl rfl rfl) ?_
  refine ras ?_
  refine reg_nil ?_
  refine post_imp (s' := ⟨23, [(0, some (.pv (.vs 7 (List.map eGClass a0)))), (2, some (.pv (.str a2))), (6, some (.lp 0 0)), (8, some (.pv (.vs 1 (List.map eI y3))))], [(0, some (.box 38 (bxv (eGFound_ref17 zGFound_ref17))))], 1, [], [], 0, []⟩) (imps [0] ⟨by kernel_rfl, by kernel_rfl, by kernel_rfl, by kernel_rfl, trivial⟩ ⟨by kernel_rfl, trivial⟩) ?_
  refine post_next ?_
  iterate 2 (refine aw_seq ?_)
  refine aw_region ?_
  refine rmv ?_
  refine reg_cons (guard_no rfl) (op_len_vs (n := y3.length) rfl rfl (List.length_map ..) Try_slc_86 rfl rfl) ?_
  refine reg_cons (guard_no rfl) (op_int (k := .i64) (m := (y3.length : Int)) (n := 0) rfl rfl rfl rfl rfl rfl) ?_
  refine reg_nil ?_
  refine post_imp (s' := ⟨23, [(0, some (.pv (.vs 7 (List.map eGClass a0)))), (2, some (.pv (.str a2))), (6, some (.lp 0 0)), (8, some (.pv (.vs 1 (List.map eI y3)))), (14, some (.pv (.bool ((y3.length : Int) == 0))))], [(0, some (.box 38 (bxv (eGFound_ref17 zGFound_ref17))))], 1, [], [], 0, []⟩) (imps [0] ⟨by kernel_rfl, by kernel_rfl, by kernel_rfl, by kernel_rfl, by kernel_rfl, trivial⟩ ⟨by kernel_rfl, trivial⟩) ?_
  refine post_next ?_
  rcases ite_some hF with ⟨hb5, hF⟩ | ⟨hb5, hF⟩
  · refine aw_cond_t rfl hb5 ?_
    refine aw_seq ?_
    refine aw_region ?_
    refine reg_cons (guard_no rfl) (op_build (zs := (eGFound_ref17 zGFound_ref17)) (r := eGFound_ref17 ({ fClass := [], fMethod := zGMethod } : GFound_ref17)) rfl Try_zer_38 (by exact ⟨rfl, rfl, rfl, rfl, rfl, rfl, rfl, rfl, rfl, rfl, rfl, rfl, rfl, rfl, trivial, trivial, trivial, rfl, trivial⟩) Try_plc_38 rfl rfl rfl rfl) ?_
    refine reg_cons (guard_no rfl) (op_store_lp (n := 18) rfl rfl rfl rfl rfl (or_agg Try_agg_38) (by rw [Try_non_38]; rfl) rfl rfl rfl) ?_
    refine ras ?_
    refine reg_nil ?_
    refine post_imp (s' := ⟨23, [(6, some (.lp 0 0)), (7, some (.pv (.bool false)))], [(0, some (.box 38 (bxv (eGFound_ref17 ({ fClass := [], fMethod := zGMethod } : GFound_ref17)))))], 1, [], [], 0, []⟩) (imps [0] ⟨by kernel_rfl, by kernel_rfl, trivial⟩ ⟨by kernel_rfl, trivial⟩) ?_
    refine post_next ?_
    refine aw_ret ?_
    refine post_then_ret ?_
    obtain rfl := Option.some.inj hF
    exact post_ret rfl rfl (.cons _ _ _ _ _ (.agg _ _ _ _ _ 18 _ _ rfl rfl Try_agg_38 rfl rfl rfl) (.p _) (.cons _ _ _ _ _ (.tmp _ _ rfl) (.p _) .nil)) (.inl rfl)
  refine aw_cond_f rfl hb5 ?_
  refine aw_skip ?_
  refine post_next ?_
  refine aw_seq ?_
  refine aw_region ?_
  iterate 2 (refine rmv ?_)
  obtain ⟨y6, h7, hF⟩ := bind_some hF
  refine reg_cons (guard_no rfl) (op_slice_vs (nl := (some 1)) (nh := none) (nm := none) rfl rfl rfl rfl rfl (.inl rfl) Try_slc_86 (cut_map (nl := (some 1)) (nh := none) eI h7) rfl rfl) ?_
  refine rmv ?_
  obtain ⟨y8, h9, hF⟩ := bind_some hF
  refine reg_cons (guard_no rfl) (op_call 1 rfl (caps := []) (args := [.vs 7 (List.map eGClass a0), .vs 1 (List.map eI y6), .str a2]) (rs := [.p (.agg (eGFound_ref17 y8.1)), .p (.bool y8.2)]) rfl rfl rfl Try_cal_43 (ref17_among_ok h9) rfl rfl rfl) ?_
  iterate 2 (refine reg_cons (guard_no rfl) (op_extract rfl rfl rfl rfl rfl) ?_)
  refine reg_cons (guard_no rfl) (op_store_lp (n := 18) rfl rfl rfl rfl rfl (or_agg Try_agg_38) (by rw [Try_non_38]; rfl) rfl rfl rfl) ?_
  refine ras ?_
  refine reg_nil ?_
  refine post_imp (s' := ⟨23, [(6, some (.lp 0 0)), (7, some (.pv (.bool y8.2)))], [(0, some (.box 38 (bxv (eGFound_ref17 y8.1))))], 1, [], [], 0, []⟩) (imps [0] ⟨by kernel_rfl, by kernel_rfl, trivial⟩ ⟨by kernel_rfl, trivial⟩) ?_
  refine post_next ?_
  refine aw_ret ?_
  obtain rfl := Option.some.inj hF
  exact post_ret rfl rfl (.cons _ _ _ _ _ (.agg _ _ _ _ _ 18 _ _ rfl rfl Try_agg_38 rfl rfl rfl) (.p _) (.cons _ _ _ _ _ (.tmp _ _ rfl) (.p _) .nil)) (.inl rfl)
theorem ref06_Same_ring : ∀ n : Nat, (∀ (a0 : GExpr) (a1 : GExpr) (r : Bool), ref06_Same n a0 a1 = some r → Abs.Fn Try.prog 88 [.agg (eGExpr a0), .agg (eGExpr a1)] [.p (.bool r)]) := by
  intro n
  induction n with
  | zero => exact (fun _ _ _ h => by simp [ref06_Same] at h)
  | succ n ih =>
    have ref06_Same_ih := ih
    clear ih
    intro a0 a1 r hF
    unfold ref06_Same at hF
    revert hF ref06_Same_ih
    generalize ref06_Same n = ref06_Same_rec
    intro ref06_Same_ih hF
    refine fn_of_body (n := 53) Try.func88 rfl rfl rfl ?_
    intro w O
    refine aw_seq ?_
    refine aw_region ?_
    refine reg_cons (guard_no rfl) (op_box 0 rfl rfl rfl rfl rfl rfl) ?_
    refine reg_cons (guard_no rfl) (op_box 1 rfl rfl rfl rfl rfl rfl) ?_
    refine ras ?_
    refine reg_nil ?_
    refine post_imp (s' := ⟨53, [(2, some (.lp 0 0)), (3, some (.lp 1 0))], [(0, some (.box 81 (bxv (eGExpr a0)))), (1, some (.box 81 (bxv (eGExpr a1))))], 2, [], [], 0, []⟩) (imps [0, 1] ⟨by kernel_rfl, by kernel_rfl, trivial⟩ ⟨by kernel_rfl, by kernel_rfl, trivial⟩) ?_
    refine post_next ?_
    iterate 2 (refine aw_seq ?_)
    obtain ⟨x4, hF, hK6⟩ := bind_some hF
    refine aw_cut (fun s1 => s1 = ⟨53, [(2, some (.lp 0 0)), (3, some (.lp 1 0)), (33, some (.pv (.bool x4)))], [(0, some (.box 81 (bxv (eGExpr a0)))), (1, some (.box 81 (bxv (eGExpr a1))))], 2, [], [], 0, []⟩) ?_ ?_
    · refine aw_region ?_
      refine reg_cons (guard_no rfl) (op_field_lp rfl rfl Try_fld_81_0 rfl rfl) ?_
      refine reg_cons (guard_no rfl) (op_load_lp (v := .pv (.int .i64 a0.fKind)) rfl rfl rfl rfl Try_one_3 rfl rfl) ?_
      refine reg_cons (guard_no rfl) (op_field_lp rfl rfl Try_fld_81_0 rfl rfl) ?_
      refine reg_cons (guard_no rfl) (op_load_lp (v := .pv (.int .i64 a1.fKind)) rfl rfl rfl rfl Try_one_3 rfl rfl) ?_
      refine reg_cons (guard_no rfl) (op_int (k := .i64) (m := a0.fKind) (n := a1.fKind) rfl rfl rfl rfl rfl rfl) ?_
      refine rmv ?_
      rcases ite_some hF with ⟨hb1, hF⟩ | ⟨hb1, hF⟩
      · refine rgo_t hb1 ?_
        iterate 4 (refine rgo_t hb1 ?_)
        refine rpt hb1 ?_
        refine rmv ?_
        iterate 5 (refine rgo_t rfl ?_)
        refine rpt rfl ?_
        refine rmv ?_
        iterate 7 (refine rgo_t rfl ?_)
        refine rpt rfl ?_
        refine reg_nil ?_
        cases hF
        exact post_cut _ rfl (imps [0, 1] ⟨by kernel_rfl, by kernel_rfl, by kernel_rfl, trivial⟩ ⟨by kernel_rfl, by kernel_rfl, trivial⟩)
      refine reg_cons (guard_on rfl rfl rfl rfl hb1) (op_field_lp rfl rfl Try_fld_81_1 rfl rfl) ?_
      refine reg_cons (guard_on rfl rfl rfl rfl hb1) (op_load_lp (v := .pv (.int .i64 a0.fNum)) rfl rfl rfl rfl Try_one_3 rfl rfl) ?_
      refine reg_cons (guard_on rfl rfl rfl rfl hb1) (op_field_lp rfl rfl Try_fld_81_1 rfl rfl) ?_
      refine reg_cons (guard_on rfl rfl rfl rfl hb1) (op_load_lp (v := .pv (.int .i64 a1.fNum)) rfl rfl rfl rfl Try_one_3 rfl rfl) ?_
      refine reg_cons (guard_on rfl rfl rfl rfl hb1) (op_int (k := .i64) (m := a0.fNum) (n := a1.fNum) rfl rfl rfl rfl rfl rfl) ?_
      refine rpf hb1 ?_
      refine rmv ?_
      rcases ite_some hF with ⟨hb2, hF⟩ | ⟨hb2, hF⟩
      · refine rgo_t hb2 ?_
        iterate 4 (refine rgo_t hb2 ?_)
        refine rpt hb2 ?_
        refine rmv ?_
        iterate 7 (refine rgo_t rfl ?_)
        refine rpt rfl ?_
        refine reg_nil ?_
        cases hF
        exact post_cut _ rfl (imps [0, 1] ⟨by kernel_rfl, by kernel_rfl, by kernel_rfl, trivial⟩ ⟨by kernel_rfl, by kernel_rfl, trivial⟩)
      refine reg_cons (guard_on rfl rfl rfl rfl hb2) (op_field_lp rfl rfl Try_fld_81_2 rfl rfl) ?_
      refine reg_cons (guard_on rfl rfl rfl rfl hb2) (op_load_lp (v := .pv (.str a0.fName)) rfl rfl rfl rfl Try_one_9 rfl rfl) ?_
      refine reg_cons (guard_on rfl rfl rfl rfl hb2) (op_field_lp rfl rfl Try_fld_81_2 rfl rfl) ?_
      refine reg_cons (guard_on rfl rfl rfl rfl hb2) (op_load_lp (v := .pv (.str a1.fName)) rfl rfl rfl rfl Try_one_9 rfl rfl) ?_
      refine reg_cons (guard_on rfl rfl rfl rfl hb2) (op_str rfl rfl rfl rfl rfl rfl) ?_
      refine rpf hb2 ?_
      refine rmv ?_
      rcases ite_some hF with ⟨hb3, hF⟩ | ⟨hb3, hF⟩
      · refine rgo_t hb3 ?_
        iterate 6 (refine rgo_t hb3 ?_)
        refine rpt hb3 ?_
        refine reg_nil ?_
        cases hF
        exact post_cut _ rfl (imps [0, 1] ⟨by kernel_rfl, by kernel_rfl, by kernel_rfl, trivial⟩ ⟨by kernel_rfl, by kernel_rfl, trivial⟩)
      refine reg_cons (guard_on rfl rfl rfl rfl hb3) (op_field_lp rfl rfl Try_fld_81_3 rfl rfl) ?_
      refine reg_cons (guard_on rfl rfl rfl rfl hb3) (op_load_lp (v := .pv (.vs 4 (eLGExpr a0.fKids))) rfl rfl rfl rfl Try_one_79 rfl rfl) ?_
      refine reg_cons (guard_on rfl rfl rfl rfl hb3) (op_len_vs (n := a0.fKids.length) rfl rfl (lenR eLGExpr_map) Try_slc_79 rfl rfl) ?_
      refine reg_cons (guard_on rfl rfl rfl rfl hb3) (op_field_lp rfl rfl Try_fld_81_3 rfl rfl) ?_
      refine reg_cons (guard_on rfl rfl rfl rfl hb3) (op_load_lp (v := .pv (.vs 4 (eLGExpr a1.fKids))) rfl rfl rfl rfl Try_one_79 rfl rfl) ?_
      refine reg_cons (guard_on rfl rfl rfl rfl hb3) (op_len_vs (n := a1.fKids.length) rfl rfl (lenR eLGExpr_map) Try_slc_79 rfl rfl) ?_
      refine reg_cons (guard_on rfl rfl rfl rfl hb3) (op_int (k := .i64) (m := (a0.fKids.length : Int)) (n := (a1.fKids.length : Int)) rfl rfl rfl rfl rfl rfl) ?_
      refine rpf hb3 ?_
      refine reg_nil ?_
      cases hF
      exact post_cut _ rfl (imps [0, 1] ⟨by kernel_rfl, by kernel_rfl, by kernel_rfl, trivial⟩ ⟨by kernel_rfl, by kernel_rfl, trivial⟩)
    rintro _ rfl
    have hF := hK6
    clear hK6
    refine post_next ?_
    rcases ite_some hF with ⟨hb7, hF⟩ | ⟨hb7, hF⟩
    · refine aw_cond_t rfl hb7 ?_
      refine aw_seq ?_
      refine aw_region ?_
      refine ras ?_
      refine reg_nil ?_
      refine post_imp (s' := ⟨53, [(4, some (.pv (.bool false)))], [], 0, [], [], 0, []⟩) (imps [] ⟨by kernel_rfl, trivial⟩ trivial) ?_
      refine post_next ?_
      refine aw_ret ?_
      refine post_then_ret ?_
      obtain rfl := Option.some.inj hF
      exact post_ret rfl rfl (.cons _ _ _ _ _ (.tmp _ _ rfl) (.p _) .nil) (.inl rfl)
    refine aw_cond_f rfl hb7 ?_
    refine aw_skip ?_
    refine post_next ?_
    iterate 2 (refine aw_seq ?_)
    refine aw_region ?_
    refine ras ?_
    refine reg_nil ?_
    refine post_imp (s' := ⟨53, [(2, some (.lp 0 0)), (3, some (.lp 1 0)), (5, some (.pv (.int .i64 0)))], [(0, some (.box 81 (bxv (eGExpr a0)))), (1, some (.box 81 (bxv (eGExpr a1))))], 2, [], [], 0, []⟩) (imps [0, 1] ⟨by kernel_rfl, by kernel_rfl, by kernel_rfl, trivial⟩ ⟨by kernel_rfl, by kernel_rfl, trivial⟩) ?_
    refine post_next ?_
    obtain ⟨lr53, hF, hK54⟩ := bind_some hF
    refine aw_for ((((a0.fKids.length : Int) : Int) - (0)).toNat + 1) (fun s1 => ∃ q, lr53 = .next q ∧ s1 = ⟨53, [], [], 0, [], [], 0, []⟩) ?_ ?_
    · refine rnd_loop (α := Int) (fun q => ⟨53, [(2, some (.lp 0 0)), (3, some (.lp 1 0)), (5, some (.pv (.int .i64 q)))], [(0, some (.box 81 (bxv (eGExpr a0)))), (1, some (.box 81 (bxv (eGExpr a1))))], 2, [], [], 0, []⟩) (fun k q => ref06_Same_L1 a0 a1 ref06_Same_rec k q = some lr53) 0 (imps [0, 1] ⟨by kernel_rfl, by kernel_rfl, by kernel_rfl, trivial⟩ ⟨by kernel_rfl, by kernel_rfl, trivial⟩) hF (fun q h => by cases h) ?_
      clear hF
      rintro k x22 hF ih
      refine rnd_succ ?_
      iterate 2 (refine aw_seq ?_)
      refine aw_region ?_
      refine rmv ?_
      refine reg_cons (guard_no rfl) (op_field_lp rfl rfl Try_fld_81_3 rfl rfl) ?_
      refine reg_cons (guard_no rfl) (op_load_lp (v := .pv (.vs 4 (eLGExpr a0.fKids))) rfl rfl rfl rfl Try_one_79 rfl rfl) ?_
      refine reg_cons (guard_no rfl) (op_len_vs (n := a0.fKids.length) rfl rfl (lenR eLGExpr_map) Try_slc_79 rfl rfl) ?_
      refine reg_cons (guard_no rfl) (op_int (k := .i64) (m := x22) (n := (a0.fKids.length : Int)) rfl rfl rfl rfl rfl rfl) ?_
      refine reg_nil ?_
      refine post_imp (s' := ⟨53, [(2, some (.lp 0 0)), (3, some (.lp 1 0)), (5, some (.pv (.int .i64 x22))), (38, some (.pv (.bool (decide (x22 < (a0.fKids.length : Int))))))], [(0, some (.box 81 (bxv (eGExpr a0)))), (1, some (.box 81 (bxv (eGExpr a1))))], 2, [], [], 0, []⟩) (imps [0, 1] ⟨by kernel_rfl, by kernel_rfl, by kernel_rfl, by kernel_rfl, trivial⟩ ⟨by kernel_rfl, by kernel_rfl, trivial⟩) ?_
      refine post_next ?_
      rcases ite_some hF with ⟨hb38, hF⟩ | ⟨hb38, hF⟩
      · refine aw_cond_t rfl hb38 ?_
        refine aw_skip ?_
        refine post_next ?_
        refine aw_seq ?_
        refine aw_block ?_
        refine aw_seq ?_
        refine dr_start ⟨_, _, _⟩ rfl ?_
        refine dr_cons { need := [(2, .lp 0 0)], dst := some 41, val := some (.lp 0 3) } (fun m h => step_on (guard_no rfl) (op_field_lp rfl h.1.1 Try_fld_81_3 rfl rfl) rfl) ⟨⟨rfl, trivial⟩, trivial, trivial⟩ ?_
        refine dr_cons { need := [(41, .lp 0 3)], hneed := [(0, .box 81 (bxv (eGExpr a0)))], dst := some 42, val := some (.pv (.vs 4 (eLGExpr a0.fKids))) } (fun m h => step_on (guard_no rfl) (op_load_lp (v := .pv (.vs 4 (eLGExpr a0.fKids))) rfl h.1.1 h.2.1.1 rfl Try_one_79 rfl rfl) rfl) ⟨⟨rfl, trivial⟩, ⟨rfl, trivial⟩, trivial⟩ ?_
        refine drm ?_
        obtain ⟨y45, h46, hF⟩ := bind_some hF
        refine dr_cons { need := [(42, .pv (.vs 4 (eLGExpr a0.fKids))), (43, .pv (.int .i64 x22))], dst := some 44, val := some (.pv (.vp (eGExpr y45))) } (fun m h => step_on (guard_no rfl) (op_index_vs (k := .i64) rfl h.1.1 h.1.2.1 (idxR eLGExpr_map h46) Try_slc_79 rfl rfl) rfl) ⟨⟨rfl, rfl, trivial⟩, trivial, trivial⟩ ?_
        refine dr_cons { need := [(44, .pv (.vp (eGExpr y45)))], dst := some 45, val := some (.pv (.agg (eGExpr y45))) } (fun m h => step_on (guard_no rfl) (op_load_vp_agg (ps := eGExpr y45) rfl h.1.1 rfl rfl Try_agg_81 rfl rfl) rfl) ⟨⟨rfl, trivial⟩, trivial, trivial⟩ ?_
        refine dr_cons { need := [(3, .lp 1 0)], dst := some 46, val := some (.lp 1 3) } (fun m h => step_on (guard_no rfl) (op_field_lp rfl h.1.1 Try_fld_81_3 rfl rfl) rfl) ⟨⟨rfl, trivial⟩, trivial, trivial⟩ ?_
        refine dr_cons { need := [(46, .lp 1 3)], hneed := [(1, .box 81 (bxv (eGExpr a1)))], dst := some 47, val := some (.pv (.vs 4 (eLGExpr a1.fKids))) } (fun m h => step_on (guard_no rfl) (op_load_lp (v := .pv (.vs 4 (eLGExpr a1.fKids))) rfl h.1.1 h.2.1.1 rfl Try_one_79 rfl rfl) rfl) ⟨⟨rfl, trivial⟩, ⟨rfl, trivial⟩, trivial⟩ ?_
        refine drm ?_
        obtain ⟨y47, h48, hF⟩ := bind_some hF
        refine dr_cons { need := [(47, .pv (.vs 4 (eLGExpr a1.fKids))), (48, .pv (.int .i64 x22))], dst := some 49, val := some (.pv (.vp (eGExpr y47))) } (fun m h => step_on (guard_no rfl) (op_index_vs (k := .i64) rfl h.1.1 h.1.2.1 (idxR eLGExpr_map h48) Try_slc_79 rfl rfl) rfl) ⟨⟨rfl, rfl, trivial⟩, trivial, trivial⟩ ?_
        refine dr_cons { need := [(49, .pv (.vp (eGExpr y47)))], dst := some 50, val := some (.pv (.agg (eGExpr y47))) } (fun m h => step_on (guard_no rfl) (op_load_vp_agg (ps := eGExpr y47) rfl h.1.1 rfl rfl Try_agg_81 rfl rfl) rfl) ⟨⟨rfl, trivial⟩, trivial, trivial⟩ ?_
        obtain ⟨y49, h50, hF⟩ := bind_some hF
        refine dr_cons { need := [(50, .pv (.agg (eGExpr y47))), (45, .pv (.agg (eGExpr y45)))], dst := some 51, val := some (.pv (.bool y49)) } (fun m h => step_on (guard_no rfl) (op_call 2 rfl (caps := []) (args := [.agg (eGExpr y45), .agg (eGExpr y47)]) (rs := [.p (.bool y49)]) rfl rfl (evl_cons h.1.2.1 (evl_cons h.1.1 evl_nil)) Try_cal_88 (ref06_Same_ih _ _ _ h50) rfl rfl rfl) rfl) ⟨⟨rfl, rfl, trivial⟩, trivial, trivial⟩ ?_
        refine dr_cons { need := [(51, .pv (.bool y49))], dst := some 52, val := some (.pv (.bool (!y49))) } (fun m h => step_on (guard_no rfl) (op_not rfl h.1.1 rfl rfl) rfl) ⟨⟨rfl, trivial⟩, trivial, trivial⟩ ?_
        refine dr_nil Try_mixed rfl (by kernel_rfl) ?_
        refine post_imp (s' := ⟨53, [(2, some (.lp 0 0)), (3, some (.lp 1 0)), (5, some (.pv (.int .i64 x22))), (52, some (.pv (.bool (!y49))))], [(0, some (.box 81 (bxv (eGExpr a0)))), (1, some (.box 81 (bxv (eGExpr a1))))], 2, [], [], 0, []⟩) (imps [0, 1] ⟨by kernel_rfl, by kernel_rfl, by kernel_rfl, by kernel_rfl, trivial⟩ ⟨by kernel_rfl, by kernel_rfl, trivial⟩) ?_
        refine post_next ?_
        rcases ite_some hF with ⟨hb51, hF⟩ | ⟨hb51, hF⟩
        · refine aw_cond_t rfl hb51 ?_
          refine aw_seq ?_
          refine aw_region ?_
          refine ras ?_
          refine reg_nil ?_
          refine post_imp (s' := ⟨53, [(4, some (.pv (.bool false)))], [], 0, [], [], 0, []⟩) (imps [] ⟨by kernel_rfl, trivial⟩ trivial) ?_
          refine post_next ?_
          refine aw_ret ?_
          refine post_block_ret ?_
          iterate 2 (refine post_then_ret ?_)
          refine post_lp_ret ?_
          obtain rfl := Option.some.inj hF
          have hF := elim_stop hK54
          refine post_then_ret ?_
          obtain rfl := Option.some.inj hF
          exact post_ret rfl rfl (.cons _ _ _ _ _ (.tmp _ _ rfl) (.p _) .nil) (.inl rfl)
        refine aw_cond_f rfl hb51 ?_
        refine aw_skip ?_
        refine post_block_normal ?_
        refine post_next ?_
        refine aw_region ?_
        refine rmv ?_
        refine reg_cons (guard_no rfl) (op_int (k := .i64) (m := x22) (n := 1) rfl rfl rfl rfl rfl rfl) ?_
        refine ras ?_
        refine reg_nil ?_
        refine post_round ?_
        exact rnd_back (ih (w_i64 (x22 + 1)) hF) (imps [0, 1] ⟨by kernel_rfl, by kernel_rfl, by kernel_rfl, trivial⟩ ⟨by kernel_rfl, by kernel_rfl, trivial⟩)
      refine aw_cond_f rfl hb38 ?_
      refine aw_exit ?_
      iterate 2 (refine post_then_exit ?_)
      obtain rfl := Option.some.inj hF
      exact post_lp_break _ ⟨_, rfl, rfl⟩ (imps [] trivial trivial)
    rintro _ ⟨⟨⟩, rfl, rfl⟩
    have hF := elim_next hK54
    clear hK54
    refine post_next ?_
    refine aw_seq ?_
    refine aw_region ?_
    refine ras ?_
    refine reg_nil ?_
    refine post_imp (s' := ⟨53, [(4, some (.pv (.bool true)))], [], 0, [], [], 0, []⟩) (imps [] ⟨by kernel_rfl, trivial⟩ trivial) ?_
    refine post_next ?_
    refine aw_ret ?_
    obtain rfl := Option.some.inj hF
    exact post_ret rfl rfl (.cons _ _ _ _ _ (.tmp _ _ rfl) (.p _) .nil) (.inl rfl)
theorem ref06_Same_ok {n : Nat} {a0 : GExpr} {a1 : GExpr} {r : Bool} (hF : ref06_Same n a0 a1 = some r) : Abs.Fn Try.prog 88 [.agg (eGExpr a0), .agg (eGExpr a1)] [.p (.bool r)] := (ref06_Same_ring n) _ _ _ hF

theorem ref08_List_ring : ∀ n : Nat, (∀ (a0 : List GStmt) (a1 : List GStmt) (r : Bool), ref08_List n a0 a1 = some r → Abs.Fn Try.prog 45 [.vs 23 (eLGStmt a0), .vs 23 (eLGStmt a1)] [.p (.bool r)]) ∧ (∀ (a0 : GStmt) (a1 : GStmt) (r : Bool), ref08_Same n a0 a1 = some r → Abs.Fn Try.prog 69 [.agg (eGStmt a0), .agg (eGStmt a1)] [.p (.bool r)]) := by
  intro n
  induction n with
  | zero => exact ⟨fun _ _ _ h => by simp [ref08_List] at h, fun _ _ _ h => by simp [ref08_Same] at h⟩
  | succ n ih =>
    obtain ⟨ref08_List_ih, ref08_Same_ih⟩ := ih
    refine ⟨?_, ?_⟩
    · intro a0 a1 r hF
      unfold ref08_List at hF
      revert hF ref08_List_ih ref08_Same_ih
      generalize ref08_List n = ref08_List_rec
      generalize ref08_Same n = ref08_Same_rec
      intro ref08_List_ih ref08_Same_ih hF
      refine fn_of_body (n := 27) Try.func45 rfl rfl rfl ?_
      intro w O
      refine aw_seq ?_
      refine aw_region ?_
      refine ras ?_
      refine reg_nil ?_
      refine post_imp (s' := ⟨27, [(0, some (.pv (.vs 23 (eLGStmt a0)))), (1, some (.pv (.vs 23 (eLGStmt a1))))], [], 0, [], [], 0, []⟩) (imps [] ⟨by kernel_rfl, by kernel_rfl, trivial⟩ trivial) ?_
      refine post_next ?_
      iterate 2 (refine aw_seq ?_)
      refine aw_region ?_
      refine rmv ?_
      refine reg_cons (guard_no rfl) (op_len_vs (n := a0.length) rfl rfl (lenR eLGStmt_map) Try_slc_31 rfl rfl) ?_
      refine rmv ?_
      refine reg_cons (guard_no rfl) (op_len_vs (n := a1.length) rfl rfl (lenR eLGStmt_map) Try_slc_31 rfl rfl) ?_
      refine reg_cons (guard_no rfl) (op_int (k := .i64) (m := (a0.length : Int)) (n := (a1.length : Int)) rfl rfl rfl rfl rfl rfl) ?_
      refine reg_nil ?_
      refine post_imp (s' := ⟨27, [(0, some (.pv (.vs 23 (eLGStmt a0)))), (1, some (.pv (.vs 23 (eLGStmt a1)))), (10, some (.pv (.bool ((a0.length : Int) != (a1.length : Int)))))], [], 0, [], [], 0, []⟩) (imps [] ⟨by kernel_rfl, by kernel_rfl, by kernel_rfl, trivial⟩ trivial) ?_
      refine post_next ?_
      rcases ite_some hF with ⟨hb1, hF⟩ | ⟨hb1, hF⟩
      · refine aw_cond_t rfl hb1 ?_
        refine aw_seq ?_
        refine aw_region ?_
        refine ras ?_
        refine reg_nil ?_
        refine post_imp (s' := ⟨27, [(4, some (.pv (.bool false)))], [], 0, [], [], 0, []⟩) (imps [] ⟨by kernel_rfl, trivial⟩ trivial) ?_
        refine post_next ?_
        refine aw_ret ?_
        refine post_then_ret ?_
        obtain rfl := Option.some.inj hF
        exact post_ret rfl rfl (.cons _ _ _ _ _ (.tmp _ _ rfl) (.p _) .nil) (.inl rfl)
      refine aw_cond_f rfl hb1 ?_
      refine aw_skip ?_
      refine post_next ?_
      iterate 2 (refine aw_seq ?_)
      refine aw_region ?_
      refine ras ?_
      refine reg_nil ?_
      refine post_imp (s' := ⟨27, [(0, some (.pv (.vs 23 (eLGStmt a0)))), (1, some (.pv (.vs 23 (eLGStmt a1)))), (5, some (.pv (.int .i64 0)))], [], 0, [], [], 0, []⟩) (imps [] ⟨by kernel_rfl, by kernel_rfl, by kernel_rfl, trivial⟩ trivial) ?_
      refine post_next ?_
      obtain ⟨lr47, hF, hK48⟩ := bind_some hF
      refine aw_for ((((a0.length : Int) : Int) - (0)).toNat + 1) (fun s1 => ∃ q, lr47 = .next q ∧ s1 = ⟨27, [], [], 0, [], [], 0, []⟩) ?_ ?_
      · refine rnd_loop (α := Int) (fun q => ⟨27, [(0, some (.pv (.vs 23 (eLGStmt a0)))), (1, some (.pv (.vs 23 (eLGStmt a1)))), (5, some (.pv (.int .i64 q)))], [], 0, [], [], 0, []⟩) (fun k q => ref08_List_L1 a0 a1 ref08_Same_rec k q = some lr47) 0 (imps [] ⟨by kernel_rfl, by kernel_rfl, by kernel_rfl, trivial⟩ trivial) hF (fun q h => by cases h) ?_
        clear hF
        rintro k x16 hF ih
        refine rnd_succ ?_
        iterate 2 (refine aw_seq ?_)
        refine aw_region ?_
        iterate 2 (refine rmv ?_)
        refine reg_cons (guard_no rfl) (op_len_vs (n := a0.length) rfl rfl (lenR eLGStmt_map) Try_slc_31 rfl rfl) ?_
        refine reg_cons (guard_no rfl) (op_int (k := .i64) (m := x16) (n := (a0.length : Int)) rfl rfl rfl rfl rfl rfl) ?_
        refine reg_nil ?_
        refine post_imp (s' := ⟨27, [(0, some (.pv (.vs 23 (eLGStmt a0)))), (1, some (.pv (.vs 23 (eLGStmt a1)))), (5, some (.pv (.int .i64 x16))), (14, some (.pv (.bool (decide (x16 < (a0.length : Int))))))], [], 0, [], [], 0, []⟩) (imps [] ⟨by kernel_rfl, by kernel_rfl, by kernel_rfl, by kernel_rfl, trivial⟩ trivial) ?_
        refine post_next ?_
        rcases ite_some hF with ⟨hb32, hF⟩ | ⟨hb32, hF⟩
        · refine aw_cond_t rfl hb32 ?_
          refine aw_skip ?_
          refine post_next ?_
          refine aw_seq ?_
          refine aw_block ?_
          refine aw_seq ?_
          refine dr_start ⟨_, _, _⟩ rfl ?_
          iterate 2 (refine drm ?_)
          obtain ⟨y39, h40, hF⟩ := bind_some hF
          refine dr_cons { need := [(17, .pv (.vs 23 (eLGStmt a0))), (18, .pv (.int .i64 x16))], dst := some 19, val := some (.pv (.vp (eGStmt y39))) } (fun m h => step_on (guard_no rfl) (op_index_vs (k := .i64) rfl h.1.1 h.1.2.1 (idxR eLGStmt_map h40) Try_slc_31 rfl rfl) rfl) ⟨⟨rfl, rfl, trivial⟩, trivial, trivial⟩ ?_
          refine dr_cons { need := [(19, .pv (.vp (eGStmt y39)))], dst := some 20, val := some (.pv (.agg (eGStmt y39))) } (fun m h => step_on (guard_no rfl) (op_load_vp_agg (ps := eGStmt y39) rfl h.1.1 rfl rfl Try_agg_83 rfl rfl) rfl) ⟨⟨rfl, trivial⟩, trivial, trivial⟩ ?_
          iterate 2 (refine drm ?_)
          obtain ⟨y41, h42, hF⟩ := bind_some hF
          refine dr_cons { need := [(21, .pv (.vs 23 (eLGStmt a1))), (22, .pv (.int .i64 x16))], dst := some 23, val := some (.pv (.vp (eGStmt y41))) } (fun m h => step_on (guard_no rfl) (op_index_vs (k := .i64) rfl h.1.1 h.1.2.1 (idxR eLGStmt_map h42) Try_slc_31 rfl rfl) rfl) ⟨⟨rfl, rfl, trivial⟩, trivial, trivial⟩ ?_
          refine dr_cons { need := [(23, .pv (.vp (eGStmt y41)))], dst := some 24, val := some (.pv (.agg (eGStmt y41))) } (fun m h => step_on (guard_no rfl) (op_load_vp_agg (ps := eGStmt y41) rfl h.1.1 rfl rfl Try_agg_83 rfl rfl) rfl) ⟨⟨rfl, trivial⟩, trivial, trivial⟩ ?_
          obtain ⟨y43, h44, hF⟩ := bind_some hF
          refine dr_cons { need := [(24, .pv (.agg (eGStmt y41))), (20, .pv (.agg (eGStmt y39)))], dst := some 25, val := some (.pv (.bool y43)) } (fun m h => step_on (guard_no rfl) (op_call 0 rfl (caps := []) (args := [.agg (eGStmt y39), .agg (eGStmt y41)]) (rs := [.p (.bool y43)]) rfl rfl (evl_cons h.1.2.1 (evl_cons h.1.1 evl_nil)) Try_cal_69 (ref08_Same_ih _ _ _ h44) rfl rfl rfl) rfl) ⟨⟨rfl, rfl, trivial⟩, trivial, trivial⟩ ?_
          refine dr_cons { need := [(25, .pv (.bool y43))], dst := some 26, val := some (.pv (.bool (!y43))) } (fun m h => step_on (guard_no rfl) (op_not rfl h.1.1 rfl rfl) rfl) ⟨⟨rfl, trivial⟩, trivial, trivial⟩ ?_
          refine dr_nil Try_mixed rfl (by kernel_rfl) ?_
          refine post_imp (s' := ⟨27, [(0, some (.pv (.vs 23 (eLGStmt a0)))), (1, some (.pv (.vs 23 (eLGStmt a1)))), (5, some (.pv (.int .i64 x16))), (26, some (.pv (.bool (!y43))))], [], 0, [], [], 0, []⟩) (imps [] ⟨by kernel_rfl, by kernel_rfl, by kernel_rfl, by kernel_rfl, trivial⟩ trivial) ?_
          refine post_next ?_
          rcases ite_some hF with ⟨hb45, hF⟩ | ⟨hb45, hF⟩
          · refine aw_cond_t rfl hb45 ?_
            refine aw_seq ?_
            refine aw_region ?_
            refine ras ?_
            refine reg_nil ?_
            refine post_imp (s' := ⟨27, [(4, some (.pv (.bool false)))], [], 0, [], [], 0, []⟩) (imps [] ⟨by kernel_rfl, trivial⟩ trivial) ?_
            refine post_next ?_
            refine aw_ret ?_
            refine post_block_ret ?_
            iterate 2 (refine post_then_ret ?_)
            refine post_lp_ret ?_
            obtain rfl := Option.some.inj hF
            have hF := elim_stop hK48
            refine post_then_ret ?_
            obtain rfl := Option.some.inj hF
            exact post_ret rfl rfl (.cons _ _ _ _ _ (.tmp _ _ rfl) (.p _) .nil) (.inl rfl)
          refine aw_cond_f rfl hb45 ?_
          refine aw_skip ?_
          refine post_block_normal ?_
          refine post_next ?_
          refine aw_region ?_
          refine rmv ?_
          refine reg_cons (guard_no rfl) (op_int (k := .i64) (m := x16) (n := 1) rfl rfl rfl rfl rfl rfl) ?_
          refine ras ?_
          refine reg_nil ?_
          refine post_round ?_
          exact rnd_back (ih (w_i64 (x16 + 1)) hF) (imps [] ⟨by kernel_rfl, by kernel_rfl, by kernel_rfl, trivial⟩ trivial)
        refine aw_cond_f rfl hb32 ?_
        refine aw_exit ?_
        iterate 2 (refine post_then_exit ?_)
        obtain rfl := Option.some.inj hF
        exact post_lp_break _ ⟨_, rfl, rfl⟩ (imps [] trivial trivial)
      rintro _ ⟨⟨⟩, rfl, rfl⟩
      have hF := elim_next hK48
      clear hK48
      refine post_next ?_
      refine aw_seq ?_
      refine aw_region ?_
      refine ras ?_
      refine reg_nil ?_
      refine post_imp (s' := ⟨27, [(4, some (.pv (.bool true)))], [], 0, [], [], 0, []⟩) (imps [] ⟨by kernel_rfl, trivial⟩ trivial) ?_
      refine post_next ?_
      refine aw_ret ?_
      obtain rfl := Option.some.inj hF
      exact post_ret rfl rfl (.cons _ _ _ _ _ (.tmp _ _ rfl) (.p _) .nil) (.inl rfl)
    · intro a0 a1 r hF
      unfold ref08_Same at hF
      revert hF ref08_List_ih ref08_Same_ih
      generalize ref08_List n = ref08_List_rec
      generalize ref08_Same n = ref08_Same_rec
      intro ref08_List_ih ref08_Same_ih hF
      refine fn_of_body (n := 87) Try.func69 rfl rfl rfl ?_
      intro w O
      refine aw_seq ?_
      refine aw_region ?_
      refine reg_cons (guard_no rfl) (op_box 0 rfl rfl rfl rfl rfl rfl) ?_
      refine reg_cons (guard_no rfl) (op_box 1 rfl rfl rfl rfl rfl rfl) ?_
      refine ras ?_
      refine reg_nil ?_
      refine post_imp (s' := ⟨87, [(2, some (.lp 0 0)), (3, some (.lp 1 0))], [(0, some (.box 83 (bxv (eGStmt a0)))), (1, some (.box 83 (bxv (eGStmt a1))))], 2, [], [], 0, []⟩) (imps [0, 1] ⟨by kernel_rfl, by kernel_rfl, trivial⟩ ⟨by kernel_rfl, by kernel_rfl, trivial⟩) ?_
      refine post_next ?_
      iterate 2 (refine aw_seq ?_)
      obtain ⟨x9, hF, hK11⟩ := bind_some hF
      refine aw_cut (fun s1 => s1 = ⟨87, [(2, some (.lp 0 0)), (3, some (.lp 1 0)), (55, some (.pv (.bool x9)))], [(0, some (.box 83 (bxv (eGStmt a0)))), (1, some (.box 83 (bxv (eGStmt a1))))], 2, [], [], 0, []⟩) ?_ ?_
      · refine aw_region ?_
        refine reg_cons (guard_no rfl) (op_field_lp rfl rfl Try_fld_83_0 rfl rfl) ?_
        refine reg_cons (guard_no rfl) (op_load_lp (v := .pv (.int .i64 a0.fKind)) rfl rfl rfl rfl Try_one_3 rfl rfl) ?_
        refine reg_cons (guard_no rfl) (op_field_lp rfl rfl Try_fld_83_0 rfl rfl) ?_
        refine reg_cons (guard_no rfl) (op_load_lp (v := .pv (.int .i64 a1.fKind)) rfl rfl rfl rfl Try_one_3 rfl rfl) ?_
        refine reg_cons (guard_no rfl) (op_int (k := .i64) (m := a0.fKind) (n := a1.fKind) rfl rfl rfl rfl rfl rfl) ?_
        refine rmv ?_
        rcases ite_some hF with ⟨hb1, hF⟩ | ⟨hb1, hF⟩
        · refine rgo_t hb1 ?_
          iterate 4 (refine rgo_t hb1 ?_)
          refine rpt hb1 ?_
          refine rmv ?_
          iterate 5 (refine rgo_t rfl ?_)
          refine rpt rfl ?_
          refine rmv ?_
          iterate 5 (refine rgo_t rfl ?_)
          refine rpt rfl ?_
          refine rmv ?_
          iterate 5 (refine rgo_t rfl ?_)
          refine rpt rfl ?_
          refine rmv ?_
          iterate 6 (refine rgo_t rfl ?_)
          refine rpt rfl ?_
          refine rmv ?_
          iterate 7 (refine rgo_t rfl ?_)
          refine rpt rfl ?_
          refine reg_nil ?_
          cases hF
          exact post_cut _ rfl (imps [0, 1] ⟨by kernel_rfl, by kernel_rfl, by kernel_rfl, trivial⟩ ⟨by kernel_rfl, by kernel_rfl, trivial⟩)
        refine reg_cons (guard_on rfl rfl rfl rfl hb1) (op_field_lp rfl rfl Try_fld_83_1 rfl rfl) ?_
        refine reg_cons (guard_on rfl rfl rfl rfl hb1) (op_load_lp (v := .pv (.str a0.fX)) rfl rfl rfl rfl Try_one_9 rfl rfl) ?_
        refine reg_cons (guard_on rfl rfl rfl rfl hb1) (op_field_lp rfl rfl Try_fld_83_1 rfl rfl) ?_
        refine reg_cons (guard_on rfl rfl rfl rfl hb1) (op_load_lp (v := .pv (.str a1.fX)) rfl rfl rfl rfl Try_one_9 rfl rfl) ?_
        refine reg_cons (guard_on rfl rfl rfl rfl hb1) (op_str rfl rfl rfl rfl rfl rfl) ?_
        refine rpf hb1 ?_
        refine rmv ?_
        rcases ite_some hF with ⟨hb2, hF⟩ | ⟨hb2, hF⟩
        · refine rgo_t hb2 ?_
          iterate 4 (refine rgo_t hb2 ?_)
          refine rpt hb2 ?_
          refine rmv ?_
          iterate 5 (refine rgo_t rfl ?_)
          refine rpt rfl ?_
          refine rmv ?_
          iterate 5 (refine rgo_t rfl ?_)
          refine rpt rfl ?_
          refine rmv ?_
          iterate 6 (refine rgo_t rfl ?_)
          refine rpt rfl ?_
          refine rmv ?_
          iterate 7 (refine rgo_t rfl ?_)
          refine rpt rfl ?_
          refine reg_nil ?_
          cases hF
          exact post_cut _ rfl (imps [0, 1] ⟨by kernel_rfl, by kernel_rfl, by kernel_rfl, trivial⟩ ⟨by kernel_rfl, by kernel_rfl, trivial⟩)
        refine reg_cons (guard_on rfl rfl rfl rfl hb2) (op_field_lp rfl rfl Try_fld_83_2 rfl rfl) ?_
        refine reg_cons (guard_on rfl rfl rfl rfl hb2) (op_load_lp (v := .pv (.str a0.fY)) rfl rfl rfl rfl Try_one_9 rfl rfl) ?_
        refine reg_cons (guard_on rfl rfl rfl rfl hb2) (op_field_lp rfl rfl Try_fld_83_2 rfl rfl) ?_
        refine reg_cons (guard_on rfl rfl rfl rfl hb2) (op_load_lp (v := .pv (.str a1.fY)) rfl rfl rfl rfl Try_one_9 rfl rfl) ?_
        refine reg_cons (guard_on rfl rfl rfl rfl hb2) (op_str rfl rfl rfl rfl rfl rfl) ?_
        refine rpf hb2 ?_
        refine rmv ?_
        rcases ite_some hF with ⟨hb3, hF⟩ | ⟨hb3, hF⟩
        · refine rgo_t hb3 ?_
          iterate 4 (refine rgo_t hb3 ?_)
          refine rpt hb3 ?_
          refine rmv ?_
          iterate 5 (refine rgo_t rfl ?_)
          refine rpt rfl ?_
          refine rmv ?_
          iterate 6 (refine rgo_t rfl ?_)
          refine rpt rfl ?_
          refine rmv ?_
          iterate 7 (refine rgo_t rfl ?_)
          refine rpt rfl ?_
          refine reg_nil ?_
          cases hF
          exact post_cut _ rfl (imps [0, 1] ⟨by kernel_rfl, by kernel_rfl, by kernel_rfl, trivial⟩ ⟨by kernel_rfl, by kernel_rfl, trivial⟩)
        refine reg_cons (guard_on rfl rfl rfl rfl hb3) (op_field_lp rfl rfl Try_fld_83_3 rfl rfl) ?_
        refine reg_cons (guard_on rfl rfl rfl rfl hb3) (op_load_lp (v := .pv (.str a0.fName)) rfl rfl rfl rfl Try_one_9 rfl rfl) ?_
        refine reg_cons (guard_on rfl rfl rfl rfl hb3) (op_field_lp rfl rfl Try_fld_83_3 rfl rfl) ?_
        refine reg_cons (guard_on rfl rfl rfl rfl hb3) (op_load_lp (v := .pv (.str a1.fName)) rfl rfl rfl rfl Try_one_9 rfl rfl) ?_
        refine reg_cons (guard_on rfl rfl rfl rfl hb3) (op_str rfl rfl rfl rfl rfl rfl) ?_
        refine rpf hb3 ?_
        refine rmv ?_
        rcases ite_some hF with ⟨hb4, hF⟩ | ⟨hb4, hF⟩
        · refine rgo_t hb4 ?_
          iterate 4 (refine rgo_t hb4 ?_)
          refine rpt hb4 ?_
          refine rmv ?_
          iterate 6 (refine rgo_t rfl ?_)
          refine rpt rfl ?_
          refine rmv ?_
          iterate 7 (refine rgo_t rfl ?_)
          refine rpt rfl ?_
          refine reg_nil ?_
          cases hF
          exact post_cut _ rfl (imps [0, 1] ⟨by kernel_rfl, by kernel_rfl, by kernel_rfl, trivial⟩ ⟨by kernel_rfl, by kernel_rfl, trivial⟩)
        refine reg_cons (guard_on rfl rfl rfl rfl hb4) (op_field_lp rfl rfl Try_fld_83_4 rfl rfl) ?_
        refine reg_cons (guard_on rfl rfl rfl rfl hb4) (op_load_lp_agg (ps := eGType a0.fType) rfl rfl rfl rfl rfl rfl Try_agg_29 rfl rfl) ?_
        refine reg_cons (guard_on rfl rfl rfl rfl hb4) (op_field_lp rfl rfl Try_fld_83_4 rfl rfl) ?_
        refine reg_cons (guard_on rfl rfl rfl rfl hb4) (op_load_lp_agg (ps := eGType a1.fType) rfl rfl rfl rfl rfl rfl Try_agg_29 rfl rfl) ?_
        refine reg_cons (guard_on rfl rfl rfl rfl hb4) (op_eqAgg_neq (r := bGType a0.fType a1.fType) rfl rfl rfl Try_eqt_29 rfl rfl rfl rfl rfl) ?_
        refine rpf hb4 ?_
        refine rmv ?_
        rcases ite_some hF with ⟨hb5, hF⟩ | ⟨hb5, hF⟩
        · refine rgo_t hb5 ?_
          iterate 5 (refine rgo_t hb5 ?_)
          refine rpt hb5 ?_
          refine rmv ?_
          iterate 7 (refine rgo_t rfl ?_)
          refine rpt rfl ?_
          refine reg_nil ?_
          cases hF
          exact post_cut _ rfl (imps [0, 1] ⟨by kernel_rfl, by kernel_rfl, by kernel_rfl, trivial⟩ ⟨by kernel_rfl, by kernel_rfl, trivial⟩)
        refine reg_cons (guard_on rfl rfl rfl rfl hb5) (op_field_lp rfl rfl Try_fld_83_5 rfl rfl) ?_
        refine reg_cons (guard_on rfl rfl rfl rfl hb5) (op_load_lp_agg (ps := eGExpr a0.fE) rfl rfl rfl rfl rfl rfl Try_agg_81 rfl rfl) ?_
        refine reg_cons (guard_on rfl rfl rfl rfl hb5) (op_field_lp rfl rfl Try_fld_83_5 rfl rfl) ?_
        refine reg_cons (guard_on rfl rfl rfl rfl hb5) (op_load_lp_agg (ps := eGExpr a1.fE) rfl rfl rfl rfl rfl rfl Try_agg_81 rfl rfl) ?_
        obtain ⟨y6, h7, hF⟩ := bind_some hF
        refine reg_cons (guard_on rfl rfl rfl rfl hb5) (op_call 2 rfl (caps := []) (args := [.agg (eGExpr a0.fE), .agg (eGExpr a1.fE)]) (rs := [.p (.bool y6)]) rfl rfl rfl Try_cal_88 (ref06_Same_ok h7) rfl rfl rfl) ?_
        refine reg_cons (guard_on rfl rfl rfl rfl hb5) (op_not rfl rfl rfl rfl) ?_
        refine rpf hb5 ?_
        refine rmv ?_
        rcases ite_some hF with ⟨hb8, hF⟩ | ⟨hb8, hF⟩
        · refine rgo_t hb8 ?_
          iterate 6 (refine rgo_t hb8 ?_)
          refine rpt hb8 ?_
          refine reg_nil ?_
          cases hF
          exact post_cut _ rfl (imps [0, 1] ⟨by kernel_rfl, by kernel_rfl, by kernel_rfl, trivial⟩ ⟨by kernel_rfl, by kernel_rfl, trivial⟩)
        refine reg_cons (guard_on rfl rfl rfl rfl hb8) (op_field_lp rfl rfl Try_fld_83_6 rfl rfl) ?_
        refine reg_cons (guard_on rfl rfl rfl rfl hb8) (op_load_lp (v := .pv (.vs 4 (eLGExpr a0.fArgs))) rfl rfl rfl rfl Try_one_79 rfl rfl) ?_
        refine reg_cons (guard_on rfl rfl rfl rfl hb8) (op_len_vs (n := a0.fArgs.length) rfl rfl (lenR eLGExpr_map) Try_slc_79 rfl rfl) ?_
        refine reg_cons (guard_on rfl rfl rfl rfl hb8) (op_field_lp rfl rfl Try_fld_83_6 rfl rfl) ?_
        refine reg_cons (guard_on rfl rfl rfl rfl hb8) (op_load_lp (v := .pv (.vs 4 (eLGExpr a1.fArgs))) rfl rfl rfl rfl Try_one_79 rfl rfl) ?_
        refine reg_cons (guard_on rfl rfl rfl rfl hb8) (op_len_vs (n := a1.fArgs.length) rfl rfl (lenR eLGExpr_map) Try_slc_79 rfl rfl) ?_
        refine reg_cons (guard_on rfl rfl rfl rfl hb8) (op_int (k := .i64) (m := (a0.fArgs.length : Int)) (n := (a1.fArgs.length : Int)) rfl rfl rfl rfl rfl rfl) ?_
        refine rpf hb8 ?_
        refine reg_nil ?_
        cases hF
        exact post_cut _ rfl (imps [0, 1] ⟨by kernel_rfl, by kernel_rfl, by kernel_rfl, trivial⟩ ⟨by kernel_rfl, by kernel_rfl, trivial⟩)
      rintro _ rfl
      have hF := hK11
      clear hK11
      refine post_next ?_
      rcases ite_some hF with ⟨hb12, hF⟩ | ⟨hb12, hF⟩
      · refine aw_cond_t rfl hb12 ?_
        refine aw_seq ?_
        refine aw_region ?_
        refine ras ?_
        refine reg_nil ?_
        refine post_imp (s' := ⟨87, [(4, some (.pv (.bool false)))], [], 0, [], [], 0, []⟩) (imps [] ⟨by kernel_rfl, trivial⟩ trivial) ?_
        refine post_next ?_
        refine aw_ret ?_
        refine post_then_ret ?_
        obtain rfl := Option.some.inj hF
        exact post_ret rfl rfl (.cons _ _ _ _ _ (.tmp _ _ rfl) (.p _) .nil) (.inl rfl)
      refine aw_cond_f rfl hb12 ?_
      refine aw_skip ?_
      refine post_next ?_
      iterate 2 (refine aw_seq ?_)
      refine aw_region ?_
      refine ras ?_
      refine reg_nil ?_
      refine post_imp (s' := ⟨87, [(2, some (.lp 0 0)), (3, some (.lp 1 0)), (5, some (.pv (.int .i64 0)))], [(0, some (.box 83 (bxv (eGStmt a0)))), (1, some (.box 83 (bxv (eGStmt a1))))], 2, [], [], 0, []⟩) (imps [0, 1] ⟨by kernel_rfl, by kernel_rfl, by kernel_rfl, trivial⟩ ⟨by kernel_rfl, by kernel_rfl, trivial⟩) ?_
      refine post_next ?_
      obtain ⟨lr58, hF, hK59⟩ := bind_some hF
      refine aw_for ((((a0.fArgs.length : Int) : Int) - (0)).toNat + 1) (fun s1 => ∃ q, lr58 = .next q ∧ s1 = ⟨87, [(2, some (.lp 0 0)), (3, some (.lp 1 0))], [(0, some (.box 83 (bxv (eGStmt a0)))), (1, some (.box 83 (bxv (eGStmt a1))))], 2, [], [], 0, []⟩) ?_ ?_
      · refine rnd_loop (α := Int) (fun q => ⟨87, [(2, some (.lp 0 0)), (3, some (.lp 1 0)), (5, some (.pv (.int .i64 q)))], [(0, some (.box 83 (bxv (eGStmt a0)))), (1, some (.box 83 (bxv (eGStmt a1))))], 2, [], [], 0, []⟩) (fun k q => ref08_Same_L1 a0 a1 k q = some lr58) 0 (imps [0, 1] ⟨by kernel_rfl, by kernel_rfl, by kernel_rfl, trivial⟩ ⟨by kernel_rfl, by kernel_rfl, trivial⟩) hF (fun q h => by cases h) ?_
        clear hF
        rintro k x27 hF ih
        refine rnd_succ ?_
        iterate 2 (refine aw_seq ?_)
        refine aw_region ?_
        refine rmv ?_
        refine reg_cons (guard_no rfl) (op_field_lp rfl rfl Try_fld_83_6 rfl rfl) ?_
        refine reg_cons (guard_no rfl) (op_load_lp (v := .pv (.vs 4 (eLGExpr a0.fArgs))) rfl rfl rfl rfl Try_one_79 rfl rfl) ?_
        refine reg_cons (guard_no rfl) (op_len_vs (n := a0.fArgs.length) rfl rfl (lenR eLGExpr_map) Try_slc_79 rfl rfl) ?_
        refine reg_cons (guard_no rfl) (op_int (k := .i64) (m := x27) (n := (a0.fArgs.length : Int)) rfl rfl rfl rfl rfl rfl) ?_
        refine reg_nil ?_
        refine post_imp (s' := ⟨87, [(2, some (.lp 0 0)), (3, some (.lp 1 0)), (5, some (.pv (.int .i64 x27))), (60, some (.pv (.bool (decide (x27 < (a0.fArgs.length : Int))))))], [(0, some (.box 83 (bxv (eGStmt a0)))), (1, some (.box 83 (bxv (eGStmt a1))))], 2, [], [], 0, []⟩) (imps [0, 1] ⟨by kernel_rfl, by kernel_rfl, by kernel_rfl, by kernel_rfl, trivial⟩ ⟨by kernel_rfl, by kernel_rfl, trivial⟩) ?_
        refine post_next ?_
        rcases ite_some hF with ⟨hb43, hF⟩ | ⟨hb43, hF⟩
        · refine aw_cond_t rfl hb43 ?_
          refine aw_skip ?_
          refine post_next ?_
          refine aw_seq ?_
          refine aw_block ?_
          refine aw_seq ?_
          refine dr_start ⟨_, _, _⟩ rfl ?_
          refine dr_cons { need := [(2, .lp 0 0)], dst := some 63, val := some (.lp 0 19) } (fun m h => step_on (guard_no rfl) (op_field_lp rfl h.1.1 Try_fld_83_6 rfl rfl) rfl) ⟨⟨rfl, trivial⟩, trivial, trivial⟩ ?_
          refine dr_cons { need := [(63, .lp 0 19)], hneed := [(0, .box 83 (bxv (eGStmt a0)))], dst := some 64, val := some (.pv (.vs 4 (eLGExpr a0.fArgs))) } (fun m h => step_on (guard_no rfl) (op_load_lp (v := .pv (.vs 4 (eLGExpr a0.fArgs))) rfl h.1.1 h.2.1.1 rfl Try_one_79 rfl rfl) rfl) ⟨⟨rfl, trivial⟩, ⟨rfl, trivial⟩, trivial⟩ ?_
          refine drm ?_
          obtain ⟨y50, h51, hF⟩ := bind_some hF
          refine dr_cons { need := [(64, .pv (.vs 4 (eLGExpr a0.fArgs))), (65, .pv (.int .i64 x27))], dst := some 66, val := some (.pv (.vp (eGExpr y50))) } (fun m h => step_on (guard_no rfl) (op_index_vs (k := .i64) rfl h.1.1 h.1.2.1 (idxR eLGExpr_map h51) Try_slc_79 rfl rfl) rfl) ⟨⟨rfl, rfl, trivial⟩, trivial, trivial⟩ ?_
          refine dr_cons { need := [(66, .pv (.vp (eGExpr y50)))], dst := some 67, val := some (.pv (.agg (eGExpr y50))) } (fun m h => step_on (guard_no rfl) (op_load_vp_agg (ps := eGExpr y50) rfl h.1.1 rfl rfl Try_agg_81 rfl rfl) rfl) ⟨⟨rfl, trivial⟩, trivial, trivial⟩ ?_
          refine dr_cons { need := [(3, .lp 1 0)], dst := some 68, val := some (.lp 1 19) } (fun m h => step_on (guard_no rfl) (op_field_lp rfl h.1.1 Try_fld_83_6 rfl rfl) rfl) ⟨⟨rfl, trivial⟩, trivial, trivial⟩ ?_
          refine dr_cons { need := [(68, .lp 1 19)], hneed := [(1, .box 83 (bxv (eGStmt a1)))], dst := some 69, val := some (.pv (.vs 4 (eLGExpr a1.fArgs))) } (fun m h => step_on (guard_no rfl) (op_load_lp (v := .pv (.vs 4 (eLGExpr a1.fArgs))) rfl h.1.1 h.2.1.1 rfl Try_one_79 rfl rfl) rfl) ⟨⟨rfl, trivial⟩, ⟨rfl, trivial⟩, trivial⟩ ?_
          refine drm ?_
          obtain ⟨y52, h53, hF⟩ := bind_some hF
          refine dr_cons { need := [(69, .pv (.vs 4 (eLGExpr a1.fArgs))), (70, .pv (.int .i64 x27))], dst := some 71, val := some (.pv (.vp (eGExpr y52))) } (fun m h => step_on (guard_no rfl) (op_index_vs (k := .i64) rfl h.1.1 h.1.2.1 (idxR eLGExpr_map h53) Try_slc_79 rfl rfl) rfl) ⟨⟨rfl, rfl, trivial⟩, trivial, trivial⟩ ?_
          refine dr_cons { need := [(71, .pv (.vp (eGExpr y52)))], dst := some 72, val := some (.pv (.agg (eGExpr y52))) } (fun m h => step_on (guard_no rfl) (op_load_vp_agg (ps := eGExpr y52) rfl h.1.1 rfl rfl Try_agg_81 rfl rfl) rfl) ⟨⟨rfl, trivial⟩, trivial, trivial⟩ ?_
          obtain ⟨y54, h55, hF⟩ := bind_some hF
          refine dr_cons { need := [(72, .pv (.agg (eGExpr y52))), (67, .pv (.agg (eGExpr y50)))], dst := some 73, val := some (.pv (.bool y54)) } (fun m h => step_on (guard_no rfl) (op_call 2 rfl (caps := []) (args := [.agg (eGExpr y50), .agg (eGExpr y52)]) (rs := [.p (.bool y54)]) rfl rfl (evl_cons h.1.2.1 (evl_cons h.1.1 evl_nil)) Try_cal_88 (ref06_Same_ok h55) rfl rfl rfl) rfl) ⟨⟨rfl, rfl, trivial⟩, trivial, trivial⟩ ?_
          refine dr_cons { need := [(73, .pv (.bool y54))], dst := some 74, val := some (.pv (.bool (!y54))) } (fun m h => step_on (guard_no rfl) (op_not rfl h.1.1 rfl rfl) rfl) ⟨⟨rfl, trivial⟩, trivial, trivial⟩ ?_
          refine dr_nil Try_mixed rfl (by kernel_rfl) ?_
          refine post_imp (s' := ⟨87, [(2, some (.lp 0 0)), (3, some (.lp 1 0)), (5, some (.pv (.int .i64 x27))), (74, some (.pv (.bool (!y54))))], [(0, some (.box 83 (bxv (eGStmt a0)))), (1, some (.box 83 (bxv (eGStmt a1))))], 2, [], [], 0, []⟩) (imps [0, 1] ⟨by kernel_rfl, by kernel_rfl, by kernel_rfl, by kernel_rfl, trivial⟩ ⟨by kernel_rfl, by kernel_rfl, trivial⟩) ?_
          refine post_next ?_
          rcases ite_some hF with ⟨hb56, hF⟩ | ⟨hb56, hF⟩
          · refine aw_cond_t rfl hb56 ?_
            refine aw_seq ?_
            refine aw_region ?_
            refine ras ?_
            refine reg_nil ?_
            refine post_imp (s' := ⟨87, [(4, some (.pv (.bool false)))], [], 0, [], [], 0, []⟩) (imps [] ⟨by kernel_rfl, trivial⟩ trivial) ?_
            refine post_next ?_
            refine aw_ret ?_
            refine post_block_ret ?_
            iterate 2 (refine post_then_ret ?_)
            refine post_lp_ret ?_
            obtain rfl := Option.some.inj hF
            have hF := elim_stop hK59
            refine post_then_ret ?_
            obtain rfl := Option.some.inj hF
            exact post_ret rfl rfl (.cons _ _ _ _ _ (.tmp _ _ rfl) (.p _) .nil) (.inl rfl)
          refine aw_cond_f rfl hb56 ?_
          refine aw_skip ?_
          refine post_block_normal ?_
          refine post_next ?_
          refine aw_region ?_
          refine rmv ?_
          refine reg_cons (guard_no rfl) (op_int (k := .i64) (m := x27) (n := 1) rfl rfl rfl rfl rfl rfl) ?_
          refine ras ?_
          refine reg_nil ?_
          refine post_round ?_
          exact rnd_back (ih (w_i64 (x27 + 1)) hF) (imps [0, 1] ⟨by kernel_rfl, by kernel_rfl, by kernel_rfl, trivial⟩ ⟨by kernel_rfl, by kernel_rfl, trivial⟩)
        refine aw_cond_f rfl hb43 ?_
        refine aw_exit ?_
        iterate 2 (refine post_then_exit ?_)
        obtain rfl := Option.some.inj hF
        exact post_lp_break _ ⟨_, rfl, rfl⟩ (imps [0, 1] ⟨by kernel_rfl, by kernel_rfl, trivial⟩ ⟨by kernel_rfl, by kernel_rfl, trivial⟩)
      rintro _ ⟨⟨⟩, rfl, rfl⟩
      have hF := elim_next hK59
      clear hK59
      refine post_next ?_
      refine aw_seq ?_
      refine aw_region ?_
      refine reg_cons (guard_no rfl) (op_field_lp rfl rfl Try_fld_83_7 rfl rfl) ?_
      refine reg_cons (guard_no rfl) (op_load_lp (v := .pv (.vs 23 (eLGStmt a0.fBody))) rfl rfl rfl rfl Try_one_31 rfl rfl) ?_
      refine reg_cons (guard_no rfl) (op_field_lp rfl rfl Try_fld_83_7 rfl rfl) ?_
      refine reg_cons (guard_no rfl) (op_load_lp (v := .pv (.vs 23 (eLGStmt a1.fBody))) rfl rfl rfl rfl Try_one_31 rfl rfl) ?_
      obtain ⟨y60, h61, hF⟩ := bind_some hF
      refine reg_cons (guard_no rfl) (op_call 2 rfl (caps := []) (args := [.vs 23 (eLGStmt a0.fBody), .vs 23 (eLGStmt a1.fBody)]) (rs := [.p (.bool y60)]) rfl rfl rfl Try_cal_45 (ref08_List_ih _ _ _ h61) rfl rfl rfl) ?_
      refine rmv ?_
      rcases ite_some hF with ⟨hb62, hF⟩ | ⟨hb62, hF⟩
      · refine reg_cons (guard_on rfl rfl rfl rfl hb62) (op_field_lp rfl rfl Try_fld_83_8 rfl rfl) ?_
        refine reg_cons (guard_on rfl rfl rfl rfl hb62) (op_load_lp (v := .pv (.vs 23 (eLGStmt a0.fElse))) rfl rfl rfl rfl Try_one_31 rfl rfl) ?_
        refine reg_cons (guard_on rfl rfl rfl rfl hb62) (op_field_lp rfl rfl Try_fld_83_8 rfl rfl) ?_
        refine reg_cons (guard_on rfl rfl rfl rfl hb62) (op_load_lp (v := .pv (.vs 23 (eLGStmt a1.fElse))) rfl rfl rfl rfl Try_one_31 rfl rfl) ?_
        obtain ⟨y63, h64, hF⟩ := bind_some hF
        refine reg_cons (guard_on rfl rfl rfl rfl hb62) (op_call 2 rfl (caps := []) (args := [.vs 23 (eLGStmt a0.fElse), .vs 23 (eLGStmt a1.fElse)]) (rs := [.p (.bool y63)]) rfl rfl rfl Try_cal_45 (ref08_List_ih _ _ _ h64) rfl rfl rfl) ?_
        refine rpt hb62 ?_
        refine ras ?_
        refine reg_nil ?_
        refine post_imp (s' := ⟨87, [(4, some (.pv (.bool y63)))], [], 0, [], [], 0, []⟩) (imps [] ⟨by kernel_rfl, trivial⟩ trivial) ?_
        refine post_next ?_
        refine aw_ret ?_
        obtain rfl := Option.some.inj hF
        exact post_ret rfl rfl (.cons _ _ _ _ _ (.tmp _ _ rfl) (.p _) .nil) (.inl rfl)
      iterate 5 (refine rgo_f hb62 ?_)
      refine rpf hb62 ?_
      refine ras ?_
      refine reg_nil ?_
      refine post_imp (s' := ⟨87, [(4, some (.pv (.bool false)))], [], 0, [], [], 0, []⟩) (imps [] ⟨by kernel_rfl, trivial⟩ trivial) ?_
      refine post_next ?_
      refine aw_ret ?_
      obtain rfl := Option.some.inj hF
      exact post_ret rfl rfl (.cons _ _ _ _ _ (.tmp _ _ rfl) (.p _) .nil) (.inl rfl)
theorem ref08_List_ok {n : Nat} {a0 : List GStmt} {a1 : List GStmt} {r : Bool} (hF : ref08_List n a0 a1 = some r) : Abs.Fn Try.prog 45 [.vs 23 (eLGStmt a0), .vs 23 (eLGStmt a1)] [.p (.bool r)] := (ref08_List_ring n).1 _ _ _ hF
theorem ref08_Same_ok {n : Nat} {a0 : GStmt} {a1 : GStmt} {r : Bool} (hF : ref08_Same n a0 a1 = some r) : Abs.Fn Try.prog 69 [.agg (eGStmt a0), .agg (eGStmt a1)] [.p (.bool r)] := (ref08_List_ring n).2 _ _ _ hF


theorem law17_same_ok {a0 : GFound_method} {a1 : GFound_ref17} {r : Bool} (hF : law17_same a0 a1 = some r) : Abs.Fn Try.prog 16 [.agg (eGFound_method a0), .agg (eGFound_ref17 a1)] [.p (.bool r)] := by
  unfold law17_same at hF
  refine fn_of_body (n := 108) Try.func16 rfl rfl rfl ?_
  intro w O
  refine aw_seq ?_
  refine aw_region ?_
  refine reg_cons (guard_no rfl) (op_box 0 rfl rfl rfl rfl rfl rfl) ?_
  refine reg_cons (guard_no rfl) (op_box 1 rfl rfl rfl rfl rfl rfl) ?_
  refine ras ?_
  refine reg_nil ?_
  refine post_imp (s' := ⟨108, [(2, some (.lp 0 0)), (3, some (.lp 1 0))], [(0, some (.box 35 (bxv (eGFound_method a0)))), (1, some (.box 38 (bxv (eGFound_ref17 a1))))], 2, [], [], 0, []⟩) (imps [0, 1] ⟨by kernel_rfl, by kernel_rfl, trivial⟩ ⟨by kernel_rfl, by kernel_rfl, trivial⟩) ?_
  refine post_next ?_
  refine aw_seq ?_
  refine aw_imp (imp_names 2) ?_
  refine dr_start ⟨_, _, _⟩ rfl ?_
  refine dr_cons { need := [(2, .lp 0 0)], dst := some 9, val := some (.lp 0 1) } (fun m h => step_on (guard_no rfl) (op_field_lp rfl h.1.1 Try_fld_35_1 rfl rfl) rfl) ⟨⟨rfl, trivial⟩, trivial, trivial⟩ ?_
  refine dr_cons { need := [(9, .lp 0 1)], hneed := [(0, .box 35 (bxv (eGFound_method a0)))], dst := some 10, val := some (.pv (.agg (eGMethod a0.fMethod))) } (fun m h => step_on (guard_no rfl) (op_load_lp_agg (ps := eGMethod a0.fMethod) rfl h.1.1 h.2.1.1 rfl rfl rfl Try_agg_33 rfl rfl) rfl) ⟨⟨rfl, trivial⟩, ⟨rfl, trivial⟩, trivial⟩ ?_
  refine dr_cons { need := [(3, .lp 1 0)], dst := some 11, val := some (.lp 1 1) } (fun m h => step_on (guard_no rfl) (op_field_lp rfl h.1.1 Try_fld_38_1 rfl rfl) rfl) ⟨⟨rfl, trivial⟩, trivial, trivial⟩ ?_
  refine dr_cons { need := [(11, .lp 1 1)], hneed := [(1, .box 38 (bxv (eGFound_ref17 a1)))], dst := some 12, val := some (.pv (.agg (eGMethod a1.fMethod))) } (fun m h => step_on (guard_no rfl) (op_load_lp_agg (ps := eGMethod a1.fMethod) rfl h.1.1 h.2.1.1 rfl rfl rfl Try_agg_33 rfl rfl) rfl) ⟨⟨rfl, trivial⟩, ⟨rfl, trivial⟩, trivial⟩ ?_
  refine dr_cons { names := [2], dst := some 5, val := some (.lp 2 0), upd := [(2, some (.box 33 (bxv (eGMethod zGMethod))))] } (fun m h => step_on (guard_no rfl) (op_alloc 2 (fresh_free h.2.2.1) (ps := (eGMethod zGMethod)) rfl Try_zer_33 (by exact ⟨rfl, rfl, rfl, rfl, rfl, rfl, rfl, rfl, rfl, rfl, rfl, rfl, rfl, trivial, trivial, trivial, rfl, trivial⟩) rfl rfl) rfl) ⟨trivial, trivial, ⟨rfl, trivial⟩⟩ ?_
  refine dr_cons { names := [3], dst := some 6, val := some (.lp 3 0), upd := [(3, some (.box 33 (bxv (eGMethod zGMethod))))] } (fun m h => step_on (guard_no rfl) (op_alloc 3 (fresh_free h.2.2.1) (ps := (eGMethod zGMethod)) rfl Try_zer_33 (by exact ⟨rfl, rfl, rfl, rfl, rfl, rfl, rfl, rfl, rfl, rfl, rfl, rfl, rfl, trivial, trivial, trivial, rfl, trivial⟩) rfl rfl) rfl) ⟨trivial, trivial, ⟨rfl, trivial⟩⟩ ?_
  refine dr_cons { need := [(5, .lp 2 0), (10, .pv (.agg (eGMethod a0.fMethod)))], hneed := [(2, .box 33 (bxv (eGMethod zGMethod)))], upd := [(2, some (.box 33 (bxv (eGMethod a0.fMethod))))] } (fun m h => step_on (guard_no rfl) (op_store_lp (n := 17) rfl h.1.1 h.1.2.1 rfl h.2.1.1 (or_agg Try_agg_33) (by rw [Try_non_33]; rfl) rfl rfl rfl) rfl) ⟨⟨rfl, rfl, trivial⟩, ⟨rfl, trivial⟩, trivial⟩ ?_
  refine dr_cons { need := [(6, .lp 3 0), (12, .pv (.agg (eGMethod a1.fMethod)))], hneed := [(3, .box 33 (bxv (eGMethod zGMethod)))], upd := [(3, some (.box 33 (bxv (eGMethod a1.fMethod))))] } (fun m h => step_on (guard_no rfl) (op_store_lp (n := 17) rfl h.1.1 h.1.2.1 rfl h.2.1.1 (or_agg Try_agg_33) (by rw [Try_non_33]; rfl) rfl rfl rfl) rfl) ⟨⟨rfl, rfl, trivial⟩, ⟨rfl, trivial⟩, trivial⟩ ?_
  refine dr_nil Try_mixed rfl (by kernel_rfl) ?_
  refine post_imp (s' := ⟨108, [(2, some (.lp 0 0)), (3, some (.lp 1 0)), (5, some (.lp 2 0)), (6, some (.lp 3 0))], [(0, some (.box 35 (bxv (eGFound_method a0)))), (1, some (.box 38 (bxv (eGFound_ref17 a1)))), (2, some (.box 33 (bxv (eGMethod a0.fMethod)))), (3, some (.box 33 (bxv (eGMethod a1.fMethod))))], 4, [], [], 0, []⟩) (imps [0, 1, 2, 3] ⟨by kernel_rfl, by kernel_rfl, by kernel_rfl, by kernel_rfl, trivial⟩ ⟨by kernel_rfl, by kernel_rfl, by kernel_rfl, by kernel_rfl, trivial⟩) ?_
  refine post_next ?_
  iterate 2 (refine aw_seq ?_)
  obtain ⟨x10, hF, hK12⟩ := bind_some hF
  refine aw_cut (fun s1 => s1 = ⟨108, [(5, some (.lp 0 0)), (6, some (.lp 1 0)), (71, some (.pv (.bool x10)))], [(0, some (.box 33 (bxv (eGMethod a0.fMethod)))), (1, some (.box 33 (bxv (eGMethod a1.fMethod))))], 2, [], [], 0, []⟩) ?_ ?_
  · refine aw_region ?_
    refine reg_cons (guard_no rfl) (op_field_lp rfl rfl Try_fld_35_0 rfl rfl) ?_
    refine reg_cons (guard_no rfl) (op_load_lp (v := .pv (.str a0.fClass)) rfl rfl rfl rfl Try_one_9 rfl rfl) ?_
    refine reg_cons (guard_no rfl) (op_field_lp rfl rfl Try_fld_38_0 rfl rfl) ?_
    refine reg_cons (guard_no rfl) (op_load_lp (v := .pv (.str a1.fClass)) rfl rfl rfl rfl Try_one_9 rfl rfl) ?_
    refine reg_cons (guard_no rfl) (op_str rfl rfl rfl rfl rfl rfl) ?_
    refine rmv ?_
    rcases ite_some hF with ⟨hb1, hF⟩ | ⟨hb1, hF⟩
    · refine rgo_t hb1 ?_
      iterate 4 (refine rgo_t hb1 ?_)
      refine rpt hb1 ?_
      refine rmv ?_
      iterate 5 (refine rgo_t rfl ?_)
      refine rpt rfl ?_
      refine rmv ?_
      iterate 5 (refine rgo_t rfl ?_)
      refine rpt rfl ?_
      refine rmv ?_
      iterate 5 (refine rgo_t rfl ?_)
      refine rpt rfl ?_
      refine rmv ?_
      iterate 7 (refine rgo_t rfl ?_)
      refine rpt rfl ?_
      refine rmv ?_
      iterate 7 (refine rgo_t rfl ?_)
      refine rpt rfl ?_
      refine rmv ?_
      iterate 6 (refine rgo_t rfl ?_)
      refine rpt rfl ?_
      refine reg_nil ?_
      cases hF
      exact post_cut _ rfl (imps [2, 3] ⟨by kernel_rfl, by kernel_rfl, by kernel_rfl, trivial⟩ ⟨by kernel_rfl, by kernel_rfl, trivial⟩)
    refine reg_cons (guard_on rfl rfl rfl rfl hb1) (op_field_lp rfl rfl Try_fld_33_0 rfl rfl) ?_
    refine reg_cons (guard_on rfl rfl rfl rfl hb1) (op_load_lp (v := .pv (.str a0.fMethod.fName)) rfl rfl rfl rfl Try_one_9 rfl rfl) ?_
    refine reg_cons (guard_on rfl rfl rfl rfl hb1) (op_field_lp rfl rfl Try_fld_33_0 rfl rfl) ?_
    refine reg_cons (guard_on rfl rfl rfl rfl hb1) (op_load_lp (v := .pv (.str a1.fMethod.fName)) rfl rfl rfl rfl Try_one_9 rfl rfl) ?_
    refine reg_cons (guard_on rfl rfl rfl rfl hb1) (op_str rfl rfl rfl rfl rfl rfl) ?_
    refine rpf hb1 ?_
    refine rmv ?_
    rcases ite_some hF with ⟨hb2, hF⟩ | ⟨hb2, hF⟩
    · refine rgo_t hb2 ?_
      iterate 4 (refine rgo_t hb2 ?_)
      refine rpt hb2 ?_
      refine rmv ?_
      iterate 5 (refine rgo_t rfl ?_)
      refine rpt rfl ?_
      refine rmv ?_
      iterate 5 (refine rgo_t rfl ?_)
      refine rpt rfl ?_
      refine rmv ?_
      iterate 7 (refine rgo_t rfl ?_)
      refine rpt rfl ?_
      refine rmv ?_
      iterate 7 (refine rgo_t rfl ?_)
      refine rpt rfl ?_
      refine rmv ?_
      iterate 6 (refine rgo_t rfl ?_)
      refine rpt rfl ?_
      refine reg_nil ?_
      cases hF
      exact post_cut _ rfl (imps [2, 3] ⟨by kernel_rfl, by kernel_rfl, by kernel_rfl, trivial⟩ ⟨by kernel_rfl, by kernel_rfl, trivial⟩)
    refine reg_cons (guard_on rfl rfl rfl rfl hb2) (op_field_lp rfl rfl Try_fld_33_1 rfl rfl) ?_
    refine reg_cons (guard_on rfl rfl rfl rfl hb2) (op_load_lp (v := .pv (.bool a0.fMethod.fPure)) rfl rfl rfl rfl Try_one_4 rfl rfl) ?_
    refine reg_cons (guard_on rfl rfl rfl rfl hb2) (op_field_lp rfl rfl Try_fld_33_1 rfl rfl) ?_
    refine reg_cons (guard_on rfl rfl rfl rfl hb2) (op_load_lp (v := .pv (.bool a1.fMethod.fPure)) rfl rfl rfl rfl Try_one_4 rfl rfl) ?_
    refine reg_cons (guard_on rfl rfl rfl rfl hb2) (op_eqBool_neq rfl rfl rfl Try_und_4 rfl rfl) ?_
    refine rpf hb2 ?_
    refine rmv ?_
    rcases ite_some hF with ⟨hb3, hF⟩ | ⟨hb3, hF⟩
    · refine rgo_t hb3 ?_
      iterate 4 (refine rgo_t hb3 ?_)
      refine rpt hb3 ?_
      refine rmv ?_
      iterate 5 (refine rgo_t rfl ?_)
      refine rpt rfl ?_
      refine rmv ?_
      iterate 7 (refine rgo_t rfl ?_)
      refine rpt rfl ?_
      refine rmv ?_
      iterate 7 (refine rgo_t rfl ?_)
      refine rpt rfl ?_
      refine rmv ?_
      iterate 6 (refine rgo_t rfl ?_)
      refine rpt rfl ?_
      refine reg_nil ?_
      cases hF
      exact post_cut _ rfl (imps [2, 3] ⟨by kernel_rfl, by kernel_rfl, by kernel_rfl, trivial⟩ ⟨by kernel_rfl, by kernel_rfl, trivial⟩)
    refine reg_cons (guard_on rfl rfl rfl rfl hb3) (op_field_lp rfl rfl Try_fld_33_2 rfl rfl) ?_
    refine reg_cons (guard_on rfl rfl rfl rfl hb3) (op_load_lp_agg (ps := eGType a0.fMethod.fRet) rfl rfl rfl rfl rfl rfl Try_agg_29 rfl rfl) ?_
    refine reg_cons (guard_on rfl rfl rfl rfl hb3) (op_field_lp rfl rfl Try_fld_33_2 rfl rfl) ?_
    refine reg_cons (guard_on rfl rfl rfl rfl hb3) (op_load_lp_agg (ps := eGType a1.fMethod.fRet) rfl rfl rfl rfl rfl rfl Try_agg_29 rfl rfl) ?_
    refine reg_cons (guard_on rfl rfl rfl rfl hb3) (op_eqAgg_neq (r := bGType a0.fMethod.fRet a1.fMethod.fRet) rfl rfl rfl Try_eqt_29 rfl rfl rfl rfl rfl) ?_
    refine rpf hb3 ?_
    refine rmv ?_
    rcases ite_some hF with ⟨hb4, hF⟩ | ⟨hb4, hF⟩
    · refine rgo_t hb4 ?_
      iterate 4 (refine rgo_t hb4 ?_)
      refine rpt hb4 ?_
      refine rmv ?_
      iterate 7 (refine rgo_t rfl ?_)
      refine rpt rfl ?_
      refine rmv ?_
      iterate 7 (refine rgo_t rfl ?_)
      refine rpt rfl ?_
      refine rmv ?_
      iterate 6 (refine rgo_t rfl ?_)
      refine rpt rfl ?_
      refine reg_nil ?_
      cases hF
      exact post_cut _ rfl (imps [2, 3] ⟨by kernel_rfl, by kernel_rfl, by kernel_rfl, trivial⟩ ⟨by kernel_rfl, by kernel_rfl, trivial⟩)
    refine reg_cons (guard_on rfl rfl rfl rfl hb4) (op_field_lp rfl rfl Try_fld_33_6 rfl rfl) ?_
    refine reg_cons (guard_on rfl rfl rfl rfl hb4) (op_load_lp (v := .pv (.int .i64 a0.fMethod.fAt)) rfl rfl rfl rfl Try_one_3 rfl rfl) ?_
    refine reg_cons (guard_on rfl rfl rfl rfl hb4) (op_field_lp rfl rfl Try_fld_33_6 rfl rfl) ?_
    refine reg_cons (guard_on rfl rfl rfl rfl hb4) (op_load_lp (v := .pv (.int .i64 a1.fMethod.fAt)) rfl rfl rfl rfl Try_one_3 rfl rfl) ?_
    refine reg_cons (guard_on rfl rfl rfl rfl hb4) (op_int (k := .i64) (m := a0.fMethod.fAt) (n := a1.fMethod.fAt) rfl rfl rfl rfl rfl rfl) ?_
    refine rpf hb4 ?_
    refine rmv ?_
    rcases ite_some hF with ⟨hb5, hF⟩ | ⟨hb5, hF⟩
    · refine rgo_t hb5 ?_
      iterate 6 (refine rgo_t hb5 ?_)
      refine rpt hb5 ?_
      refine rmv ?_
      iterate 7 (refine rgo_t rfl ?_)
      refine rpt rfl ?_
      refine rmv ?_
      iterate 6 (refine rgo_t rfl ?_)
      refine rpt rfl ?_
      refine reg_nil ?_
      cases hF
      exact post_cut _ rfl (imps [2, 3] ⟨by kernel_rfl, by kernel_rfl, by kernel_rfl, trivial⟩ ⟨by kernel_rfl, by kernel_rfl, trivial⟩)
    refine reg_cons (guard_on rfl rfl rfl rfl hb5) (op_field_lp rfl rfl Try_fld_33_3 rfl rfl) ?_
    refine reg_cons (guard_on rfl rfl rfl rfl hb5) (op_load_lp (v := .pv (.vs 13 (List.map eGVar a0.fMethod.fParams))) rfl rfl rfl rfl Try_one_30 rfl rfl) ?_
    refine reg_cons (guard_on rfl rfl rfl rfl hb5) (op_len_vs (n := a0.fMethod.fParams.length) rfl rfl (List.length_map ..) Try_slc_30 rfl rfl) ?_
    refine reg_cons (guard_on rfl rfl rfl rfl hb5) (op_field_lp rfl rfl Try_fld_33_3 rfl rfl) ?_
    refine reg_cons (guard_on rfl rfl rfl rfl hb5) (op_load_lp (v := .pv (.vs 13 (List.map eGVar a1.fMethod.fParams))) rfl rfl rfl rfl Try_one_30 rfl rfl) ?_
    refine reg_cons (guard_on rfl rfl rfl rfl hb5) (op_len_vs (n := a1.fMethod.fParams.length) rfl rfl (List.length_map ..) Try_slc_30 rfl rfl) ?_
    refine reg_cons (guard_on rfl rfl rfl rfl hb5) (op_int (k := .i64) (m := (a0.fMethod.fParams.length : Int)) (n := (a1.fMethod.fParams.length : Int)) rfl rfl rfl rfl rfl rfl) ?_
    refine rpf hb5 ?_
    refine rmv ?_
    rcases ite_some hF with ⟨hb6, hF⟩ | ⟨hb6, hF⟩
    · refine rgo_t hb6 ?_
      iterate 6 (refine rgo_t hb6 ?_)
      refine rpt hb6 ?_
      refine rmv ?_
      iterate 6 (refine rgo_t rfl ?_)
      refine rpt rfl ?_
      refine reg_nil ?_
      cases hF
      exact post_cut _ rfl (imps [2, 3] ⟨by kernel_rfl, by kernel_rfl, by kernel_rfl, trivial⟩ ⟨by kernel_rfl, by kernel_rfl, trivial⟩)
    refine reg_cons (guard_on rfl rfl rfl rfl hb6) (op_field_lp rfl rfl Try_fld_33_4 rfl rfl) ?_
    refine reg_cons (guard_on rfl rfl rfl rfl hb6) (op_load_lp (v := .pv (.vs 13 (List.map eGVar a0.fMethod.fLocals))) rfl rfl rfl rfl Try_one_30 rfl rfl) ?_
    refine reg_cons (guard_on rfl rfl rfl rfl hb6) (op_len_vs (n := a0.fMethod.fLocals.length) rfl rfl (List.length_map ..) Try_slc_30 rfl rfl) ?_
    refine reg_cons (guard_on rfl rfl rfl rfl hb6) (op_field_lp rfl rfl Try_fld_33_4 rfl rfl) ?_
    refine reg_cons (guard_on rfl rfl rfl rfl hb6) (op_load_lp (v := .pv (.vs 13 (List.map eGVar a1.fMethod.fLocals))) rfl rfl rfl rfl Try_one_30 rfl rfl) ?_
    refine reg_cons (guard_on rfl rfl rfl rfl hb6) (op_len_vs (n := a1.fMethod.fLocals.length) rfl rfl (List.length_map ..) Try_slc_30 rfl rfl) ?_
    refine reg_cons (guard_on rfl rfl rfl rfl hb6) (op_int (k := .i64) (m := (a0.fMethod.fLocals.length : Int)) (n := (a1.fMethod.fLocals.length : Int)) rfl rfl rfl rfl rfl rfl) ?_
    refine rpf hb6 ?_
    refine rmv ?_
    rcases ite_some hF with ⟨hb7, hF⟩ | ⟨hb7, hF⟩
    · refine rgo_t hb7 ?_
      iterate 5 (refine rgo_t hb7 ?_)
      refine rpt hb7 ?_
      refine reg_nil ?_
      cases hF
      exact post_cut _ rfl (imps [2, 3] ⟨by kernel_rfl, by kernel_rfl, by kernel_rfl, trivial⟩ ⟨by kernel_rfl, by kernel_rfl, trivial⟩)
    refine reg_cons (guard_on rfl rfl rfl rfl hb7) (op_field_lp rfl rfl Try_fld_33_5 rfl rfl) ?_
    refine reg_cons (guard_on rfl rfl rfl rfl hb7) (op_load_lp (v := .pv (.vs 23 (eLGStmt a0.fMethod.fBody))) rfl rfl rfl rfl Try_one_31 rfl rfl) ?_
    refine reg_cons (guard_on rfl rfl rfl rfl hb7) (op_field_lp rfl rfl Try_fld_33_5 rfl rfl) ?_
    refine reg_cons (guard_on rfl rfl rfl rfl hb7) (op_load_lp (v := .pv (.vs 23 (eLGStmt a1.fMethod.fBody))) rfl rfl rfl rfl Try_one_31 rfl rfl) ?_
    obtain ⟨y8, h9, hF⟩ := bind_some hF
    refine reg_cons (guard_on rfl rfl rfl rfl hb7) (op_call 4 rfl (caps := []) (args := [.vs 23 (eLGStmt a0.fMethod.fBody), .vs 23 (eLGStmt a1.fMethod.fBody)]) (rs := [.p (.bool y8)]) rfl rfl rfl Try_cal_45 (ref08_List_ok h9) rfl rfl rfl) ?_
    refine reg_cons (guard_on rfl rfl rfl rfl hb7) (op_not rfl rfl rfl rfl) ?_
    refine rpf hb7 ?_
    refine reg_nil ?_
    cases hF
    exact post_cut _ rfl (imps [2, 3] ⟨by kernel_rfl, by kernel_rfl, by kernel_rfl, trivial⟩ ⟨by kernel_rfl, by kernel_rfl, trivial⟩)
  rintro _ rfl
  have hF := hK12
  clear hK12
  refine post_next ?_
  rcases ite_some hF with ⟨hb13, hF⟩ | ⟨hb13, hF⟩
  · refine aw_cond_t rfl hb13 ?_
    refine aw_seq ?_
    refine aw_region ?_
    refine ras ?_
    refine reg_nil ?_
    refine post_imp (s' := ⟨108, [(4, some (.pv (.bool false)))], [], 0, [], [], 0, []⟩) (imps [] ⟨by kernel_rfl, trivial⟩ trivial) ?_
    refine post_next ?_
    refine aw_ret ?_
    refine post_then_ret ?_
    obtain rfl := Option.some.inj hF
    exact post_ret rfl rfl (.cons _ _ _ _ _ (.tmp _ _ rfl) (.p _) .nil) (.inl rfl)
  refine aw_cond_f rfl hb13 ?_
  refine aw_skip ?_
  refine post_next ?_
  iterate 2 (refine aw_seq ?_)
  refine aw_region ?_
  refine ras ?_
  refine reg_nil ?_
  refine post_imp (s' := ⟨108, [(5, some (.lp 0 0)), (6, some (.lp 1 0)), (7, some (.pv (.int .i64 0)))], [(0, some (.box 33 (bxv (eGMethod a0.fMethod)))), (1, some (.box 33 (bxv (eGMethod a1.fMethod))))], 2, [], [], 0, []⟩) (imps [0, 1] ⟨by kernel_rfl, by kernel_rfl, by kernel_rfl, trivial⟩ ⟨by kernel_rfl, by kernel_rfl, trivial⟩) ?_
  refine post_next ?_
  obtain ⟨lr47, hF, hK48⟩ := bind_some hF
  refine aw_for ((((a0.fMethod.fParams.length : Int) : Int) - (0)).toNat + 1) (fun s1 => ∃ q, lr47 = .next q ∧ s1 = ⟨108, [(5, some (.lp 0 0)), (6, some (.lp 1 0))], [(0, some (.box 33 (bxv (eGMethod a0.fMethod)))), (1, some (.box 33 (bxv (eGMethod a1.fMethod))))], 2, [], [], 0, []⟩) ?_ ?_
  · refine rnd_loop (α := Int) (fun q => ⟨108, [(5, some (.lp 0 0)), (6, some (.lp 1 0)), (7, some (.pv (.int .i64 q)))], [(0, some (.box 33 (bxv (eGMethod a0.fMethod)))), (1, some (.box 33 (bxv (eGMethod a1.fMethod))))], 2, [], [], 0, []⟩) (fun k q => law17_same_L1 a0 a1 k q = some lr47) 0 (imps [0, 1] ⟨by kernel_rfl, by kernel_rfl, by kernel_rfl, trivial⟩ ⟨by kernel_rfl, by kernel_rfl, trivial⟩) hF (fun q h => by cases h) ?_
    clear hF
    rintro k x24 hF ih
    refine rnd_succ ?_
    iterate 2 (refine aw_seq ?_)
    refine aw_region ?_
    refine rmv ?_
    refine reg_cons (guard_no rfl) (op_field_lp rfl rfl Try_fld_33_3 rfl rfl) ?_
    refine reg_cons (guard_no rfl) (op_load_lp (v := .pv (.vs 13 (List.map eGVar a0.fMethod.fParams))) rfl rfl rfl rfl Try_one_30 rfl rfl) ?_
    refine reg_cons (guard_no rfl) (op_len_vs (n := a0.fMethod.fParams.length) rfl rfl (List.length_map ..) Try_slc_30 rfl rfl) ?_
    refine reg_cons (guard_no rfl) (op_int (k := .i64) (m := x24) (n := (a0.fMethod.fParams.length : Int)) rfl rfl rfl rfl rfl rfl) ?_
    refine reg_nil ?_
    refine post_imp (s' := ⟨108, [(5, some (.lp 0 0)), (6, some (.lp 1 0)), (7, some (.pv (.int .i64 x24))), (76, some (.pv (.bool (decide (x24 < (a0.fMethod.fParams.length : Int))))))], [(0, some (.box 33 (bxv (eGMethod a0.fMethod)))), (1, some (.box 33 (bxv (eGMethod a1.fMethod))))], 2, [], [], 0, []⟩) (imps [0, 1] ⟨by kernel_rfl, by kernel_rfl, by kernel_rfl, by kernel_rfl, trivial⟩ ⟨by kernel_rfl, by kernel_rfl, trivial⟩) ?_
    refine post_next ?_
    rcases ite_some hF with ⟨hb36, hF⟩ | ⟨hb36, hF⟩
    · refine aw_cond_t rfl hb36 ?_
      refine aw_skip ?_
      refine post_next ?_
      refine aw_seq ?_
      refine aw_block ?_
      refine aw_seq ?_
      refine dr_start ⟨_, _, _⟩ rfl ?_
      refine dr_cons { need := [(5, .lp 0 0)], dst := some 79, val := some (.lp 0 13) } (fun m h => step_on (guard_no rfl) (op_field_lp rfl h.1.1 Try_fld_33_3 rfl rfl) rfl) ⟨⟨rfl, trivial⟩, trivial, trivial⟩ ?_
      refine dr_cons { need := [(79, .lp 0 13)], hneed := [(0, .box 33 (bxv (eGMethod a0.fMethod)))], dst := some 80, val := some (.pv (.vs 13 (List.map eGVar a0.fMethod.fParams))) } (fun m h => step_on (guard_no rfl) (op_load_lp (v := .pv (.vs 13 (List.map eGVar a0.fMethod.fParams))) rfl h.1.1 h.2.1.1 rfl Try_one_30 rfl rfl) rfl) ⟨⟨rfl, trivial⟩, ⟨rfl, trivial⟩, trivial⟩ ?_
      refine drm ?_
      obtain ⟨y41, h42, hF⟩ := bind_some hF
      refine dr_cons { need := [(80, .pv (.vs 13 (List.map eGVar a0.fMethod.fParams))), (81, .pv (.int .i64 x24))], dst := some 82, val := some (.pv (.vp (eGVar y41))) } (fun m h => step_on (guard_no rfl) (op_index_vs (k := .i64) rfl h.1.1 h.1.2.1 (idx_map eGVar h42) Try_slc_30 rfl rfl) rfl) ⟨⟨rfl, rfl, trivial⟩, trivial, trivial⟩ ?_
      refine dr_cons { need := [(82, .pv (.vp (eGVar y41)))], dst := some 83, val := some (.pv (.agg (eGVar y41))) } (fun m h => step_on (guard_no rfl) (op_load_vp_agg (ps := eGVar y41) rfl h.1.1 rfl rfl Try_agg_50 rfl rfl) rfl) ⟨⟨rfl, trivial⟩, trivial, trivial⟩ ?_
      refine dr_cons { need := [(6, .lp 1 0)], dst := some 84, val := some (.lp 1 13) } (fun m h => step_on (guard_no rfl) (op_field_lp rfl h.1.1 Try_fld_33_3 rfl rfl) rfl) ⟨⟨rfl, trivial⟩, trivial, trivial⟩ ?_
      refine dr_cons { need := [(84, .lp 1 13)], hneed := [(1, .box 33 (bxv (eGMethod a1.fMethod)))], dst := some 85, val := some (.pv (.vs 13 (List.map eGVar a1.fMethod.fParams))) } (fun m h => step_on (guard_no rfl) (op_load_lp (v := .pv (.vs 13 (List.map eGVar a1.fMethod.fParams))) rfl h.1.1 h.2.1.1 rfl Try_one_30 rfl rfl) rfl) ⟨⟨rfl, trivial⟩, ⟨rfl, trivial⟩, trivial⟩ ?_
      refine drm ?_
      obtain ⟨y43, h44, hF⟩ := bind_some hF
      refine dr_cons { need := [(85, .pv (.vs 13 (List.map eGVar a1.fMethod.fParams))), (86, .pv (.int .i64 x24))], dst := some 87, val := some (.pv (.vp (eGVar y43))) } (fun m h => step_on (guard_no rfl) (op_index_vs (k := .i64) rfl h.1.1 h.1.2.1 (idx_map eGVar h44) Try_slc_30 rfl rfl) rfl) ⟨⟨rfl, rfl, trivial⟩, trivial, trivial⟩ ?_
      refine dr_cons { need := [(87, .pv (.vp (eGVar y43)))], dst := some 88, val := some (.pv (.agg (eGVar y43))) } (fun m h => step_on (guard_no rfl) (op_load_vp_agg (ps := eGVar y43) rfl h.1.1 rfl rfl Try_agg_50 rfl rfl) rfl) ⟨⟨rfl, trivial⟩, trivial, trivial⟩ ?_
      refine dr_cons { need := [(83, .pv (.agg (eGVar y41))), (88, .pv (.agg (eGVar y43)))], dst := some 89, val := some (.pv (.bool (!(bGVar y41 y43)))) } (fun m h => step_on (guard_no rfl) (op_eqAgg_neq (r := bGVar y41 y43) rfl h.1.1 h.1.2.1 Try_eqt_50 rfl rfl rfl rfl rfl) rfl) ⟨⟨rfl, rfl, trivial⟩, trivial, trivial⟩ ?_
      refine dr_nil Try_mixed rfl (by kernel_rfl) ?_
      refine post_imp (s' := ⟨108, [(5, some (.lp 0 0)), (6, some (.lp 1 0)), (7, some (.pv (.int .i64 x24))), (89, some (.pv (.bool (!(bGVar y41 y43)))))], [(0, some (.box 33 (bxv (eGMethod a0.fMethod)))), (1, some (.box 33 (bxv (eGMethod a1.fMethod))))], 2, [], [], 0, []⟩) (imps [0, 1] ⟨by kernel_rfl, by kernel_rfl, by kernel_rfl, by kernel_rfl, trivial⟩ ⟨by kernel_rfl, by kernel_rfl, trivial⟩) ?_
      refine post_next ?_
      rcases ite_some hF with ⟨hb45, hF⟩ | ⟨hb45, hF⟩
      · refine aw_cond_t rfl hb45 ?_
        refine aw_seq ?_
        refine aw_region ?_
        refine ras ?_
        refine reg_nil ?_
        refine post_imp (s' := ⟨108, [(4, some (.pv (.bool false)))], [], 0, [], [], 0, []⟩) (imps [] ⟨by kernel_rfl, trivial⟩ trivial) ?_
        refine post_next ?_
        refine aw_ret ?_
        refine post_block_ret ?_
        iterate 2 (refine post_then_ret ?_)
        refine post_lp_ret ?_
        obtain rfl := Option.some.inj hF
        have hF := elim_stop hK48
        refine post_then_ret ?_
        obtain rfl := Option.some.inj hF
        exact post_ret rfl rfl (.cons _ _ _ _ _ (.tmp _ _ rfl) (.p _) .nil) (.inl rfl)
      refine aw_cond_f rfl hb45 ?_
      refine aw_skip ?_
      refine post_block_normal ?_
      refine post_next ?_
      refine aw_region ?_
      refine rmv ?_
      refine reg_cons (guard_no rfl) (op_int (k := .i64) (m := x24) (n := 1) rfl rfl rfl rfl rfl rfl) ?_
      refine ras ?_
      refine reg_nil ?_
      refine post_round ?_
      exact rnd_back (ih (w_i64 (x24 + 1)) hF) (imps [0, 1] ⟨by kernel_rfl, by kernel_rfl, by kernel_rfl, trivial⟩ ⟨by kernel_rfl, by kernel_rfl, trivial⟩)
    refine aw_cond_f rfl hb36 ?_
    refine aw_exit ?_
    iterate 2 (refine post_then_exit ?_)
    obtain rfl := Option.some.inj hF
    exact post_lp_break _ ⟨_, rfl, rfl⟩ (imps [0, 1] ⟨by kernel_rfl, by kernel_rfl, trivial⟩ ⟨by kernel_rfl, by kernel_rfl, trivial⟩)
  rintro _ ⟨⟨⟩, rfl, rfl⟩
  have hF := elim_next hK48
  clear hK48
  refine post_next ?_
  iterate 2 (refine aw_seq ?_)
  refine aw_region ?_
  refine ras ?_
  refine reg_nil ?_
  refine post_imp (s' := ⟨108, [(5, some (.lp 0 0)), (6, some (.lp 1 0)), (8, some (.pv (.int .i64 0)))], [(0, some (.box 33 (bxv (eGMethod a0.fMethod)))), (1, some (.box 33 (bxv (eGMethod a1.fMethod))))], 2, [], [], 0, []⟩) (imps [0, 1] ⟨by kernel_rfl, by kernel_rfl, by kernel_rfl, trivial⟩ ⟨by kernel_rfl, by kernel_rfl, trivial⟩) ?_
  refine post_next ?_
  obtain ⟨lr82, hF, hK83⟩ := bind_some hF
  refine aw_for ((((a0.fMethod.fLocals.length : Int) : Int) - (0)).toNat + 1) (fun s1 => ∃ q, lr82 = .next q ∧ s1 = ⟨108, [], [], 0, [], [], 0, []⟩) ?_ ?_
  · refine rnd_loop (α := Int) (fun q => ⟨108, [(5, some (.lp 0 0)), (6, some (.lp 1 0)), (8, some (.pv (.int .i64 q)))], [(0, some (.box 33 (bxv (eGMethod a0.fMethod)))), (1, some (.box 33 (bxv (eGMethod a1.fMethod))))], 2, [], [], 0, []⟩) (fun k q => law17_same_L2 a0 a1 k q = some lr82) 0 (imps [0, 1] ⟨by kernel_rfl, by kernel_rfl, by kernel_rfl, trivial⟩ ⟨by kernel_rfl, by kernel_rfl, trivial⟩) hF (fun q h => by cases h) ?_
    clear hF
    rintro k x59 hF ih
    refine rnd_succ ?_
    iterate 2 (refine aw_seq ?_)
    refine aw_region ?_
    refine rmv ?_
    refine reg_cons (guard_no rfl) (op_field_lp rfl rfl Try_fld_33_4 rfl rfl) ?_
    refine reg_cons (guard_no rfl) (op_load_lp (v := .pv (.vs 13 (List.map eGVar a0.fMethod.fLocals))) rfl rfl rfl rfl Try_one_30 rfl rfl) ?_
    refine reg_cons (guard_no rfl) (op_len_vs (n := a0.fMethod.fLocals.length) rfl rfl (List.length_map ..) Try_slc_30 rfl rfl) ?_
    refine reg_cons (guard_no rfl) (op_int (k := .i64) (m := x59) (n := (a0.fMethod.fLocals.length : Int)) rfl rfl rfl rfl rfl rfl) ?_
    refine reg_nil ?_
    refine post_imp (s' := ⟨108, [(5, some (.lp 0 0)), (6, some (.lp 1 0)), (8, some (.pv (.int .i64 x59))), (94, some (.pv (.bool (decide (x59 < (a0.fMethod.fLocals.length : Int))))))], [(0, some (.box 33 (bxv (eGMethod a0.fMethod)))), (1, some (.box 33 (bxv (eGMethod a1.fMethod))))], 2, [], [], 0, []⟩) (imps [0, 1] ⟨by kernel_rfl, by kernel_rfl, by kernel_rfl, by kernel_rfl, trivial⟩ ⟨by kernel_rfl, by kernel_rfl, trivial⟩) ?_
    refine post_next ?_
    rcases ite_some hF with ⟨hb71, hF⟩ | ⟨hb71, hF⟩
    · refine aw_cond_t rfl hb71 ?_
      refine aw_skip ?_
      refine post_next ?_
      refine aw_seq ?_
      refine aw_block ?_
      refine aw_seq ?_
      refine dr_start ⟨_, _, _⟩ rfl ?_
      refine dr_cons { need := [(5, .lp 0 0)], dst := some 97, val := some (.lp 0 14) } (fun m h => step_on (guard_no rfl) (op_field_lp rfl h.1.1 Try_fld_33_4 rfl rfl) rfl) ⟨⟨rfl, trivial⟩, trivial, trivial⟩ ?_
      refine dr_cons { need := [(97, .lp 0 14)], hneed := [(0, .box 33 (bxv (eGMethod a0.fMethod)))], dst := some 98, val := some (.pv (.vs 13 (List.map eGVar a0.fMethod.fLocals))) } (fun m h => step_on (guard_no rfl) (op_load_lp (v := .pv (.vs 13 (List.map eGVar a0.fMethod.fLocals))) rfl h.1.1 h.2.1.1 rfl Try_one_30 rfl rfl) rfl) ⟨⟨rfl, trivial⟩, ⟨rfl, trivial⟩, trivial⟩ ?_
      refine drm ?_
      obtain ⟨y76, h77, hF⟩ := bind_some hF
      refine dr_cons { need := [(98, .pv (.vs 13 (List.map eGVar a0.fMethod.fLocals))), (99, .pv (.int .i64 x59))], dst := some 100, val := some (.pv (.vp (eGVar y76))) } (fun m h => step_on (guard_no rfl) (op_index_vs (k := .i64) rfl h.1.1 h.1.2.1 (idx_map eGVar h77) Try_slc_30 rfl rfl) rfl) ⟨⟨rfl, rfl, trivial⟩, trivial, trivial⟩ ?_
      refine dr_cons { need := [(100, .pv (.vp (eGVar y76)))], dst := some 101, val := some (.pv (.agg (eGVar y76))) } (fun m h => step_on (guard_no rfl) (op_load_vp_agg (ps := eGVar y76) rfl h.1.1 rfl rfl Try_agg_50 rfl rfl) rfl) ⟨⟨rfl, trivial⟩, trivial, trivial⟩ ?_
      refine dr_cons { need := [(6, .lp 1 0)], dst := some 102, val := some (.lp 1 14) } (fun m h => step_on (guard_no rfl) (op_field_lp rfl h.1.1 Try_fld_33_4 rfl rfl) rfl) ⟨⟨rfl, trivial⟩, trivial, trivial⟩ ?_
      refine dr_cons { need := [(102, .lp 1 14)], hneed := [(1, .box 33 (bxv (eGMethod a1.fMethod)))], dst := some 103, val := some (.pv (.vs 13 (List.map eGVar a1.fMethod.fLocals))) } (fun m h => step_on (guard_no rfl) (op_load_lp (v := .pv (.vs 13 (List.map eGVar a1.fMethod.fLocals))) rfl h.1.1 h.2.1.1 rfl Try_one_30 rfl rfl) rfl) ⟨⟨rfl, trivial⟩, ⟨rfl, trivial⟩, trivial⟩ ?_
      refine drm ?_
      obtain ⟨y78, h79, hF⟩ := bind_some hF
      refine dr_cons { need := [(103, .pv (.vs 13 (List.map eGVar a1.fMethod.fLocals))), (104, .pv (.int .i64 x59))], dst := some 105, val := some (.pv (.vp (eGVar y78))) } (fun m h => step_on (guard_no rfl) (op_index_vs (k := .i64) rfl h.1.1 h.1.2.1 (idx_map eGVar h79) Try_slc_30 rfl rfl) rfl) ⟨⟨rfl, rfl, trivial⟩, trivial, trivial⟩ ?_
      refine dr_cons { need := [(105, .pv (.vp (eGVar y78)))], dst := some 106, val := some (.pv (.agg (eGVar y78))) } (fun m h => step_on (guard_no rfl) (op_load_vp_agg (ps := eGVar y78) rfl h.1.1 rfl rfl Try_agg_50 rfl rfl) rfl) ⟨⟨rfl, trivial⟩, trivial, trivial⟩ ?_
      refine dr_cons { need := [(101, .pv (.agg (eGVar y76))), (106, .pv (.agg (eGVar y78)))], dst := some 107, val := some (.pv (.bool (!(bGVar y76 y78)))) } (fun m h => step_on (guard_no rfl) (op_eqAgg_neq (r := bGVar y76 y78) rfl h.1.1 h.1.2.1 Try_eqt_50 rfl rfl rfl rfl rfl) rfl) ⟨⟨rfl, rfl, trivial⟩, trivial, trivial⟩ ?_
      refine dr_nil Try_mixed rfl (by kernel_rfl) ?_
      refine post_imp (s' := ⟨108, [(5, some (.lp 0 0)), (6, some (.lp 1 0)), (8, some (.pv (.int .i64 x59))), (107, some (.pv (.bool (!(bGVar y76 y78)))))], [(0, some (.box 33 (bxv (eGMethod a0.fMethod)))), (1, some (.box 33 (bxv (eGMethod a1.fMethod))))], 2, [], [], 0, []⟩) (imps [0, 1] ⟨by kernel_rfl, by kernel_rfl, by kernel_rfl, by kernel_rfl, trivial⟩ ⟨by kernel_rfl, by kernel_rfl, trivial⟩) ?_
      refine post_next ?_
      rcases ite_some hF with ⟨hb80, hF⟩ | ⟨hb80, hF⟩
      · refine aw_cond_t rfl hb80 ?_
        refine aw_seq ?_
        refine aw_region ?_
        refine ras ?_
        refine reg_nil ?_
        refine post_imp (s' := ⟨108, [(4, some (.pv (.bool false)))], [], 0, [], [], 0, []⟩) (imps [] ⟨by kernel_rfl, trivial⟩ trivial) ?_
        refine post_next ?_
        refine aw_ret ?_
        refine post_block_ret ?_
        iterate 2 (refine post_then_ret ?_)
        refine post_lp_ret ?_
        obtain rfl := Option.some.inj hF
        have hF := elim_stop hK83
        refine post_then_ret ?_
        obtain rfl := Option.some.inj hF
        exact post_ret rfl rfl (.cons _ _ _ _ _ (.tmp _ _ rfl) (.p _) .nil) (.inl rfl)
      refine aw_cond_f rfl hb80 ?_
      refine aw_skip ?_
      refine post_block_normal ?_
      refine post_next ?_
      refine aw_region ?_
      refine rmv ?_
      refine reg_cons (guard_no rfl) (op_int (k := .i64) (m := x59) (n := 1) rfl rfl rfl rfl rfl rfl) ?_
      refine ras ?_
      refine reg_nil ?_
      refine post_round ?_
      exact rnd_back (ih (w_i64 (x59 + 1)) hF) (imps [0, 1] ⟨by kernel_rfl, by kernel_rfl, by kernel_rfl, trivial⟩ ⟨by kernel_rfl, by kernel_rfl, trivial⟩)
    refine aw_cond_f rfl hb71 ?_
    refine aw_exit ?_
    iterate 2 (refine post_then_exit ?_)
    obtain rfl := Option.some.inj hF
    exact post_lp_break _ ⟨_, rfl, rfl⟩ (imps [] trivial trivial)
  rintro _ ⟨⟨⟩, rfl, rfl⟩
  have hF := elim_next hK83
  clear hK83
  refine post_next ?_
  refine aw_seq ?_
  refine aw_region ?_
  refine ras ?_
  refine reg_nil ?_
  refine post_imp (s' := ⟨108, [(4, some (.pv (.bool true)))], [], 0, [], [], 0, []⟩) (imps [] ⟨by kernel_rfl, trivial⟩ trivial) ?_
  refine post_next ?_
  refine aw_ret ?_
  obtain rfl := Option.some.inj hF
  exact post_ret rfl rfl (.cons _ _ _ _ _ (.tmp _ _ rfl) (.p _) .nil) (.inl rfl)
theorem law17_MethodFind_ok {a0 : List GClass} {a1 : List UInt8} {a2 : List UInt8} {r : Bool} (hF : law17_MethodFind a0 a1 a2 = some r) : Abs.Fn Try.prog 3 [.vs 7 (List.map eGClass a0), .str a1, .str a2] [.p (.bool r)] := by
  unfold law17_MethodFind at hF
  refine fn_of_body (n := 67) Try.func3 rfl rfl rfl ?_
  intro w O
  refine aw_seq ?_
  refine aw_region ?_
  refine ras ?_
  refine reg_nil ?_
  refine post_imp (s' := ⟨67, [(0, some (.pv (.vs 7 (List.map eGClass a0)))), (1, some (.pv (.str a1))), (2, some (.pv (.str a2)))], [], 0, [], [], 0, []⟩) (imps [] ⟨by kernel_rfl, by kernel_rfl, by kernel_rfl, trivial⟩ trivial) ?_
  refine post_next ?_
  iterate 2 (refine aw_seq ?_)
  refine aw_region ?_
  refine rmv ?_
  obtain ⟨y3, h4, hF⟩ := bind_some hF
  refine reg_cons (guard_no rfl) (op_call 0 rfl (caps := []) (args := [.vs 7 (List.map eGClass a0)]) (rs := [.p (.bool y3)]) rfl rfl rfl Try_cal_10 (ref10_Heavy_ok h4) rfl rfl rfl) ?_
  refine reg_nil ?_
  refine post_imp (s' := ⟨67, [(0, some (.pv (.vs 7 (List.map eGClass a0)))), (1, some (.pv (.str a1))), (2, some (.pv (.str a2))), (16, some (.pv (.bool y3)))], [], 0, [], [], 0, []⟩) (imps [] ⟨by kernel_rfl, by kernel_rfl, by kernel_rfl, by kernel_rfl, trivial⟩ trivial) ?_
  refine post_next ?_
  rcases ite_some hF with ⟨hb5, hF⟩ | ⟨hb5, hF⟩
  · refine aw_cond_t rfl hb5 ?_
    refine aw_seq ?_
    refine aw_region ?_
    obtain ⟨y6, h7, hF⟩ := bind_some hF
    refine reg_cons (guard_no rfl) (op_call 0 rfl (caps := []) (args := []) (rs := [.p (.bool y6)]) rfl rfl rfl Try_cal_11 (law17_awake_ok h7) rfl rfl rfl) ?_
    refine ras ?_
    refine reg_nil ?_
    refine post_imp (s' := ⟨67, [(6, some (.pv (.bool y6)))], [], 0, [], [], 0, []⟩) (imps [] ⟨by kernel_rfl, trivial⟩ trivial) ?_
    refine post_next ?_
    refine aw_ret ?_
    refine post_then_ret ?_
    obtain rfl := Option.some.inj hF
    exact post_ret rfl rfl (.cons _ _ _ _ _ (.tmp _ _ rfl) (.p _) .nil) (.inl rfl)
  refine aw_cond_f rfl hb5 ?_
  refine aw_skip ?_
  refine post_next ?_
  refine aw_seq ?_
  refine aw_region ?_
  iterate 3 (refine rmv ?_)
  obtain ⟨y10, h11, hF⟩ := bind_some hF
  refine reg_cons (guard_no rfl) (op_call 0 rfl (caps := []) (args := [.vs 7 (List.map eGClass a0), .str a1, .str a2]) (rs := [.p (.agg (eGFound_method y10.1)), .p (.bool y10.2)]) rfl rfl rfl Try_cal_12 (method_Find_ok h11) rfl rfl rfl) ?_
  refine rmv ?_
  iterate 2 (refine reg_cons (guard_no rfl) (op_extract rfl rfl rfl rfl rfl) ?_)
  refine reg_cons (guard_no rfl) (op_alloc 0 rfl (ps := (eGFound_method zGFound_method)) rfl Try_zer_35 (by exact ⟨rfl, rfl, rfl, rfl, rfl, rfl, rfl, rfl, rfl, rfl, rfl, rfl, rfl, rfl, trivial, trivial, trivial, rfl, trivial⟩) rfl rfl) ?_
  refine reg_cons (guard_no rfl) (op_store_lp (n := 18) rfl rfl rfl rfl rfl (or_agg Try_agg_35) (by rw [Try_non_35]; rfl) rfl rfl rfl) ?_
  refine ras ?_
  refine reg_nil ?_
  refine post_imp (s' := ⟨67, [(0, some (.pv (.vs 7 (List.map eGClass a0)))), (1, some (.pv (.str a1))), (2, some (.pv (.str a2))), (7, some (.lp 0 0)), (8, some (.pv (.bool y10.2)))], [(0, some (.box 35 (bxv (eGFound_method y10.1))))], 1, [], [], 0, []⟩) (imps [0] ⟨by kernel_rfl, by kernel_rfl, by kernel_rfl, by kernel_rfl, by kernel_rfl, trivial⟩ ⟨by kernel_rfl, trivial⟩) ?_
  refine post_next ?_
  refine aw_seq ?_
  refine aw_region ?_
  iterate 3 (refine rmv ?_)
  obtain ⟨y14, h15, hF⟩ := bind_some hF
  refine reg_cons (guard_no rfl) (op_call 1 rfl (caps := []) (args := [.vs 7 (List.map eGClass a0), .str a1, .str a2]) (rs := [.p (.agg (eGFound_ref17 y14.1)), .p (.bool y14.2)]) rfl rfl rfl Try_cal_13 (ref17_Find_ok h15) rfl rfl rfl) ?_
  refine rmv ?_
  iterate 2 (refine reg_cons (guard_no rfl) (op_extract rfl rfl rfl rfl rfl) ?_)
  refine reg_cons (guard_no rfl) (op_alloc 1 rfl (ps := (eGFound_ref17 zGFound_ref17)) rfl Try_zer_38 (by exact ⟨rfl, rfl, rfl, rfl, rfl, rfl, rfl, rfl, rfl, rfl, rfl, rfl, rfl, rfl, trivial, trivial, trivial, rfl, trivial⟩) rfl rfl) ?_
  refine reg_cons (guard_no rfl) (op_store_lp (n := 18) rfl rfl rfl rfl rfl (or_agg Try_agg_38) (by rw [Try_non_38]; rfl) rfl rfl rfl) ?_
  refine ras ?_
  refine reg_nil ?_
  refine post_imp (s' := ⟨67, [(0, some (.pv (.vs 7 (List.map eGClass a0)))), (1, some (.pv (.str a1))), (2, some (.pv (.str a2))), (7, some (.lp 0 0)), (8, some (.pv (.bool y10.2))), (9, some (.lp 1 0)), (10, some (.pv (.bool y14.2)))], [(0, some (.box 35 (bxv (eGFound_method y10.1)))), (1, some (.box 38 (bxv (eGFound_ref17 y14.1))))], 2, [], [], 0, []⟩) (imps [0, 1] ⟨by kernel_rfl, by kernel_rfl, by kernel_rfl, by kernel_rfl, by kernel_rfl, by kernel_rfl, by kernel_rfl, trivial⟩ ⟨by kernel_rfl, by kernel_rfl, trivial⟩) ?_
  refine post_next ?_
  refine aw_seq ?_
  refine aw_region ?_
  iterate 3 (refine rmv ?_)
  obtain ⟨y18, h19, hF⟩ := bind_some hF
  refine reg_cons (guard_no rfl) (op_call 2 rfl (caps := []) (args := [.vs 7 (List.map eGClass a0), .str a1, .str a2]) (rs := [.p (.agg (eGFound_method y18.1)), .p (.bool y18.2)]) rfl rfl rfl Try_cal_14 (method_Over_ok h19) rfl rfl rfl) ?_
  refine rmv ?_
  iterate 2 (refine reg_cons (guard_no rfl) (op_extract rfl rfl rfl rfl rfl) ?_)
  refine reg_cons (guard_no rfl) (op_alloc 2 rfl (ps := (eGFound_method zGFound_method)) rfl Try_zer_35 (by exact ⟨rfl, rfl, rfl, rfl, rfl, rfl, rfl, rfl, rfl, rfl, rfl, rfl, rfl, rfl, trivial, trivial, trivial, rfl, trivial⟩) rfl rfl) ?_
  refine reg_cons (guard_no rfl) (op_store_lp (n := 18) rfl rfl rfl rfl rfl (or_agg Try_agg_35) (by rw [Try_non_35]; rfl) rfl rfl rfl) ?_
  refine ras ?_
  refine reg_nil ?_
  refine post_imp (s' := ⟨67, [(0, some (.pv (.vs 7 (List.map eGClass a0)))), (1, some (.pv (.str a1))), (2, some (.pv (.str a2))), (7, some (.lp 0 0)), (8, some (.pv (.bool y10.2))), (9, some (.lp 1 0)), (10, some (.pv (.bool y14.2))), (11, some (.lp 2 0)), (12, some (.pv (.bool y18.2)))], [(0, some (.box 35 (bxv (eGFound_method y10.1)))), (1, some (.box 38 (bxv (eGFound_ref17 y14.1)))), (2, some (.box 35 (bxv (eGFound_method y18.1))))], 3, [], [], 0, []⟩) (imps [0, 1, 2] ⟨by kernel_rfl, by kernel_rfl, by kernel_rfl, by kernel_rfl, by kernel_rfl, by kernel_rfl, by kernel_rfl, by kernel_rfl, by kernel_rfl, trivial⟩ ⟨by kernel_rfl, by kernel_rfl, by kernel_rfl, trivial⟩) ?_
  refine post_next ?_
  refine aw_seq ?_
  refine aw_region ?_
  iterate 3 (refine rmv ?_)
  obtain ⟨y22, h23, hF⟩ := bind_some hF
  refine reg_cons (guard_no rfl) (op_call 3 rfl (caps := []) (args := [.vs 7 (List.map eGClass a0), .str a1, .str a2]) (rs := [.p (.agg (eGFound_ref17 y22.1)), .p (.bool y22.2)]) rfl rfl rfl Try_cal_15 (ref17_Over_ok h23) rfl rfl rfl) ?_
  refine rmv ?_
  iterate 2 (refine reg_cons (guard_no rfl) (op_extract rfl rfl rfl rfl rfl) ?_)
  refine reg_cons (guard_no rfl) (op_alloc 3 rfl (ps := (eGFound_ref17 zGFound_ref17)) rfl Try_zer_38 (by exact ⟨rfl, rfl, rfl, rfl, rfl, rfl, rfl, rfl, rfl, rfl, rfl, rfl, rfl, rfl, trivial, trivial, trivial, rfl, trivial⟩) rfl rfl) ?_
  refine reg_cons (guard_no rfl) (op_store_lp (n := 18) rfl rfl rfl rfl rfl (or_agg Try_agg_38) (by rw [Try_non_38]; rfl) rfl rfl rfl) ?_
  refine ras ?_
  refine reg_nil ?_
  refine post_imp (s' := ⟨67, [(7, some (.lp 0 0)), (8, some (.pv (.bool y10.2))), (9, some (.lp 1 0)), (10, some (.pv (.bool y14.2))), (11, some (.lp 2 0)), (12, some (.pv (.bool y18.2))), (13, some (.lp 3 0)), (14, some (.pv (.bool y22.2)))], [(0, some (.box 35 (bxv (eGFound_method y10.1)))), (1, some (.box 38 (bxv (eGFound_ref17 y14.1)))), (2, some (.box 35 (bxv (eGFound_method y18.1)))), (3, some (.box 38 (bxv (eGFound_ref17 y22.1))))], 4, [], [], 0, []⟩) (imps [0, 1, 2, 3] ⟨by kernel_rfl, by kernel_rfl, by kernel_rfl, by kernel_rfl, by kernel_rfl, by kernel_rfl, by kernel_rfl, by kernel_rfl, trivial⟩ ⟨by kernel_rfl, by kernel_rfl, by kernel_rfl, by kernel_rfl, trivial⟩) ?_
  refine post_next ?_
  refine aw_seq ?_
  refine aw_region ?_
  refine reg_cons (guard_no rfl) (op_load_lp_agg (ps := eGFound_method y10.1) rfl rfl rfl rfl rfl rfl Try_agg_35 rfl rfl) ?_
  refine reg_cons (guard_no rfl) (op_load_lp_agg (ps := eGFound_ref17 y14.1) rfl rfl rfl rfl rfl rfl Try_agg_38 rfl rfl) ?_
  obtain ⟨y24, h25, hF⟩ := bind_some hF
  refine reg_cons (guard_no rfl) (op_call 4 rfl (caps := []) (args := [.agg (eGFound_method y10.1), .agg (eGFound_ref17 y14.1)]) (rs := [.p (.bool y24)]) rfl rfl rfl Try_cal_16 (law17_same_ok h25) rfl rfl rfl) ?_
  refine rmv ?_
  rcases ite_some hF with ⟨hb26, hF⟩ | ⟨hb26, hF⟩
  · refine reg_cons (guard_on rfl rfl rfl rfl hb26) (op_move rfl rfl rfl rfl) ?_
    refine reg_cons (guard_on rfl rfl rfl rfl hb26) (op_move rfl rfl rfl rfl) ?_
    refine reg_cons (guard_on rfl rfl rfl rfl hb26) (op_eqBool_eql rfl rfl rfl Try_und_4 rfl rfl) ?_
    refine rpt hb26 ?_
    refine rmv ?_
    rcases ite_some hF with ⟨hb27, hF⟩ | ⟨hb27, hF⟩
    · refine reg_cons (guard_on rfl rfl rfl rfl hb27) (op_load_lp_agg (ps := eGFound_method y18.1) rfl rfl rfl rfl rfl rfl Try_agg_35 rfl rfl) ?_
      refine reg_cons (guard_on rfl rfl rfl rfl hb27) (op_load_lp_agg (ps := eGFound_ref17 y22.1) rfl rfl rfl rfl rfl rfl Try_agg_38 rfl rfl) ?_
      obtain ⟨y28, h29, hF⟩ := bind_some hF
      refine reg_cons (guard_on rfl rfl rfl rfl hb27) (op_call 4 rfl (caps := []) (args := [.agg (eGFound_method y18.1), .agg (eGFound_ref17 y22.1)]) (rs := [.p (.bool y28)]) rfl rfl rfl Try_cal_16 (law17_same_ok h29) rfl rfl rfl) ?_
      refine rpt hb27 ?_
      refine rmv ?_
      rcases ite_some hF with ⟨hb30, hF⟩ | ⟨hb30, hF⟩
      · refine reg_cons (guard_on rfl rfl rfl rfl hb30) (op_move rfl rfl rfl rfl) ?_
        refine reg_cons (guard_on rfl rfl rfl rfl hb30) (op_move rfl rfl rfl rfl) ?_
        refine reg_cons (guard_on rfl rfl rfl rfl hb30) (op_eqBool_eql rfl rfl rfl Try_und_4 rfl rfl) ?_
        refine rpt hb30 ?_
        refine rmv ?_
        rcases ite_some hF with ⟨hb31, hF⟩ | ⟨hb31, hF⟩
        · obtain ⟨y32, h33, hF⟩ := bind_some hF
          refine reg_cons (guard_on rfl rfl rfl rfl hb31) (op_call 4 rfl (caps := []) (args := []) (rs := [.p (.bool y32)]) rfl rfl rfl Try_cal_11 (law17_awake_ok h33) rfl rfl rfl) ?_
          refine rpt hb31 ?_
          refine ras ?_
          refine reg_nil ?_
          refine post_imp (s' := ⟨67, [(6, some (.pv (.bool y32)))], [], 0, [], [], 0, []⟩) (imps [] ⟨by kernel_rfl, trivial⟩ trivial) ?_
          refine post_next ?_
          refine aw_ret ?_
          obtain rfl := Option.some.inj hF
          exact post_ret rfl rfl (.cons _ _ _ _ _ (.tmp _ _ rfl) (.p _) .nil) (.inl rfl)
        refine rgo_f hb31 ?_
        refine rpf hb31 ?_
        refine ras ?_
        refine reg_nil ?_
        refine post_imp (s' := ⟨67, [(6, some (.pv (.bool false)))], [], 0, [], [], 0, []⟩) (imps [] ⟨by kernel_rfl, trivial⟩ trivial) ?_
        refine post_next ?_
        refine aw_ret ?_
        obtain rfl := Option.some.inj hF
        exact post_ret rfl rfl (.cons _ _ _ _ _ (.tmp _ _ rfl) (.p _) .nil) (.inl rfl)
      iterate 3 (refine rgo_f hb30 ?_)
      refine rpf hb30 ?_
      refine rmv ?_
      refine rgo_f rfl ?_
      refine rpf rfl ?_
      refine ras ?_
      refine reg_nil ?_
      refine post_imp (s' := ⟨67, [(6, some (.pv (.bool false)))], [], 0, [], [], 0, []⟩) (imps [] ⟨by kernel_rfl, trivial⟩ trivial) ?_
      refine post_next ?_
      refine aw_ret ?_
      obtain rfl := Option.some.inj hF
      exact post_ret rfl rfl (.cons _ _ _ _ _ (.tmp _ _ rfl) (.p _) .nil) (.inl rfl)
    iterate 3 (refine rgo_f hb27 ?_)
    refine rpf hb27 ?_
    refine rmv ?_
    iterate 3 (refine rgo_f rfl ?_)
    refine rpf rfl ?_
    refine rmv ?_
    refine rgo_f rfl ?_
    refine rpf rfl ?_
    refine ras ?_
    refine reg_nil ?_
    refine post_imp (s' := ⟨67, [(6, some (.pv (.bool false)))], [], 0, [], [], 0, []⟩) (imps [] ⟨by kernel_rfl, trivial⟩ trivial) ?_
    refine post_next ?_
    refine aw_ret ?_
    obtain rfl := Option.some.inj hF
    exact post_ret rfl rfl (.cons _ _ _ _ _ (.tmp _ _ rfl) (.p _) .nil) (.inl rfl)
  iterate 3 (refine rgo_f hb26 ?_)
  refine rpf hb26 ?_
  refine rmv ?_
  iterate 3 (refine rgo_f rfl ?_)
  refine rpf rfl ?_
  refine rmv ?_
  iterate 3 (refine rgo_f rfl ?_)
  refine rpf rfl ?_
  refine rmv ?_
  refine rgo_f rfl ?_
  refine rpf rfl ?_
  refine ras ?_
  refine reg_nil ?_
  refine post_imp (s' := ⟨67, [(6, some (.pv (.bool false)))], [], 0, [], [], 0, []⟩) (imps [] ⟨by kernel_rfl, trivial⟩ trivial) ?_
  refine post_next ?_
  refine aw_ret ?_
  obtain rfl := Option.some.inj hF
  exact post_ret rfl rfl (.cons _ _ _ _ _ (.tmp _ _ rfl) (.p _) .nil) (.inl rfl)
end Go.Proofs.Ytahieoaggbmicaa
