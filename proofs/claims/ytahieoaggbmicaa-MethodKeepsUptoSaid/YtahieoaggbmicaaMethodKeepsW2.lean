/- A part of the proof that the law MethodKeeps gives true for every input. -/
import Derived.Test.YtahieoaggbmicaaMethodKeepsT
import Derived.Test.YtahieoaggbmicaaMethodKeepsX
import Derived.Test.YtahieoaggbmicaaMethodKeepsI
import Derived.Test.YtahieoaggbmicaaMethodKeepsW1
/- Each Go function computes its plain function. -/
namespace Go.Proofs.Ytahieoaggbmicaa
open Go.RowKit Go.Abs
set_option maxRecDepth 100000
set_option maxHeartbeats 4000000
theorem ref12_Vars_ok {a0 : GMethod} {r : (List GVar)} (hF : ref12_Vars a0 = some r) : Abs.Fn Try.prog 55 [.agg (eGMethod a0)] [.own 50 13 (List.map eGVar r)] := by
  unfold ref12_Vars at hF
  refine fn_of_body (n := 10) Try.func55 rfl rfl rfl ?_
  intro w O
  refine aw_seq ?_
  refine aw_region ?_
  refine rgp (op_box 0 rfl rfl rfl rfl rfl rfl) ?_
  refine ras ?_
  refine reg_nil ?_
  refine post_imp (s' := ⟨10, [(1, some (.lp 0 0))], [(0, some (.box 33 (bxv (eGMethod a0))))], 1, [], [], 0, []⟩) (imps [0] ⟨by kernel_rfl, trivial⟩ ⟨by kernel_rfl, trivial⟩) ?_
  refine post_next ?_
  refine aw_seq ?_
  refine aw_imp (imp_names 3) ?_
  refine dr_start ⟨_, _, _⟩ rfl ?_
  refine dr_cons { names := [1], dst := some 3, val := some (.ls 1), upd := [(1, some (.row 50 13 (List.map eGVar ([] : List GVar))))] } (fun m h => step_on (guard_no rfl) (op_litOwn 1 (fresh_free h.2.2.1) (rows := List.map eGVar ([] : List GVar)) (zs := (eGVar zGVar)) rfl rfl Try_slc_30 Try_zer_50 (by exact ⟨rfl, rfl, rfl, rfl, rfl, rfl, rfl, rfl, rfl, rfl, rfl, rfl, rfl, trivial⟩) rfl rfl rfl evs_nil rfl rfl rfl rfl) rfl) ⟨trivial, trivial, ⟨rfl, trivial⟩⟩ ?_
  refine dr_cons { need := [(1, .lp 0 0)], dst := some 4, val := some (.lp 0 13) } (fun m h => step_on (guard_no rfl) (op_field_lp rfl h.1.1 Try_fld_33_3 rfl rfl) rfl) ⟨⟨rfl, trivial⟩, trivial, trivial⟩ ?_
  refine dr_cons { need := [(4, .lp 0 13)], hneed := [(0, .box 33 (bxv (eGMethod a0)))], dst := some 5, val := some (.pv (.vs 13 (List.map eGVar a0.fParams))) } (fun m h => step_on (guard_no rfl) (op_load_lp (v := .pv (.vs 13 (List.map eGVar a0.fParams))) rfl h.1.1 h.2.1.1 rfl Try_one_30 rfl rfl) rfl) ⟨⟨rfl, trivial⟩, ⟨rfl, trivial⟩, trivial⟩ ?_
  obtain ⟨u1, h2, hF⟩ := bind_some hF
  refine dr_cons { need := [(3, .ls 1), (5, .pv (.vs 13 (List.map eGVar a0.fParams)))], hneed := [(1, .row 50 13 (List.map eGVar ([] : List GVar)))], names := [2], dst := some 6, val := some (.ls 2), upd := [(2, some (.row 50 13 (List.map eGVar (([] : List GVar) ++ a0.fParams)))), (1, none)] } (fun m h => step_on (guard_no rfl) (op_append 2 (fresh_free h.2.2.1) rfl h.1.1 h.2.1.1 h.1.2.1 Try_slc_30 Try_elm_50 Try_zer_50 rfl rfl rfl (room_map (f := eGVar) (g := eGVar) h2) (List.map_append (f := eGVar) (l₁ := ([] : List GVar)) (l₂ := a0.fParams)).symm rfl rfl) rfl) ⟨⟨rfl, rfl, trivial⟩, ⟨rfl, trivial⟩, ⟨rfl, trivial⟩⟩ ?_
  refine dr_cons { need := [(1, .lp 0 0)], dst := some 7, val := some (.lp 0 14) } (fun m h => step_on (guard_no rfl) (op_field_lp rfl h.1.1 Try_fld_33_4 rfl rfl) rfl) ⟨⟨rfl, trivial⟩, trivial, trivial⟩ ?_
  refine dr_cons { need := [(7, .lp 0 14)], hneed := [(0, .box 33 (bxv (eGMethod a0)))], dst := some 8, val := some (.pv (.vs 13 (List.map eGVar a0.fLocals))) } (fun m h => step_on (guard_no rfl) (op_load_lp (v := .pv (.vs 13 (List.map eGVar a0.fLocals))) rfl h.1.1 h.2.1.1 rfl Try_one_30 rfl rfl) rfl) ⟨⟨rfl, trivial⟩, ⟨rfl, trivial⟩, trivial⟩ ?_
  obtain ⟨u3, h4, hF⟩ := bind_some hF
  refine dr_cons { need := [(6, .ls 2), (8, .pv (.vs 13 (List.map eGVar a0.fLocals)))], hneed := [(2, .row 50 13 (List.map eGVar (([] : List GVar) ++ a0.fParams)))], names := [3], dst := some 9, val := some (.ls 3), upd := [(3, some (.row 50 13 (List.map eGVar ((([] : List GVar) ++ a0.fParams) ++ a0.fLocals)))), (2, none)] } (fun m h => step_on (guard_no rfl) (op_append 3 (fresh_free h.2.2.1) rfl h.1.1 h.2.1.1 h.1.2.1 Try_slc_30 Try_elm_50 Try_zer_50 rfl rfl rfl (room_map (f := eGVar) (g := eGVar) h4) (List.map_append (f := eGVar) (l₁ := (([] : List GVar) ++ a0.fParams)) (l₂ := a0.fLocals)).symm rfl rfl) rfl) ⟨⟨rfl, rfl, trivial⟩, ⟨rfl, trivial⟩, ⟨rfl, trivial⟩⟩ ?_
  refine dr_cons { need := [(9, .ls 3)], dst := some 2, val := some (.ls 3) } (fun m h => step_on (guard_no rfl) (op_assign rfl h.1.1 rfl rfl) rfl) ⟨⟨rfl, trivial⟩, trivial, trivial⟩ ?_
  refine dr_nil Try_mixed rfl (by kernel_rfl) ?_
  refine post_imp (s' := ⟨10, [(2, some (.ls 0))], [(0, some (.row 50 13 (List.map eGVar ((([] : List GVar) ++ a0.fParams) ++ a0.fLocals))))], 1, [], [], 0, []⟩) (imps [3] ⟨by kernel_rfl, trivial⟩ ⟨by kernel_rfl, trivial⟩) ?_
  refine post_next ?_
  refine aw_ret ?_
  obtain rfl := Option.some.inj hF
  exact post_ret rfl rfl (.cons _ _ _ _ _ (.tmp _ _ rfl) (.own _ _ _ _ rfl nolent3) .nil) (.inl rfl)
theorem ref12_lines_ring : ∀ n : Nat, (∀ (a0 : List GStmt) (a1 : GLine_ref12) (r : (List GLine_ref12)), ref12_lines n a0 a1 = some r → Abs.Fn Try.prog 108 [.vs 23 (eLGStmt a0), .agg (eGLine_ref12 a1)] [.own 154 26 (List.map eGLine_ref12 r)]) := by
  intro n
  induction n with
  | zero => exact (fun _ _ _ h => by simp [ref12_lines] at h)
  | succ n ih =>
    have ref12_lines_ih := ih
    clear ih
    intro a0 a1 r hF
    unfold ref12_lines at hF
    revert hF ref12_lines_ih
    generalize ref12_lines n = ref12_lines_rec
    intro ref12_lines_ih hF
    refine fn_of_body (n := 47) Try.func108 rfl rfl rfl ?_
    intro w O
    refine aw_seq ?_
    refine aw_region ?_
    refine rgp (op_box 0 rfl rfl rfl rfl rfl rfl) ?_
    refine ras ?_
    refine reg_nil ?_
    refine post_imp (s' := ⟨47, [(0, some (.pv (.vs 23 (eLGStmt a0)))), (3, some (.lp 0 0))], [(0, some (.box 154 (bxv (eGLine_ref12 a1))))], 1, [], [], 0, []⟩) (imps [0] ⟨by kernel_rfl, by kernel_rfl, trivial⟩ ⟨by kernel_rfl, trivial⟩) ?_
    refine post_next ?_
    refine aw_seq ?_
    refine aw_region ?_
    refine ras ?_
    refine reg_imp (imp_nil_own 5 154 26 1 rfl rfl) ?_
    refine reg_nil ?_
    refine post_imp (s' := ⟨47, [(0, some (.pv (.vs 23 (eLGStmt a0)))), (3, some (.lp 0 0)), (5, some (.ls 1))], [(0, some (.box 154 (bxv (eGLine_ref12 a1)))), (1, some (.row 154 26 (List.map eGLine_ref12 [])))], 2, [], [], 0, []⟩) (imps [0, 1] ⟨by kernel_rfl, by kernel_rfl, by kernel_rfl, trivial⟩ ⟨by kernel_rfl, by kernel_rfl, trivial⟩) ?_
    refine post_next ?_
    iterate 2 (refine aw_seq ?_)
    refine aw_region ?_
    refine ras ?_
    refine reg_nil ?_
    refine post_imp (s' := ⟨47, [(0, some (.pv (.vs 23 (eLGStmt a0)))), (3, some (.lp 0 0)), (5, some (.ls 1)), (6, some (.pv (.int .i64 0)))], [(0, some (.box 154 (bxv (eGLine_ref12 a1)))), (1, some (.row 154 26 (List.map eGLine_ref12 [])))], 2, [], [], 0, []⟩) (imps [0, 1] ⟨by kernel_rfl, by kernel_rfl, by kernel_rfl, by kernel_rfl, trivial⟩ ⟨by kernel_rfl, by kernel_rfl, trivial⟩) ?_
    refine post_next ?_
    obtain ⟨x106, hF, hK107⟩ := bind_some hF
    refine aw_for ((((a0.length : Int) : Int) - (0)).toNat + 1) (fun s1 => s1 = ⟨47, [(5, some (.ls 0))], [(0, some (.row 154 26 (List.map eGLine_ref12 x106)))], 1, [], [], 0, []⟩) ?_ ?_
    · refine rnd_loop (α := (List GLine_ref12) × Int) (fun q => ⟨47, [(0, some (.pv (.vs 23 (eLGStmt a0)))), (3, some (.lp 0 0)), (5, some (.ls 1)), (6, some (.pv (.int .i64 q.2)))], [(0, some (.box 154 (bxv (eGLine_ref12 a1)))), (1, some (.row 154 26 (List.map eGLine_ref12 q.1)))], 2, [], [], 0, []⟩) (fun k q => ref12_lines_L1 a0 a1 ref12_lines_rec k q.1 q.2 = some x106) ([], 0) (imps [0, 1] ⟨by kernel_rfl, by kernel_rfl, by kernel_rfl, by kernel_rfl, trivial⟩ ⟨by kernel_rfl, by kernel_rfl, trivial⟩) hF (fun q h => by cases h) ?_
      clear hF
      rintro k ⟨x34, x35⟩ hF ih
      refine rnd_succ ?_
      iterate 2 (refine aw_seq ?_)
      refine aw_region ?_
      iterate 2 (refine rmv ?_)
      refine rgp (op_len_vs (n := a0.length) rfl rfl (lenR eLGStmt_map) Try_slc_31 rfl rfl) ?_
      refine rgp (op_int (k := .i64) (m := x35) (n := (a0.length : Int)) rfl rfl rfl rfl rfl rfl) ?_
      refine reg_nil ?_
      refine post_imp (s' := ⟨47, [(0, some (.pv (.vs 23 (eLGStmt a0)))), (3, some (.lp 0 0)), (5, some (.ls 1)), (6, some (.pv (.int .i64 x35))), (11, some (.pv (.bool (decide (x35 < (a0.length : Int))))))], [(0, some (.box 154 (bxv (eGLine_ref12 a1)))), (1, some (.row 154 26 (List.map eGLine_ref12 x34)))], 2, [], [], 0, []⟩) (imps [0, 1] ⟨by kernel_rfl, by kernel_rfl, by kernel_rfl, by kernel_rfl, by kernel_rfl, trivial⟩ ⟨by kernel_rfl, by kernel_rfl, trivial⟩) ?_
      refine post_next ?_
      rcases ite_some hF with ⟨hb71, hF⟩ | ⟨hb71, hF⟩
      · refine aw_cond_t rfl hb71 ?_
        refine aw_skip ?_
        refine post_next ?_
        refine aw_seq ?_
        refine aw_block ?_
        refine aw_seq ?_
        refine aw_region ?_
        refine rgp (op_load_lp_agg (ps := eGLine_ref12 a1) rfl rfl rfl rfl rfl rfl Try_agg_154 rfl rfl) ?_
        refine rgp (op_alloc 2 rfl (ps := (eGLine_ref12 zGLine_ref12)) rfl Try_zer_154 (by exact ⟨rfl, rfl, rfl, rfl, rfl, rfl, rfl, rfl, rfl, rfl, rfl, rfl, rfl, rfl, rfl, rfl, rfl, rfl, rfl, rfl, rfl, trivial, trivial, trivial, trivial, rfl, trivial⟩) rfl rfl) ?_
        refine rgp (op_store_lp (n := 26) rfl rfl rfl rfl rfl (or_agg Try_agg_154) (by rw [Try_non_154]; rfl) rfl rfl rfl) ?_
        refine reg_nil ?_
        refine post_imp (s' := ⟨47, [(0, some (.pv (.vs 23 (eLGStmt a0)))), (3, some (.lp 0 0)), (5, some (.ls 1)), (6, some (.pv (.int .i64 x35))), (7, some (.lp 2 0))], [(0, some (.box 154 (bxv (eGLine_ref12 a1)))), (1, some (.row 154 26 (List.map eGLine_ref12 x34))), (2, some (.box 154 (bxv (eGLine_ref12 a1))))], 3, [], [], 0, []⟩) (imps [0, 1, 2] ⟨by kernel_rfl, by kernel_rfl, by kernel_rfl, by kernel_rfl, by kernel_rfl, trivial⟩ ⟨by kernel_rfl, by kernel_rfl, by kernel_rfl, trivial⟩) ?_
        refine post_next ?_
        refine aw_seq ?_
        refine aw_region ?_
        iterate 2 (refine rmv ?_)
        obtain ⟨y74, h75, hF⟩ := bind_some hF
        refine rgp (op_index_vs (k := .i64) rfl rfl rfl (idxR eLGStmt_map h75) Try_slc_31 rfl rfl) ?_
        refine rgp (op_load_vp_agg (ps := eGStmt y74) rfl rfl rfl rfl Try_agg_83 rfl rfl) ?_
        refine rgp (op_field_lp rfl rfl Try_fld_154_3 rfl rfl) ?_
        refine rgp (op_store_lp (n := 23) rfl rfl rfl rfl rfl (or_agg Try_agg_83) (by rw [Try_non_83]; rfl) rfl rfl rfl) ?_
        refine reg_nil ?_
        refine post_imp (s' := ⟨47, [(0, some (.pv (.vs 23 (eLGStmt a0)))), (3, some (.lp 0 0)), (5, some (.ls 1)), (6, some (.pv (.int .i64 x35))), (7, some (.lp 2 0))], [(0, some (.box 154 (bxv (eGLine_ref12 a1)))), (1, some (.row 154 26 (List.map eGLine_ref12 x34))), (2, some (.box 154 (bxv (eGLine_ref12 ({ a1 with fS := y74 } : GLine_ref12)))))], 3, [], [], 0, []⟩) (imps [0, 1, 2] ⟨by kernel_rfl, by kernel_rfl, by kernel_rfl, by kernel_rfl, by kernel_rfl, trivial⟩ ⟨by kernel_rfl, by kernel_rfl, by kernel_rfl, trivial⟩) ?_
        refine post_next ?_
        refine aw_seq ?_
        refine aw_region ?_
        refine rmv ?_
        refine rgp (op_load_lp_agg (ps := eGLine_ref12 ({ a1 with fS := y74 } : GLine_ref12)) rfl rfl rfl rfl rfl rfl Try_agg_154 rfl rfl) ?_
        refine rgp (op_lit (rows := List.map eGLine_ref12 ([({ a1 with fS := y74 } : GLine_ref12)] : List GLine_ref12)) (zs := (eGLine_ref12 zGLine_ref12)) rfl rfl Try_slc_151 Try_zer_154 (by exact ⟨rfl, rfl, rfl, rfl, rfl, rfl, rfl, rfl, rfl, rfl, rfl, rfl, rfl, rfl, rfl, rfl, rfl, rfl, rfl, rfl, rfl, trivial, trivial, trivial, trivial, rfl, trivial⟩) rfl rfl rfl rfl rfl rfl rfl rfl) ?_
        obtain ⟨u78, h79, hF⟩ := bind_some hF
        refine rgp (op_append 3 rfl rfl rfl rfl rfl Try_slc_151 Try_elm_154 Try_zer_154 rfl rfl rfl (room_map (f := eGLine_ref12) (g := eGLine_ref12) h79) (List.map_append (f := eGLine_ref12) (l₁ := x34) (l₂ := [({ a1 with fS := y74 } : GLine_ref12)])).symm rfl rfl) ?_
        refine ras ?_
        refine reg_nil ?_
        refine post_imp (s' := ⟨47, [(0, some (.pv (.vs 23 (eLGStmt a0)))), (3, some (.lp 0 0)), (5, some (.ls 1)), (6, some (.pv (.int .i64 x35))), (7, some (.lp 2 0))], [(0, some (.box 154 (bxv (eGLine_ref12 a1)))), (1, some (.row 154 26 (List.map eGLine_ref12 (x34 ++ [({ a1 with fS := y74 } : GLine_ref12)])))), (2, some (.box 154 (bxv (eGLine_ref12 ({ a1 with fS := y74 } : GLine_ref12)))))], 3, [], [], 0, []⟩) (imps [0, 3, 2] ⟨by kernel_rfl, by kernel_rfl, by kernel_rfl, by kernel_rfl, by kernel_rfl, trivial⟩ ⟨by kernel_rfl, by kernel_rfl, by kernel_rfl, trivial⟩) ?_
        refine post_next ?_
        refine aw_seq ?_
        refine aw_region ?_
        refine rgp (op_field_lp rfl rfl Try_fld_154_2 rfl rfl) ?_
        refine rgp (op_load_lp (v := .pv (.int .i64 (({ a1 with fS := y74 } : GLine_ref12).fDeep))) rfl rfl rfl rfl Try_one_3 rfl rfl) ?_
        refine rgp (op_int (k := .i64) (m := ({ a1 with fS := y74 } : GLine_ref12).fDeep) (n := 1) rfl rfl rfl rfl rfl rfl) ?_
        refine rgp (op_field_lp rfl rfl Try_fld_154_2 rfl rfl) ?_
        refine rgp (op_store_lp (n := 1) rfl rfl rfl rfl rfl (or_one Try_one_3) (by rw [Try_one_3]; rfl) rfl rfl rfl) ?_
        refine reg_nil ?_
        refine post_imp (s' := ⟨47, [(0, some (.pv (.vs 23 (eLGStmt a0)))), (3, some (.lp 0 0)), (5, some (.ls 1)), (6, some (.pv (.int .i64 x35))), (7, some (.lp 2 0))], [(0, some (.box 154 (bxv (eGLine_ref12 a1)))), (1, some (.row 154 26 (List.map eGLine_ref12 (x34 ++ [({ a1 with fS := y74 } : GLine_ref12)])))), (2, some (.box 154 (bxv (eGLine_ref12 ({ ({ a1 with fS := y74 } : GLine_ref12) with fDeep := w_i64 ((({ a1 with fS := y74 } : GLine_ref12).fDeep) + 1) } : GLine_ref12)))))], 3, [], [], 0, []⟩) (imps [0, 1, 2] ⟨by kernel_rfl, by kernel_rfl, by kernel_rfl, by kernel_rfl, by kernel_rfl, trivial⟩ ⟨by kernel_rfl, by kernel_rfl, by kernel_rfl, trivial⟩) ?_
        refine post_next ?_
        refine aw_seq ?_
        refine aw_imp (imp_names 1) ?_
        refine dr_start ⟨_, _, _⟩ rfl ?_
        iterate 3 (refine drm ?_)
        obtain ⟨y86, h87, hF⟩ := bind_some hF
        refine dr_cons { need := [(29, .pv (.vs 23 (eLGStmt a0))), (30, .pv (.int .i64 x35))], dst := some 31, val := some (.pv (.vp (eGStmt y86))) } (fun m h => step_on (guard_no rfl) (op_index_vs (k := .i64) rfl h.1.1 h.1.2.1 (idxR eLGStmt_map h87) Try_slc_31 rfl rfl) rfl) ⟨⟨rfl, rfl, trivial⟩, trivial, trivial⟩ ?_
        refine dr_cons { need := [(31, .pv (.vp (eGStmt y86)))], dst := some 32, val := some (.pv (.vp (List.drop 20 (eGStmt y86)))) } (fun m h => step_on (guard_no rfl) (op_field_vp rfl h.1.1 Try_fld_83_7 rfl rfl) rfl) ⟨⟨rfl, trivial⟩, trivial, trivial⟩ ?_
        refine dr_cons { need := [(32, .pv (.vp (List.drop 20 (eGStmt y86))))], dst := some 33, val := some (.pv (.vs 23 (eLGStmt y86.fBody))) } (fun m h => step_on (guard_no rfl) (op_load_vp (p := .vs 23 (eLGStmt y86.fBody)) rfl h.1.1 rfl Try_one_31 rfl rfl) rfl) ⟨⟨rfl, trivial⟩, trivial, trivial⟩ ?_
        refine dr_cons { need := [(7, .lp 2 0)], hneed := [(2, .box 154 (bxv (eGLine_ref12 ({ ({ a1 with fS := y74 } : GLine_ref12) with fDeep := w_i64 ((({ a1 with fS := y74 } : GLine_ref12).fDeep) + 1) } : GLine_ref12))))], dst := some 34, val := some (.pv (.agg (eGLine_ref12 ({ ({ a1 with fS := y74 } : GLine_ref12) with fDeep := w_i64 ((({ a1 with fS := y74 } : GLine_ref12).fDeep) + 1) } : GLine_ref12)))) } (fun m h => step_on (guard_no rfl) (op_load_lp_agg (ps := eGLine_ref12 ({ ({ a1 with fS := y74 } : GLine_ref12) with fDeep := w_i64 ((({ a1 with fS := y74 } : GLine_ref12).fDeep) + 1) } : GLine_ref12)) rfl h.1.1 h.2.1.1 rfl rfl rfl Try_agg_154 rfl rfl) rfl) ⟨⟨rfl, trivial⟩, ⟨rfl, trivial⟩, trivial⟩ ?_
        obtain ⟨y88, h89, hF⟩ := bind_some hF
        refine dr_cons { need := [(34, .pv (.agg (eGLine_ref12 ({ ({ a1 with fS := y74 } : GLine_ref12) with fDeep := w_i64 ((({ a1 with fS := y74 } : GLine_ref12).fDeep) + 1) } : GLine_ref12)))), (33, .pv (.vs 23 (eLGStmt y86.fBody)))], dst := some 35, val := some (.pv (.vs 26 (List.map eGLine_ref12 y88))) } (fun m h => step_on (guard_no rfl) (op_call 4 rfl (caps := []) (args := [.vs 23 (eLGStmt y86.fBody), .agg (eGLine_ref12 ({ ({ a1 with fS := y74 } : GLine_ref12) with fDeep := w_i64 ((({ a1 with fS := y74 } : GLine_ref12).fDeep) + 1) } : GLine_ref12))]) (rs := [.p (.vs 26 (List.map eGLine_ref12 y88))]) rfl rfl (evl_cons h.1.2.1 (evl_cons h.1.1 evl_nil)) Try_cal_108 (Fn.frozen (ref12_lines_ih _ _ _ h89)) rfl rfl rfl) rfl) ⟨⟨rfl, rfl, trivial⟩, trivial, trivial⟩ ?_
        obtain ⟨u90, h91, hF⟩ := bind_some hF
        refine dr_cons { need := [(28, .ls 1), (35, .pv (.vs 26 (List.map eGLine_ref12 y88)))], hneed := [(1, .row 154 26 (List.map eGLine_ref12 (x34 ++ [({ a1 with fS := y74 } : GLine_ref12)])))], names := [3], dst := some 36, val := some (.ls 3), upd := [(3, some (.row 154 26 (List.map eGLine_ref12 ((x34 ++ [({ a1 with fS := y74 } : GLine_ref12)]) ++ y88)))), (1, none)] } (fun m h => step_on (guard_no rfl) (op_append 3 (fresh_free h.2.2.1) rfl h.1.1 h.2.1.1 h.1.2.1 Try_slc_151 Try_elm_154 Try_zer_154 rfl rfl rfl (room_map (f := eGLine_ref12) (g := eGLine_ref12) h91) (List.map_append (f := eGLine_ref12) (l₁ := (x34 ++ [({ a1 with fS := y74 } : GLine_ref12)])) (l₂ := y88)).symm rfl rfl) rfl) ⟨⟨rfl, rfl, trivial⟩, ⟨rfl, trivial⟩, ⟨rfl, trivial⟩⟩ ?_
        refine dr_cons { need := [(36, .ls 3)], dst := some 5, val := some (.ls 3) } (fun m h => step_on (guard_no rfl) (op_assign rfl h.1.1 rfl rfl) rfl) ⟨⟨rfl, trivial⟩, trivial, trivial⟩ ?_
        refine dr_nil Try_mixed rfl (by kernel_rfl) ?_
        refine post_imp (s' := ⟨47, [(0, some (.pv (.vs 23 (eLGStmt a0)))), (3, some (.lp 0 0)), (5, some (.ls 1)), (6, some (.pv (.int .i64 x35))), (7, some (.lp 2 0))], [(0, some (.box 154 (bxv (eGLine_ref12 a1)))), (1, some (.row 154 26 (List.map eGLine_ref12 ((x34 ++ [({ a1 with fS := y74 } : GLine_ref12)]) ++ y88)))), (2, some (.box 154 (bxv (eGLine_ref12 ({ ({ a1 with fS := y74 } : GLine_ref12) with fDeep := w_i64 ((({ a1 with fS := y74 } : GLine_ref12).fDeep) + 1) } : GLine_ref12)))))], 3, [], [], 0, []⟩) (imps [0, 3, 2] ⟨by kernel_rfl, by kernel_rfl, by kernel_rfl, by kernel_rfl, by kernel_rfl, trivial⟩ ⟨by kernel_rfl, by kernel_rfl, by kernel_rfl, trivial⟩) ?_
        refine post_next ?_
        refine aw_imp (imp_names 1) ?_
        refine dr_start ⟨_, _, _⟩ rfl ?_
        iterate 3 (refine drm ?_)
        obtain ⟨y98, h99, hF⟩ := bind_some hF
        refine dr_cons { need := [(38, .pv (.vs 23 (eLGStmt a0))), (39, .pv (.int .i64 x35))], dst := some 40, val := some (.pv (.vp (eGStmt y98))) } (fun m h => step_on (guard_no rfl) (op_index_vs (k := .i64) rfl h.1.1 h.1.2.1 (idxR eLGStmt_map h99) Try_slc_31 rfl rfl) rfl) ⟨⟨rfl, rfl, trivial⟩, trivial, trivial⟩ ?_
        refine dr_cons { need := [(40, .pv (.vp (eGStmt y98)))], dst := some 41, val := some (.pv (.vp (List.drop 21 (eGStmt y98)))) } (fun m h => step_on (guard_no rfl) (op_field_vp rfl h.1.1 Try_fld_83_8 rfl rfl) rfl) ⟨⟨rfl, trivial⟩, trivial, trivial⟩ ?_
        refine dr_cons { need := [(41, .pv (.vp (List.drop 21 (eGStmt y98))))], dst := some 42, val := some (.pv (.vs 23 (eLGStmt y98.fElse))) } (fun m h => step_on (guard_no rfl) (op_load_vp (p := .vs 23 (eLGStmt y98.fElse)) rfl h.1.1 rfl Try_one_31 rfl rfl) rfl) ⟨⟨rfl, trivial⟩, trivial, trivial⟩ ?_
        refine dr_cons { need := [(7, .lp 2 0)], hneed := [(2, .box 154 (bxv (eGLine_ref12 ({ ({ a1 with fS := y74 } : GLine_ref12) with fDeep := w_i64 ((({ a1 with fS := y74 } : GLine_ref12).fDeep) + 1) } : GLine_ref12))))], dst := some 43, val := some (.pv (.agg (eGLine_ref12 ({ ({ a1 with fS := y74 } : GLine_ref12) with fDeep := w_i64 ((({ a1 with fS := y74 } : GLine_ref12).fDeep) + 1) } : GLine_ref12)))) } (fun m h => step_on (guard_no rfl) (op_load_lp_agg (ps := eGLine_ref12 ({ ({ a1 with fS := y74 } : GLine_ref12) with fDeep := w_i64 ((({ a1 with fS := y74 } : GLine_ref12).fDeep) + 1) } : GLine_ref12)) rfl h.1.1 h.2.1.1 rfl rfl rfl Try_agg_154 rfl rfl) rfl) ⟨⟨rfl, trivial⟩, ⟨rfl, trivial⟩, trivial⟩ ?_
        obtain ⟨y100, h101, hF⟩ := bind_some hF
        refine dr_cons { need := [(43, .pv (.agg (eGLine_ref12 ({ ({ a1 with fS := y74 } : GLine_ref12) with fDeep := w_i64 ((({ a1 with fS := y74 } : GLine_ref12).fDeep) + 1) } : GLine_ref12)))), (42, .pv (.vs 23 (eLGStmt y98.fElse)))], dst := some 44, val := some (.pv (.vs 26 (List.map eGLine_ref12 y100))) } (fun m h => step_on (guard_no rfl) (op_call 4 rfl (caps := []) (args := [.vs 23 (eLGStmt y98.fElse), .agg (eGLine_ref12 ({ ({ a1 with fS := y74 } : GLine_ref12) with fDeep := w_i64 ((({ a1 with fS := y74 } : GLine_ref12).fDeep) + 1) } : GLine_ref12))]) (rs := [.p (.vs 26 (List.map eGLine_ref12 y100))]) rfl rfl (evl_cons h.1.2.1 (evl_cons h.1.1 evl_nil)) Try_cal_108 (Fn.frozen (ref12_lines_ih _ _ _ h101)) rfl rfl rfl) rfl) ⟨⟨rfl, rfl, trivial⟩, trivial, trivial⟩ ?_
        obtain ⟨u102, h103, hF⟩ := bind_some hF
        refine dr_cons { need := [(37, .ls 1), (44, .pv (.vs 26 (List.map eGLine_ref12 y100)))], hneed := [(1, .row 154 26 (List.map eGLine_ref12 ((x34 ++ [({ a1 with fS := y74 } : GLine_ref12)]) ++ y88)))], names := [3], dst := some 45, val := some (.ls 3), upd := [(3, some (.row 154 26 (List.map eGLine_ref12 (((x34 ++ [({ a1 with fS := y74 } : GLine_ref12)]) ++ y88) ++ y100)))), (1, none)] } (fun m h => step_on (guard_no rfl) (op_append 3 (fresh_free h.2.2.1) rfl h.1.1 h.2.1.1 h.1.2.1 Try_slc_151 Try_elm_154 Try_zer_154 rfl rfl rfl (room_map (f := eGLine_ref12) (g := eGLine_ref12) h103) (List.map_append (f := eGLine_ref12) (l₁ := ((x34 ++ [({ a1 with fS := y74 } : GLine_ref12)]) ++ y88)) (l₂ := y100)).symm rfl rfl) rfl) ⟨⟨rfl, rfl, trivial⟩, ⟨rfl, trivial⟩, ⟨rfl, trivial⟩⟩ ?_
        refine dr_cons { need := [(45, .ls 3)], dst := some 5, val := some (.ls 3) } (fun m h => step_on (guard_no rfl) (op_assign rfl h.1.1 rfl rfl) rfl) ⟨⟨rfl, trivial⟩, trivial, trivial⟩ ?_
        refine dr_nil Try_mixed rfl (by kernel_rfl) ?_
        refine post_imp (s' := ⟨47, [(0, some (.pv (.vs 23 (eLGStmt a0)))), (3, some (.lp 0 0)), (5, some (.ls 1)), (6, some (.pv (.int .i64 x35)))], [(0, some (.box 154 (bxv (eGLine_ref12 a1)))), (1, some (.row 154 26 (List.map eGLine_ref12 (((x34 ++ [({ a1 with fS := y74 } : GLine_ref12)]) ++ y88) ++ y100))))], 2, [], [], 0, []⟩) (imps [0, 3] ⟨by kernel_rfl, by kernel_rfl, by kernel_rfl, by kernel_rfl, trivial⟩ ⟨by kernel_rfl, by kernel_rfl, trivial⟩) ?_
        refine post_block_normal ?_
        refine post_next ?_
        refine aw_region ?_
        refine rmv ?_
        refine rgp (op_int (k := .i64) (m := x35) (n := 1) rfl rfl rfl rfl rfl rfl) ?_
        refine ras ?_
        refine reg_nil ?_
        refine post_round ?_
        exact rnd_back (ih ((((x34 ++ [({ a1 with fS := y74 } : GLine_ref12)]) ++ y88) ++ y100), w_i64 (x35 + 1)) hF) (imps [0, 1] ⟨by kernel_rfl, by kernel_rfl, by kernel_rfl, by kernel_rfl, trivial⟩ ⟨by kernel_rfl, by kernel_rfl, trivial⟩)
      refine aw_cond_f rfl hb71 ?_
      refine aw_exit ?_
      iterate 2 (refine post_then_exit ?_)
      obtain rfl := Option.some.inj hF
      exact post_lp_break _ rfl (imps [1] ⟨by kernel_rfl, trivial⟩ ⟨by kernel_rfl, trivial⟩)
    rintro _ rfl
    have hF := hK107
    clear hK107
    refine post_next ?_
    refine aw_seq ?_
    refine aw_region ?_
    refine rmv ?_
    refine ras ?_
    refine reg_nil ?_
    refine post_imp (s' := ⟨47, [(4, some (.ls 0))], [(0, some (.row 154 26 (List.map eGLine_ref12 x106)))], 1, [], [], 0, []⟩) (imps [0] ⟨by kernel_rfl, trivial⟩ ⟨by kernel_rfl, trivial⟩) ?_
    refine post_next ?_
    refine aw_ret ?_
    obtain rfl := Option.some.inj hF
    exact post_ret rfl rfl (.cons _ _ _ _ _ (.tmp _ _ rfl) (.own _ _ _ _ rfl nolent3) .nil) (.inl rfl)
theorem ref12_lines_ok {n : Nat} {a0 : List GStmt} {a1 : GLine_ref12} {r : (List GLine_ref12)} (hF : ref12_lines n a0 a1 = some r) : Abs.Fn Try.prog 108 [.vs 23 (eLGStmt a0), .agg (eGLine_ref12 a1)] [.own 154 26 (List.map eGLine_ref12 r)] := (ref12_lines_ring n) _ _ _ hF

theorem ref12_Types_ok {a0 : List GClass} {r : (List GNote_ref12)} (hF : ref12_Types a0 = some r) : Abs.Fn Try.prog 93 [.vs 7 (List.map eGClass a0)] [.own 142 15 (List.map eGNote_ref12 r)] := by
  unfold ref12_Types at hF
  refine fn_of_body (n := 137) Try.func93 rfl rfl rfl ?_
  intro w O
  refine aw_seq ?_
  refine aw_region ?_
  refine ras ?_
  refine reg_nil ?_
  refine post_imp (s' := ⟨137, [(0, some (.pv (.vs 7 (List.map eGClass a0))))], [], 0, [], [], 0, []⟩) (imps [] ⟨by kernel_rfl, trivial⟩ trivial) ?_
  refine post_next ?_
  refine aw_seq ?_
  refine aw_region ?_
  refine ras ?_
  refine reg_imp (imp_nil_own 3 142 15 0 rfl rfl) ?_
  refine reg_nil ?_
  refine post_imp (s' := ⟨137, [(0, some (.pv (.vs 7 (List.map eGClass a0)))), (3, some (.ls 0))], [(0, some (.row 142 15 (List.map eGNote_ref12 [])))], 1, [], [], 0, []⟩) (imps [0] ⟨by kernel_rfl, by kernel_rfl, trivial⟩ ⟨by kernel_rfl, trivial⟩) ?_
  refine post_next ?_
  iterate 2 (refine aw_seq ?_)
  refine aw_region ?_
  refine ras ?_
  refine reg_nil ?_
  refine post_imp (s' := ⟨137, [(0, some (.pv (.vs 7 (List.map eGClass a0)))), (3, some (.ls 0)), (4, some (.pv (.int .i64 0)))], [(0, some (.row 142 15 (List.map eGNote_ref12 [])))], 1, [], [], 0, []⟩) (imps [0] ⟨by kernel_rfl, by kernel_rfl, by kernel_rfl, trivial⟩ ⟨by kernel_rfl, trivial⟩) ?_
  refine post_next ?_
  obtain ⟨x1348, hF, hK1349⟩ := bind_some hF
  refine aw_for ((((a0.length : Int) : Int) - (0)).toNat + 1) (fun s1 => s1 = ⟨137, [(3, some (.ls 0))], [(0, some (.row 142 15 (List.map eGNote_ref12 x1348)))], 1, [], [], 0, []⟩) ?_ ?_
  · refine rnd_loop (α := (List GNote_ref12) × Int) (fun q => ⟨137, [(0, some (.pv (.vs 7 (List.map eGClass a0)))), (3, some (.ls 0)), (4, some (.pv (.int .i64 q.2)))], [(0, some (.row 142 15 (List.map eGNote_ref12 q.1)))], 1, [], [], 0, []⟩) (fun k q => ref12_Types_L1 a0 k q.1 q.2 = some x1348) ([], 0) (imps [0] ⟨by kernel_rfl, by kernel_rfl, by kernel_rfl, trivial⟩ ⟨by kernel_rfl, trivial⟩) hF (fun q h => by cases h) ?_
    clear hF
    rintro k ⟨x448, x449⟩ hF ih
    refine rnd_succ ?_
    iterate 2 (refine aw_seq ?_)
    refine aw_region ?_
    iterate 2 (refine rmv ?_)
    refine rgp (op_len_vs (n := a0.length) rfl rfl (List.length_map ..) Try_slc_22 rfl rfl) ?_
    refine rgp (op_int (k := .i64) (m := x449) (n := (a0.length : Int)) rfl rfl rfl rfl rfl rfl) ?_
    refine reg_nil ?_
    refine post_imp (s' := ⟨137, [(0, some (.pv (.vs 7 (List.map eGClass a0)))), (3, some (.ls 0)), (4, some (.pv (.int .i64 x449))), (16, some (.pv (.bool (decide (x449 < (a0.length : Int))))))], [(0, some (.row 142 15 (List.map eGNote_ref12 x448)))], 1, [], [], 0, []⟩) (imps [0] ⟨by kernel_rfl, by kernel_rfl, by kernel_rfl, by kernel_rfl, trivial⟩ ⟨by kernel_rfl, trivial⟩) ?_
    refine post_next ?_
    rcases ite_some hF with ⟨hb899, hF⟩ | ⟨hb899, hF⟩
    · refine aw_cond_t rfl hb899 ?_
      refine aw_skip ?_
      refine post_next ?_
      refine aw_seq ?_
      refine aw_block ?_
      iterate 2 (refine aw_seq ?_)
      refine aw_region ?_
      refine ras ?_
      refine reg_nil ?_
      refine post_imp (s' := ⟨137, [(0, some (.pv (.vs 7 (List.map eGClass a0)))), (3, some (.ls 0)), (4, some (.pv (.int .i64 x449))), (5, some (.pv (.int .i64 0)))], [(0, some (.row 142 15 (List.map eGNote_ref12 x448)))], 1, [], [], 0, []⟩) (imps [0] ⟨by kernel_rfl, by kernel_rfl, by kernel_rfl, by kernel_rfl, trivial⟩ ⟨by kernel_rfl, trivial⟩) ?_
      refine post_next ?_
      obtain ⟨x957, hF, hK958⟩ := bind_some hF
      refine aw_for (Option.getD (Option.bind (idx a0 x449) fun (y959 : GClass) => some ((((y959.fFields.length : Int) : Int) - (0)).toNat + 1)) 1) (fun s1 => s1 = ⟨137, [(0, some (.pv (.vs 7 (List.map eGClass a0)))), (3, some (.ls 0)), (4, some (.pv (.int .i64 x449)))], [(0, some (.row 142 15 (List.map eGNote_ref12 x957)))], 1, [], [], 0, []⟩) ?_ ?_
      · refine rnd_loop (α := (List GNote_ref12) × Int) (fun q => ⟨137, [(0, some (.pv (.vs 7 (List.map eGClass a0)))), (3, some (.ls 0)), (4, some (.pv (.int .i64 x449))), (5, some (.pv (.int .i64 q.2)))], [(0, some (.row 142 15 (List.map eGNote_ref12 q.1)))], 1, [], [], 0, []⟩) (fun k q => ref12_Types_L2 a0 x449 k q.1 q.2 = some x957) (x448, 0) (imps [0] ⟨by kernel_rfl, by kernel_rfl, by kernel_rfl, by kernel_rfl, trivial⟩ ⟨by kernel_rfl, trivial⟩) hF (fun q h => by cases h) ?_
        clear hF
        rintro k ⟨x917, x918⟩ hF ih
        refine rnd_succ ?_
        iterate 2 (refine aw_seq ?_)
        refine aw_region ?_
        iterate 3 (refine rmv ?_)
        obtain ⟨y940, h941, hF⟩ := bind_some hF
        refine rgp (op_index_vs (k := .i64) rfl rfl rfl (idx_map eGClass h941) Try_slc_22 rfl rfl) ?_
        refine rgp (op_field_vp rfl rfl Try_fld_56_4 rfl rfl) ?_
        refine rgp (op_load_vp (p := .vs 13 (List.map eGVar y940.fFields)) rfl rfl rfl Try_one_30 rfl rfl) ?_
        refine rgp (op_len_vs (n := y940.fFields.length) rfl rfl (List.length_map ..) Try_slc_30 rfl rfl) ?_
        refine rgp (op_int (k := .i64) (m := x918) (n := (y940.fFields.length : Int)) rfl rfl rfl rfl rfl rfl) ?_
        refine reg_nil ?_
        refine post_imp (s' := ⟨137, [(0, some (.pv (.vs 7 (List.map eGClass a0)))), (3, some (.ls 0)), (4, some (.pv (.int .i64 x449))), (5, some (.pv (.int .i64 x918))), (26, some (.pv (.bool (decide (x918 < (y940.fFields.length : Int))))))], [(0, some (.row 142 15 (List.map eGNote_ref12 x917)))], 1, [], [], 0, []⟩) (imps [0] ⟨by kernel_rfl, by kernel_rfl, by kernel_rfl, by kernel_rfl, by kernel_rfl, trivial⟩ ⟨by kernel_rfl, trivial⟩) ?_
        refine post_next ?_
        rcases ite_some hF with ⟨hb942, hF⟩ | ⟨hb942, hF⟩
        · refine aw_cond_t rfl hb942 ?_
          refine aw_skip ?_
          refine post_next ?_
          refine aw_seq ?_
          refine aw_block ?_
          refine aw_seq ?_
          refine aw_region ?_
          iterate 2 (refine rmv ?_)
          obtain ⟨y947, h948, hF⟩ := bind_some hF
          refine rgp (op_index_vs (k := .i64) rfl rfl rfl (idx_map eGClass h948) Try_slc_22 rfl rfl) ?_
          refine rgp (op_field_vp rfl rfl Try_fld_56_4 rfl rfl) ?_
          refine rgp (op_load_vp (p := .vs 13 (List.map eGVar y947.fFields)) rfl rfl rfl Try_one_30 rfl rfl) ?_
          refine rmv ?_
          obtain ⟨y949, h950, hF⟩ := bind_some hF
          refine rgp (op_index_vs (k := .i64) rfl rfl rfl (idx_map eGVar h950) Try_slc_30 rfl rfl) ?_
          refine rgp (op_load_vp_agg (ps := eGVar y949) rfl rfl rfl rfl Try_agg_50 rfl rfl) ?_
          refine rgp (op_alloc 1 rfl (ps := (eGVar zGVar)) rfl Try_zer_50 (by exact ⟨rfl, rfl, rfl, rfl, rfl, rfl, rfl, rfl, rfl, rfl, rfl, rfl, rfl, trivial⟩) rfl rfl) ?_
          refine rgp (op_store_lp (n := 13) rfl rfl rfl rfl rfl (or_agg Try_agg_50) (by rw [Try_non_50]; rfl) rfl rfl rfl) ?_
          refine reg_nil ?_
          refine post_imp (s' := ⟨137, [(0, some (.pv (.vs 7 (List.map eGClass a0)))), (3, some (.ls 0)), (4, some (.pv (.int .i64 x449))), (5, some (.pv (.int .i64 x918))), (6, some (.lp 1 0))], [(0, some (.row 142 15 (List.map eGNote_ref12 x917))), (1, some (.box 50 (bxv (eGVar y949))))], 2, [], [], 0, []⟩) (imps [0, 1] ⟨by kernel_rfl, by kernel_rfl, by kernel_rfl, by kernel_rfl, by kernel_rfl, trivial⟩ ⟨by kernel_rfl, by kernel_rfl, trivial⟩) ?_
          refine post_next ?_
          refine aw_region ?_
          iterate 3 (refine rmv ?_)
          refine rgp (op_field_lp rfl rfl Try_fld_50_1 rfl rfl) ?_
          refine rgp (op_load_lp_agg (ps := eGType y949.fType) rfl rfl rfl rfl rfl rfl Try_agg_29 rfl rfl) ?_
          refine rgp (op_field_lp rfl rfl Try_fld_50_2 rfl rfl) ?_
          refine rgp (op_load_lp (v := .pv (.int .i64 y949.fAt)) rfl rfl rfl rfl Try_one_3 rfl rfl) ?_
          refine rgp (op_build (zs := (eGNote_ref12 zGNote_ref12)) (r := eGNote_ref12 ({ fClass := x449, fMethod := (-1), fVar := x918, fType := y949.fType, fAt := y949.fAt } : GNote_ref12)) rfl Try_zer_142 (by exact ⟨rfl, rfl, rfl, rfl, rfl, rfl, rfl, rfl, rfl, rfl, rfl, rfl, rfl, rfl, rfl, trivial⟩) Try_plc_142 rfl rfl rfl rfl) ?_
          refine rgp (op_lit (rows := List.map eGNote_ref12 ([({ fClass := x449, fMethod := (-1), fVar := x918, fType := y949.fType, fAt := y949.fAt } : GNote_ref12)] : List GNote_ref12)) (zs := (eGNote_ref12 zGNote_ref12)) rfl rfl Try_slc_139 Try_zer_142 (by exact ⟨rfl, rfl, rfl, rfl, rfl, rfl, rfl, rfl, rfl, rfl, rfl, rfl, rfl, rfl, rfl, trivial⟩) rfl rfl rfl rfl rfl rfl rfl rfl) ?_
          obtain ⟨u953, h954, hF⟩ := bind_some hF
          refine rgp (op_append 2 rfl rfl rfl rfl rfl Try_slc_139 Try_elm_142 Try_zer_142 rfl rfl rfl (room_map (f := eGNote_ref12) (g := eGNote_ref12) h954) (List.map_append (f := eGNote_ref12) (l₁ := x917) (l₂ := [({ fClass := x449, fMethod := (-1), fVar := x918, fType := y949.fType, fAt := y949.fAt } : GNote_ref12)])).symm rfl rfl) ?_
          refine ras ?_
          refine reg_nil ?_
          refine post_imp (s' := ⟨137, [(0, some (.pv (.vs 7 (List.map eGClass a0)))), (3, some (.ls 0)), (4, some (.pv (.int .i64 x449))), (5, some (.pv (.int .i64 x918)))], [(0, some (.row 142 15 (List.map eGNote_ref12 (x917 ++ [({ fClass := x449, fMethod := (-1), fVar := x918, fType := y949.fType, fAt := y949.fAt } : GNote_ref12)]))))], 1, [], [], 0, []⟩) (imps [2] ⟨by kernel_rfl, by kernel_rfl, by kernel_rfl, by kernel_rfl, trivial⟩ ⟨by kernel_rfl, trivial⟩) ?_
          refine post_block_normal ?_
          refine post_next ?_
          refine aw_region ?_
          refine rmv ?_
          refine rgp (op_int (k := .i64) (m := x918) (n := 1) rfl rfl rfl rfl rfl rfl) ?_
          refine ras ?_
          refine reg_nil ?_
          refine post_round ?_
          exact rnd_back (ih ((x917 ++ [({ fClass := x449, fMethod := (-1), fVar := x918, fType := y949.fType, fAt := y949.fAt } : GNote_ref12)]), w_i64 (x918 + 1)) hF) (imps [0] ⟨by kernel_rfl, by kernel_rfl, by kernel_rfl, by kernel_rfl, trivial⟩ ⟨by kernel_rfl, trivial⟩)
        refine aw_cond_f rfl hb942 ?_
        refine aw_exit ?_
        iterate 2 (refine post_then_exit ?_)
        obtain rfl := Option.some.inj hF
        exact post_lp_break _ rfl (imps [0] ⟨by kernel_rfl, by kernel_rfl, by kernel_rfl, trivial⟩ ⟨by kernel_rfl, trivial⟩)
      rintro _ rfl
      have hF := hK958
      clear hK958
      refine post_next ?_
      refine aw_seq ?_
      refine aw_region ?_
      refine ras ?_
      refine reg_nil ?_
      refine post_imp (s' := ⟨137, [(0, some (.pv (.vs 7 (List.map eGClass a0)))), (3, some (.ls 0)), (4, some (.pv (.int .i64 x449))), (7, some (.pv (.int .i64 0)))], [(0, some (.row 142 15 (List.map eGNote_ref12 x957)))], 1, [], [], 0, []⟩) (imps [0] ⟨by kernel_rfl, by kernel_rfl, by kernel_rfl, by kernel_rfl, trivial⟩ ⟨by kernel_rfl, trivial⟩) ?_
      refine post_next ?_
      obtain ⟨x1342, hF, hK1343⟩ := bind_some hF
      refine aw_for (Option.getD (Option.bind (idx a0 x449) fun (y1344 : GClass) => some ((((y1344.fMethods.length : Int) : Int) - (0)).toNat + 1)) 1) (fun s1 => s1 = ⟨137, [(0, some (.pv (.vs 7 (List.map eGClass a0)))), (3, some (.ls 0)), (4, some (.pv (.int .i64 x449)))], [(0, some (.row 142 15 (List.map eGNote_ref12 x1342)))], 1, [], [], 0, []⟩) ?_ ?_
      · refine rnd_loop (α := (List GNote_ref12) × Int) (fun q => ⟨137, [(0, some (.pv (.vs 7 (List.map eGClass a0)))), (3, some (.ls 0)), (4, some (.pv (.int .i64 x449))), (7, some (.pv (.int .i64 q.2)))], [(0, some (.row 142 15 (List.map eGNote_ref12 q.1)))], 1, [], [], 0, []⟩) (fun k q => ref12_Types_L3 a0 x449 k q.1 q.2 = some x1342) (x957, 0) (imps [0] ⟨by kernel_rfl, by kernel_rfl, by kernel_rfl, by kernel_rfl, trivial⟩ ⟨by kernel_rfl, trivial⟩) hF (fun q h => by cases h) ?_
        clear hF
        rintro k ⟨x1086, x1087⟩ hF ih
        refine rnd_succ ?_
        iterate 2 (refine aw_seq ?_)
        refine aw_region ?_
        iterate 3 (refine rmv ?_)
        obtain ⟨y1217, h1218, hF⟩ := bind_some hF
        refine rgp (op_index_vs (k := .i64) rfl rfl rfl (idx_map eGClass h1218) Try_slc_22 rfl rfl) ?_
        refine rgp (op_field_vp rfl rfl Try_fld_56_5 rfl rfl) ?_
        refine rgp (op_load_vp (p := .vs 17 (List.map eGMethod y1217.fMethods)) rfl rfl rfl Try_one_54 rfl rfl) ?_
        refine rgp (op_len_vs (n := y1217.fMethods.length) rfl rfl (List.length_map ..) Try_slc_54 rfl rfl) ?_
        refine rgp (op_int (k := .i64) (m := x1087) (n := (y1217.fMethods.length : Int)) rfl rfl rfl rfl rfl rfl) ?_
        refine reg_nil ?_
        refine post_imp (s' := ⟨137, [(0, some (.pv (.vs 7 (List.map eGClass a0)))), (3, some (.ls 0)), (4, some (.pv (.int .i64 x449))), (7, some (.pv (.int .i64 x1087))), (54, some (.pv (.bool (decide (x1087 < (y1217.fMethods.length : Int))))))], [(0, some (.row 142 15 (List.map eGNote_ref12 x1086)))], 1, [], [], 0, []⟩) (imps [0] ⟨by kernel_rfl, by kernel_rfl, by kernel_rfl, by kernel_rfl, by kernel_rfl, trivial⟩ ⟨by kernel_rfl, trivial⟩) ?_
        refine post_next ?_
        rcases ite_some hF with ⟨hb1219, hF⟩ | ⟨hb1219, hF⟩
        · refine aw_cond_t rfl hb1219 ?_
          refine aw_skip ?_
          refine post_next ?_
          refine aw_seq ?_
          refine aw_block ?_
          refine aw_seq ?_
          refine aw_region ?_
          iterate 2 (refine rmv ?_)
          obtain ⟨y1224, h1225, hF⟩ := bind_some hF
          refine rgp (op_index_vs (k := .i64) rfl rfl rfl (idx_map eGClass h1225) Try_slc_22 rfl rfl) ?_
          refine rgp (op_field_vp rfl rfl Try_fld_56_5 rfl rfl) ?_
          refine rgp (op_load_vp (p := .vs 17 (List.map eGMethod y1224.fMethods)) rfl rfl rfl Try_one_54 rfl rfl) ?_
          refine rmv ?_
          obtain ⟨y1226, h1227, hF⟩ := bind_some hF
          refine rgp (op_index_vs (k := .i64) rfl rfl rfl (idx_map eGMethod h1227) Try_slc_54 rfl rfl) ?_
          refine rgp (op_load_vp_agg (ps := eGMethod y1226) rfl rfl rfl rfl Try_agg_33 rfl rfl) ?_
          refine rgp (op_alloc 1 rfl (ps := (eGMethod zGMethod)) rfl Try_zer_33 (by exact ⟨rfl, rfl, rfl, rfl, rfl, rfl, rfl, rfl, rfl, rfl, rfl, rfl, rfl, trivial, trivial, trivial, rfl, trivial⟩) rfl rfl) ?_
          refine rgp (op_store_lp (n := 17) rfl rfl rfl rfl rfl (or_agg Try_agg_33) (by rw [Try_non_33]; rfl) rfl rfl rfl) ?_
          refine reg_nil ?_
          refine post_imp (s' := ⟨137, [(0, some (.pv (.vs 7 (List.map eGClass a0)))), (3, some (.ls 0)), (4, some (.pv (.int .i64 x449))), (7, some (.pv (.int .i64 x1087))), (8, some (.lp 1 0))], [(0, some (.row 142 15 (List.map eGNote_ref12 x1086))), (1, some (.box 33 (bxv (eGMethod y1226))))], 2, [], [], 0, []⟩) (imps [0, 1] ⟨by kernel_rfl, by kernel_rfl, by kernel_rfl, by kernel_rfl, by kernel_rfl, trivial⟩ ⟨by kernel_rfl, by kernel_rfl, trivial⟩) ?_
          refine post_next ?_
          refine aw_seq ?_
          refine aw_region ?_
          iterate 3 (refine rmv ?_)
          refine rgp (op_field_lp rfl rfl Try_fld_33_2 rfl rfl) ?_
          refine rgp (op_load_lp_agg (ps := eGType y1226.fRet) rfl rfl rfl rfl rfl rfl Try_agg_29 rfl rfl) ?_
          refine rgp (op_field_lp rfl rfl Try_fld_33_6 rfl rfl) ?_
          refine rgp (op_load_lp (v := .pv (.int .i64 y1226.fAt)) rfl rfl rfl rfl Try_one_3 rfl rfl) ?_
          refine rgp (op_build (zs := (eGNote_ref12 zGNote_ref12)) (r := eGNote_ref12 ({ fClass := x449, fMethod := x1087, fVar := (-1), fType := y1226.fRet, fAt := y1226.fAt } : GNote_ref12)) rfl Try_zer_142 (by exact ⟨rfl, rfl, rfl, rfl, rfl, rfl, rfl, rfl, rfl, rfl, rfl, rfl, rfl, rfl, rfl, trivial⟩) Try_plc_142 rfl rfl rfl rfl) ?_
          refine rgp (op_lit (rows := List.map eGNote_ref12 ([({ fClass := x449, fMethod := x1087, fVar := (-1), fType := y1226.fRet, fAt := y1226.fAt } : GNote_ref12)] : List GNote_ref12)) (zs := (eGNote_ref12 zGNote_ref12)) rfl rfl Try_slc_139 Try_zer_142 (by exact ⟨rfl, rfl, rfl, rfl, rfl, rfl, rfl, rfl, rfl, rfl, rfl, rfl, rfl, rfl, rfl, trivial⟩) rfl rfl rfl rfl rfl rfl rfl rfl) ?_
          obtain ⟨u1230, h1231, hF⟩ := bind_some hF
          refine rgp (op_append 2 rfl rfl rfl rfl rfl Try_slc_139 Try_elm_142 Try_zer_142 rfl rfl rfl (room_map (f := eGNote_ref12) (g := eGNote_ref12) h1231) (List.map_append (f := eGNote_ref12) (l₁ := x1086) (l₂ := [({ fClass := x449, fMethod := x1087, fVar := (-1), fType := y1226.fRet, fAt := y1226.fAt } : GNote_ref12)])).symm rfl rfl) ?_
          refine ras ?_
          refine reg_nil ?_
          refine post_imp (s' := ⟨137, [(0, some (.pv (.vs 7 (List.map eGClass a0)))), (3, some (.ls 0)), (4, some (.pv (.int .i64 x449))), (7, some (.pv (.int .i64 x1087))), (8, some (.lp 1 0))], [(0, some (.row 142 15 (List.map eGNote_ref12 (x1086 ++ [({ fClass := x449, fMethod := x1087, fVar := (-1), fType := y1226.fRet, fAt := y1226.fAt } : GNote_ref12)])))), (1, some (.box 33 (bxv (eGMethod y1226))))], 2, [], [], 0, []⟩) (imps [2, 1] ⟨by kernel_rfl, by kernel_rfl, by kernel_rfl, by kernel_rfl, by kernel_rfl, trivial⟩ ⟨by kernel_rfl, by kernel_rfl, trivial⟩) ?_
          refine post_next ?_
          refine aw_seq ?_
          refine aw_region ?_
          refine rgp (op_load_lp_agg (ps := eGMethod y1226) rfl rfl rfl rfl rfl rfl Try_agg_33 rfl rfl) ?_
          obtain ⟨y1234, h1235, hF⟩ := bind_some hF
          refine rgp (op_call 2 rfl (caps := []) (args := [.agg (eGMethod y1226)]) (rs := [.p (.vs 13 (List.map eGVar y1234))]) rfl rfl rfl Try_cal_55 (Fn.frozen (ref12_Vars_ok h1235)) rfl rfl rfl) ?_
          refine ras ?_
          refine reg_nil ?_
          refine post_imp (s' := ⟨137, [(0, some (.pv (.vs 7 (List.map eGClass a0)))), (3, some (.ls 0)), (4, some (.pv (.int .i64 x449))), (7, some (.pv (.int .i64 x1087))), (8, some (.lp 1 0)), (9, some (.pv (.vs 13 (List.map eGVar y1234))))], [(0, some (.row 142 15 (List.map eGNote_ref12 (x1086 ++ [({ fClass := x449, fMethod := x1087, fVar := (-1), fType := y1226.fRet, fAt := y1226.fAt } : GNote_ref12)])))), (1, some (.box 33 (bxv (eGMethod y1226))))], 2, [], [], 0, []⟩) (imps [0, 1] ⟨by kernel_rfl, by kernel_rfl, by kernel_rfl, by kernel_rfl, by kernel_rfl, by kernel_rfl, trivial⟩ ⟨by kernel_rfl, by kernel_rfl, trivial⟩) ?_
          refine post_next ?_
          iterate 2 (refine aw_seq ?_)
          refine aw_region ?_
          refine ras ?_
          refine reg_nil ?_
          refine post_imp (s' := ⟨137, [(0, some (.pv (.vs 7 (List.map eGClass a0)))), (3, some (.ls 0)), (4, some (.pv (.int .i64 x449))), (7, some (.pv (.int .i64 x1087))), (8, some (.lp 1 0)), (9, some (.pv (.vs 13 (List.map eGVar y1234)))), (10, some (.pv (.int .i64 0)))], [(0, some (.row 142 15 (List.map eGNote_ref12 (x1086 ++ [({ fClass := x449, fMethod := x1087, fVar := (-1), fType := y1226.fRet, fAt := y1226.fAt } : GNote_ref12)])))), (1, some (.box 33 (bxv (eGMethod y1226))))], 2, [], [], 0, []⟩) (imps [0, 1] ⟨by kernel_rfl, by kernel_rfl, by kernel_rfl, by kernel_rfl, by kernel_rfl, by kernel_rfl, by kernel_rfl, trivial⟩ ⟨by kernel_rfl, by kernel_rfl, trivial⟩) ?_
          refine post_next ?_
          obtain ⟨x1281, hF, hK1282⟩ := bind_some hF
          refine aw_for ((((y1234.length : Int) : Int) - (0)).toNat + 1) (fun s1 => s1 = ⟨137, [(0, some (.pv (.vs 7 (List.map eGClass a0)))), (3, some (.ls 0)), (4, some (.pv (.int .i64 x449))), (7, some (.pv (.int .i64 x1087))), (8, some (.lp 1 0))], [(0, some (.row 142 15 (List.map eGNote_ref12 x1281))), (1, some (.box 33 (bxv (eGMethod y1226))))], 2, [], [], 0, []⟩) ?_ ?_
          · refine rnd_loop (α := (List GNote_ref12) × Int) (fun q => ⟨137, [(0, some (.pv (.vs 7 (List.map eGClass a0)))), (3, some (.ls 0)), (4, some (.pv (.int .i64 x449))), (7, some (.pv (.int .i64 x1087))), (8, some (.lp 1 0)), (9, some (.pv (.vs 13 (List.map eGVar y1234)))), (10, some (.pv (.int .i64 q.2)))], [(0, some (.row 142 15 (List.map eGNote_ref12 q.1))), (1, some (.box 33 (bxv (eGMethod y1226))))], 2, [], [], 0, []⟩) (fun k q => ref12_Types_L4 x449 x1087 y1234 k q.1 q.2 = some x1281) ((x1086 ++ [({ fClass := x449, fMethod := x1087, fVar := (-1), fType := y1226.fRet, fAt := y1226.fAt } : GNote_ref12)]), 0) (imps [0, 1] ⟨by kernel_rfl, by kernel_rfl, by kernel_rfl, by kernel_rfl, by kernel_rfl, by kernel_rfl, by kernel_rfl, trivial⟩ ⟨by kernel_rfl, by kernel_rfl, trivial⟩) hF (fun q h => by cases h) ?_
            clear hF
            rintro k ⟨x1249, x1250⟩ hF ih
            refine rnd_succ ?_
            iterate 2 (refine aw_seq ?_)
            refine aw_region ?_
            iterate 2 (refine rmv ?_)
            refine rgp (op_len_vs (n := y1234.length) rfl rfl (List.length_map ..) Try_slc_30 rfl rfl) ?_
            refine rgp (op_int (k := .i64) (m := x1250) (n := (y1234.length : Int)) rfl rfl rfl rfl rfl rfl) ?_
            refine reg_nil ?_
            refine post_imp (s' := ⟨137, [(0, some (.pv (.vs 7 (List.map eGClass a0)))), (3, some (.ls 0)), (4, some (.pv (.int .i64 x449))), (7, some (.pv (.int .i64 x1087))), (8, some (.lp 1 0)), (9, some (.pv (.vs 13 (List.map eGVar y1234)))), (10, some (.pv (.int .i64 x1250))), (80, some (.pv (.bool (decide (x1250 < (y1234.length : Int))))))], [(0, some (.row 142 15 (List.map eGNote_ref12 x1249))), (1, some (.box 33 (bxv (eGMethod y1226))))], 2, [], [], 0, []⟩) (imps [0, 1] ⟨by kernel_rfl, by kernel_rfl, by kernel_rfl, by kernel_rfl, by kernel_rfl, by kernel_rfl, by kernel_rfl, by kernel_rfl, trivial⟩ ⟨by kernel_rfl, by kernel_rfl, trivial⟩) ?_
            refine post_next ?_
            rcases ite_some hF with ⟨hb1266, hF⟩ | ⟨hb1266, hF⟩
            · refine aw_cond_t rfl hb1266 ?_
              refine aw_skip ?_
              refine post_next ?_
              refine aw_seq ?_
              refine aw_block ?_
              refine aw_imp (imp_names 1) ?_
              refine dr_start ⟨_, _, _⟩ rfl ?_
              iterate 6 (refine drm ?_)
              obtain ⟨y1273, h1274, hF⟩ := bind_some hF
              refine dr_cons { need := [(87, .pv (.vs 13 (List.map eGVar y1234))), (88, .pv (.int .i64 x1250))], dst := some 89, val := some (.pv (.vp (eGVar y1273))) } (fun m h => step_on (guard_no rfl) (op_index_vs (k := .i64) rfl h.1.1 h.1.2.1 (idx_map eGVar h1274) Try_slc_30 rfl rfl) rfl) ⟨⟨rfl, rfl, trivial⟩, trivial, trivial⟩ ?_
              refine dr_cons { need := [(89, .pv (.vp (eGVar y1273)))], dst := some 90, val := some (.pv (.vp (List.drop 1 (eGVar y1273)))) } (fun m h => step_on (guard_no rfl) (op_field_vp rfl h.1.1 Try_fld_50_1 rfl rfl) rfl) ⟨⟨rfl, trivial⟩, trivial, trivial⟩ ?_
              refine dr_cons { need := [(90, .pv (.vp (List.drop 1 (eGVar y1273))))], dst := some 91, val := some (.pv (.agg (eGType y1273.fType))) } (fun m h => step_on (guard_no rfl) (op_load_vp_agg (ps := eGType y1273.fType) rfl h.1.1 rfl rfl Try_agg_29 rfl rfl) rfl) ⟨⟨rfl, trivial⟩, trivial, trivial⟩ ?_
              iterate 2 (refine drm ?_)
              obtain ⟨y1275, h1276, hF⟩ := bind_some hF
              refine dr_cons { need := [(92, .pv (.vs 13 (List.map eGVar y1234))), (93, .pv (.int .i64 x1250))], dst := some 94, val := some (.pv (.vp (eGVar y1275))) } (fun m h => step_on (guard_no rfl) (op_index_vs (k := .i64) rfl h.1.1 h.1.2.1 (idx_map eGVar h1276) Try_slc_30 rfl rfl) rfl) ⟨⟨rfl, rfl, trivial⟩, trivial, trivial⟩ ?_
              refine dr_cons { need := [(94, .pv (.vp (eGVar y1275)))], dst := some 95, val := some (.pv (.vp (List.drop 12 (eGVar y1275)))) } (fun m h => step_on (guard_no rfl) (op_field_vp rfl h.1.1 Try_fld_50_2 rfl rfl) rfl) ⟨⟨rfl, trivial⟩, trivial, trivial⟩ ?_
              refine dr_cons { need := [(95, .pv (.vp (List.drop 12 (eGVar y1275))))], dst := some 96, val := some (.pv (.int .i64 y1275.fAt)) } (fun m h => step_on (guard_no rfl) (op_load_vp (p := .int .i64 y1275.fAt) rfl h.1.1 rfl Try_one_3 rfl rfl) rfl) ⟨⟨rfl, trivial⟩, trivial, trivial⟩ ?_
              refine dr_cons { need := [(96, .pv (.int .i64 y1275.fAt)), (91, .pv (.agg (eGType y1273.fType))), (86, .pv (.int .i64 x1250)), (85, .pv (.int .i64 x1087)), (84, .pv (.int .i64 x449))], dst := some 97, val := some (.pv (.agg (eGNote_ref12 ({ fClass := x449, fMethod := x1087, fVar := x1250, fType := y1273.fType, fAt := y1275.fAt } : GNote_ref12)))) } (fun m h => step_on (guard_no rfl) (op_build (zs := (eGNote_ref12 zGNote_ref12)) (r := eGNote_ref12 ({ fClass := x449, fMethod := x1087, fVar := x1250, fType := y1273.fType, fAt := y1275.fAt } : GNote_ref12)) rfl Try_zer_142 (by exact ⟨rfl, rfl, rfl, rfl, rfl, rfl, rfl, rfl, rfl, rfl, rfl, rfl, rfl, rfl, rfl, trivial⟩) Try_plc_142 (evs_cons h.1.2.2.2.2.1 (evs_cons h.1.2.2.2.1 (evs_cons h.1.2.2.1 (evs_cons h.1.2.1 (evs_cons h.1.1 evs_nil))))) rfl rfl rfl) rfl) ⟨⟨rfl, rfl, rfl, rfl, rfl, trivial⟩, trivial, trivial⟩ ?_
              refine dr_cons { need := [(97, .pv (.agg (eGNote_ref12 ({ fClass := x449, fMethod := x1087, fVar := x1250, fType := y1273.fType, fAt := y1275.fAt } : GNote_ref12))))], dst := some 98, val := some (.pv (.vs 15 (List.map eGNote_ref12 [({ fClass := x449, fMethod := x1087, fVar := x1250, fType := y1273.fType, fAt := y1275.fAt } : GNote_ref12)]))) } (fun m h => step_on (guard_no rfl) (op_lit (rows := List.map eGNote_ref12 ([({ fClass := x449, fMethod := x1087, fVar := x1250, fType := y1273.fType, fAt := y1275.fAt } : GNote_ref12)] : List GNote_ref12)) (zs := (eGNote_ref12 zGNote_ref12)) rfl rfl Try_slc_139 Try_zer_142 (by exact ⟨rfl, rfl, rfl, rfl, rfl, rfl, rfl, rfl, rfl, rfl, rfl, rfl, rfl, rfl, rfl, trivial⟩) rfl rfl rfl (evs_cons h.1.1 evs_nil) rfl rfl rfl rfl) rfl) ⟨⟨rfl, trivial⟩, trivial, trivial⟩ ?_
              obtain ⟨u1277, h1278, hF⟩ := bind_some hF
              refine dr_cons { need := [(83, .ls 0), (98, .pv (.vs 15 (List.map eGNote_ref12 [({ fClass := x449, fMethod := x1087, fVar := x1250, fType := y1273.fType, fAt := y1275.fAt } : GNote_ref12)])))], hneed := [(0, .row 142 15 (List.map eGNote_ref12 x1249))], names := [2], dst := some 99, val := some (.ls 2), upd := [(2, some (.row 142 15 (List.map eGNote_ref12 (x1249 ++ [({ fClass := x449, fMethod := x1087, fVar := x1250, fType := y1273.fType, fAt := y1275.fAt } : GNote_ref12)])))), (0, none)] } (fun m h => step_on (guard_no rfl) (op_append 2 (fresh_free h.2.2.1) rfl h.1.1 h.2.1.1 h.1.2.1 Try_slc_139 Try_elm_142 Try_zer_142 rfl rfl rfl (room_map (f := eGNote_ref12) (g := eGNote_ref12) h1278) (List.map_append (f := eGNote_ref12) (l₁ := x1249) (l₂ := [({ fClass := x449, fMethod := x1087, fVar := x1250, fType := y1273.fType, fAt := y1275.fAt } : GNote_ref12)])).symm rfl rfl) rfl) ⟨⟨rfl, rfl, trivial⟩, ⟨rfl, trivial⟩, ⟨rfl, trivial⟩⟩ ?_
              refine dr_cons { need := [(99, .ls 2)], dst := some 3, val := some (.ls 2) } (fun m h => step_on (guard_no rfl) (op_assign rfl h.1.1 rfl rfl) rfl) ⟨⟨rfl, trivial⟩, trivial, trivial⟩ ?_
              refine dr_nil Try_mixed rfl (by kernel_rfl) ?_
              refine post_imp (s' := ⟨137, [(0, some (.pv (.vs 7 (List.map eGClass a0)))), (3, some (.ls 0)), (4, some (.pv (.int .i64 x449))), (7, some (.pv (.int .i64 x1087))), (8, some (.lp 1 0)), (9, some (.pv (.vs 13 (List.map eGVar y1234)))), (10, some (.pv (.int .i64 x1250)))], [(0, some (.row 142 15 (List.map eGNote_ref12 (x1249 ++ [({ fClass := x449, fMethod := x1087, fVar := x1250, fType := y1273.fType, fAt := y1275.fAt } : GNote_ref12)])))), (1, some (.box 33 (bxv (eGMethod y1226))))], 2, [], [], 0, []⟩) (imps [2, 1] ⟨by kernel_rfl, by kernel_rfl, by kernel_rfl, by kernel_rfl, by kernel_rfl, by kernel_rfl, by kernel_rfl, trivial⟩ ⟨by kernel_rfl, by kernel_rfl, trivial⟩) ?_
              refine post_block_normal ?_
              refine post_next ?_
              refine aw_region ?_
              refine rmv ?_
              refine rgp (op_int (k := .i64) (m := x1250) (n := 1) rfl rfl rfl rfl rfl rfl) ?_
              refine ras ?_
              refine reg_nil ?_
              refine post_round ?_
              exact rnd_back (ih ((x1249 ++ [({ fClass := x449, fMethod := x1087, fVar := x1250, fType := y1273.fType, fAt := y1275.fAt } : GNote_ref12)]), w_i64 (x1250 + 1)) hF) (imps [0, 1] ⟨by kernel_rfl, by kernel_rfl, by kernel_rfl, by kernel_rfl, by kernel_rfl, by kernel_rfl, by kernel_rfl, trivial⟩ ⟨by kernel_rfl, by kernel_rfl, trivial⟩)
            refine aw_cond_f rfl hb1266 ?_
            refine aw_exit ?_
            iterate 2 (refine post_then_exit ?_)
            obtain rfl := Option.some.inj hF
            exact post_lp_break _ rfl (imps [0, 1] ⟨by kernel_rfl, by kernel_rfl, by kernel_rfl, by kernel_rfl, by kernel_rfl, trivial⟩ ⟨by kernel_rfl, by kernel_rfl, trivial⟩)
          rintro _ rfl
          have hF := hK1282
          clear hK1282
          refine post_next ?_
          refine aw_seq ?_
          refine aw_region ?_
          refine rgp (op_field_lp rfl rfl Try_fld_33_5 rfl rfl) ?_
          refine rgp (op_load_lp (v := .pv (.vs 23 (eLGStmt y1226.fBody))) rfl rfl rfl rfl Try_one_31 rfl rfl) ?_
          refine rgp (op_build (zs := (eGLine_ref12 zGLine_ref12)) (r := eGLine_ref12 ({ fClass := 0, fMethod := 0, fDeep := 0, fS := zGStmt } : GLine_ref12)) rfl Try_zer_154 (by exact ⟨rfl, rfl, rfl, rfl, rfl, rfl, rfl, rfl, rfl, rfl, rfl, rfl, rfl, rfl, rfl, rfl, rfl, rfl, rfl, rfl, rfl, trivial, trivial, trivial, trivial, rfl, trivial⟩) Try_plc_154 rfl rfl rfl rfl) ?_
          obtain ⟨y1285, h1286, hF⟩ := bind_some hF
          refine rgp (op_call 2 rfl (caps := []) (args := [.vs 23 (eLGStmt y1226.fBody), .agg (eGLine_ref12 ({ fClass := 0, fMethod := 0, fDeep := 0, fS := zGStmt } : GLine_ref12))]) (rs := [.p (.vs 26 (List.map eGLine_ref12 y1285))]) rfl rfl rfl Try_cal_108 (Fn.frozen (ref12_lines_ok h1286)) rfl rfl rfl) ?_
          refine ras ?_
          refine reg_nil ?_
          refine post_imp (s' := ⟨137, [(0, some (.pv (.vs 7 (List.map eGClass a0)))), (3, some (.ls 0)), (4, some (.pv (.int .i64 x449))), (7, some (.pv (.int .i64 x1087))), (11, some (.pv (.vs 26 (List.map eGLine_ref12 y1285))))], [(0, some (.row 142 15 (List.map eGNote_ref12 x1281)))], 1, [], [], 0, []⟩) (imps [0] ⟨by kernel_rfl, by kernel_rfl, by kernel_rfl, by kernel_rfl, by kernel_rfl, trivial⟩ ⟨by kernel_rfl, trivial⟩) ?_
          refine post_next ?_
          refine aw_seq ?_
          refine aw_region ?_
          refine ras ?_
          refine reg_nil ?_
          refine post_imp (s' := ⟨137, [(0, some (.pv (.vs 7 (List.map eGClass a0)))), (3, some (.ls 0)), (4, some (.pv (.int .i64 x449))), (7, some (.pv (.int .i64 x1087))), (11, some (.pv (.vs 26 (List.map eGLine_ref12 y1285)))), (12, some (.pv (.int .i64 0)))], [(0, some (.row 142 15 (List.map eGNote_ref12 x1281)))], 1, [], [], 0, []⟩) (imps [0] ⟨by kernel_rfl, by kernel_rfl, by kernel_rfl, by kernel_rfl, by kernel_rfl, by kernel_rfl, trivial⟩ ⟨by kernel_rfl, trivial⟩) ?_
          refine post_next ?_
          obtain ⟨x1338, hF, hK1339⟩ := bind_some hF
          refine aw_for ((((y1285.length : Int) : Int) - (0)).toNat + 1) (fun s1 => s1 = ⟨137, [(0, some (.pv (.vs 7 (List.map eGClass a0)))), (3, some (.ls 0)), (4, some (.pv (.int .i64 x449))), (7, some (.pv (.int .i64 x1087)))], [(0, some (.row 142 15 (List.map eGNote_ref12 x1338)))], 1, [], [], 0, []⟩) ?_ ?_
          · refine rnd_loop (α := (List GNote_ref12) × Int) (fun q => ⟨137, [(0, some (.pv (.vs 7 (List.map eGClass a0)))), (3, some (.ls 0)), (4, some (.pv (.int .i64 x449))), (7, some (.pv (.int .i64 x1087))), (11, some (.pv (.vs 26 (List.map eGLine_ref12 y1285)))), (12, some (.pv (.int .i64 q.2)))], [(0, some (.row 142 15 (List.map eGNote_ref12 q.1)))], 1, [], [], 0, []⟩) (fun k q => ref12_Types_L5 x449 x1087 y1285 k q.1 q.2 = some x1338) (x1281, 0) (imps [0] ⟨by kernel_rfl, by kernel_rfl, by kernel_rfl, by kernel_rfl, by kernel_rfl, by kernel_rfl, trivial⟩ ⟨by kernel_rfl, trivial⟩) hF (fun q h => by cases h) ?_
            clear hF
            rintro k ⟨x1302, x1303⟩ hF ih
            refine rnd_succ ?_
            iterate 2 (refine aw_seq ?_)
            refine aw_region ?_
            iterate 2 (refine rmv ?_)
            refine rgp (op_len_vs (n := y1285.length) rfl rfl (List.length_map ..) Try_slc_151 rfl rfl) ?_
            refine rgp (op_int (k := .i64) (m := x1303) (n := (y1285.length : Int)) rfl rfl rfl rfl rfl rfl) ?_
            refine reg_nil ?_
            refine post_imp (s' := ⟨137, [(0, some (.pv (.vs 7 (List.map eGClass a0)))), (3, some (.ls 0)), (4, some (.pv (.int .i64 x449))), (7, some (.pv (.int .i64 x1087))), (11, some (.pv (.vs 26 (List.map eGLine_ref12 y1285)))), (12, some (.pv (.int .i64 x1303))), (107, some (.pv (.bool (decide (x1303 < (y1285.length : Int))))))], [(0, some (.row 142 15 (List.map eGNote_ref12 x1302)))], 1, [], [], 0, []⟩) (imps [0] ⟨by kernel_rfl, by kernel_rfl, by kernel_rfl, by kernel_rfl, by kernel_rfl, by kernel_rfl, by kernel_rfl, trivial⟩ ⟨by kernel_rfl, trivial⟩) ?_
            refine post_next ?_
            rcases ite_some hF with ⟨hb1321, hF⟩ | ⟨hb1321, hF⟩
            · refine aw_cond_t rfl hb1321 ?_
              refine aw_skip ?_
              refine post_next ?_
              refine aw_seq ?_
              obtain ⟨x1333, hF, hK1335⟩ := bind_some hF
              refine aw_cut (fun s1 => s1 = ⟨137, [(0, some (.pv (.vs 7 (List.map eGClass a0)))), (3, some (.ls 0)), (4, some (.pv (.int .i64 x449))), (7, some (.pv (.int .i64 x1087))), (11, some (.pv (.vs 26 (List.map eGLine_ref12 y1285)))), (12, some (.pv (.int .i64 x1303)))], [(0, some (.row 142 15 (List.map eGNote_ref12 x1333)))], 1, [], [], 0, []⟩) ?_ ?_
              · refine aw_block ?_
                refine aw_seq ?_
                refine aw_region ?_
                iterate 2 (refine rmv ?_)
                obtain ⟨y1324, h1325, hF⟩ := bind_some hF
                refine rgp (op_index_vs (k := .i64) rfl rfl rfl (idx_map eGLine_ref12 h1325) Try_slc_151 rfl rfl) ?_
                refine rgp (op_field_vp rfl rfl Try_fld_154_3 rfl rfl) ?_
                refine rgp (op_field_vp rfl rfl Try_fld_83_4 rfl rfl) ?_
                refine rgp (op_field_vp rfl rfl Try_fld_29_0 rfl rfl) ?_
                refine rgp (op_load_vp (p := .int .i64 y1324.fS.fType.fKind) rfl rfl rfl Try_one_3 rfl rfl) ?_
                refine rgp (op_int (k := .i64) (m := y1324.fS.fType.fKind) (n := 2) rfl rfl rfl rfl rfl rfl) ?_
                refine reg_nil ?_
                refine post_imp (s' := ⟨137, [(0, some (.pv (.vs 7 (List.map eGClass a0)))), (3, some (.ls 0)), (4, some (.pv (.int .i64 x449))), (7, some (.pv (.int .i64 x1087))), (11, some (.pv (.vs 26 (List.map eGLine_ref12 y1285)))), (12, some (.pv (.int .i64 x1303))), (117, some (.pv (.bool (y1324.fS.fType.fKind == 2))))], [(0, some (.row 142 15 (List.map eGNote_ref12 x1302)))], 1, [], [], 0, []⟩) (imps [0] ⟨by kernel_rfl, by kernel_rfl, by kernel_rfl, by kernel_rfl, by kernel_rfl, by kernel_rfl, by kernel_rfl, trivial⟩ ⟨by kernel_rfl, trivial⟩) ?_
                refine post_next ?_
                rcases ite_some hF with ⟨hb1326, hF⟩ | ⟨hb1326, hF⟩
                · refine aw_cond_t rfl hb1326 ?_
                  refine aw_imp (imp_names 1) ?_
                  refine dr_start ⟨_, _, _⟩ rfl ?_
                  iterate 5 (refine drm ?_)
                  obtain ⟨y1327, h1328, hF⟩ := bind_some hF
                  refine dr_cons { need := [(121, .pv (.vs 26 (List.map eGLine_ref12 y1285))), (122, .pv (.int .i64 x1303))], dst := some 123, val := some (.pv (.vp (eGLine_ref12 y1327))) } (fun m h => step_on (guard_no rfl) (op_index_vs (k := .i64) rfl h.1.1 h.1.2.1 (idx_map eGLine_ref12 h1328) Try_slc_151 rfl rfl) rfl) ⟨⟨rfl, rfl, trivial⟩, trivial, trivial⟩ ?_
                  refine dr_cons { need := [(123, .pv (.vp (eGLine_ref12 y1327)))], dst := some 124, val := some (.pv (.vp (List.drop 3 (eGLine_ref12 y1327)))) } (fun m h => step_on (guard_no rfl) (op_field_vp rfl h.1.1 Try_fld_154_3 rfl rfl) rfl) ⟨⟨rfl, trivial⟩, trivial, trivial⟩ ?_
                  refine dr_cons { need := [(124, .pv (.vp (List.drop 3 (eGLine_ref12 y1327))))], dst := some 125, val := some (.pv (.vp (List.drop 4 (List.drop 3 (eGLine_ref12 y1327))))) } (fun m h => step_on (guard_no rfl) (op_field_vp rfl h.1.1 Try_fld_83_4 rfl rfl) rfl) ⟨⟨rfl, trivial⟩, trivial, trivial⟩ ?_
                  refine dr_cons { need := [(125, .pv (.vp (List.drop 4 (List.drop 3 (eGLine_ref12 y1327)))))], dst := some 126, val := some (.pv (.agg (eGType y1327.fS.fType))) } (fun m h => step_on (guard_no rfl) (op_load_vp_agg (ps := eGType y1327.fS.fType) rfl h.1.1 rfl rfl Try_agg_29 rfl rfl) rfl) ⟨⟨rfl, trivial⟩, trivial, trivial⟩ ?_
                  iterate 2 (refine drm ?_)
                  obtain ⟨y1329, h1330, hF⟩ := bind_some hF
                  refine dr_cons { need := [(127, .pv (.vs 26 (List.map eGLine_ref12 y1285))), (128, .pv (.int .i64 x1303))], dst := some 129, val := some (.pv (.vp (eGLine_ref12 y1329))) } (fun m h => step_on (guard_no rfl) (op_index_vs (k := .i64) rfl h.1.1 h.1.2.1 (idx_map eGLine_ref12 h1330) Try_slc_151 rfl rfl) rfl) ⟨⟨rfl, rfl, trivial⟩, trivial, trivial⟩ ?_
                  refine dr_cons { need := [(129, .pv (.vp (eGLine_ref12 y1329)))], dst := some 130, val := some (.pv (.vp (List.drop 3 (eGLine_ref12 y1329)))) } (fun m h => step_on (guard_no rfl) (op_field_vp rfl h.1.1 Try_fld_154_3 rfl rfl) rfl) ⟨⟨rfl, trivial⟩, trivial, trivial⟩ ?_
                  refine dr_cons { need := [(130, .pv (.vp (List.drop 3 (eGLine_ref12 y1329))))], dst := some 131, val := some (.pv (.vp (List.drop 22 (List.drop 3 (eGLine_ref12 y1329))))) } (fun m h => step_on (guard_no rfl) (op_field_vp rfl h.1.1 Try_fld_83_9 rfl rfl) rfl) ⟨⟨rfl, trivial⟩, trivial, trivial⟩ ?_
                  refine dr_cons { need := [(131, .pv (.vp (List.drop 22 (List.drop 3 (eGLine_ref12 y1329)))))], dst := some 132, val := some (.pv (.int .i64 y1329.fS.fAt)) } (fun m h => step_on (guard_no rfl) (op_load_vp (p := .int .i64 y1329.fS.fAt) rfl h.1.1 rfl Try_one_3 rfl rfl) rfl) ⟨⟨rfl, trivial⟩, trivial, trivial⟩ ?_
                  refine dr_cons { need := [(132, .pv (.int .i64 y1329.fS.fAt)), (126, .pv (.agg (eGType y1327.fS.fType))), (120, .pv (.int .i64 x1087)), (119, .pv (.int .i64 x449))], dst := some 133, val := some (.pv (.agg (eGNote_ref12 ({ fClass := x449, fMethod := x1087, fVar := (-1), fType := y1327.fS.fType, fAt := y1329.fS.fAt } : GNote_ref12)))) } (fun m h => step_on (guard_no rfl) (op_build (zs := (eGNote_ref12 zGNote_ref12)) (r := eGNote_ref12 ({ fClass := x449, fMethod := x1087, fVar := (-1), fType := y1327.fS.fType, fAt := y1329.fS.fAt } : GNote_ref12)) rfl Try_zer_142 (by exact ⟨rfl, rfl, rfl, rfl, rfl, rfl, rfl, rfl, rfl, rfl, rfl, rfl, rfl, rfl, rfl, trivial⟩) Try_plc_142 (evs_cons h.1.2.2.2.1 (evs_cons h.1.2.2.1 (evs_cons rfl (evs_cons h.1.2.1 (evs_cons h.1.1 evs_nil))))) rfl rfl rfl) rfl) ⟨⟨rfl, rfl, rfl, rfl, trivial⟩, trivial, trivial⟩ ?_
                  refine dr_cons { need := [(133, .pv (.agg (eGNote_ref12 ({ fClass := x449, fMethod := x1087, fVar := (-1), fType := y1327.fS.fType, fAt := y1329.fS.fAt } : GNote_ref12))))], dst := some 134, val := some (.pv (.vs 15 (List.map eGNote_ref12 [({ fClass := x449, fMethod := x1087, fVar := (-1), fType := y1327.fS.fType, fAt := y1329.fS.fAt } : GNote_ref12)]))) } (fun m h => step_on (guard_no rfl) (op_lit (rows := List.map eGNote_ref12 ([({ fClass := x449, fMethod := x1087, fVar := (-1), fType := y1327.fS.fType, fAt := y1329.fS.fAt } : GNote_ref12)] : List GNote_ref12)) (zs := (eGNote_ref12 zGNote_ref12)) rfl rfl Try_slc_139 Try_zer_142 (by exact ⟨rfl, rfl, rfl, rfl, rfl, rfl, rfl, rfl, rfl, rfl, rfl, rfl, rfl, rfl, rfl, trivial⟩) rfl rfl rfl (evs_cons h.1.1 evs_nil) rfl rfl rfl rfl) rfl) ⟨⟨rfl, trivial⟩, trivial, trivial⟩ ?_
                  obtain ⟨u1331, h1332, hF⟩ := bind_some hF
                  refine dr_cons { need := [(118, .ls 0), (134, .pv (.vs 15 (List.map eGNote_ref12 [({ fClass := x449, fMethod := x1087, fVar := (-1), fType := y1327.fS.fType, fAt := y1329.fS.fAt } : GNote_ref12)])))], hneed := [(0, .row 142 15 (List.map eGNote_ref12 x1302))], names := [1], dst := some 135, val := some (.ls 1), upd := [(1, some (.row 142 15 (List.map eGNote_ref12 (x1302 ++ [({ fClass := x449, fMethod := x1087, fVar := (-1), fType := y1327.fS.fType, fAt := y1329.fS.fAt } : GNote_ref12)])))), (0, none)] } (fun m h => step_on (guard_no rfl) (op_append 1 (fresh_free h.2.2.1) rfl h.1.1 h.2.1.1 h.1.2.1 Try_slc_139 Try_elm_142 Try_zer_142 rfl rfl rfl (room_map (f := eGNote_ref12) (g := eGNote_ref12) h1332) (List.map_append (f := eGNote_ref12) (l₁ := x1302) (l₂ := [({ fClass := x449, fMethod := x1087, fVar := (-1), fType := y1327.fS.fType, fAt := y1329.fS.fAt } : GNote_ref12)])).symm rfl rfl) rfl) ⟨⟨rfl, rfl, trivial⟩, ⟨rfl, trivial⟩, ⟨rfl, trivial⟩⟩ ?_
                  refine dr_cons { need := [(135, .ls 1)], dst := some 3, val := some (.ls 1) } (fun m h => step_on (guard_no rfl) (op_assign rfl h.1.1 rfl rfl) rfl) ⟨⟨rfl, trivial⟩, trivial, trivial⟩ ?_
                  refine dr_nil Try_mixed rfl (by kernel_rfl) ?_
                  refine post_imp (s' := ⟨137, [(0, some (.pv (.vs 7 (List.map eGClass a0)))), (3, some (.ls 0)), (4, some (.pv (.int .i64 x449))), (7, some (.pv (.int .i64 x1087))), (11, some (.pv (.vs 26 (List.map eGLine_ref12 y1285)))), (12, some (.pv (.int .i64 x1303)))], [(0, some (.row 142 15 (List.map eGNote_ref12 (x1302 ++ [({ fClass := x449, fMethod := x1087, fVar := (-1), fType := y1327.fS.fType, fAt := y1329.fS.fAt } : GNote_ref12)]))))], 1, [], [], 0, []⟩) (imps [1] ⟨by kernel_rfl, by kernel_rfl, by kernel_rfl, by kernel_rfl, by kernel_rfl, by kernel_rfl, trivial⟩ ⟨by kernel_rfl, trivial⟩) ?_
                  refine post_block_normal ?_
                  cases hF
                  exact post_cut _ rfl (imps [0] ⟨by kernel_rfl, by kernel_rfl, by kernel_rfl, by kernel_rfl, by kernel_rfl, by kernel_rfl, trivial⟩ ⟨by kernel_rfl, trivial⟩)
                refine aw_cond_f rfl hb1326 ?_
                refine aw_skip ?_
                refine post_block_normal ?_
                cases hF
                exact post_cut _ rfl (imps [0] ⟨by kernel_rfl, by kernel_rfl, by kernel_rfl, by kernel_rfl, by kernel_rfl, by kernel_rfl, trivial⟩ ⟨by kernel_rfl, trivial⟩)
              rintro _ rfl
              have hF := hK1335
              clear hK1335
              refine post_next ?_
              refine aw_region ?_
              refine rmv ?_
              refine rgp (op_int (k := .i64) (m := x1303) (n := 1) rfl rfl rfl rfl rfl rfl) ?_
              refine ras ?_
              refine reg_nil ?_
              refine post_round ?_
              exact rnd_back (ih (x1333, w_i64 (x1303 + 1)) hF) (imps [0] ⟨by kernel_rfl, by kernel_rfl, by kernel_rfl, by kernel_rfl, by kernel_rfl, by kernel_rfl, trivial⟩ ⟨by kernel_rfl, trivial⟩)
            refine aw_cond_f rfl hb1321 ?_
            refine aw_exit ?_
            iterate 2 (refine post_then_exit ?_)
            obtain rfl := Option.some.inj hF
            exact post_lp_break _ rfl (imps [0] ⟨by kernel_rfl, by kernel_rfl, by kernel_rfl, by kernel_rfl, trivial⟩ ⟨by kernel_rfl, trivial⟩)
          rintro _ rfl
          have hF := hK1339
          clear hK1339
          refine post_block_normal ?_
          refine post_next ?_
          refine aw_region ?_
          refine rmv ?_
          refine rgp (op_int (k := .i64) (m := x1087) (n := 1) rfl rfl rfl rfl rfl rfl) ?_
          refine ras ?_
          refine reg_nil ?_
          refine post_round ?_
          exact rnd_back (ih (x1338, w_i64 (x1087 + 1)) hF) (imps [0] ⟨by kernel_rfl, by kernel_rfl, by kernel_rfl, by kernel_rfl, trivial⟩ ⟨by kernel_rfl, trivial⟩)
        refine aw_cond_f rfl hb1219 ?_
        refine aw_exit ?_
        iterate 2 (refine post_then_exit ?_)
        obtain rfl := Option.some.inj hF
        exact post_lp_break _ rfl (imps [0] ⟨by kernel_rfl, by kernel_rfl, by kernel_rfl, trivial⟩ ⟨by kernel_rfl, trivial⟩)
      rintro _ rfl
      have hF := hK1343
      clear hK1343
      refine post_block_normal ?_
      refine post_next ?_
      refine aw_region ?_
      refine rmv ?_
      refine rgp (op_int (k := .i64) (m := x449) (n := 1) rfl rfl rfl rfl rfl rfl) ?_
      refine ras ?_
      refine reg_nil ?_
      refine post_round ?_
      exact rnd_back (ih (x1342, w_i64 (x449 + 1)) hF) (imps [0] ⟨by kernel_rfl, by kernel_rfl, by kernel_rfl, trivial⟩ ⟨by kernel_rfl, trivial⟩)
    refine aw_cond_f rfl hb899 ?_
    refine aw_exit ?_
    iterate 2 (refine post_then_exit ?_)
    obtain rfl := Option.some.inj hF
    exact post_lp_break _ rfl (imps [0] ⟨by kernel_rfl, trivial⟩ ⟨by kernel_rfl, trivial⟩)
  rintro _ rfl
  have hF := hK1349
  clear hK1349
  refine post_next ?_
  refine aw_seq ?_
  refine aw_region ?_
  refine rmv ?_
  refine ras ?_
  refine reg_nil ?_
  refine post_imp (s' := ⟨137, [(2, some (.ls 0))], [(0, some (.row 142 15 (List.map eGNote_ref12 x1348)))], 1, [], [], 0, []⟩) (imps [0] ⟨by kernel_rfl, trivial⟩ ⟨by kernel_rfl, trivial⟩) ?_
  refine post_next ?_
  refine aw_ret ?_
  obtain rfl := Option.some.inj hF
  exact post_ret rfl rfl (.cons _ _ _ _ _ (.tmp _ _ rfl) (.own _ _ _ _ rfl nolent3) .nil) (.inl rfl)
theorem ref13_types_ok {a0 : List GClass} {a1 : Int} {r : GFault} (hF : ref13_types a0 a1 = some r) : Abs.Fn Try.prog 74 [.vs 7 (List.map eGClass a0), .int .i64 a1] [.p (.agg (eGFault r))] := by
  unfold ref13_types at hF
  refine fn_of_body (n := 57) Try.func74 rfl rfl rfl ?_
  intro w O
  refine aw_seq ?_
  refine aw_region ?_
  refine rgp (op_alloc 0 rfl (ps := (eGFault zGFault)) rfl Try_zer_46 (by exact ⟨rfl, rfl, trivial⟩) rfl rfl) ?_
  refine reg_nil ?_
  refine post_imp (s' := ⟨57, [(0, some (.pv (.vs 7 (List.map eGClass a0)))), (1, some (.pv (.int .i64 a1))), (4, some (.lp 0 0))], [(0, some (.box 46 (bxv (eGFault zGFault))))], 1, [], [], 0, []⟩) (imps [0] ⟨by kernel_rfl, by kernel_rfl, by kernel_rfl, trivial⟩ ⟨by kernel_rfl, trivial⟩) ?_
  refine post_next ?_
  refine aw_seq ?_
  refine aw_region ?_
  iterate 3 (refine rmv ?_)
  refine rgp (op_int (k := .i64) (m := a1) (n := 1) rfl rfl rfl rfl rfl rfl) ?_
  obtain ⟨y5, h6, hF⟩ := bind_some hF
  refine rgp (op_slice_vs (nl := (some a1)) (nh := (some (w_i64 (a1 + 1)))) (nm := none) rfl rfl rfl rfl rfl (.inl rfl) Try_slc_22 (cut_map (nl := (some a1)) (nh := (some (w_i64 (a1 + 1)))) eGClass h6) rfl rfl) ?_
  obtain ⟨y7, h8, hF⟩ := bind_some hF
  refine rgp (op_call 1 rfl (caps := []) (args := [.vs 7 (List.map eGClass y5)]) (rs := [.p (.vs 15 (List.map eGNote_ref12 y7))]) rfl rfl rfl Try_cal_93 (Fn.frozen (ref12_Types_ok h8)) rfl rfl rfl) ?_
  refine ras ?_
  refine reg_nil ?_
  refine post_imp (s' := ⟨57, [(0, some (.pv (.vs 7 (List.map eGClass a0)))), (4, some (.lp 0 0)), (5, some (.pv (.vs 15 (List.map eGNote_ref12 y7))))], [(0, some (.box 46 (bxv (eGFault zGFault))))], 1, [], [], 0, []⟩) (imps [0] ⟨by kernel_rfl, by kernel_rfl, by kernel_rfl, trivial⟩ ⟨by kernel_rfl, trivial⟩) ?_
  refine post_next ?_
  iterate 2 (refine aw_seq ?_)
  refine aw_region ?_
  refine ras ?_
  refine reg_nil ?_
  refine post_imp (s' := ⟨57, [(0, some (.pv (.vs 7 (List.map eGClass a0)))), (4, some (.lp 0 0)), (5, some (.pv (.vs 15 (List.map eGNote_ref12 y7)))), (6, some (.pv (.int .i64 0)))], [(0, some (.box 46 (bxv (eGFault zGFault))))], 1, [], [], 0, []⟩) (imps [0] ⟨by kernel_rfl, by kernel_rfl, by kernel_rfl, by kernel_rfl, trivial⟩ ⟨by kernel_rfl, trivial⟩) ?_
  refine post_next ?_
  obtain ⟨lr84, hF, hK85⟩ := bind_some hF
  refine aw_for ((((y7.length : Int) : Int) - (0)).toNat + 1) (fun s1 => ∃ q, lr84 = .next q ∧ s1 = ⟨57, [(4, some (.lp 0 0))], [(0, some (.box 46 (bxv (eGFault zGFault))))], 1, [], [], 0, []⟩) ?_ ?_
  · refine rnd_loop (α := Int) (fun q => ⟨57, [(0, some (.pv (.vs 7 (List.map eGClass a0)))), (4, some (.lp 0 0)), (5, some (.pv (.vs 15 (List.map eGNote_ref12 y7)))), (6, some (.pv (.int .i64 q)))], [(0, some (.box 46 (bxv (eGFault zGFault))))], 1, [], [], 0, []⟩) (fun k q => ref13_types_L1 a0 y7 k q = some lr84) 0 (imps [0] ⟨by kernel_rfl, by kernel_rfl, by kernel_rfl, by kernel_rfl, trivial⟩ ⟨by kernel_rfl, trivial⟩) hF (fun q h => by cases h) ?_
    clear hF
    rintro k x33 hF ih
    refine rnd_succ ?_
    iterate 2 (refine aw_seq ?_)
    refine aw_region ?_
    iterate 2 (refine rmv ?_)
    refine rgp (op_len_vs (n := y7.length) rfl rfl (List.length_map ..) Try_slc_139 rfl rfl) ?_
    refine rgp (op_int (k := .i64) (m := x33) (n := (y7.length : Int)) rfl rfl rfl rfl rfl rfl) ?_
    refine reg_nil ?_
    refine post_imp (s' := ⟨57, [(0, some (.pv (.vs 7 (List.map eGClass a0)))), (4, some (.lp 0 0)), (5, some (.pv (.vs 15 (List.map eGNote_ref12 y7)))), (6, some (.pv (.int .i64 x33))), (18, some (.pv (.bool (decide (x33 < (y7.length : Int))))))], [(0, some (.box 46 (bxv (eGFault zGFault))))], 1, [], [], 0, []⟩) (imps [0] ⟨by kernel_rfl, by kernel_rfl, by kernel_rfl, by kernel_rfl, by kernel_rfl, trivial⟩ ⟨by kernel_rfl, trivial⟩) ?_
    refine post_next ?_
    rcases ite_some hF with ⟨hb59, hF⟩ | ⟨hb59, hF⟩
    · refine aw_cond_t rfl hb59 ?_
      refine aw_skip ?_
      refine post_next ?_
      refine aw_seq ?_
      refine aw_join hF (fun q => ⟨57, [(0, some (.pv (.vs 7 (List.map eGClass a0)))), (4, some (.lp 0 0)), (5, some (.pv (.vs 15 (List.map eGNote_ref12 y7)))), (6, some (.pv (.int .i64 x33)))], [(0, some (.box 46 (bxv (eGFault zGFault))))], 1, [], [], 0, []⟩) ?_ ?_
      · refine aw_block ?_
        refine aw_seq ?_
        refine aw_region ?_
        iterate 2 (refine rmv ?_)
        obtain ⟨y62, h63, hF⟩ := go_bind hF
        refine rgp (op_index_vs (k := .i64) rfl rfl rfl (idx_map eGNote_ref12 h63) Try_slc_139 rfl rfl) ?_
        refine rgp (op_field_vp rfl rfl Try_fld_142_3 rfl rfl) ?_
        refine rgp (op_load_vp_agg (ps := eGType y62.fType) rfl rfl rfl rfl Try_agg_29 rfl rfl) ?_
        refine rgp (op_alloc 1 rfl (ps := (eGType zGType)) rfl Try_zer_29 (by exact ⟨rfl, rfl, rfl, rfl, rfl, rfl, rfl, rfl, rfl, rfl, rfl, trivial⟩) rfl rfl) ?_
        refine rgp (op_store_lp (n := 11) rfl rfl rfl rfl rfl (or_agg Try_agg_29) (by rw [Try_non_29]; rfl) rfl rfl rfl) ?_
        refine reg_nil ?_
        refine post_imp (s' := ⟨57, [(0, some (.pv (.vs 7 (List.map eGClass a0)))), (4, some (.lp 0 0)), (5, some (.pv (.vs 15 (List.map eGNote_ref12 y7)))), (6, some (.pv (.int .i64 x33))), (7, some (.lp 1 0))], [(0, some (.box 46 (bxv (eGFault zGFault)))), (1, some (.box 29 (bxv (eGType y62.fType))))], 2, [], [], 0, []⟩) (imps [0, 1] ⟨by kernel_rfl, by kernel_rfl, by kernel_rfl, by kernel_rfl, by kernel_rfl, trivial⟩ ⟨by kernel_rfl, by kernel_rfl, trivial⟩) ?_
        refine post_next ?_
        iterate 2 (refine aw_seq ?_)
        refine aw_region ?_
        refine rgp (op_field_lp rfl rfl Try_fld_29_0 rfl rfl) ?_
        refine rgp (op_load_lp (v := .pv (.int .i64 y62.fType.fKind)) rfl rfl rfl rfl Try_one_3 rfl rfl) ?_
        refine rgp (op_int (k := .i64) (m := y62.fType.fKind) (n := 2) rfl rfl rfl rfl rfl rfl) ?_
        refine reg_nil ?_
        refine post_imp (s' := ⟨57, [(0, some (.pv (.vs 7 (List.map eGClass a0)))), (4, some (.lp 0 0)), (5, some (.pv (.vs 15 (List.map eGNote_ref12 y7)))), (6, some (.pv (.int .i64 x33))), (7, some (.lp 1 0)), (28, some (.pv (.bool (y62.fType.fKind != 2))))], [(0, some (.box 46 (bxv (eGFault zGFault)))), (1, some (.box 29 (bxv (eGType y62.fType))))], 2, [], [], 0, []⟩) (imps [0, 1] ⟨by kernel_rfl, by kernel_rfl, by kernel_rfl, by kernel_rfl, by kernel_rfl, by kernel_rfl, trivial⟩ ⟨by kernel_rfl, by kernel_rfl, trivial⟩) ?_
        refine post_next ?_
        rcases go_ite hF with ⟨hb64, hF⟩ | ⟨hb64, hF⟩
        · refine aw_cond_t rfl hb64 ?_
          refine aw_exit ?_
          refine post_then_exit ?_
          refine post_block_exit ?_
          exact post_cut _ ⟨(), rfl, hF⟩ (imps [0] ⟨by kernel_rfl, by kernel_rfl, by kernel_rfl, by kernel_rfl, trivial⟩ ⟨by kernel_rfl, trivial⟩)
        refine aw_cond_f rfl hb64 ?_
        refine aw_skip ?_
        refine post_next ?_
        refine aw_seq ?_
        refine aw_region ?_
        refine rmv ?_
        refine rgp (op_field_lp rfl rfl Try_fld_29_1 rfl rfl) ?_
        refine rgp (op_load_lp (v := .pv (.str y62.fType.fClass)) rfl rfl rfl rfl Try_one_9 rfl rfl) ?_
        obtain ⟨y67, h68, hF⟩ := go_bind hF
        refine rgp (op_call 2 rfl (caps := []) (args := [.vs 7 (List.map eGClass a0), .str y62.fType.fClass]) (rs := [.p (.int .i64 y67)]) rfl rfl rfl Try_cal_73 (ref13_Arity_ok h68) rfl rfl rfl) ?_
        refine ras ?_
        refine reg_nil ?_
        refine post_imp (s' := ⟨57, [(0, some (.pv (.vs 7 (List.map eGClass a0)))), (4, some (.lp 0 0)), (5, some (.pv (.vs 15 (List.map eGNote_ref12 y7)))), (6, some (.pv (.int .i64 x33))), (7, some (.lp 1 0)), (8, some (.pv (.int .i64 y67)))], [(0, some (.box 46 (bxv (eGFault zGFault)))), (1, some (.box 29 (bxv (eGType y62.fType))))], 2, [], [], 0, []⟩) (imps [0, 1] ⟨by kernel_rfl, by kernel_rfl, by kernel_rfl, by kernel_rfl, by kernel_rfl, by kernel_rfl, trivial⟩ ⟨by kernel_rfl, by kernel_rfl, trivial⟩) ?_
        refine post_next ?_
        iterate 2 (refine aw_seq ?_)
        refine aw_region ?_
        refine rmv ?_
        refine rgp (op_int (k := .i64) (m := y67) (n := 0) rfl rfl rfl rfl rfl rfl) ?_
        refine reg_nil ?_
        refine post_imp (s' := ⟨57, [(0, some (.pv (.vs 7 (List.map eGClass a0)))), (4, some (.lp 0 0)), (5, some (.pv (.vs 15 (List.map eGNote_ref12 y7)))), (6, some (.pv (.int .i64 x33))), (7, some (.lp 1 0)), (8, some (.pv (.int .i64 y67))), (34, some (.pv (.bool (decide (y67 < 0)))))], [(0, some (.box 46 (bxv (eGFault zGFault)))), (1, some (.box 29 (bxv (eGType y62.fType))))], 2, [], [], 0, []⟩) (imps [0, 1] ⟨by kernel_rfl, by kernel_rfl, by kernel_rfl, by kernel_rfl, by kernel_rfl, by kernel_rfl, by kernel_rfl, trivial⟩ ⟨by kernel_rfl, by kernel_rfl, trivial⟩) ?_
        refine post_next ?_
        rcases go_ite hF with ⟨hb69, hF⟩ | ⟨hb69, hF⟩
        · refine aw_cond_t rfl hb69 ?_
          refine aw_seq ?_
          refine aw_region ?_
          iterate 2 (refine rmv ?_)
          obtain ⟨y70, h71, hF⟩ := go_bind hF
          refine rgp (op_index_vs (k := .i64) rfl rfl rfl (idx_map eGNote_ref12 h71) Try_slc_139 rfl rfl) ?_
          refine rgp (op_field_vp rfl rfl Try_fld_142_4 rfl rfl) ?_
          refine rgp (op_load_vp (p := .int .i64 y70.fAt) rfl rfl rfl Try_one_3 rfl rfl) ?_
          obtain ⟨y72, h73, hF⟩ := go_bind hF
          refine rgp (op_call 2 rfl (caps := []) (args := [.int .i64 8, .int .i64 y70.fAt]) (rs := [.p (.agg (eGFault y72))]) rfl rfl rfl Try_cal_47 (ref13_fault_ok h73) rfl rfl rfl) ?_
          refine rgp (op_store_lp (n := 2) rfl rfl rfl rfl rfl (or_agg Try_agg_46) (by rw [Try_non_46]; rfl) rfl rfl rfl) ?_
          refine reg_nil ?_
          refine post_imp (s' := ⟨57, [(4, some (.lp 0 0))], [(0, some (.box 46 (bxv (eGFault y72))))], 1, [], [], 0, []⟩) (imps [0] ⟨by kernel_rfl, trivial⟩ ⟨by kernel_rfl, trivial⟩) ?_
          refine post_next ?_
          refine aw_ret ?_
          refine post_then_ret ?_
          refine post_block_ret ?_
          refine post_cut_ret ?_
          replace hF := go_stop hF
          iterate 2 (refine post_then_ret ?_)
          refine post_lp_ret ?_
          obtain rfl := Option.some.inj hF
          have hF := elim_stop hK85
          refine post_then_ret ?_
          obtain rfl := Option.some.inj hF
          exact post_ret rfl rfl (.cons _ _ _ _ _ (.agg _ _ _ _ _ 2 _ _ rfl rfl Try_agg_46 rfl rfl rfl) (.p _) .nil) (.inl rfl)
        refine aw_cond_f rfl hb69 ?_
        refine aw_skip ?_
        refine post_next ?_
        refine aw_seq ?_
        obtain ⟨x75, hF, hK77⟩ := go_bind hF
        refine aw_cut (fun s1 => s1 = ⟨57, [(0, some (.pv (.vs 7 (List.map eGClass a0)))), (4, some (.lp 0 0)), (5, some (.pv (.vs 15 (List.map eGNote_ref12 y7)))), (6, some (.pv (.int .i64 x33))), (49, some (.pv (.bool x75)))], [(0, some (.box 46 (bxv (eGFault zGFault))))], 1, [], [], 0, []⟩) ?_ ?_
        · refine aw_region ?_
          refine rgp (op_field_lp rfl rfl Try_fld_29_2 rfl rfl) ?_
          refine rgp (op_load_lp (v := .pv (.int .i64 y62.fType.fN)) rfl rfl rfl rfl Try_one_3 rfl rfl) ?_
          refine rgp (op_int (k := .i64) (m := y62.fType.fN) (n := 0) rfl rfl rfl rfl rfl rfl) ?_
          refine rmv ?_
          rcases ite_some hF with ⟨hb74, hF⟩ | ⟨hb74, hF⟩
          · refine rgn hb74 (op_field_lp rfl rfl Try_fld_29_2 rfl rfl) ?_
            refine rgn hb74 (op_load_lp (v := .pv (.int .i64 y62.fType.fN)) rfl rfl rfl rfl Try_one_3 rfl rfl) ?_
            refine rgn hb74 (op_move rfl rfl rfl rfl) ?_
            refine rgn hb74 (op_int (k := .i64) (m := y62.fType.fN) (n := y67) rfl rfl rfl rfl rfl rfl) ?_
            refine rpt hb74 ?_
            refine reg_nil ?_
            cases hF
            exact post_cut _ rfl (imps [0] ⟨by kernel_rfl, by kernel_rfl, by kernel_rfl, by kernel_rfl, by kernel_rfl, trivial⟩ ⟨by kernel_rfl, trivial⟩)
          iterate 4 (refine rgo_f hb74 ?_)
          refine rpf hb74 ?_
          refine reg_nil ?_
          cases hF
          exact post_cut _ rfl (imps [0] ⟨by kernel_rfl, by kernel_rfl, by kernel_rfl, by kernel_rfl, by kernel_rfl, trivial⟩ ⟨by kernel_rfl, trivial⟩)
        rintro _ rfl
        have hF := hK77
        clear hK77
        refine post_next ?_
        rcases go_ite hF with ⟨hb78, hF⟩ | ⟨hb78, hF⟩
        · refine aw_cond_t rfl hb78 ?_
          refine aw_seq ?_
          refine aw_region ?_
          iterate 2 (refine rmv ?_)
          obtain ⟨y79, h80, hF⟩ := go_bind hF
          refine rgp (op_index_vs (k := .i64) rfl rfl rfl (idx_map eGNote_ref12 h80) Try_slc_139 rfl rfl) ?_
          refine rgp (op_field_vp rfl rfl Try_fld_142_4 rfl rfl) ?_
          refine rgp (op_load_vp (p := .int .i64 y79.fAt) rfl rfl rfl Try_one_3 rfl rfl) ?_
          obtain ⟨y81, h82, hF⟩ := go_bind hF
          refine rgp (op_call 1 rfl (caps := []) (args := [.int .i64 10, .int .i64 y79.fAt]) (rs := [.p (.agg (eGFault y81))]) rfl rfl rfl Try_cal_47 (ref13_fault_ok h82) rfl rfl rfl) ?_
          refine rgp (op_store_lp (n := 2) rfl rfl rfl rfl rfl (or_agg Try_agg_46) (by rw [Try_non_46]; rfl) rfl rfl rfl) ?_
          refine reg_nil ?_
          refine post_imp (s' := ⟨57, [(4, some (.lp 0 0))], [(0, some (.box 46 (bxv (eGFault y81))))], 1, [], [], 0, []⟩) (imps [0] ⟨by kernel_rfl, trivial⟩ ⟨by kernel_rfl, trivial⟩) ?_
          refine post_next ?_
          refine aw_ret ?_
          refine post_block_ret ?_
          refine post_cut_ret ?_
          replace hF := go_stop hF
          iterate 2 (refine post_then_ret ?_)
          refine post_lp_ret ?_
          obtain rfl := Option.some.inj hF
          have hF := elim_stop hK85
          refine post_then_ret ?_
          obtain rfl := Option.some.inj hF
          exact post_ret rfl rfl (.cons _ _ _ _ _ (.agg _ _ _ _ _ 2 _ _ rfl rfl Try_agg_46 rfl rfl rfl) (.p _) .nil) (.inl rfl)
        refine aw_cond_f rfl hb78 ?_
        refine aw_skip ?_
        refine post_block_normal ?_
        exact post_cut _ ⟨(), rfl, hF⟩ (imps [0] ⟨by kernel_rfl, by kernel_rfl, by kernel_rfl, by kernel_rfl, trivial⟩ ⟨by kernel_rfl, trivial⟩)
      rintro ⟨⟩ hF
      refine post_next ?_
      refine aw_region ?_
      refine rmv ?_
      refine rgp (op_int (k := .i64) (m := x33) (n := 1) rfl rfl rfl rfl rfl rfl) ?_
      refine ras ?_
      refine reg_nil ?_
      refine post_round ?_
      exact rnd_back (ih (w_i64 (x33 + 1)) hF) (imps [0] ⟨by kernel_rfl, by kernel_rfl, by kernel_rfl, by kernel_rfl, trivial⟩ ⟨by kernel_rfl, trivial⟩)
    refine aw_cond_f rfl hb59 ?_
    refine aw_exit ?_
    iterate 2 (refine post_then_exit ?_)
    obtain rfl := Option.some.inj hF
    exact post_lp_break _ ⟨_, rfl, rfl⟩ (imps [0] ⟨by kernel_rfl, trivial⟩ ⟨by kernel_rfl, trivial⟩)
  rintro _ ⟨⟨⟩, rfl, rfl⟩
  have hF := elim_next hK85
  clear hK85
  refine post_next ?_
  refine aw_seq ?_
  refine aw_region ?_
  refine rgp (op_build (zs := (eGFault zGFault)) (r := eGFault ({ fErr := 0, fAt := 0 } : GFault)) rfl Try_zer_46 (by exact ⟨rfl, rfl, trivial⟩) Try_plc_46 rfl rfl rfl rfl) ?_
  refine rgp (op_store_lp (n := 2) rfl rfl rfl rfl rfl (or_agg Try_agg_46) (by rw [Try_non_46]; rfl) rfl rfl rfl) ?_
  refine reg_nil ?_
  refine post_imp (s' := ⟨57, [(4, some (.lp 0 0))], [(0, some (.box 46 (bxv (eGFault ({ fErr := 0, fAt := 0 } : GFault)))))], 1, [], [], 0, []⟩) (imps [0] ⟨by kernel_rfl, trivial⟩ ⟨by kernel_rfl, trivial⟩) ?_
  refine post_next ?_
  refine aw_ret ?_
  obtain rfl := Option.some.inj hF
  exact post_ret rfl rfl (.cons _ _ _ _ _ (.agg _ _ _ _ _ 2 _ _ rfl rfl Try_agg_46 rfl rfl rfl) (.p _) .nil) (.inl rfl)
theorem ref13_names_ok {a0 : List GVar} {r : (List (List UInt8))} (hF : ref13_names a0 = some r) : Abs.Fn Try.prog 75 [.vs 13 (List.map eGVar a0)] [.own 9 1 (List.map eS r)] := by
  unfold ref13_names at hF
  refine fn_of_body (n := 20) Try.func75 rfl rfl rfl ?_
  intro w O
  refine aw_seq ?_
  refine aw_region ?_
  refine ras ?_
  refine reg_nil ?_
  refine post_imp (s' := ⟨20, [(0, some (.pv (.vs 13 (List.map eGVar a0))))], [], 0, [], [], 0, []⟩) (imps [] ⟨by kernel_rfl, trivial⟩ trivial) ?_
  refine post_next ?_
  refine aw_seq ?_
  refine aw_region ?_
  refine ras ?_
  refine reg_imp (imp_nil_own 3 9 1 0 rfl rfl) ?_
  refine reg_nil ?_
  refine post_imp (s' := ⟨20, [(0, some (.pv (.vs 13 (List.map eGVar a0)))), (3, some (.ls 0))], [(0, some (.row 9 1 (List.map eS [])))], 1, [], [], 0, []⟩) (imps [0] ⟨by kernel_rfl, by kernel_rfl, trivial⟩ ⟨by kernel_rfl, trivial⟩) ?_
  refine post_next ?_
  iterate 2 (refine aw_seq ?_)
  refine aw_region ?_
  refine ras ?_
  refine reg_nil ?_
  refine post_imp (s' := ⟨20, [(0, some (.pv (.vs 13 (List.map eGVar a0)))), (3, some (.ls 0)), (4, some (.pv (.int .i64 0)))], [(0, some (.row 9 1 (List.map eS [])))], 1, [], [], 0, []⟩) (imps [0] ⟨by kernel_rfl, by kernel_rfl, by kernel_rfl, trivial⟩ ⟨by kernel_rfl, trivial⟩) ?_
  refine post_next ?_
  obtain ⟨x34, hF, hK35⟩ := bind_some hF
  refine aw_for ((((a0.length : Int) : Int) - (0)).toNat + 1) (fun s1 => s1 = ⟨20, [(3, some (.ls 0))], [(0, some (.row 9 1 (List.map eS x34)))], 1, [], [], 0, []⟩) ?_ ?_
  · refine rnd_loop (α := (List (List UInt8)) × Int) (fun q => ⟨20, [(0, some (.pv (.vs 13 (List.map eGVar a0)))), (3, some (.ls 0)), (4, some (.pv (.int .i64 q.2)))], [(0, some (.row 9 1 (List.map eS q.1)))], 1, [], [], 0, []⟩) (fun k q => ref13_names_L1 a0 k q.1 q.2 = some x34) ([], 0) (imps [0] ⟨by kernel_rfl, by kernel_rfl, by kernel_rfl, trivial⟩ ⟨by kernel_rfl, trivial⟩) hF (fun q h => by cases h) ?_
    clear hF
    rintro k ⟨x10, x11⟩ hF ih
    refine rnd_succ ?_
    iterate 2 (refine aw_seq ?_)
    refine aw_region ?_
    iterate 2 (refine rmv ?_)
    refine rgp (op_len_vs (n := a0.length) rfl rfl (List.length_map ..) Try_slc_30 rfl rfl) ?_
    refine rgp (op_int (k := .i64) (m := x11) (n := (a0.length : Int)) rfl rfl rfl rfl rfl rfl) ?_
    refine reg_nil ?_
    refine post_imp (s' := ⟨20, [(0, some (.pv (.vs 13 (List.map eGVar a0)))), (3, some (.ls 0)), (4, some (.pv (.int .i64 x11))), (8, some (.pv (.bool (decide (x11 < (a0.length : Int))))))], [(0, some (.row 9 1 (List.map eS x10)))], 1, [], [], 0, []⟩) (imps [0] ⟨by kernel_rfl, by kernel_rfl, by kernel_rfl, by kernel_rfl, trivial⟩ ⟨by kernel_rfl, trivial⟩) ?_
    refine post_next ?_
    rcases ite_some hF with ⟨hb23, hF⟩ | ⟨hb23, hF⟩
    · refine aw_cond_t rfl hb23 ?_
      refine aw_skip ?_
      refine post_next ?_
      refine aw_seq ?_
      refine aw_block ?_
      refine aw_region ?_
      iterate 3 (refine rmv ?_)
      obtain ⟨y28, h29, hF⟩ := bind_some hF
      refine rgp (op_index_vs (k := .i64) rfl rfl rfl (idx_map eGVar h29) Try_slc_30 rfl rfl) ?_
      refine rgp (op_field_vp rfl rfl Try_fld_50_0 rfl rfl) ?_
      refine rgp (op_load_vp (p := .str y28.fName) rfl rfl rfl Try_one_9 rfl rfl) ?_
      refine rgp (op_lit (rows := List.map eS ([y28.fName] : List (List UInt8))) (zs := [.str []]) rfl rfl Try_slc_52 Try_zer_9 (by exact ⟨rfl, trivial⟩) rfl rfl rfl rfl rfl rfl rfl rfl) ?_
      obtain ⟨u30, h31, hF⟩ := bind_some hF
      refine rgp (op_append 1 rfl rfl rfl rfl rfl Try_slc_52 Try_elm_9 Try_zer_9 rfl rfl rfl (room_map (f := eS) (g := eS) h31) (List.map_append (f := eS) (l₁ := x10) (l₂ := [y28.fName])).symm rfl rfl) ?_
      refine ras ?_
      refine reg_nil ?_
      refine post_imp (s' := ⟨20, [(0, some (.pv (.vs 13 (List.map eGVar a0)))), (3, some (.ls 0)), (4, some (.pv (.int .i64 x11)))], [(0, some (.row 9 1 (List.map eS (x10 ++ [y28.fName]))))], 1, [], [], 0, []⟩) (imps [1] ⟨by kernel_rfl, by kernel_rfl, by kernel_rfl, trivial⟩ ⟨by kernel_rfl, trivial⟩) ?_
      refine post_block_normal ?_
      refine post_next ?_
      refine aw_region ?_
      refine rmv ?_
      refine rgp (op_int (k := .i64) (m := x11) (n := 1) rfl rfl rfl rfl rfl rfl) ?_
      refine ras ?_
      refine reg_nil ?_
      refine post_round ?_
      exact rnd_back (ih ((x10 ++ [y28.fName]), w_i64 (x11 + 1)) hF) (imps [0] ⟨by kernel_rfl, by kernel_rfl, by kernel_rfl, trivial⟩ ⟨by kernel_rfl, trivial⟩)
    refine aw_cond_f rfl hb23 ?_
    refine aw_exit ?_
    iterate 2 (refine post_then_exit ?_)
    obtain rfl := Option.some.inj hF
    exact post_lp_break _ rfl (imps [0] ⟨by kernel_rfl, trivial⟩ ⟨by kernel_rfl, trivial⟩)
  rintro _ rfl
  have hF := hK35
  clear hK35
  refine post_next ?_
  refine aw_seq ?_
  refine aw_region ?_
  refine rmv ?_
  refine ras ?_
  refine reg_nil ?_
  refine post_imp (s' := ⟨20, [(2, some (.ls 0))], [(0, some (.row 9 1 (List.map eS x34)))], 1, [], [], 0, []⟩) (imps [0] ⟨by kernel_rfl, trivial⟩ ⟨by kernel_rfl, trivial⟩) ?_
  refine post_next ?_
  refine aw_ret ?_
  obtain rfl := Option.some.inj hF
  exact post_ret rfl rfl (.cons _ _ _ _ _ (.tmp _ _ rfl) (.own _ _ _ _ rfl nolent3) .nil) (.inl rfl)
theorem ref13_class_ok {a0 : List GClass} {a1 : Int} {r : GFault} (hF : ref13_class a0 a1 = some r) : Abs.Fn Try.prog 48 [.vs 7 (List.map eGClass a0), .int .i64 a1] [.p (.agg (eGFault r))] := by
  unfold ref13_class at hF
  refine fn_of_body (n := 117) Try.func48 rfl rfl rfl ?_
  intro w O
  refine aw_seq ?_
  refine aw_region ?_
  refine rgp (op_alloc 0 rfl (ps := (eGFault zGFault)) rfl Try_zer_46 (by exact ⟨rfl, rfl, trivial⟩) rfl rfl) ?_
  refine reg_nil ?_
  refine post_imp (s' := ⟨117, [(0, some (.pv (.vs 7 (List.map eGClass a0)))), (1, some (.pv (.int .i64 a1))), (4, some (.lp 0 0))], [(0, some (.box 46 (bxv (eGFault zGFault))))], 1, [], [], 0, []⟩) (imps [0] ⟨by kernel_rfl, by kernel_rfl, by kernel_rfl, trivial⟩ ⟨by kernel_rfl, trivial⟩) ?_
  refine post_next ?_
  refine aw_seq ?_
  refine aw_region ?_
  iterate 2 (refine rmv ?_)
  obtain ⟨y3, h4, hF⟩ := bind_some hF
  refine rgp (op_index_vs (k := .i64) rfl rfl rfl (idx_map eGClass h4) Try_slc_22 rfl rfl) ?_
  refine rgp (op_load_vp_agg (ps := eGClass y3) rfl rfl rfl rfl Try_agg_56 rfl rfl) ?_
  refine rgp (op_alloc 1 rfl (ps := (eGClass zGClass)) rfl Try_zer_56 (by exact ⟨rfl, trivial, rfl, trivial, trivial, trivial, rfl, trivial⟩) rfl rfl) ?_
  refine rgp (op_store_lp (n := 7) rfl rfl rfl rfl rfl (or_agg Try_agg_56) (by rw [Try_non_56]; rfl) rfl rfl rfl) ?_
  refine reg_nil ?_
  refine post_imp (s' := ⟨117, [(0, some (.pv (.vs 7 (List.map eGClass a0)))), (1, some (.pv (.int .i64 a1))), (4, some (.lp 0 0)), (5, some (.lp 1 0))], [(0, some (.box 46 (bxv (eGFault zGFault)))), (1, some (.box 56 (bxv (eGClass y3))))], 2, [], [], 0, []⟩) (imps [0, 1] ⟨by kernel_rfl, by kernel_rfl, by kernel_rfl, by kernel_rfl, trivial⟩ ⟨by kernel_rfl, by kernel_rfl, trivial⟩) ?_
  refine post_next ?_
  iterate 2 (refine aw_seq ?_)
  obtain ⟨x12, hF, hK14⟩ := bind_some hF
  refine aw_cut (fun s1 => s1 = ⟨117, [(0, some (.pv (.vs 7 (List.map eGClass a0)))), (1, some (.pv (.int .i64 a1))), (4, some (.lp 0 0)), (5, some (.lp 1 0)), (27, some (.pv (.bool x12)))], [(0, some (.box 46 (bxv (eGFault zGFault)))), (1, some (.box 56 (bxv (eGClass y3))))], 2, [], [], 0, []⟩) ?_ ?_
  · refine aw_region ?_
    refine rmv ?_
    refine rgp (op_field_lp rfl rfl Try_fld_56_0 rfl rfl) ?_
    refine rgp (op_load_lp (v := .pv (.str y3.fName)) rfl rfl rfl rfl Try_one_9 rfl rfl) ?_
    obtain ⟨y7, h8, hF⟩ := bind_some hF
    refine rgp (op_call 2 rfl (caps := []) (args := [.vs 7 (List.map eGClass a0), .str y3.fName]) (rs := [.p (.int .i64 y7)]) rfl rfl rfl Try_cal_50 (ref13_Find_ok h8) rfl rfl rfl) ?_
    refine rmv ?_
    refine rgp (op_int (k := .i64) (m := y7) (n := a1) rfl rfl rfl rfl rfl rfl) ?_
    refine rmv ?_
    rcases ite_some hF with ⟨hb9, hF⟩ | ⟨hb9, hF⟩
    · refine rgo_t hb9 ?_
      iterate 3 (refine rgo_t hb9 ?_)
      refine rpt hb9 ?_
      refine reg_nil ?_
      cases hF
      exact post_cut _ rfl (imps [0, 1] ⟨by kernel_rfl, by kernel_rfl, by kernel_rfl, by kernel_rfl, by kernel_rfl, trivial⟩ ⟨by kernel_rfl, by kernel_rfl, trivial⟩)
    refine rgn hb9 (op_field_lp rfl rfl Try_fld_56_1 rfl rfl) ?_
    refine rgn hb9 (op_load_lp (v := .pv (.vs 1 (List.map eS y3.fParams))) rfl rfl rfl rfl Try_one_52 rfl rfl) ?_
    obtain ⟨y10, h11, hF⟩ := bind_some hF
    refine rgn hb9 (op_call 2 rfl (caps := []) (args := [.vs 1 (List.map eS y3.fParams)]) (rs := [.p (.int .i64 y10)]) rfl rfl rfl Try_cal_72 (ref13_Twice_ok h11) rfl rfl rfl) ?_
    refine rgn hb9 (op_int (k := .i64) (m := y10) (n := 0) rfl rfl rfl rfl rfl rfl) ?_
    refine rpf hb9 ?_
    refine reg_nil ?_
    cases hF
    exact post_cut _ rfl (imps [0, 1] ⟨by kernel_rfl, by kernel_rfl, by kernel_rfl, by kernel_rfl, by kernel_rfl, trivial⟩ ⟨by kernel_rfl, by kernel_rfl, trivial⟩)
  rintro _ rfl
  have hF := hK14
  clear hK14
  refine post_next ?_
  rcases ite_some hF with ⟨hb15, hF⟩ | ⟨hb15, hF⟩
  · refine aw_cond_t rfl hb15 ?_
    refine aw_seq ?_
    refine aw_region ?_
    refine rgp (op_field_lp rfl rfl Try_fld_56_6 rfl rfl) ?_
    refine rgp (op_load_lp (v := .pv (.int .i64 y3.fAt)) rfl rfl rfl rfl Try_one_3 rfl rfl) ?_
    obtain ⟨y16, h17, hF⟩ := bind_some hF
    refine rgp (op_call 2 rfl (caps := []) (args := [.int .i64 7, .int .i64 y3.fAt]) (rs := [.p (.agg (eGFault y16))]) rfl rfl rfl Try_cal_47 (ref13_fault_ok h17) rfl rfl rfl) ?_
    refine rgp (op_store_lp (n := 2) rfl rfl rfl rfl rfl (or_agg Try_agg_46) (by rw [Try_non_46]; rfl) rfl rfl rfl) ?_
    refine reg_nil ?_
    refine post_imp (s' := ⟨117, [(4, some (.lp 0 0))], [(0, some (.box 46 (bxv (eGFault y16))))], 1, [], [], 0, []⟩) (imps [0] ⟨by kernel_rfl, trivial⟩ ⟨by kernel_rfl, trivial⟩) ?_
    refine post_next ?_
    refine aw_ret ?_
    refine post_then_ret ?_
    obtain rfl := Option.some.inj hF
    exact post_ret rfl rfl (.cons _ _ _ _ _ (.agg _ _ _ _ _ 2 _ _ rfl rfl Try_agg_46 rfl rfl rfl) (.p _) .nil) (.inl rfl)
  refine aw_cond_f rfl hb15 ?_
  refine aw_skip ?_
  refine post_next ?_
  iterate 2 (refine aw_seq ?_)
  obtain ⟨x21, hF, hK23⟩ := bind_some hF
  refine aw_cut (fun s1 => s1 = ⟨117, [(0, some (.pv (.vs 7 (List.map eGClass a0)))), (1, some (.pv (.int .i64 a1))), (4, some (.lp 0 0)), (5, some (.lp 1 0)), (40, some (.pv (.bool x21)))], [(0, some (.box 46 (bxv (eGFault zGFault)))), (1, some (.box 56 (bxv (eGClass y3))))], 2, [], [], 0, []⟩) ?_ ?_
  · refine aw_region ?_
    refine rgp (op_field_lp rfl rfl Try_fld_56_2 rfl rfl) ?_
    refine rgp (op_load_lp (v := .pv (.str y3.fSuper)) rfl rfl rfl rfl Try_one_9 rfl rfl) ?_
    refine rgp (op_str rfl rfl rfl rfl rfl rfl) ?_
    refine rmv ?_
    rcases ite_some hF with ⟨hb18, hF⟩ | ⟨hb18, hF⟩
    · refine rgn hb18 (op_move rfl rfl rfl rfl) ?_
      refine rgn hb18 (op_field_lp rfl rfl Try_fld_56_2 rfl rfl) ?_
      refine rgn hb18 (op_load_lp (v := .pv (.str y3.fSuper)) rfl rfl rfl rfl Try_one_9 rfl rfl) ?_
      obtain ⟨y19, h20, hF⟩ := bind_some hF
      refine rgn hb18 (op_call 2 rfl (caps := []) (args := [.vs 7 (List.map eGClass a0), .str y3.fSuper]) (rs := [.p (.int .i64 y19)]) rfl rfl rfl Try_cal_50 (ref13_Find_ok h20) rfl rfl rfl) ?_
      refine rgn hb18 (op_int (k := .i64) (m := y19) (n := 0) rfl rfl rfl rfl rfl rfl) ?_
      refine rpt hb18 ?_
      refine reg_nil ?_
      cases hF
      exact post_cut _ rfl (imps [0, 1] ⟨by kernel_rfl, by kernel_rfl, by kernel_rfl, by kernel_rfl, by kernel_rfl, trivial⟩ ⟨by kernel_rfl, by kernel_rfl, trivial⟩)
    iterate 5 (refine rgo_f hb18 ?_)
    refine rpf hb18 ?_
    refine reg_nil ?_
    cases hF
    exact post_cut _ rfl (imps [0, 1] ⟨by kernel_rfl, by kernel_rfl, by kernel_rfl, by kernel_rfl, by kernel_rfl, trivial⟩ ⟨by kernel_rfl, by kernel_rfl, trivial⟩)
  rintro _ rfl
  have hF := hK23
  clear hK23
  refine post_next ?_
  rcases ite_some hF with ⟨hb24, hF⟩ | ⟨hb24, hF⟩
  · refine aw_cond_t rfl hb24 ?_
    refine aw_seq ?_
    refine aw_region ?_
    refine rgp (op_field_lp rfl rfl Try_fld_56_6 rfl rfl) ?_
    refine rgp (op_load_lp (v := .pv (.int .i64 y3.fAt)) rfl rfl rfl rfl Try_one_3 rfl rfl) ?_
    obtain ⟨y25, h26, hF⟩ := bind_some hF
    refine rgp (op_call 2 rfl (caps := []) (args := [.int .i64 8, .int .i64 y3.fAt]) (rs := [.p (.agg (eGFault y25))]) rfl rfl rfl Try_cal_47 (ref13_fault_ok h26) rfl rfl rfl) ?_
    refine rgp (op_store_lp (n := 2) rfl rfl rfl rfl rfl (or_agg Try_agg_46) (by rw [Try_non_46]; rfl) rfl rfl rfl) ?_
    refine reg_nil ?_
    refine post_imp (s' := ⟨117, [(4, some (.lp 0 0))], [(0, some (.box 46 (bxv (eGFault y25))))], 1, [], [], 0, []⟩) (imps [0] ⟨by kernel_rfl, trivial⟩ ⟨by kernel_rfl, trivial⟩) ?_
    refine post_next ?_
    refine aw_ret ?_
    refine post_then_ret ?_
    obtain rfl := Option.some.inj hF
    exact post_ret rfl rfl (.cons _ _ _ _ _ (.agg _ _ _ _ _ 2 _ _ rfl rfl Try_agg_46 rfl rfl rfl) (.p _) .nil) (.inl rfl)
  refine aw_cond_f rfl hb24 ?_
  refine aw_skip ?_
  refine post_next ?_
  iterate 2 (refine aw_seq ?_)
  obtain ⟨x30, hF, hK32⟩ := bind_some hF
  refine aw_cut (fun s1 => s1 = ⟨117, [(0, some (.pv (.vs 7 (List.map eGClass a0)))), (1, some (.pv (.int .i64 a1))), (4, some (.lp 0 0)), (5, some (.lp 1 0)), (56, some (.pv (.bool x30)))], [(0, some (.box 46 (bxv (eGFault zGFault)))), (1, some (.box 56 (bxv (eGClass y3))))], 2, [], [], 0, []⟩) ?_ ?_
  · refine dr_start ⟨_, _, _⟩ rfl ?_
    refine dr_cons { need := [(5, .lp 1 0)], dst := some 44, val := some (.lp 1 2) } (fun m h => step_on (guard_no rfl) (op_field_lp rfl h.1.1 Try_fld_56_2 rfl rfl) rfl) ⟨⟨rfl, trivial⟩, trivial, trivial⟩ ?_
    refine dr_cons { need := [(44, .lp 1 2)], hneed := [(1, .box 56 (bxv (eGClass y3)))], dst := some 45, val := some (.pv (.str y3.fSuper)) } (fun m h => step_on (guard_no rfl) (op_load_lp (v := .pv (.str y3.fSuper)) rfl h.1.1 h.2.1.1 rfl Try_one_9 rfl rfl) rfl) ⟨⟨rfl, trivial⟩, ⟨rfl, trivial⟩, trivial⟩ ?_
    refine dr_cons { need := [(45, .pv (.str y3.fSuper))], dst := some 46, val := some (.pv (.bool (!(y3.fSuper == [])))) } (fun m h => step_on (guard_no rfl) (op_str rfl h.1.1 rfl rfl rfl rfl) rfl) ⟨⟨rfl, trivial⟩, trivial, trivial⟩ ?_
    refine drm ?_
    rcases ite_some hF with ⟨hb27, hF⟩ | ⟨hb27, hF⟩
    · refine dr_cons { need := [(47, .pv (.bool (!(y3.fSuper == [])))), (0, .pv (.vs 7 (List.map eGClass a0)))], dst := some 48, val := some (.pv (.vs 7 (List.map eGClass a0))) } (fun m h => step_on (guard_on rfl rfl rfl h.1.1 hb27) (op_move rfl h.1.2.1 rfl rfl) rfl) ⟨⟨rfl, rfl, trivial⟩, trivial, trivial⟩ ?_
      refine dr_cons { need := [(47, .pv (.bool (!(y3.fSuper == [])))), (5, .lp 1 0)], dst := some 49, val := some (.lp 1 2) } (fun m h => step_on (guard_on rfl rfl rfl h.1.1 hb27) (op_field_lp rfl h.1.2.1 Try_fld_56_2 rfl rfl) rfl) ⟨⟨rfl, rfl, trivial⟩, trivial, trivial⟩ ?_
      refine dr_cons { need := [(47, .pv (.bool (!(y3.fSuper == [])))), (49, .lp 1 2)], hneed := [(1, .box 56 (bxv (eGClass y3)))], dst := some 50, val := some (.pv (.str y3.fSuper)) } (fun m h => step_on (guard_on rfl rfl rfl h.1.1 hb27) (op_load_lp (v := .pv (.str y3.fSuper)) rfl h.1.2.1 h.2.1.1 rfl Try_one_9 rfl rfl) rfl) ⟨⟨rfl, rfl, trivial⟩, ⟨rfl, trivial⟩, trivial⟩ ?_
      obtain ⟨y28, h29, hF⟩ := bind_some hF
      refine dr_cons { need := [(47, .pv (.bool (!(y3.fSuper == [])))), (50, .pv (.str y3.fSuper)), (48, .pv (.vs 7 (List.map eGClass a0)))], dst := some 51, val := some (.pv (.int .i64 y28)) } (fun m h => step_on (guard_on rfl rfl rfl h.1.1 hb27) (op_call 2 rfl (caps := []) (args := [.vs 7 (List.map eGClass a0), .str y3.fSuper]) (rs := [.p (.int .i64 y28)]) rfl rfl (evl_cons h.1.2.2.1 (evl_cons h.1.2.1 evl_nil)) Try_cal_73 (ref13_Arity_ok h29) rfl rfl rfl) rfl) ⟨⟨rfl, rfl, rfl, trivial⟩, trivial, trivial⟩ ?_
      refine dr_cons { need := [(47, .pv (.bool (!(y3.fSuper == [])))), (5, .lp 1 0)], dst := some 52, val := some (.lp 1 3) } (fun m h => step_on (guard_on rfl rfl rfl h.1.1 hb27) (op_field_lp rfl h.1.2.1 Try_fld_56_3 rfl rfl) rfl) ⟨⟨rfl, rfl, trivial⟩, trivial, trivial⟩ ?_
      refine dr_cons { need := [(47, .pv (.bool (!(y3.fSuper == [])))), (52, .lp 1 3)], hneed := [(1, .box 56 (bxv (eGClass y3)))], dst := some 53, val := some (.pv (.vs 2 (List.map eGOwner y3.fAbove))) } (fun m h => step_on (guard_on rfl rfl rfl h.1.1 hb27) (op_load_lp (v := .pv (.vs 2 (List.map eGOwner y3.fAbove))) rfl h.1.2.1 h.2.1.1 rfl Try_one_53 rfl rfl) rfl) ⟨⟨rfl, rfl, trivial⟩, ⟨rfl, trivial⟩, trivial⟩ ?_
      refine dr_cons { need := [(47, .pv (.bool (!(y3.fSuper == [])))), (53, .pv (.vs 2 (List.map eGOwner y3.fAbove)))], dst := some 54, val := some (.pv (.int .i64 (y3.fAbove.length : Int))) } (fun m h => step_on (guard_on rfl rfl rfl h.1.1 hb27) (op_len_vs (n := y3.fAbove.length) rfl h.1.2.1 (List.length_map ..) Try_slc_53 rfl rfl) rfl) ⟨⟨rfl, rfl, trivial⟩, trivial, trivial⟩ ?_
      refine dr_cons { need := [(47, .pv (.bool (!(y3.fSuper == [])))), (51, .pv (.int .i64 y28)), (54, .pv (.int .i64 (y3.fAbove.length : Int)))], dst := some 55, val := some (.pv (.bool (y28 != (y3.fAbove.length : Int)))) } (fun m h => step_on (guard_on rfl rfl rfl h.1.1 hb27) (op_int (k := .i64) (m := y28) (n := (y3.fAbove.length : Int)) rfl h.1.2.1 h.1.2.2.1 rfl rfl rfl) rfl) ⟨⟨rfl, rfl, rfl, trivial⟩, trivial, trivial⟩ ?_
      refine dr_cons { need := [(47, .pv (.bool (!(y3.fSuper == [])))), (55, .pv (.bool (y28 != (y3.fAbove.length : Int))))], dst := some 56, val := some (.pv (.bool (y28 != (y3.fAbove.length : Int)))) } (fun m h => step_on (guard_no rfl) (op_pick_t rfl h.1.1 hb27 h.1.2.1 rfl rfl) rfl) ⟨⟨rfl, rfl, trivial⟩, trivial, trivial⟩ ?_
      refine dr_nil Try_mixed rfl (by kernel_rfl) ?_
      refine post_imp (s' := ⟨117, [(0, some (.pv (.vs 7 (List.map eGClass a0)))), (1, some (.pv (.int .i64 a1))), (4, some (.lp 0 0)), (5, some (.lp 1 0)), (56, some (.pv (.bool (y28 != (y3.fAbove.length : Int)))))], [(0, some (.box 46 (bxv (eGFault zGFault)))), (1, some (.box 56 (bxv (eGClass y3))))], 2, [], [], 0, []⟩) (imps [0, 1] ⟨by kernel_rfl, by kernel_rfl, by kernel_rfl, by kernel_rfl, by kernel_rfl, trivial⟩ ⟨by kernel_rfl, by kernel_rfl, trivial⟩) ?_
      cases hF
      exact post_cut _ rfl (imps [0, 1] ⟨by kernel_rfl, by kernel_rfl, by kernel_rfl, by kernel_rfl, by kernel_rfl, trivial⟩ ⟨by kernel_rfl, by kernel_rfl, trivial⟩)
    iterate 8 (refine dro_f hb27 ?_)
    refine drpf hb27 ?_
    refine dr_nil Try_mixed rfl (by kernel_rfl) ?_
    refine post_imp (s' := ⟨117, [(0, some (.pv (.vs 7 (List.map eGClass a0)))), (1, some (.pv (.int .i64 a1))), (4, some (.lp 0 0)), (5, some (.lp 1 0)), (56, some (.pv (.bool false)))], [(0, some (.box 46 (bxv (eGFault zGFault)))), (1, some (.box 56 (bxv (eGClass y3))))], 2, [], [], 0, []⟩) (imps [0, 1] ⟨by kernel_rfl, by kernel_rfl, by kernel_rfl, by kernel_rfl, by kernel_rfl, trivial⟩ ⟨by kernel_rfl, by kernel_rfl, trivial⟩) ?_
    cases hF
    exact post_cut _ rfl (imps [0, 1] ⟨by kernel_rfl, by kernel_rfl, by kernel_rfl, by kernel_rfl, by kernel_rfl, trivial⟩ ⟨by kernel_rfl, by kernel_rfl, trivial⟩)
  rintro _ rfl
  have hF := hK32
  clear hK32
  refine post_next ?_
  rcases ite_some hF with ⟨hb33, hF⟩ | ⟨hb33, hF⟩
  · refine aw_cond_t rfl hb33 ?_
    refine aw_seq ?_
    refine aw_region ?_
    refine rgp (op_field_lp rfl rfl Try_fld_56_6 rfl rfl) ?_
    refine rgp (op_load_lp (v := .pv (.int .i64 y3.fAt)) rfl rfl rfl rfl Try_one_3 rfl rfl) ?_
    obtain ⟨y34, h35, hF⟩ := bind_some hF
    refine rgp (op_call 2 rfl (caps := []) (args := [.int .i64 10, .int .i64 y3.fAt]) (rs := [.p (.agg (eGFault y34))]) rfl rfl rfl Try_cal_47 (ref13_fault_ok h35) rfl rfl rfl) ?_
    refine rgp (op_store_lp (n := 2) rfl rfl rfl rfl rfl (or_agg Try_agg_46) (by rw [Try_non_46]; rfl) rfl rfl rfl) ?_
    refine reg_nil ?_
    refine post_imp (s' := ⟨117, [(4, some (.lp 0 0))], [(0, some (.box 46 (bxv (eGFault y34))))], 1, [], [], 0, []⟩) (imps [0] ⟨by kernel_rfl, trivial⟩ ⟨by kernel_rfl, trivial⟩) ?_
    refine post_next ?_
    refine aw_ret ?_
    refine post_then_ret ?_
    obtain rfl := Option.some.inj hF
    exact post_ret rfl rfl (.cons _ _ _ _ _ (.agg _ _ _ _ _ 2 _ _ rfl rfl Try_agg_46 rfl rfl rfl) (.p _) .nil) (.inl rfl)
  refine aw_cond_f rfl hb33 ?_
  refine aw_skip ?_
  refine post_next ?_
  refine aw_seq ?_
  refine aw_region ?_
  iterate 2 (refine rmv ?_)
  obtain ⟨y38, h39, hF⟩ := bind_some hF
  refine rgp (op_call 2 rfl (caps := []) (args := [.vs 7 (List.map eGClass a0), .int .i64 a1]) (rs := [.p (.agg (eGFault y38))]) rfl rfl rfl Try_cal_74 (ref13_types_ok h39) rfl rfl rfl) ?_
  refine rgp (op_alloc 2 rfl (ps := (eGFault zGFault)) rfl Try_zer_46 (by exact ⟨rfl, rfl, trivial⟩) rfl rfl) ?_
  refine rgp (op_store_lp (n := 2) rfl rfl rfl rfl rfl (or_agg Try_agg_46) (by rw [Try_non_46]; rfl) rfl rfl rfl) ?_
  refine reg_nil ?_
  refine post_imp (s' := ⟨117, [(4, some (.lp 0 0)), (5, some (.lp 1 0)), (6, some (.lp 2 0))], [(0, some (.box 46 (bxv (eGFault zGFault)))), (1, some (.box 56 (bxv (eGClass y3)))), (2, some (.box 46 (bxv (eGFault y38))))], 3, [], [], 0, []⟩) (imps [0, 1, 2] ⟨by kernel_rfl, by kernel_rfl, by kernel_rfl, trivial⟩ ⟨by kernel_rfl, by kernel_rfl, by kernel_rfl, trivial⟩) ?_
  refine post_next ?_
  iterate 2 (refine aw_seq ?_)
  refine aw_region ?_
  refine rgp (op_field_lp rfl rfl Try_fld_46_0 rfl rfl) ?_
  refine rgp (op_load_lp (v := .pv (.int .i64 y38.fErr)) rfl rfl rfl rfl Try_one_44 rfl rfl) ?_
  refine rgp (op_int (k := .i64) (m := y38.fErr) (n := 0) rfl rfl rfl rfl rfl rfl) ?_
  refine reg_nil ?_
  refine post_imp (s' := ⟨117, [(4, some (.lp 0 0)), (5, some (.lp 1 0)), (6, some (.lp 2 0)), (65, some (.pv (.bool (y38.fErr != 0))))], [(0, some (.box 46 (bxv (eGFault zGFault)))), (1, some (.box 56 (bxv (eGClass y3)))), (2, some (.box 46 (bxv (eGFault y38))))], 3, [], [], 0, []⟩) (imps [0, 1, 2] ⟨by kernel_rfl, by kernel_rfl, by kernel_rfl, by kernel_rfl, trivial⟩ ⟨by kernel_rfl, by kernel_rfl, by kernel_rfl, trivial⟩) ?_
  refine post_next ?_
  rcases ite_some hF with ⟨hb40, hF⟩ | ⟨hb40, hF⟩
  · refine aw_cond_t rfl hb40 ?_
    refine aw_seq ?_
    refine aw_region ?_
    refine rgp (op_load_lp_agg (ps := eGFault y38) rfl rfl rfl rfl rfl rfl Try_agg_46 rfl rfl) ?_
    refine rgp (op_store_lp (n := 2) rfl rfl rfl rfl rfl (or_agg Try_agg_46) (by rw [Try_non_46]; rfl) rfl rfl rfl) ?_
    refine reg_nil ?_
    refine post_imp (s' := ⟨117, [(4, some (.lp 0 0))], [(0, some (.box 46 (bxv (eGFault y38))))], 1, [], [], 0, []⟩) (imps [0] ⟨by kernel_rfl, trivial⟩ ⟨by kernel_rfl, trivial⟩) ?_
    refine post_next ?_
    refine aw_ret ?_
    refine post_then_ret ?_
    obtain rfl := Option.some.inj hF
    exact post_ret rfl rfl (.cons _ _ _ _ _ (.agg _ _ _ _ _ 2 _ _ rfl rfl Try_agg_46 rfl rfl rfl) (.p _) .nil) (.inl rfl)
  refine aw_cond_f rfl hb40 ?_
  refine aw_skip ?_
  refine post_next ?_
  refine aw_seq ?_
  refine aw_region ?_
  refine rgp (op_field_lp rfl rfl Try_fld_56_4 rfl rfl) ?_
  refine rgp (op_load_lp (v := .pv (.vs 13 (List.map eGVar y3.fFields))) rfl rfl rfl rfl Try_one_30 rfl rfl) ?_
  obtain ⟨y45, h46, hF⟩ := bind_some hF
  refine rgp (op_call 3 rfl (caps := []) (args := [.vs 13 (List.map eGVar y3.fFields)]) (rs := [.p (.vs 1 (List.map eS y45))]) rfl rfl rfl Try_cal_75 (Fn.frozen (ref13_names_ok h46)) rfl rfl rfl) ?_
  obtain ⟨y47, h48, hF⟩ := bind_some hF
  refine rgp (op_call 3 rfl (caps := []) (args := [.vs 1 (List.map eS y45)]) (rs := [.p (.int .i64 y47)]) rfl rfl rfl Try_cal_72 (ref13_Twice_ok h48) rfl rfl rfl) ?_
  refine ras ?_
  refine reg_nil ?_
  refine post_imp (s' := ⟨117, [(4, some (.lp 0 0)), (5, some (.lp 1 0)), (7, some (.pv (.int .i64 y47)))], [(0, some (.box 46 (bxv (eGFault zGFault)))), (1, some (.box 56 (bxv (eGClass y3))))], 2, [], [], 0, []⟩) (imps [0, 1] ⟨by kernel_rfl, by kernel_rfl, by kernel_rfl, trivial⟩ ⟨by kernel_rfl, by kernel_rfl, trivial⟩) ?_
  refine post_next ?_
  iterate 2 (refine aw_seq ?_)
  refine aw_region ?_
  refine rmv ?_
  refine rgp (op_int (k := .i64) (m := y47) (n := 0) rfl rfl rfl rfl rfl rfl) ?_
  refine reg_nil ?_
  refine post_imp (s' := ⟨117, [(4, some (.lp 0 0)), (5, some (.lp 1 0)), (7, some (.pv (.int .i64 y47))), (72, some (.pv (.bool (decide (y47 ≥ 0)))))], [(0, some (.box 46 (bxv (eGFault zGFault)))), (1, some (.box 56 (bxv (eGClass y3))))], 2, [], [], 0, []⟩) (imps [0, 1] ⟨by kernel_rfl, by kernel_rfl, by kernel_rfl, by kernel_rfl, trivial⟩ ⟨by kernel_rfl, by kernel_rfl, trivial⟩) ?_
  refine post_next ?_
  rcases ite_some hF with ⟨hb49, hF⟩ | ⟨hb49, hF⟩
  · refine aw_cond_t rfl hb49 ?_
    refine aw_seq ?_
    refine aw_region ?_
    refine rgp (op_field_lp rfl rfl Try_fld_56_4 rfl rfl) ?_
    refine rgp (op_load_lp (v := .pv (.vs 13 (List.map eGVar y3.fFields))) rfl rfl rfl rfl Try_one_30 rfl rfl) ?_
    refine rmv ?_
    obtain ⟨y50, h51, hF⟩ := bind_some hF
    refine rgp (op_index_vs (k := .i64) rfl rfl rfl (idx_map eGVar h51) Try_slc_30 rfl rfl) ?_
    refine rgp (op_field_vp rfl rfl Try_fld_50_2 rfl rfl) ?_
    refine rgp (op_load_vp (p := .int .i64 y50.fAt) rfl rfl rfl Try_one_3 rfl rfl) ?_
    obtain ⟨y52, h53, hF⟩ := bind_some hF
    refine rgp (op_call 2 rfl (caps := []) (args := [.int .i64 7, .int .i64 y50.fAt]) (rs := [.p (.agg (eGFault y52))]) rfl rfl rfl Try_cal_47 (ref13_fault_ok h53) rfl rfl rfl) ?_
    refine rgp (op_store_lp (n := 2) rfl rfl rfl rfl rfl (or_agg Try_agg_46) (by rw [Try_non_46]; rfl) rfl rfl rfl) ?_
    refine reg_nil ?_
    refine post_imp (s' := ⟨117, [(4, some (.lp 0 0))], [(0, some (.box 46 (bxv (eGFault y52))))], 1, [], [], 0, []⟩) (imps [0] ⟨by kernel_rfl, trivial⟩ ⟨by kernel_rfl, trivial⟩) ?_
    refine post_next ?_
    refine aw_ret ?_
    refine post_then_ret ?_
    obtain rfl := Option.some.inj hF
    exact post_ret rfl rfl (.cons _ _ _ _ _ (.agg _ _ _ _ _ 2 _ _ rfl rfl Try_agg_46 rfl rfl rfl) (.p _) .nil) (.inl rfl)
  refine aw_cond_f rfl hb49 ?_
  refine aw_skip ?_
  refine post_next ?_
  refine aw_seq ?_
  refine aw_region ?_
  refine ras ?_
  refine reg_imp (imp_nil_own 8 9 1 2 rfl rfl) ?_
  refine reg_nil ?_
  refine post_imp (s' := ⟨117, [(4, some (.lp 0 0)), (5, some (.lp 1 0)), (8, some (.ls 2))], [(0, some (.box 46 (bxv (eGFault zGFault)))), (1, some (.box 56 (bxv (eGClass y3)))), (2, some (.row 9 1 (List.map eS [])))], 3, [], [], 0, []⟩) (imps [0, 1, 2] ⟨by kernel_rfl, by kernel_rfl, by kernel_rfl, trivial⟩ ⟨by kernel_rfl, by kernel_rfl, by kernel_rfl, trivial⟩) ?_
  refine post_next ?_
  iterate 2 (refine aw_seq ?_)
  refine aw_region ?_
  refine ras ?_
  refine reg_nil ?_
  refine post_imp (s' := ⟨117, [(4, some (.lp 0 0)), (5, some (.lp 1 0)), (8, some (.ls 2)), (9, some (.pv (.int .i64 0)))], [(0, some (.box 46 (bxv (eGFault zGFault)))), (1, some (.box 56 (bxv (eGClass y3)))), (2, some (.row 9 1 (List.map eS [])))], 3, [], [], 0, []⟩) (imps [0, 1, 2] ⟨by kernel_rfl, by kernel_rfl, by kernel_rfl, by kernel_rfl, trivial⟩ ⟨by kernel_rfl, by kernel_rfl, by kernel_rfl, trivial⟩) ?_
  refine post_next ?_
  obtain ⟨lr159, hF, hK160⟩ := bind_some hF
  refine aw_for ((((y3.fMethods.length : Int) : Int) - (0)).toNat + 1) (fun s1 => ∃ q, lr159 = .next q ∧ s1 = ⟨117, [(4, some (.lp 0 0))], [(0, some (.box 46 (bxv (eGFault zGFault))))], 1, [], [], 0, []⟩) ?_ ?_
  · refine rnd_loop (α := (List (List UInt8)) × Int) (fun q => ⟨117, [(4, some (.lp 0 0)), (5, some (.lp 1 0)), (8, some (.ls 2)), (9, some (.pv (.int .i64 q.2)))], [(0, some (.box 46 (bxv (eGFault zGFault)))), (1, some (.box 56 (bxv (eGClass y3)))), (2, some (.row 9 1 (List.map eS q.1)))], 3, [], [], 0, []⟩) (fun k q => ref13_class_L1 y3 k q.1 q.2 = some lr159) ([], 0) (imps [0, 1, 2] ⟨by kernel_rfl, by kernel_rfl, by kernel_rfl, by kernel_rfl, trivial⟩ ⟨by kernel_rfl, by kernel_rfl, by kernel_rfl, trivial⟩) hF (fun q h => by cases h) ?_
    clear hF
    rintro k ⟨x87, x88⟩ hF ih
    refine rnd_succ ?_
    iterate 2 (refine aw_seq ?_)
    refine aw_region ?_
    refine rmv ?_
    refine rgp (op_field_lp rfl rfl Try_fld_56_5 rfl rfl) ?_
    refine rgp (op_load_lp (v := .pv (.vs 17 (List.map eGMethod y3.fMethods))) rfl rfl rfl rfl Try_one_54 rfl rfl) ?_
    refine rgp (op_len_vs (n := y3.fMethods.length) rfl rfl (List.length_map ..) Try_slc_54 rfl rfl) ?_
    refine rgp (op_int (k := .i64) (m := x88) (n := (y3.fMethods.length : Int)) rfl rfl rfl rfl rfl rfl) ?_
    refine reg_nil ?_
    refine post_imp (s' := ⟨117, [(4, some (.lp 0 0)), (5, some (.lp 1 0)), (8, some (.ls 2)), (9, some (.pv (.int .i64 x88))), (84, some (.pv (.bool (decide (x88 < (y3.fMethods.length : Int))))))], [(0, some (.box 46 (bxv (eGFault zGFault)))), (1, some (.box 56 (bxv (eGClass y3)))), (2, some (.row 9 1 (List.map eS x87)))], 3, [], [], 0, []⟩) (imps [0, 1, 2] ⟨by kernel_rfl, by kernel_rfl, by kernel_rfl, by kernel_rfl, by kernel_rfl, trivial⟩ ⟨by kernel_rfl, by kernel_rfl, by kernel_rfl, trivial⟩) ?_
    refine post_next ?_
    rcases ite_some hF with ⟨hb124, hF⟩ | ⟨hb124, hF⟩
    · refine aw_cond_t rfl hb124 ?_
      refine aw_skip ?_
      refine post_next ?_
      refine aw_seq ?_
      refine aw_block ?_
      refine aw_seq ?_
      refine aw_region ?_
      refine rgp (op_field_lp rfl rfl Try_fld_56_5 rfl rfl) ?_
      refine rgp (op_load_lp (v := .pv (.vs 17 (List.map eGMethod y3.fMethods))) rfl rfl rfl rfl Try_one_54 rfl rfl) ?_
      refine rmv ?_
      obtain ⟨y127, h128, hF⟩ := bind_some hF
      refine rgp (op_index_vs (k := .i64) rfl rfl rfl (idx_map eGMethod h128) Try_slc_54 rfl rfl) ?_
      refine rgp (op_load_vp_agg (ps := eGMethod y127) rfl rfl rfl rfl Try_agg_33 rfl rfl) ?_
      refine rgp (op_alloc 3 rfl (ps := (eGMethod zGMethod)) rfl Try_zer_33 (by exact ⟨rfl, rfl, rfl, rfl, rfl, rfl, rfl, rfl, rfl, rfl, rfl, rfl, rfl, trivial, trivial, trivial, rfl, trivial⟩) rfl rfl) ?_
      refine rgp (op_store_lp (n := 17) rfl rfl rfl rfl rfl (or_agg Try_agg_33) (by rw [Try_non_33]; rfl) rfl rfl rfl) ?_
      refine reg_nil ?_
      refine post_imp (s' := ⟨117, [(4, some (.lp 0 0)), (5, some (.lp 1 0)), (8, some (.ls 2)), (9, some (.pv (.int .i64 x88))), (10, some (.lp 3 0))], [(0, some (.box 46 (bxv (eGFault zGFault)))), (1, some (.box 56 (bxv (eGClass y3)))), (2, some (.row 9 1 (List.map eS x87))), (3, some (.box 33 (bxv (eGMethod y127))))], 4, [], [], 0, []⟩) (imps [0, 1, 2, 3] ⟨by kernel_rfl, by kernel_rfl, by kernel_rfl, by kernel_rfl, by kernel_rfl, trivial⟩ ⟨by kernel_rfl, by kernel_rfl, by kernel_rfl, by kernel_rfl, trivial⟩) ?_
      refine post_next ?_
      refine aw_seq ?_
      refine aw_region ?_
      refine rmv ?_
      refine rgp (op_field_lp rfl rfl Try_fld_33_0 rfl rfl) ?_
      refine rgp (op_load_lp (v := .pv (.str y127.fName)) rfl rfl rfl rfl Try_one_9 rfl rfl) ?_
      refine rgp (op_lit (rows := List.map eS ([y127.fName] : List (List UInt8))) (zs := [.str []]) rfl rfl Try_slc_52 Try_zer_9 (by exact ⟨rfl, trivial⟩) rfl rfl rfl rfl rfl rfl rfl rfl) ?_
      obtain ⟨u131, h132, hF⟩ := bind_some hF
      refine rgp (op_append 4 rfl rfl rfl rfl rfl Try_slc_52 Try_elm_9 Try_zer_9 rfl rfl rfl (room_map (f := eS) (g := eS) h132) (List.map_append (f := eS) (l₁ := x87) (l₂ := [y127.fName])).symm rfl rfl) ?_
      refine ras ?_
      refine reg_nil ?_
      refine post_imp (s' := ⟨117, [(4, some (.lp 0 0)), (5, some (.lp 1 0)), (8, some (.ls 2)), (9, some (.pv (.int .i64 x88))), (10, some (.lp 3 0))], [(0, some (.box 46 (bxv (eGFault zGFault)))), (1, some (.box 56 (bxv (eGClass y3)))), (2, some (.row 9 1 (List.map eS (x87 ++ [y127.fName])))), (3, some (.box 33 (bxv (eGMethod y127))))], 4, [], [], 0, []⟩) (imps [0, 1, 4, 3] ⟨by kernel_rfl, by kernel_rfl, by kernel_rfl, by kernel_rfl, by kernel_rfl, trivial⟩ ⟨by kernel_rfl, by kernel_rfl, by kernel_rfl, by kernel_rfl, trivial⟩) ?_
      refine post_next ?_
      iterate 2 (refine aw_seq ?_)
      refine aw_region ?_
      refine rmv ?_
      obtain ⟨y135, h136, hF⟩ := bind_some hF
      refine rgp (op_callB 4 rfl (caps := []) (args := [.vs 1 (List.map eS (x87 ++ [y127.fName]))]) [(2, some (.row 9 1 (List.map eS (x87 ++ [y127.fName]))))] rfl rfl rfl (FzH.spec ⟨rfl, trivial⟩) rfl rfl Try_cal_72 (ref13_Twice_ok h136) rfl rfl rfl) ?_
      refine rgp (op_int (k := .i64) (m := y135) (n := 0) rfl rfl rfl rfl rfl rfl) ?_
      refine reg_nil ?_
      refine post_imp (s' := ⟨117, [(4, some (.lp 0 0)), (5, some (.lp 1 0)), (8, some (.ls 2)), (9, some (.pv (.int .i64 x88))), (10, some (.lp 3 0)), (99, some (.pv (.bool (decide (y135 ≥ 0)))))], [(0, some (.box 46 (bxv (eGFault zGFault)))), (1, some (.box 56 (bxv (eGClass y3)))), (2, some (.row 9 1 (List.map eS (x87 ++ [y127.fName])))), (3, some (.box 33 (bxv (eGMethod y127))))], 4, [], [], 0, []⟩) (imps [0, 1, 2, 3] ⟨by kernel_rfl, by kernel_rfl, by kernel_rfl, by kernel_rfl, by kernel_rfl, by kernel_rfl, trivial⟩ ⟨by kernel_rfl, by kernel_rfl, by kernel_rfl, by kernel_rfl, trivial⟩) ?_
      refine post_next ?_
      rcases ite_some hF with ⟨hb137, hF⟩ | ⟨hb137, hF⟩
      · refine aw_cond_t rfl hb137 ?_
        refine aw_seq ?_
        refine aw_region ?_
        refine rgp (op_field_lp rfl rfl Try_fld_33_6 rfl rfl) ?_
        refine rgp (op_load_lp (v := .pv (.int .i64 y127.fAt)) rfl rfl rfl rfl Try_one_3 rfl rfl) ?_
        obtain ⟨y138, h139, hF⟩ := bind_some hF
        refine rgp (op_call 4 rfl (caps := []) (args := [.int .i64 7, .int .i64 y127.fAt]) (rs := [.p (.agg (eGFault y138))]) rfl rfl rfl Try_cal_47 (ref13_fault_ok h139) rfl rfl rfl) ?_
        refine rgp (op_store_lp (n := 2) rfl rfl rfl rfl rfl (or_agg Try_agg_46) (by rw [Try_non_46]; rfl) rfl rfl rfl) ?_
        refine reg_nil ?_
        refine post_imp (s' := ⟨117, [(4, some (.lp 0 0))], [(0, some (.box 46 (bxv (eGFault y138))))], 1, [], [], 0, []⟩) (imps [0] ⟨by kernel_rfl, trivial⟩ ⟨by kernel_rfl, trivial⟩) ?_
        refine post_next ?_
        refine aw_ret ?_
        refine post_then_ret ?_
        refine post_block_ret ?_
        iterate 2 (refine post_then_ret ?_)
        refine post_lp_ret ?_
        obtain rfl := Option.some.inj hF
        have hF := elim_stop hK160
        refine post_then_ret ?_
        obtain rfl := Option.some.inj hF
        exact post_ret rfl rfl (.cons _ _ _ _ _ (.agg _ _ _ _ _ 2 _ _ rfl rfl Try_agg_46 rfl rfl rfl) (.p _) .nil) (.inl rfl)
      refine aw_cond_f rfl hb137 ?_
      refine aw_skip ?_
      refine post_next ?_
      refine aw_seq ?_
      refine aw_region ?_
      refine rgp (op_load_lp_agg (ps := eGMethod y127) rfl rfl rfl rfl rfl rfl Try_agg_33 rfl rfl) ?_
      obtain ⟨y142, h143, hF⟩ := bind_some hF
      refine rgp (op_call 4 rfl (caps := []) (args := [.agg (eGMethod y127)]) (rs := [.p (.vs 13 (List.map eGVar y142))]) rfl rfl rfl Try_cal_55 (Fn.frozen (ref12_Vars_ok h143)) rfl rfl rfl) ?_
      refine ras ?_
      refine reg_nil ?_
      refine post_imp (s' := ⟨117, [(4, some (.lp 0 0)), (5, some (.lp 1 0)), (8, some (.ls 2)), (9, some (.pv (.int .i64 x88))), (11, some (.pv (.vs 13 (List.map eGVar y142))))], [(0, some (.box 46 (bxv (eGFault zGFault)))), (1, some (.box 56 (bxv (eGClass y3)))), (2, some (.row 9 1 (List.map eS (x87 ++ [y127.fName]))))], 3, [], [], 0, []⟩) (imps [0, 1, 2] ⟨by kernel_rfl, by kernel_rfl, by kernel_rfl, by kernel_rfl, by kernel_rfl, trivial⟩ ⟨by kernel_rfl, by kernel_rfl, by kernel_rfl, trivial⟩) ?_
      refine post_next ?_
      refine aw_seq ?_
      refine aw_region ?_
      refine rmv ?_
      obtain ⟨y148, h149, hF⟩ := bind_some hF
      refine rgp (op_call 3 rfl (caps := []) (args := [.vs 13 (List.map eGVar y142)]) (rs := [.p (.vs 1 (List.map eS y148))]) rfl rfl rfl Try_cal_75 (Fn.frozen (ref13_names_ok h149)) rfl rfl rfl) ?_
      obtain ⟨y150, h151, hF⟩ := bind_some hF
      refine rgp (op_call 3 rfl (caps := []) (args := [.vs 1 (List.map eS y148)]) (rs := [.p (.int .i64 y150)]) rfl rfl rfl Try_cal_72 (ref13_Twice_ok h151) rfl rfl rfl) ?_
      refine ras ?_
      refine reg_nil ?_
      refine post_imp (s' := ⟨117, [(4, some (.lp 0 0)), (5, some (.lp 1 0)), (7, some (.pv (.int .i64 y150))), (8, some (.ls 2)), (9, some (.pv (.int .i64 x88))), (11, some (.pv (.vs 13 (List.map eGVar y142))))], [(0, some (.box 46 (bxv (eGFault zGFault)))), (1, some (.box 56 (bxv (eGClass y3)))), (2, some (.row 9 1 (List.map eS (x87 ++ [y127.fName]))))], 3, [], [], 0, []⟩) (imps [0, 1, 2] ⟨by kernel_rfl, by kernel_rfl, by kernel_rfl, by kernel_rfl, by kernel_rfl, by kernel_rfl, trivial⟩ ⟨by kernel_rfl, by kernel_rfl, by kernel_rfl, trivial⟩) ?_
      refine post_next ?_
      refine aw_seq ?_
      refine aw_region ?_
      refine rmv ?_
      refine rgp (op_int (k := .i64) (m := y150) (n := 0) rfl rfl rfl rfl rfl rfl) ?_
      refine reg_nil ?_
      refine post_imp (s' := ⟨117, [(4, some (.lp 0 0)), (5, some (.lp 1 0)), (7, some (.pv (.int .i64 y150))), (8, some (.ls 2)), (9, some (.pv (.int .i64 x88))), (11, some (.pv (.vs 13 (List.map eGVar y142)))), (109, some (.pv (.bool (decide (y150 ≥ 0)))))], [(0, some (.box 46 (bxv (eGFault zGFault)))), (1, some (.box 56 (bxv (eGClass y3)))), (2, some (.row 9 1 (List.map eS (x87 ++ [y127.fName]))))], 3, [], [], 0, []⟩) (imps [0, 1, 2] ⟨by kernel_rfl, by kernel_rfl, by kernel_rfl, by kernel_rfl, by kernel_rfl, by kernel_rfl, by kernel_rfl, trivial⟩ ⟨by kernel_rfl, by kernel_rfl, by kernel_rfl, trivial⟩) ?_
      refine post_next ?_
      rcases ite_some hF with ⟨hb152, hF⟩ | ⟨hb152, hF⟩
      · refine aw_cond_t rfl hb152 ?_
        refine aw_seq ?_
        refine aw_region ?_
        iterate 2 (refine rmv ?_)
        obtain ⟨y153, h154, hF⟩ := bind_some hF
        refine rgp (op_index_vs (k := .i64) rfl rfl rfl (idx_map eGVar h154) Try_slc_30 rfl rfl) ?_
        refine rgp (op_field_vp rfl rfl Try_fld_50_2 rfl rfl) ?_
        refine rgp (op_load_vp (p := .int .i64 y153.fAt) rfl rfl rfl Try_one_3 rfl rfl) ?_
        obtain ⟨y155, h156, hF⟩ := bind_some hF
        refine rgp (op_call 3 rfl (caps := []) (args := [.int .i64 7, .int .i64 y153.fAt]) (rs := [.p (.agg (eGFault y155))]) rfl rfl rfl Try_cal_47 (ref13_fault_ok h156) rfl rfl rfl) ?_
        refine rgp (op_store_lp (n := 2) rfl rfl rfl rfl rfl (or_agg Try_agg_46) (by rw [Try_non_46]; rfl) rfl rfl rfl) ?_
        refine reg_nil ?_
        refine post_imp (s' := ⟨117, [(4, some (.lp 0 0))], [(0, some (.box 46 (bxv (eGFault y155))))], 1, [], [], 0, []⟩) (imps [0] ⟨by kernel_rfl, trivial⟩ ⟨by kernel_rfl, trivial⟩) ?_
        refine post_next ?_
        refine aw_ret ?_
        refine post_block_ret ?_
        iterate 2 (refine post_then_ret ?_)
        refine post_lp_ret ?_
        obtain rfl := Option.some.inj hF
        have hF := elim_stop hK160
        refine post_then_ret ?_
        obtain rfl := Option.some.inj hF
        exact post_ret rfl rfl (.cons _ _ _ _ _ (.agg _ _ _ _ _ 2 _ _ rfl rfl Try_agg_46 rfl rfl rfl) (.p _) .nil) (.inl rfl)
      refine aw_cond_f rfl hb152 ?_
      refine aw_skip ?_
      refine post_block_normal ?_
      refine post_next ?_
      refine aw_region ?_
      refine rmv ?_
      refine rgp (op_int (k := .i64) (m := x88) (n := 1) rfl rfl rfl rfl rfl rfl) ?_
      refine ras ?_
      refine reg_nil ?_
      refine post_round ?_
      exact rnd_back (ih ((x87 ++ [y127.fName]), w_i64 (x88 + 1)) hF) (imps [0, 1, 2] ⟨by kernel_rfl, by kernel_rfl, by kernel_rfl, by kernel_rfl, trivial⟩ ⟨by kernel_rfl, by kernel_rfl, by kernel_rfl, trivial⟩)
    refine aw_cond_f rfl hb124 ?_
    refine aw_exit ?_
    iterate 2 (refine post_then_exit ?_)
    obtain rfl := Option.some.inj hF
    exact post_lp_break _ ⟨_, rfl, rfl⟩ (imps [0] ⟨by kernel_rfl, trivial⟩ ⟨by kernel_rfl, trivial⟩)
  rintro _ ⟨⟨⟩, rfl, rfl⟩
  have hF := elim_next hK160
  clear hK160
  refine post_next ?_
  refine aw_seq ?_
  refine aw_region ?_
  refine rgp (op_build (zs := (eGFault zGFault)) (r := eGFault ({ fErr := 0, fAt := 0 } : GFault)) rfl Try_zer_46 (by exact ⟨rfl, rfl, trivial⟩) Try_plc_46 rfl rfl rfl rfl) ?_
  refine rgp (op_store_lp (n := 2) rfl rfl rfl rfl rfl (or_agg Try_agg_46) (by rw [Try_non_46]; rfl) rfl rfl rfl) ?_
  refine reg_nil ?_
  refine post_imp (s' := ⟨117, [(4, some (.lp 0 0))], [(0, some (.box 46 (bxv (eGFault ({ fErr := 0, fAt := 0 } : GFault)))))], 1, [], [], 0, []⟩) (imps [0] ⟨by kernel_rfl, trivial⟩ ⟨by kernel_rfl, trivial⟩) ?_
  refine post_next ?_
  refine aw_ret ?_
  obtain rfl := Option.some.inj hF
  exact post_ret rfl rfl (.cons _ _ _ _ _ (.agg _ _ _ _ _ 2 _ _ rfl rfl Try_agg_46 rfl rfl rfl) (.p _) .nil) (.inl rfl)
theorem ref13_Check_ok {a0 : List GClass} {r : GFault} (hF : ref13_Check a0 = some r) : Abs.Fn Try.prog 17 [.vs 7 (List.map eGClass a0)] [.p (.agg (eGFault r))] := by
  unfold ref13_Check at hF
  refine fn_of_body (n := 23) Try.func17 rfl rfl rfl ?_
  intro w O
  refine aw_seq ?_
  refine aw_region ?_
  refine rgp (op_alloc 0 rfl (ps := (eGFault zGFault)) rfl Try_zer_46 (by exact ⟨rfl, rfl, trivial⟩) rfl rfl) ?_
  refine reg_nil ?_
  refine post_imp (s' := ⟨23, [(0, some (.pv (.vs 7 (List.map eGClass a0)))), (2, some (.lp 0 0))], [(0, some (.box 46 (bxv (eGFault zGFault))))], 1, [], [], 0, []⟩) (imps [0] ⟨by kernel_rfl, by kernel_rfl, trivial⟩ ⟨by kernel_rfl, trivial⟩) ?_
  refine post_next ?_
  iterate 2 (refine aw_seq ?_)
  refine aw_region ?_
  refine rmv ?_
  obtain ⟨y3, h4, hF⟩ := bind_some hF
  refine rgp (op_call 1 rfl (caps := []) (args := [.vs 7 (List.map eGClass a0)]) (rs := [.p (.bool y3)]) rfl rfl rfl Try_cal_46 (ref10_Right_ok h4) rfl rfl rfl) ?_
  refine rgp (op_not rfl rfl rfl rfl) ?_
  refine reg_nil ?_
  refine post_imp (s' := ⟨23, [(0, some (.pv (.vs 7 (List.map eGClass a0)))), (2, some (.lp 0 0)), (7, some (.pv (.bool (!y3))))], [(0, some (.box 46 (bxv (eGFault zGFault))))], 1, [], [], 0, []⟩) (imps [0] ⟨by kernel_rfl, by kernel_rfl, by kernel_rfl, trivial⟩ ⟨by kernel_rfl, trivial⟩) ?_
  refine post_next ?_
  rcases ite_some hF with ⟨hb5, hF⟩ | ⟨hb5, hF⟩
  · refine aw_cond_t rfl hb5 ?_
    refine aw_seq ?_
    refine aw_region ?_
    obtain ⟨y6, h7, hF⟩ := bind_some hF
    refine rgp (op_call 1 rfl (caps := []) (args := [.int .i64 28, .int .i64 0]) (rs := [.p (.agg (eGFault y6))]) rfl rfl rfl Try_cal_47 (ref13_fault_ok h7) rfl rfl rfl) ?_
    refine rgp (op_store_lp (n := 2) rfl rfl rfl rfl rfl (or_agg Try_agg_46) (by rw [Try_non_46]; rfl) rfl rfl rfl) ?_
    refine reg_nil ?_
    refine post_imp (s' := ⟨23, [(2, some (.lp 0 0))], [(0, some (.box 46 (bxv (eGFault y6))))], 1, [], [], 0, []⟩) (imps [0] ⟨by kernel_rfl, trivial⟩ ⟨by kernel_rfl, trivial⟩) ?_
    refine post_next ?_
    refine aw_ret ?_
    refine post_then_ret ?_
    obtain rfl := Option.some.inj hF
    exact post_ret rfl rfl (.cons _ _ _ _ _ (.agg _ _ _ _ _ 2 _ _ rfl rfl Try_agg_46 rfl rfl rfl) (.p _) .nil) (.inl rfl)
  refine aw_cond_f rfl hb5 ?_
  refine aw_skip ?_
  refine post_next ?_
  iterate 2 (refine aw_seq ?_)
  refine aw_region ?_
  refine ras ?_
  refine reg_nil ?_
  refine post_imp (s' := ⟨23, [(0, some (.pv (.vs 7 (List.map eGClass a0)))), (2, some (.lp 0 0)), (3, some (.pv (.int .i64 0)))], [(0, some (.box 46 (bxv (eGFault zGFault))))], 1, [], [], 0, []⟩) (imps [0] ⟨by kernel_rfl, by kernel_rfl, by kernel_rfl, trivial⟩ ⟨by kernel_rfl, trivial⟩) ?_
  refine post_next ?_
  obtain ⟨lr29, hF, hK30⟩ := bind_some hF
  refine aw_for ((((a0.length : Int) : Int) - (0)).toNat + 1) (fun s1 => ∃ q, lr29 = .next q ∧ s1 = ⟨23, [(2, some (.lp 0 0))], [(0, some (.box 46 (bxv (eGFault zGFault))))], 1, [], [], 0, []⟩) ?_ ?_
  · refine rnd_loop (α := Int) (fun q => ⟨23, [(0, some (.pv (.vs 7 (List.map eGClass a0)))), (2, some (.lp 0 0)), (3, some (.pv (.int .i64 q)))], [(0, some (.box 46 (bxv (eGFault zGFault))))], 1, [], [], 0, []⟩) (fun k q => ref13_Check_L1 a0 k q = some lr29) 0 (imps [0] ⟨by kernel_rfl, by kernel_rfl, by kernel_rfl, trivial⟩ ⟨by kernel_rfl, trivial⟩) hF (fun q h => by cases h) ?_
    clear hF
    rintro k x14 hF ih
    refine rnd_succ ?_
    iterate 2 (refine aw_seq ?_)
    refine aw_region ?_
    iterate 2 (refine rmv ?_)
    refine rgp (op_len_vs (n := a0.length) rfl rfl (List.length_map ..) Try_slc_22 rfl rfl) ?_
    refine rgp (op_int (k := .i64) (m := x14) (n := (a0.length : Int)) rfl rfl rfl rfl rfl rfl) ?_
    refine reg_nil ?_
    refine post_imp (s' := ⟨23, [(0, some (.pv (.vs 7 (List.map eGClass a0)))), (2, some (.lp 0 0)), (3, some (.pv (.int .i64 x14))), (12, some (.pv (.bool (decide (x14 < (a0.length : Int))))))], [(0, some (.box 46 (bxv (eGFault zGFault))))], 1, [], [], 0, []⟩) (imps [0] ⟨by kernel_rfl, by kernel_rfl, by kernel_rfl, by kernel_rfl, trivial⟩ ⟨by kernel_rfl, trivial⟩) ?_
    refine post_next ?_
    rcases ite_some hF with ⟨hb22, hF⟩ | ⟨hb22, hF⟩
    · refine aw_cond_t rfl hb22 ?_
      refine aw_skip ?_
      refine post_next ?_
      refine aw_seq ?_
      refine aw_block ?_
      refine aw_seq ?_
      refine aw_region ?_
      iterate 2 (refine rmv ?_)
      obtain ⟨y25, h26, hF⟩ := bind_some hF
      refine rgp (op_call 1 rfl (caps := []) (args := [.vs 7 (List.map eGClass a0), .int .i64 x14]) (rs := [.p (.agg (eGFault y25))]) rfl rfl rfl Try_cal_48 (ref13_class_ok h26) rfl rfl rfl) ?_
      refine rgp (op_alloc 1 rfl (ps := (eGFault zGFault)) rfl Try_zer_46 (by exact ⟨rfl, rfl, trivial⟩) rfl rfl) ?_
      refine rgp (op_store_lp (n := 2) rfl rfl rfl rfl rfl (or_agg Try_agg_46) (by rw [Try_non_46]; rfl) rfl rfl rfl) ?_
      refine reg_nil ?_
      refine post_imp (s' := ⟨23, [(0, some (.pv (.vs 7 (List.map eGClass a0)))), (2, some (.lp 0 0)), (3, some (.pv (.int .i64 x14))), (4, some (.lp 1 0))], [(0, some (.box 46 (bxv (eGFault zGFault)))), (1, some (.box 46 (bxv (eGFault y25))))], 2, [], [], 0, []⟩) (imps [0, 1] ⟨by kernel_rfl, by kernel_rfl, by kernel_rfl, by kernel_rfl, trivial⟩ ⟨by kernel_rfl, by kernel_rfl, trivial⟩) ?_
      refine post_next ?_
      refine aw_seq ?_
      refine aw_region ?_
      refine rgp (op_field_lp rfl rfl Try_fld_46_0 rfl rfl) ?_
      refine rgp (op_load_lp (v := .pv (.int .i64 y25.fErr)) rfl rfl rfl rfl Try_one_44 rfl rfl) ?_
      refine rgp (op_int (k := .i64) (m := y25.fErr) (n := 0) rfl rfl rfl rfl rfl rfl) ?_
      refine reg_nil ?_
      refine post_imp (s' := ⟨23, [(0, some (.pv (.vs 7 (List.map eGClass a0)))), (2, some (.lp 0 0)), (3, some (.pv (.int .i64 x14))), (4, some (.lp 1 0)), (20, some (.pv (.bool (y25.fErr != 0))))], [(0, some (.box 46 (bxv (eGFault zGFault)))), (1, some (.box 46 (bxv (eGFault y25))))], 2, [], [], 0, []⟩) (imps [0, 1] ⟨by kernel_rfl, by kernel_rfl, by kernel_rfl, by kernel_rfl, by kernel_rfl, trivial⟩ ⟨by kernel_rfl, by kernel_rfl, trivial⟩) ?_
      refine post_next ?_
      rcases ite_some hF with ⟨hb27, hF⟩ | ⟨hb27, hF⟩
      · refine aw_cond_t rfl hb27 ?_
        refine aw_seq ?_
        refine aw_region ?_
        refine rgp (op_load_lp_agg (ps := eGFault y25) rfl rfl rfl rfl rfl rfl Try_agg_46 rfl rfl) ?_
        refine rgp (op_store_lp (n := 2) rfl rfl rfl rfl rfl (or_agg Try_agg_46) (by rw [Try_non_46]; rfl) rfl rfl rfl) ?_
        refine reg_nil ?_
        refine post_imp (s' := ⟨23, [(2, some (.lp 0 0))], [(0, some (.box 46 (bxv (eGFault y25))))], 1, [], [], 0, []⟩) (imps [0] ⟨by kernel_rfl, trivial⟩ ⟨by kernel_rfl, trivial⟩) ?_
        refine post_next ?_
        refine aw_ret ?_
        refine post_block_ret ?_
        iterate 2 (refine post_then_ret ?_)
        refine post_lp_ret ?_
        obtain rfl := Option.some.inj hF
        have hF := elim_stop hK30
        refine post_then_ret ?_
        obtain rfl := Option.some.inj hF
        exact post_ret rfl rfl (.cons _ _ _ _ _ (.agg _ _ _ _ _ 2 _ _ rfl rfl Try_agg_46 rfl rfl rfl) (.p _) .nil) (.inl rfl)
      refine aw_cond_f rfl hb27 ?_
      refine aw_skip ?_
      refine post_block_normal ?_
      refine post_next ?_
      refine aw_region ?_
      refine rmv ?_
      refine rgp (op_int (k := .i64) (m := x14) (n := 1) rfl rfl rfl rfl rfl rfl) ?_
      refine ras ?_
      refine reg_nil ?_
      refine post_round ?_
      exact rnd_back (ih (w_i64 (x14 + 1)) hF) (imps [0] ⟨by kernel_rfl, by kernel_rfl, by kernel_rfl, trivial⟩ ⟨by kernel_rfl, trivial⟩)
    refine aw_cond_f rfl hb22 ?_
    refine aw_exit ?_
    iterate 2 (refine post_then_exit ?_)
    obtain rfl := Option.some.inj hF
    exact post_lp_break _ ⟨_, rfl, rfl⟩ (imps [0] ⟨by kernel_rfl, trivial⟩ ⟨by kernel_rfl, trivial⟩)
  rintro _ ⟨⟨⟩, rfl, rfl⟩
  have hF := elim_next hK30
  clear hK30
  refine post_next ?_
  refine aw_seq ?_
  refine aw_region ?_
  refine rgp (op_build (zs := (eGFault zGFault)) (r := eGFault ({ fErr := 0, fAt := 0 } : GFault)) rfl Try_zer_46 (by exact ⟨rfl, rfl, trivial⟩) Try_plc_46 rfl rfl rfl rfl) ?_
  refine rgp (op_store_lp (n := 2) rfl rfl rfl rfl rfl (or_agg Try_agg_46) (by rw [Try_non_46]; rfl) rfl rfl rfl) ?_
  refine reg_nil ?_
  refine post_imp (s' := ⟨23, [(2, some (.lp 0 0))], [(0, some (.box 46 (bxv (eGFault ({ fErr := 0, fAt := 0 } : GFault)))))], 1, [], [], 0, []⟩) (imps [0] ⟨by kernel_rfl, trivial⟩ ⟨by kernel_rfl, trivial⟩) ?_
  refine post_next ?_
  refine aw_ret ?_
  obtain rfl := Option.some.inj hF
  exact post_ret rfl rfl (.cons _ _ _ _ _ (.agg _ _ _ _ _ 2 _ _ rfl rfl Try_agg_46 rfl rfl rfl) (.p _) .nil) (.inl rfl)
theorem ref14_has_ok {a0 : List Int} {a1 : Int} {r : Bool} (hF : ref14_has a0 a1 = some r) : Abs.Fn Try.prog 49 [.vs 1 (List.map eI a0), .int .i64 a1] [.p (.bool r)] := by
  unfold ref14_has at hF
  refine fn_of_body (n := 18) Try.func49 rfl rfl rfl ?_
  intro w O
  refine aw_seq ?_
  refine aw_region ?_
  refine ras ?_
  refine reg_nil ?_
  refine post_imp (s' := ⟨18, [(0, some (.pv (.vs 1 (List.map eI a0)))), (1, some (.pv (.int .i64 a1)))], [], 0, [], [], 0, []⟩) (imps [] ⟨by kernel_rfl, by kernel_rfl, trivial⟩ trivial) ?_
  refine post_next ?_
  iterate 2 (refine aw_seq ?_)
  refine aw_region ?_
  refine ras ?_
  refine reg_nil ?_
  refine post_imp (s' := ⟨18, [(0, some (.pv (.vs 1 (List.map eI a0)))), (1, some (.pv (.int .i64 a1))), (5, some (.pv (.int .i64 0)))], [], 0, [], [], 0, []⟩) (imps [] ⟨by kernel_rfl, by kernel_rfl, by kernel_rfl, trivial⟩ trivial) ?_
  refine post_next ?_
  obtain ⟨lr22, hF, hK23⟩ := bind_some hF
  refine aw_for ((((a0.length : Int) : Int) - (0)).toNat + 1) (fun s1 => ∃ q, lr22 = .next q ∧ s1 = ⟨18, [], [], 0, [], [], 0, []⟩) ?_ ?_
  · refine rnd_loop (α := Int) (fun q => ⟨18, [(0, some (.pv (.vs 1 (List.map eI a0)))), (1, some (.pv (.int .i64 a1))), (5, some (.pv (.int .i64 q)))], [], 0, [], [], 0, []⟩) (fun k q => ref14_has_L1 a0 a1 k q = some lr22) 0 (imps [] ⟨by kernel_rfl, by kernel_rfl, by kernel_rfl, trivial⟩ trivial) hF (fun q h => by cases h) ?_
    clear hF
    rintro k x7 hF ih
    refine rnd_succ ?_
    iterate 2 (refine aw_seq ?_)
    refine aw_region ?_
    iterate 2 (refine rmv ?_)
    refine rgp (op_len_vs (n := a0.length) rfl rfl (List.length_map ..) Try_slc_86 rfl rfl) ?_
    refine rgp (op_int (k := .i64) (m := x7) (n := (a0.length : Int)) rfl rfl rfl rfl rfl rfl) ?_
    refine reg_nil ?_
    refine post_imp (s' := ⟨18, [(0, some (.pv (.vs 1 (List.map eI a0)))), (1, some (.pv (.int .i64 a1))), (5, some (.pv (.int .i64 x7))), (9, some (.pv (.bool (decide (x7 < (a0.length : Int))))))], [], 0, [], [], 0, []⟩) (imps [] ⟨by kernel_rfl, by kernel_rfl, by kernel_rfl, by kernel_rfl, trivial⟩ trivial) ?_
    refine post_next ?_
    rcases ite_some hF with ⟨hb15, hF⟩ | ⟨hb15, hF⟩
    · refine aw_cond_t rfl hb15 ?_
      refine aw_skip ?_
      refine post_next ?_
      refine aw_seq ?_
      refine aw_block ?_
      refine aw_seq ?_
      refine aw_region ?_
      iterate 2 (refine rmv ?_)
      obtain ⟨y18, h19, hF⟩ := bind_some hF
      refine rgp (op_index_vs (k := .i64) rfl rfl rfl (idx_map eI h19) Try_slc_86 rfl rfl) ?_
      refine rgp (op_load_vp (p := .int .i64 y18) rfl rfl rfl Try_one_3 rfl rfl) ?_
      refine rmv ?_
      refine rgp (op_int (k := .i64) (m := y18) (n := a1) rfl rfl rfl rfl rfl rfl) ?_
      refine reg_nil ?_
      refine post_imp (s' := ⟨18, [(0, some (.pv (.vs 1 (List.map eI a0)))), (1, some (.pv (.int .i64 a1))), (5, some (.pv (.int .i64 x7))), (17, some (.pv (.bool (y18 == a1))))], [], 0, [], [], 0, []⟩) (imps [] ⟨by kernel_rfl, by kernel_rfl, by kernel_rfl, by kernel_rfl, trivial⟩ trivial) ?_
      refine post_next ?_
      rcases ite_some hF with ⟨hb20, hF⟩ | ⟨hb20, hF⟩
      · refine aw_cond_t rfl hb20 ?_
        refine aw_seq ?_
        refine aw_region ?_
        refine ras ?_
        refine reg_nil ?_
        refine post_imp (s' := ⟨18, [(4, some (.pv (.bool true)))], [], 0, [], [], 0, []⟩) (imps [] ⟨by kernel_rfl, trivial⟩ trivial) ?_
        refine post_next ?_
        refine aw_ret ?_
        refine post_block_ret ?_
        iterate 2 (refine post_then_ret ?_)
        refine post_lp_ret ?_
        obtain rfl := Option.some.inj hF
        have hF := elim_stop hK23
        refine post_then_ret ?_
        obtain rfl := Option.some.inj hF
        exact prt
      refine aw_cond_f rfl hb20 ?_
      refine aw_skip ?_
      refine post_block_normal ?_
      refine post_next ?_
      refine aw_region ?_
      refine rmv ?_
      refine rgp (op_int (k := .i64) (m := x7) (n := 1) rfl rfl rfl rfl rfl rfl) ?_
      refine ras ?_
      refine reg_nil ?_
      refine post_round ?_
      exact rnd_back (ih (w_i64 (x7 + 1)) hF) (imps [] ⟨by kernel_rfl, by kernel_rfl, by kernel_rfl, trivial⟩ trivial)
    refine aw_cond_f rfl hb15 ?_
    refine aw_exit ?_
    iterate 2 (refine post_then_exit ?_)
    obtain rfl := Option.some.inj hF
    exact post_lp_break _ ⟨_, rfl, rfl⟩ (imps [] trivial trivial)
  rintro _ ⟨⟨⟩, rfl, rfl⟩
  have hF := elim_next hK23
  clear hK23
  refine post_next ?_
  refine aw_seq ?_
  refine aw_region ?_
  refine ras ?_
  refine reg_nil ?_
  refine post_imp (s' := ⟨18, [(4, some (.pv (.bool false)))], [], 0, [], [], 0, []⟩) (imps [] ⟨by kernel_rfl, trivial⟩ trivial) ?_
  refine post_next ?_
  refine aw_ret ?_
  obtain rfl := Option.some.inj hF
  exact prt
theorem ref14_Chain_ok {a0 : List GClass} {a1 : List UInt8} {r : (List Int)} (hF : ref14_Chain a0 a1 = some r) : Abs.Fn Try.prog 44 [.vs 7 (List.map eGClass a0), .str a1] [.own 3 1 (List.map eI r)] := by
  unfold ref14_Chain at hF
  refine fn_of_body (n := 37) Try.func44 rfl rfl rfl ?_
  intro w O
  refine aw_seq ?_
  refine aw_region ?_
  refine ras ?_
  refine reg_nil ?_
  refine post_imp (s' := ⟨37, [(0, some (.pv (.vs 7 (List.map eGClass a0)))), (1, some (.pv (.str a1)))], [], 0, [], [], 0, []⟩) (imps [] ⟨by kernel_rfl, by kernel_rfl, trivial⟩ trivial) ?_
  refine post_next ?_
  refine aw_seq ?_
  refine aw_region ?_
  refine ras ?_
  refine reg_imp (imp_nil_own 5 3 1 0 rfl rfl) ?_
  refine reg_nil ?_
  refine post_imp (s' := ⟨37, [(0, some (.pv (.vs 7 (List.map eGClass a0)))), (1, some (.pv (.str a1))), (5, some (.ls 0))], [(0, some (.row 3 1 (List.map eI [])))], 1, [], [], 0, []⟩) (imps [0] ⟨by kernel_rfl, by kernel_rfl, by kernel_rfl, trivial⟩ ⟨by kernel_rfl, trivial⟩) ?_
  refine post_next ?_
  refine aw_seq ?_
  refine aw_region ?_
  iterate 2 (refine rmv ?_)
  obtain ⟨y3, h4, hF⟩ := bind_some hF
  refine rgp (op_call 1 rfl (caps := []) (args := [.vs 7 (List.map eGClass a0), .str a1]) (rs := [.p (.int .i64 y3)]) rfl rfl rfl Try_cal_50 (ref13_Find_ok h4) rfl rfl rfl) ?_
  refine ras ?_
  refine reg_nil ?_
  refine post_imp (s' := ⟨37, [(0, some (.pv (.vs 7 (List.map eGClass a0)))), (5, some (.ls 0)), (6, some (.pv (.int .i64 y3)))], [(0, some (.row 3 1 (List.map eI [])))], 1, [], [], 0, []⟩) (imps [0] ⟨by kernel_rfl, by kernel_rfl, by kernel_rfl, trivial⟩ ⟨by kernel_rfl, trivial⟩) ?_
  refine post_next ?_
  refine aw_seq ?_
  obtain ⟨lr72, hF, hK73⟩ := bind_some hF
  refine aw_for (a0.length + 2) (fun s1 => ∃ q, lr72 = .next q ∧ s1 = ⟨37, [(5, some (.ls 0))], [(0, some (.row 3 1 (List.map eI q)))], 1, [], [], 0, []⟩) ?_ ?_
  · refine rnd_loop (α := (List Int) × Int) (fun q => ⟨37, [(0, some (.pv (.vs 7 (List.map eGClass a0)))), (5, some (.ls 0)), (6, some (.pv (.int .i64 q.2)))], [(0, some (.row 3 1 (List.map eI q.1)))], 1, [], [], 0, []⟩) (fun k q => ref14_Chain_L1 a0 k q.1 q.2 = some lr72) ([], y3) (imps [0] ⟨by kernel_rfl, by kernel_rfl, by kernel_rfl, trivial⟩ ⟨by kernel_rfl, trivial⟩) hF (fun q h => by cases h) ?_
    clear hF
    rintro k ⟨x25, x26⟩ hF ih
    refine rnd_succ ?_
    iterate 2 (refine aw_seq ?_)
    obtain ⟨x52, hF, hK54⟩ := bind_some hF
    refine aw_cut (fun s1 => s1 = ⟨37, [(0, some (.pv (.vs 7 (List.map eGClass a0)))), (5, some (.ls 0)), (6, some (.pv (.int .i64 x26))), (17, some (.pv (.bool x52)))], [(0, some (.row 3 1 (List.map eI x25)))], 1, [], [], 0, []⟩) ?_ ?_
    · refine aw_region ?_
      refine rmv ?_
      refine rgp (op_int (k := .i64) (m := x26) (n := 0) rfl rfl rfl rfl rfl rfl) ?_
      refine rmv ?_
      rcases ite_some hF with ⟨hb49, hF⟩ | ⟨hb49, hF⟩
      · refine rgn hb49 (op_move rfl rfl rfl rfl) ?_
        refine rgn hb49 (op_move rfl rfl rfl rfl) ?_
        obtain ⟨y50, h51, hF⟩ := bind_some hF
        refine rgn hb49 (op_callB 1 rfl (caps := []) (args := [.vs 1 (List.map eI x25), .int .i64 x26]) [(0, some (.row 3 1 (List.map eI x25)))] rfl rfl rfl (FzH.spec ⟨rfl, trivial⟩) rfl rfl Try_cal_49 (ref14_has_ok h51) rfl rfl rfl) ?_
        refine rgn hb49 (op_not rfl rfl rfl rfl) ?_
        refine rpt hb49 ?_
        refine reg_nil ?_
        cases hF
        exact post_cut _ rfl (imps [0] ⟨by kernel_rfl, by kernel_rfl, by kernel_rfl, by kernel_rfl, trivial⟩ ⟨by kernel_rfl, trivial⟩)
      iterate 4 (refine rgo_f hb49 ?_)
      refine rpf hb49 ?_
      refine reg_nil ?_
      cases hF
      exact post_cut _ rfl (imps [0] ⟨by kernel_rfl, by kernel_rfl, by kernel_rfl, by kernel_rfl, trivial⟩ ⟨by kernel_rfl, trivial⟩)
    rintro _ rfl
    have hF := hK54
    clear hK54
    refine post_next ?_
    rcases ite_some hF with ⟨hb55, hF⟩ | ⟨hb55, hF⟩
    · refine aw_cond_t rfl hb55 ?_
      refine aw_skip ?_
      refine post_next ?_
      refine aw_block ?_
      refine aw_seq ?_
      refine aw_region ?_
      iterate 2 (refine rmv ?_)
      refine rgp (op_lit (rows := List.map eI ([x26] : List Int)) (zs := [.int .i64 0]) rfl rfl Try_slc_86 Try_zer_3 (by exact ⟨rfl, trivial⟩) rfl rfl rfl rfl rfl rfl rfl rfl) ?_
      obtain ⟨u58, h59, hF⟩ := bind_some hF
      refine rgp (op_append 1 rfl rfl rfl rfl rfl Try_slc_86 Try_elm_3 Try_zer_3 rfl rfl rfl (room_map (f := eI) (g := eI) h59) (List.map_append (f := eI) (l₁ := x25) (l₂ := [x26])).symm rfl rfl) ?_
      refine ras ?_
      refine reg_nil ?_
      refine post_imp (s' := ⟨37, [(0, some (.pv (.vs 7 (List.map eGClass a0)))), (5, some (.ls 0)), (6, some (.pv (.int .i64 x26)))], [(0, some (.row 3 1 (List.map eI (x25 ++ [x26]))))], 1, [], [], 0, []⟩) (imps [1] ⟨by kernel_rfl, by kernel_rfl, by kernel_rfl, trivial⟩ ⟨by kernel_rfl, trivial⟩) ?_
      refine post_next ?_
      iterate 2 (refine aw_seq ?_)
      refine aw_region ?_
      iterate 2 (refine rmv ?_)
      obtain ⟨y62, h63, hF⟩ := bind_some hF
      refine rgp (op_index_vs (k := .i64) rfl rfl rfl (idx_map eGClass h63) Try_slc_22 rfl rfl) ?_
      refine rgp (op_field_vp rfl rfl Try_fld_56_2 rfl rfl) ?_
      refine rgp (op_load_vp (p := .str y62.fSuper) rfl rfl rfl Try_one_9 rfl rfl) ?_
      refine rgp (op_str rfl rfl rfl rfl rfl rfl) ?_
      refine reg_nil ?_
      refine post_imp (s' := ⟨37, [(0, some (.pv (.vs 7 (List.map eGClass a0)))), (5, some (.ls 0)), (6, some (.pv (.int .i64 x26))), (27, some (.pv (.bool (y62.fSuper == []))))], [(0, some (.row 3 1 (List.map eI (x25 ++ [x26]))))], 1, [], [], 0, []⟩) (imps [0] ⟨by kernel_rfl, by kernel_rfl, by kernel_rfl, by kernel_rfl, trivial⟩ ⟨by kernel_rfl, trivial⟩) ?_
      refine post_next ?_
      rcases ite_some hF with ⟨hb64, hF⟩ | ⟨hb64, hF⟩
      · refine aw_cond_t rfl hb64 ?_
        refine aw_seq ?_
        refine aw_region ?_
        refine rmv ?_
        refine ras ?_
        refine reg_nil ?_
        refine post_imp (s' := ⟨37, [(4, some (.ls 0))], [(0, some (.row 3 1 (List.map eI (x25 ++ [x26]))))], 1, [], [], 0, []⟩) (imps [0] ⟨by kernel_rfl, trivial⟩ ⟨by kernel_rfl, trivial⟩) ?_
        refine post_next ?_
        refine aw_ret ?_
        refine post_then_ret ?_
        refine post_block_ret ?_
        refine post_then_ret ?_
        refine post_lp_ret ?_
        obtain rfl := Option.some.inj hF
        have hF := elim_stop hK73
        refine post_then_ret ?_
        obtain rfl := Option.some.inj hF
        exact post_ret rfl rfl (.cons _ _ _ _ _ (.tmp _ _ rfl) (.own _ _ _ _ rfl nolent3) .nil) (.inl rfl)
      refine aw_cond_f rfl hb64 ?_
      refine aw_skip ?_
      refine post_next ?_
      refine aw_region ?_
      iterate 3 (refine rmv ?_)
      obtain ⟨y65, h66, hF⟩ := bind_some hF
      refine rgp (op_index_vs (k := .i64) rfl rfl rfl (idx_map eGClass h66) Try_slc_22 rfl rfl) ?_
      refine rgp (op_field_vp rfl rfl Try_fld_56_2 rfl rfl) ?_
      refine rgp (op_load_vp (p := .str y65.fSuper) rfl rfl rfl Try_one_9 rfl rfl) ?_
      obtain ⟨y67, h68, hF⟩ := bind_some hF
      refine rgp (op_call 1 rfl (caps := []) (args := [.vs 7 (List.map eGClass a0), .str y65.fSuper]) (rs := [.p (.int .i64 y67)]) rfl rfl rfl Try_cal_50 (ref13_Find_ok h68) rfl rfl rfl) ?_
      refine ras ?_
      refine reg_nil ?_
      refine post_imp (s' := ⟨37, [(0, some (.pv (.vs 7 (List.map eGClass a0)))), (5, some (.ls 0)), (6, some (.pv (.int .i64 y67)))], [(0, some (.row 3 1 (List.map eI (x25 ++ [x26]))))], 1, [], [], 0, []⟩) (imps [0] ⟨by kernel_rfl, by kernel_rfl, by kernel_rfl, trivial⟩ ⟨by kernel_rfl, trivial⟩) ?_
      refine post_block_normal ?_
      refine post_round ?_
      exact rnd_back (ih ((x25 ++ [x26]), y67) hF) (imps [0] ⟨by kernel_rfl, by kernel_rfl, by kernel_rfl, trivial⟩ ⟨by kernel_rfl, trivial⟩)
    refine aw_cond_f rfl hb55 ?_
    refine aw_exit ?_
    iterate 2 (refine post_then_exit ?_)
    obtain rfl := Option.some.inj hF
    exact post_lp_break _ ⟨_, rfl, rfl⟩ (imps [0] ⟨by kernel_rfl, trivial⟩ ⟨by kernel_rfl, trivial⟩)
  rintro _ ⟨x71, rfl, rfl⟩
  have hF := elim_next hK73
  clear hK73
  refine post_next ?_
  refine aw_seq ?_
  refine aw_region ?_
  refine rmv ?_
  refine ras ?_
  refine reg_nil ?_
  refine post_imp (s' := ⟨37, [(4, some (.ls 0))], [(0, some (.row 3 1 (List.map eI x71)))], 1, [], [], 0, []⟩) (imps [0] ⟨by kernel_rfl, trivial⟩ ⟨by kernel_rfl, trivial⟩) ?_
  refine post_next ?_
  refine aw_ret ?_
  obtain rfl := Option.some.inj hF
  exact post_ret rfl rfl (.cons _ _ _ _ _ (.tmp _ _ rfl) (.own _ _ _ _ rfl nolent3) .nil) (.inl rfl)
theorem ref14_Check_ok {a0 : List GClass} {r : GFault} (hF : ref14_Check a0 = some r) : Abs.Fn Try.prog 18 [.vs 7 (List.map eGClass a0)] [.p (.agg (eGFault r))] := by
  unfold ref14_Check at hF
  refine fn_of_body (n := 45) Try.func18 rfl rfl rfl ?_
  intro w O
  refine aw_seq ?_
  refine aw_region ?_
  refine rgp (op_alloc 0 rfl (ps := (eGFault zGFault)) rfl Try_zer_46 (by exact ⟨rfl, rfl, trivial⟩) rfl rfl) ?_
  refine reg_nil ?_
  refine post_imp (s' := ⟨45, [(0, some (.pv (.vs 7 (List.map eGClass a0)))), (2, some (.lp 0 0))], [(0, some (.box 46 (bxv (eGFault zGFault))))], 1, [], [], 0, []⟩) (imps [0] ⟨by kernel_rfl, by kernel_rfl, trivial⟩ ⟨by kernel_rfl, trivial⟩) ?_
  refine post_next ?_
  iterate 2 (refine aw_seq ?_)
  refine aw_region ?_
  refine ras ?_
  refine reg_nil ?_
  refine post_imp (s' := ⟨45, [(0, some (.pv (.vs 7 (List.map eGClass a0)))), (2, some (.lp 0 0)), (3, some (.pv (.int .i64 0)))], [(0, some (.box 46 (bxv (eGFault zGFault))))], 1, [], [], 0, []⟩) (imps [0] ⟨by kernel_rfl, by kernel_rfl, by kernel_rfl, trivial⟩ ⟨by kernel_rfl, trivial⟩) ?_
  refine post_next ?_
  obtain ⟨lr88, hF, hK89⟩ := bind_some hF
  refine aw_for ((((a0.length : Int) : Int) - (0)).toNat + 1) (fun s1 => ∃ q, lr88 = .next q ∧ s1 = ⟨45, [(2, some (.lp 0 0))], [(0, some (.box 46 (bxv (eGFault zGFault))))], 1, [], [], 0, []⟩) ?_ ?_
  · refine rnd_loop (α := Int) (fun q => ⟨45, [(0, some (.pv (.vs 7 (List.map eGClass a0)))), (2, some (.lp 0 0)), (3, some (.pv (.int .i64 q)))], [(0, some (.box 46 (bxv (eGFault zGFault))))], 1, [], [], 0, []⟩) (fun k q => ref14_Check_L1 a0 k q = some lr88) 0 (imps [0] ⟨by kernel_rfl, by kernel_rfl, by kernel_rfl, trivial⟩ ⟨by kernel_rfl, trivial⟩) hF (fun q h => by cases h) ?_
    clear hF
    rintro k x29 hF ih
    refine rnd_succ ?_
    iterate 2 (refine aw_seq ?_)
    refine aw_region ?_
    iterate 2 (refine rmv ?_)
    refine rgp (op_len_vs (n := a0.length) rfl rfl (List.length_map ..) Try_slc_22 rfl rfl) ?_
    refine rgp (op_int (k := .i64) (m := x29) (n := (a0.length : Int)) rfl rfl rfl rfl rfl rfl) ?_
    refine reg_nil ?_
    refine post_imp (s' := ⟨45, [(0, some (.pv (.vs 7 (List.map eGClass a0)))), (2, some (.lp 0 0)), (3, some (.pv (.int .i64 x29))), (9, some (.pv (.bool (decide (x29 < (a0.length : Int))))))], [(0, some (.box 46 (bxv (eGFault zGFault))))], 1, [], [], 0, []⟩) (imps [0] ⟨by kernel_rfl, by kernel_rfl, by kernel_rfl, by kernel_rfl, trivial⟩ ⟨by kernel_rfl, trivial⟩) ?_
    refine post_next ?_
    rcases ite_some hF with ⟨hb59, hF⟩ | ⟨hb59, hF⟩
    · refine aw_cond_t rfl hb59 ?_
      refine aw_skip ?_
      refine post_next ?_
      refine aw_seq ?_
      refine aw_block ?_
      refine aw_seq ?_
      refine aw_region ?_
      iterate 3 (refine rmv ?_)
      obtain ⟨y64, h65, hF⟩ := bind_some hF
      refine rgp (op_index_vs (k := .i64) rfl rfl rfl (idx_map eGClass h65) Try_slc_22 rfl rfl) ?_
      refine rgp (op_field_vp rfl rfl Try_fld_56_0 rfl rfl) ?_
      refine rgp (op_load_vp (p := .str y64.fName) rfl rfl rfl Try_one_9 rfl rfl) ?_
      obtain ⟨y66, h67, hF⟩ := bind_some hF
      refine rgp (op_call 1 rfl (caps := []) (args := [.vs 7 (List.map eGClass a0), .str y64.fName]) (rs := [.p (.vs 1 (List.map eI y66))]) rfl rfl rfl Try_cal_44 (Fn.frozen (ref14_Chain_ok h67)) rfl rfl rfl) ?_
      refine ras ?_
      refine reg_nil ?_
      refine post_imp (s' := ⟨45, [(0, some (.pv (.vs 7 (List.map eGClass a0)))), (2, some (.lp 0 0)), (3, some (.pv (.int .i64 x29))), (4, some (.pv (.vs 1 (List.map eI y66))))], [(0, some (.box 46 (bxv (eGFault zGFault))))], 1, [], [], 0, []⟩) (imps [0] ⟨by kernel_rfl, by kernel_rfl, by kernel_rfl, by kernel_rfl, trivial⟩ ⟨by kernel_rfl, trivial⟩) ?_
      refine post_next ?_
      refine aw_seq ?_
      refine aw_region ?_
      iterate 3 (refine rmv ?_)
      refine rgp (op_len_vs (n := y66.length) rfl rfl (List.length_map ..) Try_slc_86 rfl rfl) ?_
      refine rgp (op_int (k := .i64) (m := (y66.length : Int)) (n := 1) rfl rfl rfl rfl rfl rfl) ?_
      obtain ⟨y72, h73, hF⟩ := bind_some hF
      refine rgp (op_index_vs (k := .i64) rfl rfl rfl (idx_map eI h73) Try_slc_86 rfl rfl) ?_
      refine rgp (op_load_vp (p := .int .i64 y72) rfl rfl rfl Try_one_3 rfl rfl) ?_
      obtain ⟨y74, h75, hF⟩ := bind_some hF
      refine rgp (op_index_vs (k := .i64) rfl rfl rfl (idx_map eGClass h75) Try_slc_22 rfl rfl) ?_
      refine rgp (op_field_vp rfl rfl Try_fld_56_2 rfl rfl) ?_
      refine rgp (op_load_vp (p := .str y74.fSuper) rfl rfl rfl Try_one_9 rfl rfl) ?_
      refine ras ?_
      refine reg_nil ?_
      refine post_imp (s' := ⟨45, [(0, some (.pv (.vs 7 (List.map eGClass a0)))), (2, some (.lp 0 0)), (3, some (.pv (.int .i64 x29))), (4, some (.pv (.vs 1 (List.map eI y66)))), (5, some (.pv (.str y74.fSuper)))], [(0, some (.box 46 (bxv (eGFault zGFault))))], 1, [], [], 0, []⟩) (imps [0] ⟨by kernel_rfl, by kernel_rfl, by kernel_rfl, by kernel_rfl, by kernel_rfl, trivial⟩ ⟨by kernel_rfl, trivial⟩) ?_
      refine post_next ?_
      refine aw_seq ?_
      obtain ⟨x81, hF, hK83⟩ := bind_some hF
      refine aw_cut (fun s1 => s1 = ⟨45, [(0, some (.pv (.vs 7 (List.map eGClass a0)))), (2, some (.lp 0 0)), (3, some (.pv (.int .i64 x29))), (37, some (.pv (.bool x81)))], [(0, some (.box 46 (bxv (eGFault zGFault))))], 1, [], [], 0, []⟩) ?_ ?_
      · refine aw_region ?_
        refine rmv ?_
        refine rgp (op_str rfl rfl rfl rfl rfl rfl) ?_
        refine rmv ?_
        rcases ite_some hF with ⟨hb76, hF⟩ | ⟨hb76, hF⟩
        · refine rgn hb76 (op_move rfl rfl rfl rfl) ?_
          iterate 2 (refine rgn hb76 (op_move rfl rfl rfl rfl) ?_)
          obtain ⟨y77, h78, hF⟩ := bind_some hF
          refine rgn hb76 (op_call 1 rfl (caps := []) (args := [.vs 7 (List.map eGClass a0), .str y74.fSuper]) (rs := [.p (.int .i64 y77)]) rfl rfl rfl Try_cal_50 (ref13_Find_ok h78) rfl rfl rfl) ?_
          obtain ⟨y79, h80, hF⟩ := bind_some hF
          refine rgn hb76 (op_call 1 rfl (caps := []) (args := [.vs 1 (List.map eI y66), .int .i64 y77]) (rs := [.p (.bool y79)]) rfl rfl rfl Try_cal_49 (ref14_has_ok h80) rfl rfl rfl) ?_
          refine rpt hb76 ?_
          refine reg_nil ?_
          cases hF
          exact post_cut _ rfl (imps [0] ⟨by kernel_rfl, by kernel_rfl, by kernel_rfl, by kernel_rfl, trivial⟩ ⟨by kernel_rfl, trivial⟩)
        iterate 5 (refine rgo_f hb76 ?_)
        refine rpf hb76 ?_
        refine reg_nil ?_
        cases hF
        exact post_cut _ rfl (imps [0] ⟨by kernel_rfl, by kernel_rfl, by kernel_rfl, by kernel_rfl, trivial⟩ ⟨by kernel_rfl, trivial⟩)
      rintro _ rfl
      have hF := hK83
      clear hK83
      refine post_next ?_
      rcases ite_some hF with ⟨hb84, hF⟩ | ⟨hb84, hF⟩
      · refine aw_cond_t rfl hb84 ?_
        refine aw_seq ?_
        refine aw_region ?_
        iterate 2 (refine rmv ?_)
        obtain ⟨y85, h86, hF⟩ := bind_some hF
        refine rgp (op_index_vs (k := .i64) rfl rfl rfl (idx_map eGClass h86) Try_slc_22 rfl rfl) ?_
        refine rgp (op_field_vp rfl rfl Try_fld_56_6 rfl rfl) ?_
        refine rgp (op_load_vp (p := .int .i64 y85.fAt) rfl rfl rfl Try_one_3 rfl rfl) ?_
        refine rgp (op_build (zs := (eGFault zGFault)) (r := eGFault ({ fErr := 9, fAt := y85.fAt } : GFault)) rfl Try_zer_46 (by exact ⟨rfl, rfl, trivial⟩) Try_plc_46 rfl rfl rfl rfl) ?_
        refine rgp (op_store_lp (n := 2) rfl rfl rfl rfl rfl (or_agg Try_agg_46) (by rw [Try_non_46]; rfl) rfl rfl rfl) ?_
        refine reg_nil ?_
        refine post_imp (s' := ⟨45, [(2, some (.lp 0 0))], [(0, some (.box 46 (bxv (eGFault ({ fErr := 9, fAt := y85.fAt } : GFault)))))], 1, [], [], 0, []⟩) (imps [0] ⟨by kernel_rfl, trivial⟩ ⟨by kernel_rfl, trivial⟩) ?_
        refine post_next ?_
        refine aw_ret ?_
        refine post_block_ret ?_
        iterate 2 (refine post_then_ret ?_)
        refine post_lp_ret ?_
        obtain rfl := Option.some.inj hF
        have hF := elim_stop hK89
        refine post_then_ret ?_
        obtain rfl := Option.some.inj hF
        exact post_ret rfl rfl (.cons _ _ _ _ _ (.agg _ _ _ _ _ 2 _ _ rfl rfl Try_agg_46 rfl rfl rfl) (.p _) .nil) (.inl rfl)
      refine aw_cond_f rfl hb84 ?_
      refine aw_skip ?_
      refine post_block_normal ?_
      refine post_next ?_
      refine aw_region ?_
      refine rmv ?_
      refine rgp (op_int (k := .i64) (m := x29) (n := 1) rfl rfl rfl rfl rfl rfl) ?_
      refine ras ?_
      refine reg_nil ?_
      refine post_round ?_
      exact rnd_back (ih (w_i64 (x29 + 1)) hF) (imps [0] ⟨by kernel_rfl, by kernel_rfl, by kernel_rfl, trivial⟩ ⟨by kernel_rfl, trivial⟩)
    refine aw_cond_f rfl hb59 ?_
    refine aw_exit ?_
    iterate 2 (refine post_then_exit ?_)
    obtain rfl := Option.some.inj hF
    exact post_lp_break _ ⟨_, rfl, rfl⟩ (imps [0] ⟨by kernel_rfl, trivial⟩ ⟨by kernel_rfl, trivial⟩)
  rintro _ ⟨⟨⟩, rfl, rfl⟩
  have hF := elim_next hK89
  clear hK89
  refine post_next ?_
  refine aw_seq ?_
  refine aw_region ?_
  refine rgp (op_build (zs := (eGFault zGFault)) (r := eGFault ({ fErr := 0, fAt := 0 } : GFault)) rfl Try_zer_46 (by exact ⟨rfl, rfl, trivial⟩) Try_plc_46 rfl rfl rfl rfl) ?_
  refine rgp (op_store_lp (n := 2) rfl rfl rfl rfl rfl (or_agg Try_agg_46) (by rw [Try_non_46]; rfl) rfl rfl rfl) ?_
  refine reg_nil ?_
  refine post_imp (s' := ⟨45, [(2, some (.lp 0 0))], [(0, some (.box 46 (bxv (eGFault ({ fErr := 0, fAt := 0 } : GFault)))))], 1, [], [], 0, []⟩) (imps [0] ⟨by kernel_rfl, trivial⟩ ⟨by kernel_rfl, trivial⟩) ?_
  refine post_next ?_
  refine aw_ret ?_
  obtain rfl := Option.some.inj hF
  exact post_ret rfl rfl (.cons _ _ _ _ _ (.agg _ _ _ _ _ 2 _ _ rfl rfl Try_agg_46 rfl rfl rfl) (.p _) .nil) (.inl rfl)
theorem above_up_ok {a0 : List GClass} {a1 : List UInt8} {r : (List GClass) × (List UInt8)} (hF : above_up a0 a1 = some r) : Abs.Fn Try.prog 66 [.vs 7 (List.map eGClass a0), .str a1] [.clo 85 [.vp ((eL 7 eGClass) r.1)] 9 [.str r.2] []] := by
  unfold above_up at hF
  refine fn_of_body (n := 6) Try.func66 rfl rfl rfl ?_
  intro w O
  refine aw_seq ?_
  refine aw_region ?_
  refine rgp (op_box 0 rfl rfl rfl rfl rfl rfl) ?_
  refine rgp (op_box 1 rfl rfl rfl rfl rfl rfl) ?_
  refine ras ?_
  refine reg_nil ?_
  refine post_imp (s' := ⟨6, [(2, some (.lp 0 0)), (3, some (.lp 1 0))], [(0, some (.box 22 [.pv (.vs 7 (List.map eGClass a0))])), (1, some (.box 9 [.pv (.str a1)]))], 2, [], [], 0, []⟩) (imps [0, 1] ⟨by kernel_rfl, by kernel_rfl, trivial⟩ ⟨by kernel_rfl, by kernel_rfl, trivial⟩) ?_
  refine post_next ?_
  refine aw_seq ?_
  refine aw_region ?_
  refine rgp (op_makeFunc rfl rfl rfl rfl) ?_
  refine ras ?_
  refine reg_nil ?_
  refine post_imp (s' := ⟨6, [(4, some (.fn 85 [.lp 0 0, .lp 1 0]))], [(0, some (.box 22 [.pv (.vs 7 (List.map eGClass a0))])), (1, some (.box 9 [.pv (.str a1)]))], 2, [], [], 0, []⟩) (imps [0, 1] ⟨by kernel_rfl, trivial⟩ ⟨by kernel_rfl, by kernel_rfl, trivial⟩) ?_
  refine post_next ?_
  refine aw_ret ?_
  refine post_imp (imp_freeze_cap 4 0 [.pv (.vp ((eL 7 eGClass) a0)), .lp 1 0] rfl rfl rfl rfl ⟨.inr ⟨rfl, rfl⟩, .inl rfl, trivial⟩) ?_
  obtain rfl := Option.some.inj hF
  exact post_ret rfl rfl (.cons _ _ _ _ _ (.tmp _ _ rfl) (.clo 85 [.vp ((eL 7 eGClass) a0)] [] 1 9 [.str a1] rfl nolent3) .nil) (.inl rfl)
theorem slices_IndexFunc_api_Class_ok {a0 : List GClass} {q1 : GClass → Option Bool} {r : Int} {q1_f : Nat} {q1_c : List PV} (q1_b : callB Try.prog q1_f = true) (q1_h : ∀ (x0 : GClass) (r : Bool), q1 x0 = some r → Abs.Fn Try.prog q1_f ([.agg (eGClass x0)] ++ q1_c) [.p (.bool r)]) (hF : slices_IndexFunc_api_Class a0 q1 = some r) : Abs.Fn Try.prog 100 [.vs 7 (List.map eGClass a0), .fn q1_f q1_c] [.p (.int .i64 r)] := by
  unfold slices_IndexFunc_api_Class at hF
  refine fn_of_body (n := 19) Try.func100 rfl rfl rfl ?_
  intro w O
  refine aw_seq ?_
  refine aw_region ?_
  refine ras ?_
  refine reg_nil ?_
  refine post_imp (s' := ⟨19, [(0, some (.pv (.vs 7 (List.map eGClass a0)))), (1, some (.pv (.fn q1_f q1_c)))], [], 0, [], [], 0, []⟩) (imps [] ⟨by kernel_rfl, by kernel_rfl, trivial⟩ trivial) ?_
  refine post_next ?_
  iterate 2 (refine aw_seq ?_)
  refine aw_region ?_
  refine rmv ?_
  refine rgp (op_len_vs (n := a0.length) rfl rfl (List.length_map ..) Try_slc_22 rfl rfl) ?_
  refine rmv ?_
  refine reg_nil ?_
  refine post_imp (s' := ⟨19, [(0, some (.pv (.vs 7 (List.map eGClass a0)))), (1, some (.pv (.fn q1_f q1_c))), (7, some (.pv (.int .i64 (a0.length : Int)))), (8, some (.pv (.int .i64 0)))], [], 0, [], [], 0, []⟩) (imps [] ⟨by kernel_rfl, by kernel_rfl, by kernel_rfl, by kernel_rfl, trivial⟩ trivial) ?_
  refine post_next ?_
  obtain ⟨lr34, hF, hK35⟩ := bind_some hF
  refine aw_for ((((a0.length : Int) : Int) - (0)).toNat + 1) (fun s1 => ∃ q, lr34 = .next q ∧ s1 = ⟨19, [], [], 0, [], [], 0, []⟩) ?_ ?_
  · refine rnd_loop (α := Int) (fun q => ⟨19, [(0, some (.pv (.vs 7 (List.map eGClass a0)))), (1, some (.pv (.fn q1_f q1_c))), (7, some (.pv (.int .i64 (a0.length : Int)))), (8, some (.pv (.int .i64 q)))], [], 0, [], [], 0, []⟩) (fun k q => slices_IndexFunc_api_Class_L1 a0 q1 k q = some lr34) 0 (imps [] ⟨by kernel_rfl, by kernel_rfl, by kernel_rfl, by kernel_rfl, trivial⟩ trivial) hF (fun q h => by cases h) ?_
    clear hF
    rintro k x11 hF ih
    refine rnd_succ ?_
    refine aw_seq ?_
    refine aw_region ?_
    refine rgp (op_int (k := .i64) (m := x11) (n := (a0.length : Int)) rfl rfl rfl rfl rfl rfl) ?_
    refine reg_nil ?_
    refine post_imp (s' := ⟨19, [(0, some (.pv (.vs 7 (List.map eGClass a0)))), (1, some (.pv (.fn q1_f q1_c))), (7, some (.pv (.int .i64 (a0.length : Int)))), (8, some (.pv (.int .i64 x11))), (9, some (.pv (.bool (decide (x11 < (a0.length : Int))))))], [], 0, [], [], 0, []⟩) (imps [] ⟨by kernel_rfl, by kernel_rfl, by kernel_rfl, by kernel_rfl, by kernel_rfl, trivial⟩ trivial) ?_
    refine post_next ?_
    refine aw_seq ?_
    rcases ite_some hF with ⟨hb23, hF⟩ | ⟨hb23, hF⟩
    · refine aw_cond_t rfl hb23 ?_
      refine aw_skip ?_
      refine post_next ?_
      refine aw_seq ?_
      refine aw_block ?_
      refine aw_seq ?_
      refine aw_region ?_
      refine rmv ?_
      refine ras ?_
      refine reg_nil ?_
      refine post_imp (s' := ⟨19, [(0, some (.pv (.vs 7 (List.map eGClass a0)))), (1, some (.pv (.fn q1_f q1_c))), (5, some (.pv (.int .i64 x11))), (7, some (.pv (.int .i64 (a0.length : Int)))), (8, some (.pv (.int .i64 x11)))], [], 0, [], [], 0, []⟩) (imps [] ⟨by kernel_rfl, by kernel_rfl, by kernel_rfl, by kernel_rfl, by kernel_rfl, trivial⟩ trivial) ?_
      refine post_next ?_
      refine aw_seq ?_
      refine aw_region ?_
      iterate 3 (refine rmv ?_)
      obtain ⟨y28, h29, hF⟩ := bind_some hF
      refine rgp (op_index_vs (k := .i64) rfl rfl rfl (idx_map eGClass h29) Try_slc_22 rfl rfl) ?_
      refine rgp (op_load_vp_agg (ps := eGClass y28) rfl rfl rfl rfl Try_agg_56 rfl rfl) ?_
      obtain ⟨y30, h31, hF⟩ := bind_some hF
      refine rgp (op_call 0 rfl (caps := q1_c) (args := [.agg (eGClass y28)]) (rs := [.p (.bool y30)]) rfl rfl rfl q1_b (q1_h y28 _ h31) rfl rfl rfl) ?_
      refine reg_nil ?_
      refine post_imp (s' := ⟨19, [(0, some (.pv (.vs 7 (List.map eGClass a0)))), (1, some (.pv (.fn q1_f q1_c))), (5, some (.pv (.int .i64 x11))), (7, some (.pv (.int .i64 (a0.length : Int)))), (8, some (.pv (.int .i64 x11))), (16, some (.pv (.bool y30)))], [], 0, [], [], 0, []⟩) (imps [] ⟨by kernel_rfl, by kernel_rfl, by kernel_rfl, by kernel_rfl, by kernel_rfl, by kernel_rfl, trivial⟩ trivial) ?_
      refine post_next ?_
      rcases ite_some hF with ⟨hb32, hF⟩ | ⟨hb32, hF⟩
      · refine aw_cond_t rfl hb32 ?_
        refine aw_seq ?_
        refine aw_region ?_
        refine rmv ?_
        refine ras ?_
        refine reg_nil ?_
        refine post_imp (s' := ⟨19, [(4, some (.pv (.int .i64 x11)))], [], 0, [], [], 0, []⟩) (imps [] ⟨by kernel_rfl, trivial⟩ trivial) ?_
        refine post_next ?_
        refine aw_ret ?_
        refine post_block_ret ?_
        iterate 2 (refine post_then_ret ?_)
        refine post_lp_ret ?_
        obtain rfl := Option.some.inj hF
        have hF := elim_stop hK35
        refine post_then_ret ?_
        obtain rfl := Option.some.inj hF
        exact prt
      refine aw_cond_f rfl hb32 ?_
      refine aw_skip ?_
      refine post_block_normal ?_
      refine post_next ?_
      refine aw_region ?_
      refine rgp (op_int (k := .i64) (m := x11) (n := 1) rfl rfl rfl rfl rfl rfl) ?_
      refine rmv ?_
      refine reg_nil ?_
      refine post_round ?_
      exact rnd_back (ih (w_i64 (x11 + 1)) hF) (imps [] ⟨by kernel_rfl, by kernel_rfl, by kernel_rfl, by kernel_rfl, trivial⟩ trivial)
    refine aw_cond_f rfl hb23 ?_
    refine aw_exit ?_
    iterate 2 (refine post_then_exit ?_)
    obtain rfl := Option.some.inj hF
    exact post_lp_break _ ⟨_, rfl, rfl⟩ (imps [] trivial trivial)
  rintro _ ⟨⟨⟩, rfl, rfl⟩
  have hF := elim_next hK35
  clear hK35
  refine post_next ?_
  refine aw_seq ?_
  refine aw_region ?_
  refine ras ?_
  refine reg_nil ?_
  refine post_imp (s' := ⟨19, [(4, some (.pv (.int .i64 (-1))))], [], 0, [], [], 0, []⟩) (imps [] ⟨by kernel_rfl, trivial⟩ trivial) ?_
  refine post_next ?_
  refine aw_ret ?_
  obtain rfl := Option.some.inj hF
  exact prt
theorem table_Find_1_ok {a0 : GClass} {c0 : List UInt8} {r : Bool} (hF : table_Find_1 a0 c0 = some r) : Abs.Fn Try.prog 101 [.agg (eGClass a0), .vp (eS c0)] [.p (.bool r)] := by
  unfold table_Find_1 at hF
  refine fn_of_body (n := 8) Try.func101 rfl rfl rfl ?_
  intro w O
  refine aw_seq ?_
  refine aw_region ?_
  refine rgp (op_box 0 rfl rfl rfl rfl rfl rfl) ?_
  refine ras ?_
  refine reg_nil ?_
  refine post_imp (s' := ⟨8, [(1, some (.pv (.vp (eS c0)))), (2, some (.lp 0 0))], [(0, some (.box 56 (bxv (eGClass a0))))], 1, [], [], 0, []⟩) (imps [0] ⟨by kernel_rfl, by kernel_rfl, trivial⟩ ⟨by kernel_rfl, trivial⟩) ?_
  refine post_next ?_
  refine aw_seq ?_
  refine aw_region ?_
  refine rgp (op_field_lp rfl rfl Try_fld_56_0 rfl rfl) ?_
  refine rgp (op_load_lp (v := .pv (.str a0.fName)) rfl rfl rfl rfl Try_one_9 rfl rfl) ?_
  refine rgp (op_load_vp (p := .str c0) rfl rfl rfl Try_one_9 rfl rfl) ?_
  refine rgp (op_str rfl rfl rfl rfl rfl rfl) ?_
  refine ras ?_
  refine reg_nil ?_
  refine post_imp (s' := ⟨8, [(3, some (.pv (.bool (a0.fName == c0))))], [], 0, [], [], 0, []⟩) (imps [] ⟨by kernel_rfl, trivial⟩ trivial) ?_
  refine post_next ?_
  refine aw_ret ?_
  obtain rfl := Option.some.inj hF
  exact prt
theorem table_Find_ok {a0 : List GClass} {a1 : List UInt8} {r : Int} (hF : table_Find a0 a1 = some r) : Abs.Fn Try.prog 86 [.vs 7 (List.map eGClass a0), .str a1] [.p (.int .i64 r)] := by
  unfold table_Find at hF
  refine fn_of_body (n := 8) Try.func86 rfl rfl rfl ?_
  intro w O
  refine aw_seq ?_
  refine aw_region ?_
  refine rgp (op_box 0 rfl rfl rfl rfl rfl rfl) ?_
  refine ras ?_
  refine reg_nil ?_
  refine post_imp (s' := ⟨8, [(0, some (.pv (.vs 7 (List.map eGClass a0)))), (3, some (.lp 0 0))], [(0, some (.box 9 [.pv (.str a1)]))], 1, [], [], 0, []⟩) (imps [0] ⟨by kernel_rfl, by kernel_rfl, trivial⟩ ⟨by kernel_rfl, trivial⟩) ?_
  refine post_next ?_
  refine aw_seq ?_
  refine aw_region ?_
  refine rmv ?_
  refine rgp (op_makeFunc rfl rfl rfl rfl) ?_
  obtain ⟨y2, h3, hF⟩ := bind_some hF
  refine rgp (op_callB 1 rfl (caps := []) (args := [.vs 7 (List.map eGClass a0), .fn 101 [.vp (eS a1)]]) [(0, some (.box 9 [.pv (.str a1)]))] rfl rfl rfl (FzH.spec ⟨rfl, trivial⟩) rfl rfl Try_cal_100 (slices_IndexFunc_api_Class_ok (q1_f := 101) (q1_c := [.vp (eS a1)]) (q1_b := Try_cal_101) (q1_h := fun _ r h => (table_Find_1_ok h)) h3) rfl rfl rfl) ?_
  refine ras ?_
  refine reg_nil ?_
  refine post_imp (s' := ⟨8, [(4, some (.pv (.int .i64 y2)))], [], 0, [], [], 0, []⟩) (imps [] ⟨by kernel_rfl, trivial⟩ trivial) ?_
  refine post_next ?_
  refine aw_ret ?_
  obtain rfl := Option.some.inj hF
  exact prt
theorem above_up_1_it {rows : List (Int)} {sp : Nat} {c0 : List GClass} {c1 : List UInt8} (hF : above_up_1 rows sp c0 c1 = some (min (sp + 1) rows.length)) : It Try.prog 85 1 [.vp ((eL 7 eGClass) c0)] (some (9, [.str c1])) [] (rows.map (fun z : Int => ([.int .i64 z] : List PV))) sp := by
  unfold above_up_1 at hF
  refine it_of_body (n := 29) Try.func85 rfl rfl rfl ?_
  intro l c hcx
  refine aw_seq ?_
  refine aw_region ?_
  refine rgp (op_load_vp (p := .vs 7 (List.map eGClass c0)) rfl rfl rfl Try_one_22 rfl rfl) ?_
  refine rgp (op_len_vs (n := c0.length) rfl rfl (List.length_map ..) Try_slc_22 rfl rfl) ?_
  refine rgp (op_int (k := .i64) (m := (c0.length : Int)) (n := 1) rfl rfl rfl rfl rfl rfl) ?_
  refine rmv ?_
  refine reg_nil ?_
  refine post_imp (s' := ⟨29, [(0, some (.pv (.yld l))), (1, some (.pv (.vp ((eL 7 eGClass) c0)))), (2, some (.lp 0 0)), (7, some (.pv (.int .i64 (w_i64 ((c0.length : Int) + 1))))), (8, some (.pv (.int .i64 0)))], [(0, some (.box 9 [.pv (.str c1)]))], 1, [], [], 0, []⟩) (imps [0] ⟨by kernel_rfl, by kernel_rfl, by kernel_rfl, by kernel_rfl, by kernel_rfl, trivial⟩ ⟨by kernel_rfl, trivial⟩) ?_
  refine post_next ?_
  obtain ⟨lr65, hF, hK66⟩ := bind_some hF
  refine aw_for ((((w_i64 ((c0.length : Int) + 1)) : Int) - (0)).toNat + 1) (fun s1 => ∃ q, lr65 = .next q ∧ s1 = ⟨29, [], [], 0, [], [], q, []⟩) ?_ ?_
  · refine rnd_loop (α := Nat × (List UInt8) × Int) (fun q => ⟨29, [(0, some (.pv (.yld l))), (1, some (.pv (.vp ((eL 7 eGClass) c0)))), (2, some (.lp 0 0)), (7, some (.pv (.int .i64 (w_i64 ((c0.length : Int) + 1))))), (8, some (.pv (.int .i64 q.2.2)))], [(0, some (.box 9 [.pv (.str q.2.1)]))], 1, [], [], q.1, []⟩) (fun k q => above_up_1_L1 c0 sp rows k q.1 q.2.1 q.2.2 = some lr65) (0, c1, 0) (imps [0] ⟨by kernel_rfl, by kernel_rfl, by kernel_rfl, by kernel_rfl, by kernel_rfl, trivial⟩ ⟨by kernel_rfl, trivial⟩) hF (fun q h => by cases h) ?_
    clear hF
    rintro k ⟨x19, x20, x21⟩ hF ih
    refine rnd_succ ?_
    refine aw_seq ?_
    refine aw_region ?_
    refine rgp (op_int (k := .i64) (m := x21) (n := w_i64 ((c0.length : Int) + 1)) rfl rfl rfl rfl rfl rfl) ?_
    refine reg_nil ?_
    refine post_imp (s' := ⟨29, [(0, some (.pv (.yld l))), (1, some (.pv (.vp ((eL 7 eGClass) c0)))), (2, some (.lp 0 0)), (7, some (.pv (.int .i64 (w_i64 ((c0.length : Int) + 1))))), (8, some (.pv (.int .i64 x21))), (9, some (.pv (.bool (decide (x21 < (w_i64 ((c0.length : Int) + 1)))))))], [(0, some (.box 9 [.pv (.str x20)]))], 1, [], [], x19, []⟩) (imps [0] ⟨by kernel_rfl, by kernel_rfl, by kernel_rfl, by kernel_rfl, by kernel_rfl, by kernel_rfl, trivial⟩ ⟨by kernel_rfl, trivial⟩) ?_
    refine post_next ?_
    refine aw_seq ?_
    rcases ite_some hF with ⟨hb43, hF⟩ | ⟨hb43, hF⟩
    · refine aw_cond_t rfl hb43 ?_
      refine aw_skip ?_
      refine post_next ?_
      refine aw_seq ?_
      refine aw_block ?_
      refine aw_seq ?_
      refine aw_region ?_
      refine rgp (op_load_vp (p := .vs 7 (List.map eGClass c0)) rfl rfl rfl Try_one_22 rfl rfl) ?_
      refine rgp (op_load_lp (v := .pv (.str x20)) rfl rfl rfl rfl Try_one_9 rfl rfl) ?_
      obtain ⟨y46, h47, hF⟩ := bind_some hF
      refine rgp (op_call 1 rfl (caps := []) (args := [.vs 7 (List.map eGClass c0), .str x20]) (rs := [.p (.int .i64 y46)]) rfl rfl rfl Try_cal_86 (table_Find_ok h47) rfl rfl rfl) ?_
      refine ras ?_
      refine reg_nil ?_
      refine post_imp (s' := ⟨29, [(0, some (.pv (.yld l))), (1, some (.pv (.vp ((eL 7 eGClass) c0)))), (2, some (.lp 0 0)), (4, some (.pv (.int .i64 y46))), (7, some (.pv (.int .i64 (w_i64 ((c0.length : Int) + 1))))), (8, some (.pv (.int .i64 x21)))], [(0, some (.box 9 [.pv (.str x20)]))], 1, [], [], x19, []⟩) (imps [0] ⟨by kernel_rfl, by kernel_rfl, by kernel_rfl, by kernel_rfl, by kernel_rfl, by kernel_rfl, trivial⟩ ⟨by kernel_rfl, trivial⟩) ?_
      refine post_next ?_
      iterate 2 (refine aw_seq ?_)
      obtain ⟨p53, hF, hK54⟩ := bind_some hF
      obtain ⟨x51, x52⟩ := p53
      refine aw_cut (fun s1 => s1 = ⟨29, [(0, some (.pv (.yld l))), (1, some (.pv (.vp ((eL 7 eGClass) c0)))), (2, some (.lp 0 0)), (4, some (.pv (.int .i64 y46))), (7, some (.pv (.int .i64 (w_i64 ((c0.length : Int) + 1))))), (8, some (.pv (.int .i64 x21))), (20, some (.pv (.bool x52)))], [(0, some (.box 9 [.pv (.str x20)]))], 1, [], [], x51, []⟩) ?_ ?_
      · refine aw_region ?_
        refine rmv ?_
        refine rgp (op_int (k := .i64) (m := y46) (n := 0) rfl rfl rfl rfl rfl rfl) ?_
        refine rmv ?_
        rcases ite_some hF with ⟨hb48, hF⟩ | ⟨hb48, hF⟩
        · refine rgo_t hb48 ?_
          iterate 3 (refine rgo_t hb48 ?_)
          refine rpt hb48 ?_
          refine reg_nil ?_
          cases hF
          exact post_cut _ rfl (imps [0] ⟨by kernel_rfl, by kernel_rfl, by kernel_rfl, by kernel_rfl, by kernel_rfl, by kernel_rfl, by kernel_rfl, trivial⟩ ⟨by kernel_rfl, trivial⟩)
        iterate 2 (refine rgn hb48 (op_move rfl rfl rfl rfl) ?_)
        obtain ⟨u49, h50, hF⟩ := bind_some hF
        refine rgn hb48 (op_yield (row := (fun z : Int => ([.int .i64 z] : List PV)) y46) hcx rfl rfl rfl rfl (yck_row (fun z : Int => ([.int .i64 z] : List PV)) h50) (yck_spec h50).2 rfl rfl) ?_
        refine rgn hb48 (op_not rfl rfl rfl rfl) ?_
        refine rpf hb48 ?_
        refine reg_nil ?_
        cases hF
        exact post_cut _ rfl (imps [0] ⟨by kernel_rfl, by kernel_rfl, by kernel_rfl, by kernel_rfl, by kernel_rfl, by kernel_rfl, by kernel_rfl, trivial⟩ ⟨by kernel_rfl, trivial⟩)
      rintro _ rfl
      have hF := hK54
      clear hK54
      refine post_next ?_
      rcases ite_some hF with ⟨hb55, hF⟩ | ⟨hb55, hF⟩
      · refine aw_cond_t rfl hb55 ?_
        refine aw_ret ?_
        refine post_then_ret ?_
        refine post_block_ret ?_
        iterate 2 (refine post_then_ret ?_)
        refine post_lp_ret ?_
        obtain rfl := Option.some.inj hF
        have hF := elim_stop hK66
        exact post_it (it_len hF) rfl (.inl rfl)
      refine aw_cond_f rfl hb55 ?_
      refine aw_skip ?_
      refine post_next ?_
      refine aw_seq ?_
      refine aw_region ?_
      refine rgp (op_load_vp (p := .vs 7 (List.map eGClass c0)) rfl rfl rfl Try_one_22 rfl rfl) ?_
      refine rmv ?_
      obtain ⟨y58, h59, hF⟩ := bind_some hF
      refine rgp (op_index_vs (k := .i64) rfl rfl rfl (idx_map eGClass h59) Try_slc_22 rfl rfl) ?_
      refine rgp (op_field_vp rfl rfl Try_fld_56_2 rfl rfl) ?_
      refine rgp (op_load_vp (p := .str y58.fSuper) rfl rfl rfl Try_one_9 rfl rfl) ?_
      refine rgp (op_store_lp (n := 1) rfl rfl rfl rfl rfl (or_one Try_one_9) (by rw [Try_one_9]; rfl) rfl rfl rfl) ?_
      refine reg_nil ?_
      refine post_imp (s' := ⟨29, [(0, some (.pv (.yld l))), (1, some (.pv (.vp ((eL 7 eGClass) c0)))), (2, some (.lp 0 0)), (7, some (.pv (.int .i64 (w_i64 ((c0.length : Int) + 1))))), (8, some (.pv (.int .i64 x21)))], [(0, some (.box 9 [.pv (.str y58.fSuper)]))], 1, [], [], x51, []⟩) (imps [0] ⟨by kernel_rfl, by kernel_rfl, by kernel_rfl, by kernel_rfl, by kernel_rfl, trivial⟩ ⟨by kernel_rfl, trivial⟩) ?_
      refine post_next ?_
      refine aw_seq ?_
      refine aw_region ?_
      refine rgp (op_load_lp (v := .pv (.str y58.fSuper)) rfl rfl rfl rfl Try_one_9 rfl rfl) ?_
      refine rgp (op_str rfl rfl rfl rfl rfl rfl) ?_
      refine reg_nil ?_
      refine post_imp (s' := ⟨29, [(0, some (.pv (.yld l))), (1, some (.pv (.vp ((eL 7 eGClass) c0)))), (2, some (.lp 0 0)), (7, some (.pv (.int .i64 (w_i64 ((c0.length : Int) + 1))))), (8, some (.pv (.int .i64 x21))), (27, some (.pv (.bool (y58.fSuper == []))))], [(0, some (.box 9 [.pv (.str y58.fSuper)]))], 1, [], [], x51, []⟩) (imps [0] ⟨by kernel_rfl, by kernel_rfl, by kernel_rfl, by kernel_rfl, by kernel_rfl, by kernel_rfl, trivial⟩ ⟨by kernel_rfl, trivial⟩) ?_
      refine post_next ?_
      rcases ite_some hF with ⟨hb60, hF⟩ | ⟨hb60, hF⟩
      · refine aw_cond_t rfl hb60 ?_
        refine aw_ret ?_
        refine post_block_ret ?_
        iterate 2 (refine post_then_ret ?_)
        refine post_lp_ret ?_
        obtain rfl := Option.some.inj hF
        have hF := elim_stop hK66
        exact post_it (it_len hF) rfl (.inl rfl)
      refine aw_cond_f rfl hb60 ?_
      refine aw_skip ?_
      refine post_block_normal ?_
      refine post_next ?_
      refine aw_region ?_
      refine rgp (op_int (k := .i64) (m := x21) (n := 1) rfl rfl rfl rfl rfl rfl) ?_
      refine rmv ?_
      refine reg_nil ?_
      refine post_round ?_
      exact rnd_back (ih (x51, y58.fSuper, w_i64 (x21 + 1)) hF) (imps [0] ⟨by kernel_rfl, by kernel_rfl, by kernel_rfl, by kernel_rfl, by kernel_rfl, trivial⟩ ⟨by kernel_rfl, trivial⟩)
    refine aw_cond_f rfl hb43 ?_
    refine aw_exit ?_
    iterate 2 (refine post_then_exit ?_)
    obtain rfl := Option.some.inj hF
    exact post_lp_break _ ⟨_, rfl, rfl⟩ (imps [] trivial trivial)
  rintro _ ⟨x64, rfl, rfl⟩
  have hF := elim_next hK66
  clear hK66
  exact post_it (it_len hF) rfl (.inr rfl)

theorem slices_Index_int_ok {a0 : List Int} {a1 : Int} {r : Int} (hF : slices_Index_int a0 a1 = some r) : Abs.Fn Try.prog 87 [.vs 1 (List.map eI a0), .int .i64 a1] [.p (.int .i64 r)] := by
  unfold slices_Index_int at hF
  refine fn_of_body (n := 19) Try.func87 rfl rfl rfl ?_
  intro w O
  refine aw_seq ?_
  refine aw_region ?_
  refine ras ?_
  refine reg_nil ?_
  refine post_imp (s' := ⟨19, [(0, some (.pv (.vs 1 (List.map eI a0)))), (1, some (.pv (.int .i64 a1)))], [], 0, [], [], 0, []⟩) (imps [] ⟨by kernel_rfl, by kernel_rfl, trivial⟩ trivial) ?_
  refine post_next ?_
  iterate 2 (refine aw_seq ?_)
  refine aw_region ?_
  refine rmv ?_
  refine rgp (op_len_vs (n := a0.length) rfl rfl (List.length_map ..) Try_slc_86 rfl rfl) ?_
  refine rmv ?_
  refine reg_nil ?_
  refine post_imp (s' := ⟨19, [(0, some (.pv (.vs 1 (List.map eI a0)))), (1, some (.pv (.int .i64 a1))), (7, some (.pv (.int .i64 (a0.length : Int)))), (8, some (.pv (.int .i64 0)))], [], 0, [], [], 0, []⟩) (imps [] ⟨by kernel_rfl, by kernel_rfl, by kernel_rfl, by kernel_rfl, trivial⟩ trivial) ?_
  refine post_next ?_
  obtain ⟨lr22, hF, hK23⟩ := bind_some hF
  refine aw_for ((((a0.length : Int) : Int) - (0)).toNat + 1) (fun s1 => ∃ q, lr22 = .next q ∧ s1 = ⟨19, [], [], 0, [], [], 0, []⟩) ?_ ?_
  · refine rnd_loop (α := Int) (fun q => ⟨19, [(0, some (.pv (.vs 1 (List.map eI a0)))), (1, some (.pv (.int .i64 a1))), (7, some (.pv (.int .i64 (a0.length : Int)))), (8, some (.pv (.int .i64 q)))], [], 0, [], [], 0, []⟩) (fun k q => slices_Index_int_L1 a0 a1 k q = some lr22) 0 (imps [] ⟨by kernel_rfl, by kernel_rfl, by kernel_rfl, by kernel_rfl, trivial⟩ trivial) hF (fun q h => by cases h) ?_
    clear hF
    rintro k x7 hF ih
    refine rnd_succ ?_
    refine aw_seq ?_
    refine aw_region ?_
    refine rgp (op_int (k := .i64) (m := x7) (n := (a0.length : Int)) rfl rfl rfl rfl rfl rfl) ?_
    refine reg_nil ?_
    refine post_imp (s' := ⟨19, [(0, some (.pv (.vs 1 (List.map eI a0)))), (1, some (.pv (.int .i64 a1))), (7, some (.pv (.int .i64 (a0.length : Int)))), (8, some (.pv (.int .i64 x7))), (9, some (.pv (.bool (decide (x7 < (a0.length : Int))))))], [], 0, [], [], 0, []⟩) (imps [] ⟨by kernel_rfl, by kernel_rfl, by kernel_rfl, by kernel_rfl, by kernel_rfl, trivial⟩ trivial) ?_
    refine post_next ?_
    refine aw_seq ?_
    rcases ite_some hF with ⟨hb15, hF⟩ | ⟨hb15, hF⟩
    · refine aw_cond_t rfl hb15 ?_
      refine aw_skip ?_
      refine post_next ?_
      refine aw_seq ?_
      refine aw_block ?_
      refine aw_seq ?_
      refine aw_region ?_
      refine rmv ?_
      refine ras ?_
      refine reg_nil ?_
      refine post_imp (s' := ⟨19, [(0, some (.pv (.vs 1 (List.map eI a0)))), (1, some (.pv (.int .i64 a1))), (5, some (.pv (.int .i64 x7))), (7, some (.pv (.int .i64 (a0.length : Int)))), (8, some (.pv (.int .i64 x7)))], [], 0, [], [], 0, []⟩) (imps [] ⟨by kernel_rfl, by kernel_rfl, by kernel_rfl, by kernel_rfl, by kernel_rfl, trivial⟩ trivial) ?_
      refine post_next ?_
      refine aw_seq ?_
      refine aw_region ?_
      iterate 3 (refine rmv ?_)
      obtain ⟨y18, h19, hF⟩ := bind_some hF
      refine rgp (op_index_vs (k := .i64) rfl rfl rfl (idx_map eI h19) Try_slc_86 rfl rfl) ?_
      refine rgp (op_load_vp (p := .int .i64 y18) rfl rfl rfl Try_one_3 rfl rfl) ?_
      refine rgp (op_int (k := .i64) (m := a1) (n := y18) rfl rfl rfl rfl rfl rfl) ?_
      refine reg_nil ?_
      refine post_imp (s' := ⟨19, [(0, some (.pv (.vs 1 (List.map eI a0)))), (1, some (.pv (.int .i64 a1))), (5, some (.pv (.int .i64 x7))), (7, some (.pv (.int .i64 (a0.length : Int)))), (8, some (.pv (.int .i64 x7))), (16, some (.pv (.bool (a1 == y18))))], [], 0, [], [], 0, []⟩) (imps [] ⟨by kernel_rfl, by kernel_rfl, by kernel_rfl, by kernel_rfl, by kernel_rfl, by kernel_rfl, trivial⟩ trivial) ?_
      refine post_next ?_
      rcases ite_some hF with ⟨hb20, hF⟩ | ⟨hb20, hF⟩
      · refine aw_cond_t rfl hb20 ?_
        refine aw_seq ?_
        refine aw_region ?_
        refine rmv ?_
        refine ras ?_
        refine reg_nil ?_
        refine post_imp (s' := ⟨19, [(4, some (.pv (.int .i64 x7)))], [], 0, [], [], 0, []⟩) (imps [] ⟨by kernel_rfl, trivial⟩ trivial) ?_
        refine post_next ?_
        refine aw_ret ?_
        refine post_block_ret ?_
        iterate 2 (refine post_then_ret ?_)
        refine post_lp_ret ?_
        obtain rfl := Option.some.inj hF
        have hF := elim_stop hK23
        refine post_then_ret ?_
        obtain rfl := Option.some.inj hF
        exact prt
      refine aw_cond_f rfl hb20 ?_
      refine aw_skip ?_
      refine post_block_normal ?_
      refine post_next ?_
      refine aw_region ?_
      refine rgp (op_int (k := .i64) (m := x7) (n := 1) rfl rfl rfl rfl rfl rfl) ?_
      refine rmv ?_
      refine reg_nil ?_
      refine post_round ?_
      exact rnd_back (ih (w_i64 (x7 + 1)) hF) (imps [] ⟨by kernel_rfl, by kernel_rfl, by kernel_rfl, by kernel_rfl, trivial⟩ trivial)
    refine aw_cond_f rfl hb15 ?_
    refine aw_exit ?_
    iterate 2 (refine post_then_exit ?_)
    obtain rfl := Option.some.inj hF
    exact post_lp_break _ ⟨_, rfl, rfl⟩ (imps [] trivial trivial)
  rintro _ ⟨⟨⟩, rfl, rfl⟩
  have hF := elim_next hK23
  clear hK23
  refine post_next ?_
  refine aw_seq ?_
  refine aw_region ?_
  refine ras ?_
  refine reg_nil ?_
  refine post_imp (s' := ⟨19, [(4, some (.pv (.int .i64 (-1))))], [], 0, [], [], 0, []⟩) (imps [] ⟨by kernel_rfl, trivial⟩ trivial) ?_
  refine post_next ?_
  refine aw_ret ?_
  obtain rfl := Option.some.inj hF
  exact prt
theorem slices_Contains_int_ok {a0 : List Int} {a1 : Int} {r : Bool} (hF : slices_Contains_int a0 a1 = some r) : Abs.Fn Try.prog 67 [.vs 1 (List.map eI a0), .int .i64 a1] [.p (.bool r)] := by
  unfold slices_Contains_int at hF
  refine fn_of_body (n := 9) Try.func67 rfl rfl rfl ?_
  intro w O
  refine aw_seq ?_
  refine aw_region ?_
  refine ras ?_
  refine reg_nil ?_
  refine post_imp (s' := ⟨9, [(0, some (.pv (.vs 1 (List.map eI a0)))), (1, some (.pv (.int .i64 a1)))], [], 0, [], [], 0, []⟩) (imps [] ⟨by kernel_rfl, by kernel_rfl, trivial⟩ trivial) ?_
  refine post_next ?_
  refine aw_seq ?_
  refine aw_region ?_
  iterate 2 (refine rmv ?_)
  obtain ⟨y1, h2, hF⟩ := bind_some hF
  refine rgp (op_call 0 rfl (caps := []) (args := [.vs 1 (List.map eI a0), .int .i64 a1]) (rs := [.p (.int .i64 y1)]) rfl rfl rfl Try_cal_87 (slices_Index_int_ok h2) rfl rfl rfl) ?_
  refine rgp (op_int (k := .i64) (m := y1) (n := 0) rfl rfl rfl rfl rfl rfl) ?_
  refine ras ?_
  refine reg_nil ?_
  refine post_imp (s' := ⟨9, [(4, some (.pv (.bool (decide (y1 ≥ 0)))))], [], 0, [], [], 0, []⟩) (imps [] ⟨by kernel_rfl, trivial⟩ trivial) ?_
  refine post_next ?_
  refine aw_ret ?_
  obtain rfl := Option.some.inj hF
  exact prt
theorem above_Chain_ok {a0 : List GClass} {a1 : List UInt8} {r : (List Int)} (hF : above_Chain a0 a1 = some r) : Abs.Fn Try.prog 42 [.vs 7 (List.map eGClass a0), .str a1] [.own 3 1 (List.map eI r)] := by
  unfold above_Chain at hF
  refine fn_of_body (n := 19) Try.func42 rfl rfl rfl ?_
  intro w O
  refine aw_seq ?_
  refine aw_region ?_
  refine ras ?_
  refine reg_nil ?_
  refine post_imp (s' := ⟨19, [(0, some (.pv (.vs 7 (List.map eGClass a0)))), (1, some (.pv (.str a1)))], [], 0, [], [], 0, []⟩) (imps [] ⟨by kernel_rfl, by kernel_rfl, trivial⟩ trivial) ?_
  refine post_next ?_
  refine aw_seq ?_
  refine aw_region ?_
  refine rgp (op_alloc 0 rfl (ps := [.nils]) rfl Try_zer_86 (by exact ⟨rfl, trivial⟩) rfl rfl) ?_
  refine reg_imp (imp_nil_box 0 0 86 3 1 1 rfl rfl rfl) ?_
  refine reg_nil ?_
  refine post_imp (s' := ⟨19, [(0, some (.pv (.vs 7 (List.map eGClass a0)))), (1, some (.pv (.str a1))), (5, some (.lp 0 0))], [(0, some (.box 86 [.ls 1])), (1, some (.row 3 1 (List.map eI [])))], 2, [], [], 0, []⟩) (imps [0, 1] ⟨by kernel_rfl, by kernel_rfl, by kernel_rfl, trivial⟩ ⟨by kernel_rfl, by kernel_rfl, trivial⟩) ?_
  refine post_next ?_
  iterate 2 (refine aw_seq ?_)
  refine aw_region ?_
  iterate 2 (refine rmv ?_)
  obtain ⟨y3, h4, hF⟩ := bind_some hF
  refine rgp (op_call 2 rfl (caps := []) (args := [.vs 7 (List.map eGClass a0), .str a1]) (rs := [.clo 85 [.vp ((eL 7 eGClass) y3.1)] 9 [.str y3.2] []]) rfl rfl rfl Try_cal_66 (above_up_ok h4) rfl rfl rfl) ?_
  refine reg_nil ?_
  refine post_imp (s' := ⟨19, [(5, some (.lp 0 0)), (9, some (.fn 85 [.pv (.vp ((eL 7 eGClass) y3.1)), .lp 2 0]))], [(0, some (.box 86 [.ls 1])), (1, some (.row 3 1 (List.map eI []))), (2, some (.box 9 [.pv (.str y3.2)]))], 3, [], [], 0, []⟩) (imps [0, 1, 2] ⟨by kernel_rfl, by kernel_rfl, trivial⟩ ⟨by kernel_rfl, by kernel_rfl, by kernel_rfl, trivial⟩) ?_
  refine post_next ?_
  refine aw_block ?_
  refine aw_imp (s' := ⟨19, [(5, some (.lp 0 0)), (9, some (.fn 85 [.pv (.vp ((eL 7 eGClass) y3.1)), .lp 2 0]))], [(0, some (.box 86 [.ls 1])), (1, some (.row 3 1 (List.map eI []))), (2, some (.box 9 [.pv (.str y3.2)]))], 3, [], [], 0, []⟩) (imps [0, 1, 2] ⟨by kernel_rfl, by kernel_rfl, trivial⟩ ⟨by kernel_rfl, by kernel_rfl, by kernel_rfl, trivial⟩) ?_
  obtain ⟨rows33, hR34, hF⟩ := bind_some hF
  obtain ⟨lr35, hL36, hF⟩ := bind_some hF
  refine aw_rangeFunc (X := Int) (Q := (List Int)) (E := (List Int)) (pre := [.vp ((eL 7 eGClass) y3.1)]) (bx := (some (9, [.str y3.2]))) (post := []) (kt := [5]) (psl := [10]) (some 2) (fun z : Int => ([.int .i64 z] : List PV)) rows33 above_Chain_B1 [] lr35 hL36 (fun q => ⟨19, [(5, some (.lp 0 0))], [(0, some (.box 86 [.ls 1])), (1, some (.row 3 1 (List.map eI q)))], 3, [], [], 0, []⟩) (fun z => ((.exit 0), ⟨19, [(5, some (.lp 0 0))], [(0, some (.box 86 [.ls 1])), (1, some (.row 3 1 (List.map eI z)))], 2, [], [], 0, []⟩)) ⟨_, _, rfl, rfl, rfl⟩ Try_cal_85 (fun sp => above_up_1_it (itR_up_ok hR34 sp)) (fun _ => rfl) rfl rfl (by decide) rfl (fun x q => ⟨19, [(5, some (.lp 0 0)), (6, some (.pv (.int .i64 x))), (10, some (.pv (.int .i64 x)))], [(0, some (.box 86 [.ls 1])), (1, some (.row 3 1 (List.map eI q)))], 3, [], [], 0, [5]⟩) (fun q => ⟨rfl, rfl, rfl, rfl⟩) (fun z => ⟨rfl, rfl, rfl, rfl⟩) (fun z => rfl) rfl rfl ⟨rfl, trivial⟩ ⟨⟨rfl, rfl, rfl⟩, ⟨rfl, rfl, rfl⟩, trivial⟩ ?_ ?_ ?_ ?_
  · rintro l37 c38 x23 x13 hc39
    refine aw_region ?_
    refine ras ?_
    refine reg_nil ?_
    exact post_cut1 (imps [0, 1, 2] ⟨by kernel_rfl, by kernel_rfl, by kernel_rfl, trivial⟩ ⟨by kernel_rfl, by kernel_rfl, trivial⟩)
  · rintro l37 c38 x23 x13 r40 hc39 hF
    refine aw_block ?_
    iterate 2 (refine aw_seq ?_)
    refine aw_region ?_
    refine rgp (op_load_lp (v := .ls 1) rfl rfl rfl rfl Try_one_86 rfl rfl) ?_
    refine rmv ?_
    obtain ⟨y26, h27, hF⟩ := bind_some hF
    refine rgp (op_callB 3 rfl (caps := []) (args := [.vs 1 (List.map eI x13), .int .i64 x23]) [(1, some (.row 3 1 (List.map eI x13)))] rfl rfl rfl (FzH.spec ⟨rfl, trivial⟩) rfl rfl Try_cal_67 (slices_Contains_int_ok h27) rfl rfl rfl) ?_
    refine reg_nil ?_
    refine post_imp (s' := ⟨19, [(5, some (.lp 0 0)), (6, some (.pv (.int .i64 x23))), (13, some (.pv (.bool y26)))], [(0, some (.box 86 [.ls 1])), (1, some (.row 3 1 (List.map eI x13)))], 2, [], [], 0, [5]⟩) (imps [0, 1] ⟨by kernel_rfl, by kernel_rfl, by kernel_rfl, trivial⟩ ⟨by kernel_rfl, by kernel_rfl, trivial⟩) ?_
    refine post_next ?_
    rcases ite_some hF with ⟨hb28, hF⟩ | ⟨hb28, hF⟩
    · refine aw_cond_t rfl hb28 ?_
      refine aw_exit ?_
      refine post_then_exit ?_
      refine post_block_other rfl ?_
      obtain rfl := Option.some.inj hF
      exact post_rnd_exit x13 rfl rfl (imps [0, 1] ⟨by kernel_rfl, trivial⟩ ⟨by kernel_rfl, by kernel_rfl, trivial⟩)
    refine aw_cond_f rfl hb28 ?_
    refine aw_skip ?_
    refine post_next ?_
    refine aw_region ?_
    refine rgp (op_load_lp (v := .ls 1) rfl rfl rfl rfl Try_one_86 rfl rfl) ?_
    refine rmv ?_
    refine rgp (op_lit (rows := List.map eI ([x23] : List Int)) (zs := [.int .i64 0]) rfl rfl Try_slc_86 Try_zer_3 (by exact ⟨rfl, trivial⟩) rfl rfl rfl rfl rfl rfl rfl rfl) ?_
    obtain ⟨u29, h30, hF⟩ := bind_some hF
    refine rgp (op_append 2 rfl rfl rfl rfl rfl Try_slc_86 Try_elm_3 Try_zer_3 rfl rfl rfl (room_map (f := eI) (g := eI) h30) (List.map_append (f := eI) (l₁ := x13) (l₂ := [x23])).symm rfl rfl) ?_
    refine rgp (op_store_lp (n := 1) rfl rfl rfl rfl rfl (or_one Try_one_86) (by rw [Try_one_86]; rfl) rfl rfl rfl) ?_
    refine reg_nil ?_
    refine post_imp (s' := ⟨19, [(5, some (.lp 0 0))], [(0, some (.box 86 [.ls 1])), (1, some (.row 3 1 (List.map eI (x13 ++ [x23]))))], 2, [], [], 0, [5]⟩) (imps [0, 2] ⟨by kernel_rfl, trivial⟩ ⟨by kernel_rfl, by kernel_rfl, trivial⟩) ?_
    refine post_block_normal ?_
    obtain rfl := Option.some.inj hF
    exact post_rnd (x13 ++ [x23]) rfl (imps [0, 1, 1000000] ⟨by kernel_rfl, trivial⟩ ⟨by kernel_rfl, by kernel_rfl, trivial⟩)
  · rintro x13 rfl
    have hF := elim_next hF
    refine post_block_normal ?_
    refine post_next ?_
    refine aw_seq ?_
    refine aw_region ?_
    refine rgp (op_load_lp (v := .ls 1) rfl rfl rfl rfl Try_one_86 rfl rfl) ?_
    refine ras ?_
    refine reg_nil ?_
    refine post_imp (s' := ⟨19, [(4, some (.ls 0))], [(0, some (.row 3 1 (List.map eI x13)))], 1, [], [], 0, []⟩) (imps [1] ⟨by kernel_rfl, trivial⟩ ⟨by kernel_rfl, trivial⟩) ?_
    refine post_next ?_
    refine aw_ret ?_
    obtain rfl := Option.some.inj hF
    exact post_ret rfl rfl (.cons _ _ _ _ _ (.tmp _ _ rfl) (.own _ _ _ _ rfl nolent3) .nil) (.inl rfl)
  rintro x32 rfl
  have hF := elim_stop hF
  show Post _ _ (.exit 0) _
  refine post_block_exit ?_
  refine post_next ?_
  refine aw_seq ?_
  refine aw_region ?_
  refine rgp (op_load_lp (v := .ls 1) rfl rfl rfl rfl Try_one_86 rfl rfl) ?_
  refine ras ?_
  refine reg_nil ?_
  refine post_imp (s' := ⟨19, [(4, some (.ls 0))], [(0, some (.row 3 1 (List.map eI x32)))], 1, [], [], 0, []⟩) (imps [1] ⟨by kernel_rfl, trivial⟩ ⟨by kernel_rfl, trivial⟩) ?_
  refine post_next ?_
  refine aw_ret ?_
  obtain rfl := Option.some.inj hF
  exact post_ret rfl rfl (.cons _ _ _ _ _ (.tmp _ _ rfl) (.own _ _ _ _ rfl nolent3) .nil) (.inl rfl)
theorem method_first_1_w_ok {a0 : Gheld_method} {b0 : List UInt8} {b1 : List GClass} {b2 : GFound_method} {b3 : Bool} {r : Bool × GFound_method × Bool} (hF : method_first_1_w a0 b0 b1 b2 b3 = some r) : Abs.FnW Try.prog 65 [.pv (.agg (eGheld_method a0)), .lp 0 0, .lp 1 0, .lp 2 0, .lp 3 0] [(0, some (.box 9 [.pv (.str b0)])), (1, some (.box 22 [.pv (.vs 7 (List.map eGClass b1))])), (2, some (.box 35 (bxv (eGFound_method b2)))), (3, some (.box 4 [.pv (.bool b3)]))] 4 [(0, 0), (1, 1), (2, 2), (3, 3)] [.pv (.bool r.1)] [(0, some (.box 9 [.pv (.str b0)])), (1, some (.box 22 [.pv (.vs 7 (List.map eGClass b1))])), (2, some (.box 35 (bxv (eGFound_method r.2.1)))), (3, some (.box 4 [.pv (.bool r.2.2)]))] 4 := by
  unfold method_first_1_w at hF
  refine fnW_of_body (n := 24) (m := 4) [1, 2, 3, 4] Try.func65 rfl rfl rfl ?_
  intro c w O θ hcx
  refine aw_seq ?_
  refine aw_region ?_
  refine rgp (op_box 4 rfl rfl rfl rfl rfl rfl) ?_
  refine ras ?_
  refine reg_nil ?_
  refine post_imp (s' := ⟨24, [(1, some (.lp 0 0)), (2, some (.lp 1 0)), (3, some (.lp 2 0)), (4, some (.lp 3 0)), (5, some (.lp 4 0))], [(0, some (.box 9 [.pv (.str b0)])), (1, some (.box 22 [.pv (.vs 7 (List.map eGClass b1))])), (2, some (.box 35 (bxv (eGFound_method b2)))), (3, some (.box 4 [.pv (.bool b3)])), (4, some (.box 112 (bxv (eGheld_method a0))))], 5, [], [], 0, [1, 2, 3, 4]⟩) (imps [0, 1, 2, 3, 4] ⟨by kernel_rfl, by kernel_rfl, by kernel_rfl, by kernel_rfl, by kernel_rfl, trivial⟩ ⟨by kernel_rfl, by kernel_rfl, by kernel_rfl, by kernel_rfl, by kernel_rfl, trivial⟩) ?_
  refine post_next ?_
  iterate 2 (refine aw_seq ?_)
  refine aw_region ?_
  refine rgp (op_field_lp rfl rfl Try_fld_112_0 rfl rfl) ?_
  refine rgp (op_field_lp rfl rfl Try_fld_33_0 rfl rfl) ?_
  refine rgp (op_load_lp (v := .pv (.str a0.fMethod.fName)) rfl rfl rfl rfl Try_one_9 rfl rfl) ?_
  refine rgp (op_load_lp (v := .pv (.str b0)) rfl rfl rfl rfl Try_one_9 rfl rfl) ?_
  refine rgp (op_str rfl rfl rfl rfl rfl rfl) ?_
  refine reg_nil ?_
  refine post_imp (s' := ⟨24, [(1, some (.lp 0 0)), (2, some (.lp 1 0)), (3, some (.lp 2 0)), (4, some (.lp 3 0)), (5, some (.lp 4 0)), (11, some (.pv (.bool (a0.fMethod.fName == b0))))], [(0, some (.box 9 [.pv (.str b0)])), (1, some (.box 22 [.pv (.vs 7 (List.map eGClass b1))])), (2, some (.box 35 (bxv (eGFound_method b2)))), (3, some (.box 4 [.pv (.bool b3)])), (4, some (.box 112 (bxv (eGheld_method a0))))], 5, [], [], 0, [1, 2, 3, 4]⟩) (imps [0, 1, 2, 3, 4] ⟨by kernel_rfl, by kernel_rfl, by kernel_rfl, by kernel_rfl, by kernel_rfl, by kernel_rfl, trivial⟩ ⟨by kernel_rfl, by kernel_rfl, by kernel_rfl, by kernel_rfl, by kernel_rfl, trivial⟩) ?_
  refine post_next ?_
  rcases ite_some hF with ⟨hb1, hF⟩ | ⟨hb1, hF⟩
  · refine aw_cond_t rfl hb1 ?_
    refine dr_start ⟨_, _, _⟩ rfl ?_
    refine dr_cons { need := [(2, .lp 1 0)], hneed := [(1, .box 22 [.pv (.vs 7 (List.map eGClass b1))])], dst := some 12, val := some (.pv (.vs 7 (List.map eGClass b1))) } (fun m h => step_on (guard_no rfl) (op_load_lp (v := .pv (.vs 7 (List.map eGClass b1))) rfl h.1.1 h.2.1.1 rfl Try_one_22 rfl rfl) rfl) ⟨⟨rfl, trivial⟩, ⟨rfl, trivial⟩, trivial⟩ ?_
    refine dr_cons { need := [(5, .lp 4 0)], dst := some 13, val := some (.lp 4 17) } (fun m h => step_on (guard_no rfl) (op_field_lp rfl h.1.1 Try_fld_112_1 rfl rfl) rfl) ⟨⟨rfl, trivial⟩, trivial, trivial⟩ ?_
    refine dr_cons { need := [(13, .lp 4 17)], hneed := [(4, .box 112 (bxv (eGheld_method a0)))], dst := some 14, val := some (.pv (.int .i64 a0.fclass)) } (fun m h => step_on (guard_no rfl) (op_load_lp (v := .pv (.int .i64 a0.fclass)) rfl h.1.1 h.2.1.1 rfl Try_one_3 rfl rfl) rfl) ⟨⟨rfl, trivial⟩, ⟨rfl, trivial⟩, trivial⟩ ?_
    obtain ⟨y2, h3, hF⟩ := bind_some hF
    refine dr_cons { need := [(12, .pv (.vs 7 (List.map eGClass b1))), (14, .pv (.int .i64 a0.fclass))], dst := some 15, val := some (.pv (.vp (eGClass y2))) } (fun m h => step_on (guard_no rfl) (op_index_vs (k := .i64) rfl h.1.1 h.1.2.1 (idx_map eGClass h3) Try_slc_22 rfl rfl) rfl) ⟨⟨rfl, rfl, trivial⟩, trivial, trivial⟩ ?_
    refine dr_cons { need := [(15, .pv (.vp (eGClass y2)))], dst := some 16, val := some (.pv (.vp (List.drop 0 (eGClass y2)))) } (fun m h => step_on (guard_no rfl) (op_field_vp rfl h.1.1 Try_fld_56_0 rfl rfl) rfl) ⟨⟨rfl, trivial⟩, trivial, trivial⟩ ?_
    refine dr_cons { need := [(16, .pv (.vp (List.drop 0 (eGClass y2))))], dst := some 17, val := some (.pv (.str y2.fName)) } (fun m h => step_on (guard_no rfl) (op_load_vp (p := .str y2.fName) rfl h.1.1 rfl Try_one_9 rfl rfl) rfl) ⟨⟨rfl, trivial⟩, trivial, trivial⟩ ?_
    refine dr_cons { need := [(5, .lp 4 0)], dst := some 18, val := some (.lp 4 0) } (fun m h => step_on (guard_no rfl) (op_field_lp rfl h.1.1 Try_fld_112_0 rfl rfl) rfl) ⟨⟨rfl, trivial⟩, trivial, trivial⟩ ?_
    refine dr_cons { need := [(18, .lp 4 0)], hneed := [(4, .box 112 (bxv (eGheld_method a0)))], dst := some 19, val := some (.pv (.agg (eGMethod a0.fMethod))) } (fun m h => step_on (guard_no rfl) (op_load_lp_agg (ps := eGMethod a0.fMethod) rfl h.1.1 h.2.1.1 rfl rfl rfl Try_agg_33 rfl rfl) rfl) ⟨⟨rfl, trivial⟩, ⟨rfl, trivial⟩, trivial⟩ ?_
    refine dr_cons { need := [(3, .lp 2 0)], hneed := [(2, .box 35 (bxv (eGFound_method b2)))], upd := [(2, some (.box 35 (bxv (eGFound_method zGFound_method))))] } (fun m h => step_on (guard_no rfl) (op_store_zc (n := 18) (ps := (eGFound_method zGFound_method)) rfl h.1.1 (by exact ⟨rfl, rfl, rfl, rfl, rfl, rfl, rfl, rfl, rfl, rfl, rfl, rfl, rfl, rfl, trivial, trivial, trivial, rfl, trivial⟩) h.2.1.1 (or_agg Try_agg_35) (by rw [Try_non_35]; rfl) rfl rfl rfl) rfl) ⟨⟨rfl, trivial⟩, ⟨rfl, trivial⟩, trivial⟩ ?_
    refine dr_cons { need := [(3, .lp 2 0)], dst := some 20, val := some (.lp 2 0) } (fun m h => step_on (guard_no rfl) (op_field_lp rfl h.1.1 Try_fld_35_0 rfl rfl) rfl) ⟨⟨rfl, trivial⟩, trivial, trivial⟩ ?_
    refine dr_cons { need := [(20, .lp 2 0), (17, .pv (.str y2.fName))], hneed := [(2, .box 35 (bxv (eGFound_method zGFound_method)))], upd := [(2, some (.box 35 (bxv (eGFound_method ({ zGFound_method with fClass := y2.fName } : GFound_method)))))] } (fun m h => step_on (guard_no rfl) (op_store_lp (n := 1) rfl h.1.1 h.1.2.1 rfl h.2.1.1 (or_one Try_one_9) (by rw [Try_one_9]; rfl) rfl rfl rfl) rfl) ⟨⟨rfl, rfl, trivial⟩, ⟨rfl, trivial⟩, trivial⟩ ?_
    refine dr_cons { need := [(3, .lp 2 0)], dst := some 21, val := some (.lp 2 1) } (fun m h => step_on (guard_no rfl) (op_field_lp rfl h.1.1 Try_fld_35_1 rfl rfl) rfl) ⟨⟨rfl, trivial⟩, trivial, trivial⟩ ?_
    refine dr_cons { need := [(21, .lp 2 1), (19, .pv (.agg (eGMethod a0.fMethod)))], hneed := [(2, .box 35 (bxv (eGFound_method ({ zGFound_method with fClass := y2.fName } : GFound_method))))], upd := [(2, some (.box 35 (bxv (eGFound_method ({ ({ zGFound_method with fClass := y2.fName } : GFound_method) with fMethod := a0.fMethod } : GFound_method)))))] } (fun m h => step_on (guard_no rfl) (op_store_lp (n := 17) rfl h.1.1 h.1.2.1 rfl h.2.1.1 (or_agg Try_agg_33) (by rw [Try_non_33]; rfl) rfl rfl rfl) rfl) ⟨⟨rfl, rfl, trivial⟩, ⟨rfl, trivial⟩, trivial⟩ ?_
    refine dr_cons { need := [(4, .lp 3 0)], hneed := [(3, .box 4 [.pv (.bool b3)])], upd := [(3, some (.box 4 [.pv (.bool true)]))] } (fun m h => step_on (guard_no rfl) (op_store_lp (n := 1) rfl h.1.1 rfl rfl h.2.1.1 (or_one Try_one_4) (by rw [Try_one_4]; rfl) rfl rfl rfl) rfl) ⟨⟨rfl, trivial⟩, ⟨rfl, trivial⟩, trivial⟩ ?_
    refine dr_nil Try_mixed rfl (by kernel_rfl) ?_
    refine post_imp (s' := ⟨24, [(1, some (.lp 0 0)), (2, some (.lp 1 0)), (3, some (.lp 2 0)), (4, some (.lp 3 0))], [(0, some (.box 9 [.pv (.str b0)])), (1, some (.box 22 [.pv (.vs 7 (List.map eGClass b1))])), (2, some (.box 35 (bxv (eGFound_method ({ ({ zGFound_method with fClass := y2.fName } : GFound_method) with fMethod := a0.fMethod } : GFound_method))))), (3, some (.box 4 [.pv (.bool true)]))], 4, [], [], 0, [1, 2, 3, 4]⟩) (imps [0, 1, 2, 3] ⟨by kernel_rfl, by kernel_rfl, by kernel_rfl, by kernel_rfl, trivial⟩ ⟨by kernel_rfl, by kernel_rfl, by kernel_rfl, by kernel_rfl, trivial⟩) ?_
    refine post_next ?_
    refine aw_seq ?_
    refine aw_region ?_
    refine rgp (op_load_lp (v := .pv (.bool true)) rfl rfl rfl rfl Try_one_4 rfl rfl) ?_
    refine rgp (op_not rfl rfl rfl rfl) ?_
    refine ras ?_
    refine reg_nil ?_
    refine post_imp (s' := ⟨24, [(1, some (.lp 0 0)), (2, some (.lp 1 0)), (3, some (.lp 2 0)), (4, some (.lp 3 0)), (6, some (.pv (.bool (!true))))], [(0, some (.box 9 [.pv (.str b0)])), (1, some (.box 22 [.pv (.vs 7 (List.map eGClass b1))])), (2, some (.box 35 (bxv (eGFound_method ({ ({ zGFound_method with fClass := y2.fName } : GFound_method) with fMethod := a0.fMethod } : GFound_method))))), (3, some (.box 4 [.pv (.bool true)]))], 4, [], [], 0, [1, 2, 3, 4]⟩) (imps [0, 1, 2, 3] ⟨by kernel_rfl, by kernel_rfl, by kernel_rfl, by kernel_rfl, by kernel_rfl, trivial⟩ ⟨by kernel_rfl, by kernel_rfl, by kernel_rfl, by kernel_rfl, trivial⟩) ?_
    refine post_next ?_
    refine aw_ret ?_
    refine post_imp (s' := ⟨24, [(1, some (.lp 0 0)), (2, some (.lp 1 0)), (3, some (.lp 2 0)), (4, some (.lp 3 0)), (6, some (.pv (.bool (!true))))], [(0, some (.box 9 [.pv (.str b0)])), (1, some (.box 22 [.pv (.vs 7 (List.map eGClass b1))])), (2, some (.box 35 (bxv (eGFound_method ({ ({ zGFound_method with fClass := y2.fName } : GFound_method) with fMethod := a0.fMethod } : GFound_method))))), (3, some (.box 4 [.pv (.bool true)]))], 4, [], [], 0, [1, 2, 3, 4]⟩) (imps [0, 1, 2, 3] ⟨by kernel_rfl, by kernel_rfl, by kernel_rfl, by kernel_rfl, by kernel_rfl, trivial⟩ ⟨by kernel_rfl, by kernel_rfl, by kernel_rfl, by kernel_rfl, trivial⟩) ?_
    obtain rfl := Option.some.inj hF
    exact post_retW hcx rfl (.cons _ _ _ _ (.tmp _ _ rfl) .nil) rfl (.inl rfl)
  refine aw_cond_f rfl hb1 ?_
  refine aw_skip ?_
  refine post_next ?_
  refine aw_seq ?_
  refine aw_region ?_
  refine rgp (op_load_lp (v := .pv (.bool b3)) rfl rfl rfl rfl Try_one_4 rfl rfl) ?_
  refine rgp (op_not rfl rfl rfl rfl) ?_
  refine ras ?_
  refine reg_nil ?_
  refine post_imp (s' := ⟨24, [(1, some (.lp 0 0)), (2, some (.lp 1 0)), (3, some (.lp 2 0)), (4, some (.lp 3 0)), (6, some (.pv (.bool (!b3))))], [(0, some (.box 9 [.pv (.str b0)])), (1, some (.box 22 [.pv (.vs 7 (List.map eGClass b1))])), (2, some (.box 35 (bxv (eGFound_method b2)))), (3, some (.box 4 [.pv (.bool b3)]))], 4, [], [], 0, [1, 2, 3, 4]⟩) (imps [0, 1, 2, 3] ⟨by kernel_rfl, by kernel_rfl, by kernel_rfl, by kernel_rfl, by kernel_rfl, trivial⟩ ⟨by kernel_rfl, by kernel_rfl, by kernel_rfl, by kernel_rfl, trivial⟩) ?_
  refine post_next ?_
  refine aw_ret ?_
  refine post_imp (s' := ⟨24, [(1, some (.lp 0 0)), (2, some (.lp 1 0)), (3, some (.lp 2 0)), (4, some (.lp 3 0)), (6, some (.pv (.bool (!b3))))], [(0, some (.box 9 [.pv (.str b0)])), (1, some (.box 22 [.pv (.vs 7 (List.map eGClass b1))])), (2, some (.box 35 (bxv (eGFound_method b2)))), (3, some (.box 4 [.pv (.bool b3)]))], 4, [], [], 0, [1, 2, 3, 4]⟩) (imps [0, 1, 2, 3] ⟨by kernel_rfl, by kernel_rfl, by kernel_rfl, by kernel_rfl, by kernel_rfl, trivial⟩ ⟨by kernel_rfl, by kernel_rfl, by kernel_rfl, by kernel_rfl, trivial⟩) ?_
  obtain rfl := Option.some.inj hF
  exact post_retW hcx rfl (.cons _ _ _ _ (.tmp _ _ rfl) .nil) rfl (.inl rfl)
theorem method_walk_w_ok {a0 : List GClass} {a1 : List Int} {b0 : List UInt8} {b1 : List GClass} {b2 : GFound_method} {b3 : Bool} {r : GFound_method × Bool} (hF : method_walk_w a0 a1 b0 b1 b2 b3 = some r) : Abs.FnW Try.prog 64 [.pv (.vs 7 (List.map eGClass a0)), .pv (.vs 1 (List.map eI a1)), .fn 65 [.lp 0 0, .lp 1 0, .lp 2 0, .lp 3 0]] [(0, some (.box 9 [.pv (.str b0)])), (1, some (.box 22 [.pv (.vs 7 (List.map eGClass b1))])), (2, some (.box 35 (bxv (eGFound_method b2)))), (3, some (.box 4 [.pv (.bool b3)]))] 4 [(0, 0), (1, 1), (2, 2), (3, 3)] [] [(0, some (.box 9 [.pv (.str b0)])), (1, some (.box 22 [.pv (.vs 7 (List.map eGClass b1))])), (2, some (.box 35 (bxv (eGFound_method r.1)))), (3, some (.box 4 [.pv (.bool r.2)]))] 4 := by
  unfold method_walk_w at hF
  refine fnW_of_body (n := 34) (m := 4) [2] Try.func64 rfl rfl rfl ?_
  intro c w O θ hcx
  refine aw_seq ?_
  refine aw_region ?_
  refine rmv ?_
  refine rgp (op_len_vs (n := a1.length) rfl rfl (List.length_map ..) Try_slc_86 rfl rfl) ?_
  refine rmv ?_
  refine reg_nil ?_
  refine post_imp (s' := ⟨34, [(0, some (.pv (.vs 7 (List.map eGClass a0)))), (2, some (.fn 65 [.lp 0 0, .lp 1 0, .lp 2 0, .lp 3 0])), (10, some (.pv (.vs 1 (List.map eI a1)))), (11, some (.pv (.int .i64 (a1.length : Int)))), (12, some (.pv (.int .i64 0)))], [(0, some (.box 9 [.pv (.str b0)])), (1, some (.box 22 [.pv (.vs 7 (List.map eGClass b1))])), (2, some (.box 35 (bxv (eGFound_method b2)))), (3, some (.box 4 [.pv (.bool b3)]))], 4, [], [], 0, [2]⟩) (imps [0, 1, 2, 3] ⟨by kernel_rfl, by kernel_rfl, by kernel_rfl, by kernel_rfl, by kernel_rfl, trivial⟩ ⟨by kernel_rfl, by kernel_rfl, by kernel_rfl, by kernel_rfl, trivial⟩) ?_
  refine post_next ?_
  obtain ⟨lr168, hF, hK169⟩ := bind_some hF
  refine aw_for ((((a1.length : Int) : Int) - (0)).toNat + 1) (fun s1 => ∃ q, lr168 = .next q ∧ s1 = ⟨34, [(2, some (.fn 65 [.lp 0 0, .lp 1 0, .lp 2 0, .lp 3 0]))], [(0, some (.box 9 [.pv (.str b0)])), (1, some (.box 22 [.pv (.vs 7 (List.map eGClass b1))])), (2, some (.box 35 (bxv (eGFound_method q.1)))), (3, some (.box 4 [.pv (.bool q.2)]))], 4, [], [], 0, [2]⟩) ?_ ?_
  · refine rnd_loop (α := GFound_method × Bool × Int) (fun q => ⟨34, [(0, some (.pv (.vs 7 (List.map eGClass a0)))), (2, some (.fn 65 [.lp 0 0, .lp 1 0, .lp 2 0, .lp 3 0])), (10, some (.pv (.vs 1 (List.map eI a1)))), (11, some (.pv (.int .i64 (a1.length : Int)))), (12, some (.pv (.int .i64 q.2.2)))], [(0, some (.box 9 [.pv (.str b0)])), (1, some (.box 22 [.pv (.vs 7 (List.map eGClass b1))])), (2, some (.box 35 (bxv (eGFound_method q.1)))), (3, some (.box 4 [.pv (.bool q.2.1)]))], 4, [], [], 0, [2]⟩) (fun k q => method_walk_w_L1 a0 a1 b0 b1 k q.1 q.2.1 q.2.2 = some lr168) (b2, b3, 0) (imps [0, 1, 2, 3] ⟨by kernel_rfl, by kernel_rfl, by kernel_rfl, by kernel_rfl, by kernel_rfl, trivial⟩ ⟨by kernel_rfl, by kernel_rfl, by kernel_rfl, by kernel_rfl, trivial⟩) hF (fun q h => by cases h) ?_
    clear hF
    rintro k ⟨x53, x54, x55⟩ hF ih
    refine rnd_succ ?_
    refine aw_seq ?_
    refine aw_region ?_
    refine rgp (op_int (k := .i64) (m := x55) (n := (a1.length : Int)) rfl rfl rfl rfl rfl rfl) ?_
    refine reg_nil ?_
    refine post_imp (s' := ⟨34, [(0, some (.pv (.vs 7 (List.map eGClass a0)))), (2, some (.fn 65 [.lp 0 0, .lp 1 0, .lp 2 0, .lp 3 0])), (10, some (.pv (.vs 1 (List.map eI a1)))), (11, some (.pv (.int .i64 (a1.length : Int)))), (12, some (.pv (.int .i64 x55))), (13, some (.pv (.bool (decide (x55 < (a1.length : Int))))))], [(0, some (.box 9 [.pv (.str b0)])), (1, some (.box 22 [.pv (.vs 7 (List.map eGClass b1))])), (2, some (.box 35 (bxv (eGFound_method x53)))), (3, some (.box 4 [.pv (.bool x54)]))], 4, [], [], 0, [2]⟩) (imps [0, 1, 2, 3] ⟨by kernel_rfl, by kernel_rfl, by kernel_rfl, by kernel_rfl, by kernel_rfl, by kernel_rfl, trivial⟩ ⟨by kernel_rfl, by kernel_rfl, by kernel_rfl, by kernel_rfl, trivial⟩) ?_
    refine post_next ?_
    refine aw_seq ?_
    rcases ite_some hF with ⟨hb111, hF⟩ | ⟨hb111, hF⟩
    · refine aw_cond_t rfl hb111 ?_
      refine aw_skip ?_
      refine post_next ?_
      refine aw_seq ?_
      refine aw_block ?_
      refine aw_seq ?_
      refine aw_region ?_
      obtain ⟨y114, h115, hF⟩ := bind_some hF
      refine rgp (op_index_vs (k := .i64) rfl rfl rfl (idx_map eI h115) Try_slc_86 rfl rfl) ?_
      refine rgp (op_load_vp (p := .int .i64 y114) rfl rfl rfl Try_one_3 rfl rfl) ?_
      refine ras ?_
      refine reg_nil ?_
      refine post_imp (s' := ⟨34, [(0, some (.pv (.vs 7 (List.map eGClass a0)))), (2, some (.fn 65 [.lp 0 0, .lp 1 0, .lp 2 0, .lp 3 0])), (7, some (.pv (.int .i64 y114))), (10, some (.pv (.vs 1 (List.map eI a1)))), (11, some (.pv (.int .i64 (a1.length : Int)))), (12, some (.pv (.int .i64 x55)))], [(0, some (.box 9 [.pv (.str b0)])), (1, some (.box 22 [.pv (.vs 7 (List.map eGClass b1))])), (2, some (.box 35 (bxv (eGFound_method x53)))), (3, some (.box 4 [.pv (.bool x54)]))], 4, [], [], 0, [2]⟩) (imps [0, 1, 2, 3] ⟨by kernel_rfl, by kernel_rfl, by kernel_rfl, by kernel_rfl, by kernel_rfl, by kernel_rfl, trivial⟩ ⟨by kernel_rfl, by kernel_rfl, by kernel_rfl, by kernel_rfl, trivial⟩) ?_
      refine post_next ?_
      refine aw_seq ?_
      refine aw_region ?_
      iterate 2 (refine rmv ?_)
      obtain ⟨y118, h119, hF⟩ := bind_some hF
      refine rgp (op_index_vs (k := .i64) rfl rfl rfl (idx_map eGClass h119) Try_slc_22 rfl rfl) ?_
      refine rgp (op_field_vp rfl rfl Try_fld_56_5 rfl rfl) ?_
      refine rgp (op_load_vp (p := .vs 17 (List.map eGMethod y118.fMethods)) rfl rfl rfl Try_one_54 rfl rfl) ?_
      refine rgp (op_len_vs (n := y118.fMethods.length) rfl rfl (List.length_map ..) Try_slc_54 rfl rfl) ?_
      refine rmv ?_
      refine reg_nil ?_
      refine post_imp (s' := ⟨34, [(0, some (.pv (.vs 7 (List.map eGClass a0)))), (2, some (.fn 65 [.lp 0 0, .lp 1 0, .lp 2 0, .lp 3 0])), (7, some (.pv (.int .i64 y114))), (10, some (.pv (.vs 1 (List.map eI a1)))), (11, some (.pv (.int .i64 (a1.length : Int)))), (12, some (.pv (.int .i64 x55))), (20, some (.pv (.vs 17 (List.map eGMethod y118.fMethods)))), (21, some (.pv (.int .i64 (y118.fMethods.length : Int)))), (22, some (.pv (.int .i64 0)))], [(0, some (.box 9 [.pv (.str b0)])), (1, some (.box 22 [.pv (.vs 7 (List.map eGClass b1))])), (2, some (.box 35 (bxv (eGFound_method x53)))), (3, some (.box 4 [.pv (.bool x54)]))], 4, [], [], 0, [2]⟩) (imps [0, 1, 2, 3] ⟨by kernel_rfl, by kernel_rfl, by kernel_rfl, by kernel_rfl, by kernel_rfl, by kernel_rfl, by kernel_rfl, by kernel_rfl, by kernel_rfl, trivial⟩ ⟨by kernel_rfl, by kernel_rfl, by kernel_rfl, by kernel_rfl, trivial⟩) ?_
      refine post_next ?_
      obtain ⟨lr161, hF, hK162⟩ := bind_some hF
      refine aw_for ((((y118.fMethods.length : Int) : Int) - (0)).toNat + 1) (fun s1 => ∃ q, lr161 = .next q ∧ s1 = ⟨34, [(0, some (.pv (.vs 7 (List.map eGClass a0)))), (2, some (.fn 65 [.lp 0 0, .lp 1 0, .lp 2 0, .lp 3 0])), (10, some (.pv (.vs 1 (List.map eI a1)))), (11, some (.pv (.int .i64 (a1.length : Int)))), (12, some (.pv (.int .i64 x55)))], [(0, some (.box 9 [.pv (.str b0)])), (1, some (.box 22 [.pv (.vs 7 (List.map eGClass b1))])), (2, some (.box 35 (bxv (eGFound_method q.1)))), (3, some (.box 4 [.pv (.bool q.2)]))], 4, [], [], 0, [2]⟩) ?_ ?_
      · refine rnd_loop (α := GFound_method × Bool × Int) (fun q => ⟨34, [(0, some (.pv (.vs 7 (List.map eGClass a0)))), (2, some (.fn 65 [.lp 0 0, .lp 1 0, .lp 2 0, .lp 3 0])), (7, some (.pv (.int .i64 y114))), (10, some (.pv (.vs 1 (List.map eI a1)))), (11, some (.pv (.int .i64 (a1.length : Int)))), (12, some (.pv (.int .i64 x55))), (20, some (.pv (.vs 17 (List.map eGMethod y118.fMethods)))), (21, some (.pv (.int .i64 (y118.fMethods.length : Int)))), (22, some (.pv (.int .i64 q.2.2)))], [(0, some (.box 9 [.pv (.str b0)])), (1, some (.box 22 [.pv (.vs 7 (List.map eGClass b1))])), (2, some (.box 35 (bxv (eGFound_method q.1)))), (3, some (.box 4 [.pv (.bool q.2.1)]))], 4, [], [], 0, [2]⟩) (fun k q => method_walk_w_L2 b0 b1 y114 y118 k q.1 q.2.1 q.2.2 = some lr161) (x53, x54, 0) (imps [0, 1, 2, 3] ⟨by kernel_rfl, by kernel_rfl, by kernel_rfl, by kernel_rfl, by kernel_rfl, by kernel_rfl, by kernel_rfl, by kernel_rfl, by kernel_rfl, trivial⟩ ⟨by kernel_rfl, by kernel_rfl, by kernel_rfl, by kernel_rfl, trivial⟩) hF (fun q h => by cases h) ?_
        clear hF
        rintro k ⟨x130, x131, x132⟩ hF ih
        refine rnd_succ ?_
        refine aw_seq ?_
        refine aw_region ?_
        refine rgp (op_int (k := .i64) (m := x132) (n := (y118.fMethods.length : Int)) rfl rfl rfl rfl rfl rfl) ?_
        refine reg_nil ?_
        refine post_imp (s' := ⟨34, [(0, some (.pv (.vs 7 (List.map eGClass a0)))), (2, some (.fn 65 [.lp 0 0, .lp 1 0, .lp 2 0, .lp 3 0])), (7, some (.pv (.int .i64 y114))), (10, some (.pv (.vs 1 (List.map eI a1)))), (11, some (.pv (.int .i64 (a1.length : Int)))), (12, some (.pv (.int .i64 x55))), (20, some (.pv (.vs 17 (List.map eGMethod y118.fMethods)))), (21, some (.pv (.int .i64 (y118.fMethods.length : Int)))), (22, some (.pv (.int .i64 x132))), (23, some (.pv (.bool (decide (x132 < (y118.fMethods.length : Int))))))], [(0, some (.box 9 [.pv (.str b0)])), (1, some (.box 22 [.pv (.vs 7 (List.map eGClass b1))])), (2, some (.box 35 (bxv (eGFound_method x130)))), (3, some (.box 4 [.pv (.bool x131)]))], 4, [], [], 0, [2]⟩) (imps [0, 1, 2, 3] ⟨by kernel_rfl, by kernel_rfl, by kernel_rfl, by kernel_rfl, by kernel_rfl, by kernel_rfl, by kernel_rfl, by kernel_rfl, by kernel_rfl, by kernel_rfl, trivial⟩ ⟨by kernel_rfl, by kernel_rfl, by kernel_rfl, by kernel_rfl, trivial⟩) ?_
        refine post_next ?_
        refine aw_seq ?_
        rcases ite_some hF with ⟨hb146, hF⟩ | ⟨hb146, hF⟩
        · refine aw_cond_t rfl hb146 ?_
          refine aw_skip ?_
          refine post_next ?_
          refine aw_seq ?_
          refine aw_block ?_
          refine aw_seq ?_
          refine aw_region ?_
          obtain ⟨y149, h150, hF⟩ := bind_some hF
          refine rgp (op_index_vs (k := .i64) rfl rfl rfl (idx_map eGMethod h150) Try_slc_54 rfl rfl) ?_
          refine rgp (op_load_vp_agg (ps := eGMethod y149) rfl rfl rfl rfl Try_agg_33 rfl rfl) ?_
          refine rgp (op_alloc 4 rfl (ps := (eGMethod zGMethod)) rfl Try_zer_33 (by exact ⟨rfl, rfl, rfl, rfl, rfl, rfl, rfl, rfl, rfl, rfl, rfl, rfl, rfl, trivial, trivial, trivial, rfl, trivial⟩) rfl rfl) ?_
          refine rgp (op_store_lp (n := 17) rfl rfl rfl rfl rfl (or_agg Try_agg_33) (by rw [Try_non_33]; rfl) rfl rfl rfl) ?_
          refine reg_nil ?_
          refine post_imp (s' := ⟨34, [(0, some (.pv (.vs 7 (List.map eGClass a0)))), (2, some (.fn 65 [.lp 0 0, .lp 1 0, .lp 2 0, .lp 3 0])), (7, some (.pv (.int .i64 y114))), (9, some (.lp 4 0)), (10, some (.pv (.vs 1 (List.map eI a1)))), (11, some (.pv (.int .i64 (a1.length : Int)))), (12, some (.pv (.int .i64 x55))), (20, some (.pv (.vs 17 (List.map eGMethod y118.fMethods)))), (21, some (.pv (.int .i64 (y118.fMethods.length : Int)))), (22, some (.pv (.int .i64 x132)))], [(0, some (.box 9 [.pv (.str b0)])), (1, some (.box 22 [.pv (.vs 7 (List.map eGClass b1))])), (2, some (.box 35 (bxv (eGFound_method x130)))), (3, some (.box 4 [.pv (.bool x131)])), (4, some (.box 33 (bxv (eGMethod y149))))], 5, [], [], 0, [2]⟩) (imps [0, 1, 2, 3, 4] ⟨by kernel_rfl, by kernel_rfl, by kernel_rfl, by kernel_rfl, by kernel_rfl, by kernel_rfl, by kernel_rfl, by kernel_rfl, by kernel_rfl, by kernel_rfl, trivial⟩ ⟨by kernel_rfl, by kernel_rfl, by kernel_rfl, by kernel_rfl, by kernel_rfl, trivial⟩) ?_
          refine post_next ?_
          refine aw_seq ?_
          refine aw_region ?_
          refine rmv ?_
          refine rgp (op_load_lp_agg (ps := eGMethod y149) rfl rfl rfl rfl rfl rfl Try_agg_33 rfl rfl) ?_
          refine rmv ?_
          refine rgp (op_build (zs := (eGheld_method zGheld_method)) (r := eGheld_method ({ fMethod := y149, fclass := y114 } : Gheld_method)) rfl Try_zer_112 (by exact ⟨rfl, rfl, rfl, rfl, rfl, rfl, rfl, rfl, rfl, rfl, rfl, rfl, rfl, trivial, trivial, trivial, rfl, rfl, trivial⟩) Try_plc_112 rfl rfl rfl rfl) ?_
          obtain ⟨y153, h154, hF⟩ := bind_some hF
          refine rgp (op_callW (args := [.pv (.agg (eGheld_method ({ fMethod := y149, fclass := y114 } : Gheld_method))), .lp 0 0, .lp 1 0, .lp 2 0, .lp 3 0]) [0, 1, 2, 3] [0, 1, 2, 3] [] 5 rfl rfl rfl rfl rfl Try_cal_65 (method_first_1_w_ok h154) rfl (by decide) ⟨rfl, rfl, rfl, rfl, trivial⟩ rfl (by decide) ⟨.inl rfl, .inl rfl, .inl rfl, .inl rfl, trivial⟩ (by kernel_rfl) (by kernel_rfl) rfl rfl rfl rfl) ?_
          refine rgp (op_not rfl rfl rfl rfl) ?_
          refine reg_nil ?_
          refine post_imp (s' := ⟨34, [(0, some (.pv (.vs 7 (List.map eGClass a0)))), (2, some (.fn 65 [.lp 0 0, .lp 1 0, .lp 2 0, .lp 3 0])), (7, some (.pv (.int .i64 y114))), (10, some (.pv (.vs 1 (List.map eI a1)))), (11, some (.pv (.int .i64 (a1.length : Int)))), (12, some (.pv (.int .i64 x55))), (20, some (.pv (.vs 17 (List.map eGMethod y118.fMethods)))), (21, some (.pv (.int .i64 (y118.fMethods.length : Int)))), (22, some (.pv (.int .i64 x132))), (31, some (.pv (.bool (!y153.1))))], [(0, some (.box 9 [.pv (.str b0)])), (1, some (.box 22 [.pv (.vs 7 (List.map eGClass b1))])), (2, some (.box 35 (bxv (eGFound_method y153.2.1)))), (3, some (.box 4 [.pv (.bool y153.2.2)]))], 4, [], [], 0, [2]⟩) (imps [0, 1, 2, 3] ⟨by kernel_rfl, by kernel_rfl, by kernel_rfl, by kernel_rfl, by kernel_rfl, by kernel_rfl, by kernel_rfl, by kernel_rfl, by kernel_rfl, by kernel_rfl, trivial⟩ ⟨by kernel_rfl, by kernel_rfl, by kernel_rfl, by kernel_rfl, trivial⟩) ?_
          refine post_next ?_
          rcases ite_some hF with ⟨hb155, hF⟩ | ⟨hb155, hF⟩
          · refine aw_cond_t rfl hb155 ?_
            refine aw_ret ?_
            refine post_block_ret ?_
            iterate 2 (refine post_then_ret ?_)
            refine post_lp_ret ?_
            obtain rfl := Option.some.inj hF
            have hF := elim_stop hK162
            refine post_block_ret ?_
            iterate 2 (refine post_then_ret ?_)
            refine post_lp_ret ?_
            obtain rfl := Option.some.inj hF
            have hF := elim_stop hK169
            refine post_imp (s' := ⟨34, [(2, some (.fn 65 [.lp 0 0, .lp 1 0, .lp 2 0, .lp 3 0]))], [(0, some (.box 9 [.pv (.str b0)])), (1, some (.box 22 [.pv (.vs 7 (List.map eGClass b1))])), (2, some (.box 35 (bxv (eGFound_method y153.2.1)))), (3, some (.box 4 [.pv (.bool y153.2.2)]))], 4, [], [], 0, [2]⟩) (imps [0, 1, 2, 3] ⟨by kernel_rfl, trivial⟩ ⟨by kernel_rfl, by kernel_rfl, by kernel_rfl, by kernel_rfl, trivial⟩) ?_
            obtain rfl := Option.some.inj hF
            exact post_retW hcx rfl .nil rfl (.inl rfl)
          refine aw_cond_f rfl hb155 ?_
          refine aw_skip ?_
          refine post_block_normal ?_
          refine post_next ?_
          refine aw_region ?_
          refine rgp (op_int (k := .i64) (m := x132) (n := 1) rfl rfl rfl rfl rfl rfl) ?_
          refine rmv ?_
          refine reg_nil ?_
          refine post_round ?_
          exact rnd_back (ih (y153.2.1, y153.2.2, w_i64 (x132 + 1)) hF) (imps [0, 1, 2, 3] ⟨by kernel_rfl, by kernel_rfl, by kernel_rfl, by kernel_rfl, by kernel_rfl, by kernel_rfl, by kernel_rfl, by kernel_rfl, by kernel_rfl, trivial⟩ ⟨by kernel_rfl, by kernel_rfl, by kernel_rfl, by kernel_rfl, trivial⟩)
        refine aw_cond_f rfl hb146 ?_
        refine aw_exit ?_
        iterate 2 (refine post_then_exit ?_)
        obtain rfl := Option.some.inj hF
        exact post_lp_break _ ⟨_, rfl, rfl⟩ (imps [0, 1, 2, 3] ⟨by kernel_rfl, by kernel_rfl, by kernel_rfl, by kernel_rfl, by kernel_rfl, trivial⟩ ⟨by kernel_rfl, by kernel_rfl, by kernel_rfl, by kernel_rfl, trivial⟩)
      rintro _ ⟨⟨x159, x160⟩, rfl, rfl⟩
      have hF := elim_next hK162
      clear hK162
      refine post_block_normal ?_
      refine post_next ?_
      refine aw_region ?_
      refine rgp (op_int (k := .i64) (m := x55) (n := 1) rfl rfl rfl rfl rfl rfl) ?_
      refine rmv ?_
      refine reg_nil ?_
      refine post_round ?_
      exact rnd_back (ih (x159, x160, w_i64 (x55 + 1)) hF) (imps [0, 1, 2, 3] ⟨by kernel_rfl, by kernel_rfl, by kernel_rfl, by kernel_rfl, by kernel_rfl, trivial⟩ ⟨by kernel_rfl, by kernel_rfl, by kernel_rfl, by kernel_rfl, trivial⟩)
    refine aw_cond_f rfl hb111 ?_
    refine aw_exit ?_
    iterate 2 (refine post_then_exit ?_)
    obtain rfl := Option.some.inj hF
    exact post_lp_break _ ⟨_, rfl, rfl⟩ (imps [0, 1, 2, 3] ⟨by kernel_rfl, trivial⟩ ⟨by kernel_rfl, by kernel_rfl, by kernel_rfl, by kernel_rfl, trivial⟩)
  rintro _ ⟨⟨x166, x167⟩, rfl, rfl⟩
  have hF := elim_next hK169
  clear hK169
  refine post_imp (s' := ⟨34, [(2, some (.fn 65 [.lp 0 0, .lp 1 0, .lp 2 0, .lp 3 0]))], [(0, some (.box 9 [.pv (.str b0)])), (1, some (.box 22 [.pv (.vs 7 (List.map eGClass b1))])), (2, some (.box 35 (bxv (eGFound_method x166)))), (3, some (.box 4 [.pv (.bool x167)]))], 4, [], [], 0, [2]⟩) (imps [0, 1, 2, 3] ⟨by kernel_rfl, trivial⟩ ⟨by kernel_rfl, by kernel_rfl, by kernel_rfl, by kernel_rfl, trivial⟩) ?_
  obtain rfl := Option.some.inj hF
  exact post_retW hcx rfl .nil rfl (.inr rfl)
theorem method_first_ok {a0 : List GClass} {a1 : List Int} {a2 : List UInt8} {r : GFound_method × Bool} (hF : method_first a0 a1 a2 = some r) : Abs.Fn Try.prog 41 [.vs 7 (List.map eGClass a0), .vs 1 (List.map eI a1), .str a2] [.p (.agg (eGFound_method r.1)), .p (.bool r.2)] := by
  unfold method_first at hF
  refine fn_of_body (n := 17) Try.func41 rfl rfl rfl ?_
  intro w O
  refine aw_seq ?_
  refine aw_region ?_
  refine rgp (op_box 0 rfl rfl rfl rfl rfl rfl) ?_
  refine rgp (op_box 1 rfl rfl rfl rfl rfl rfl) ?_
  refine rgp (op_alloc 2 rfl (ps := (eGFound_method zGFound_method)) rfl Try_zer_35 (by exact ⟨rfl, rfl, rfl, rfl, rfl, rfl, rfl, rfl, rfl, rfl, rfl, rfl, rfl, rfl, trivial, trivial, trivial, rfl, trivial⟩) rfl rfl) ?_
  refine ras ?_
  refine reg_nil ?_
  refine post_imp (s' := ⟨17, [(1, some (.pv (.vs 1 (List.map eI a1)))), (3, some (.lp 0 0)), (5, some (.lp 1 0)), (6, some (.lp 2 0))], [(0, some (.box 22 [.pv (.vs 7 (List.map eGClass a0))])), (1, some (.box 9 [.pv (.str a2)])), (2, some (.box 35 (bxv (eGFound_method zGFound_method))))], 3, [], [], 0, []⟩) (imps [0, 1, 2] ⟨by kernel_rfl, by kernel_rfl, by kernel_rfl, by kernel_rfl, trivial⟩ ⟨by kernel_rfl, by kernel_rfl, by kernel_rfl, trivial⟩) ?_
  refine post_next ?_
  refine aw_seq ?_
  refine aw_region ?_
  refine rgp (op_build (zs := (eGFound_method zGFound_method)) (r := eGFound_method ({ fClass := [], fMethod := zGMethod } : GFound_method)) rfl Try_zer_35 (by exact ⟨rfl, rfl, rfl, rfl, rfl, rfl, rfl, rfl, rfl, rfl, rfl, rfl, rfl, rfl, trivial, trivial, trivial, rfl, trivial⟩) Try_plc_35 rfl rfl rfl rfl) ?_
  refine rgp (op_alloc 3 rfl (ps := (eGFound_method zGFound_method)) rfl Try_zer_35 (by exact ⟨rfl, rfl, rfl, rfl, rfl, rfl, rfl, rfl, rfl, rfl, rfl, rfl, rfl, rfl, trivial, trivial, trivial, rfl, trivial⟩) rfl rfl) ?_
  refine rgp (op_alloc 4 rfl (ps := [.bool false]) rfl Try_zer_4 (by exact ⟨rfl, trivial⟩) rfl rfl) ?_
  refine rgp (op_store_lp (n := 18) rfl rfl rfl rfl rfl (or_agg Try_agg_35) (by rw [Try_non_35]; rfl) rfl rfl rfl) ?_
  refine rgp (op_store_lp (n := 1) rfl rfl rfl rfl rfl (or_one Try_one_4) (by rw [Try_one_4]; rfl) rfl rfl rfl) ?_
  refine reg_nil ?_
  refine post_imp (s' := ⟨17, [(1, some (.pv (.vs 1 (List.map eI a1)))), (3, some (.lp 0 0)), (5, some (.lp 1 0)), (6, some (.lp 2 0)), (8, some (.lp 3 0)), (9, some (.lp 4 0))], [(0, some (.box 22 [.pv (.vs 7 (List.map eGClass a0))])), (1, some (.box 9 [.pv (.str a2)])), (2, some (.box 35 (bxv (eGFound_method zGFound_method)))), (3, some (.box 35 (bxv (eGFound_method ({ fClass := [], fMethod := zGMethod } : GFound_method))))), (4, some (.box 4 [.pv (.bool false)]))], 5, [], [], 0, []⟩) (imps [0, 1, 2, 3, 4] ⟨by kernel_rfl, by kernel_rfl, by kernel_rfl, by kernel_rfl, by kernel_rfl, by kernel_rfl, trivial⟩ ⟨by kernel_rfl, by kernel_rfl, by kernel_rfl, by kernel_rfl, by kernel_rfl, trivial⟩) ?_
  refine post_next ?_
  refine aw_seq ?_
  refine aw_region ?_
  refine rgp (op_load_lp (v := .pv (.vs 7 (List.map eGClass a0))) rfl rfl rfl rfl Try_one_22 rfl rfl) ?_
  refine rmv ?_
  refine rgp (op_makeFunc rfl rfl rfl rfl) ?_
  obtain ⟨y3, h4, hF⟩ := bind_some hF
  refine rgp (op_callW (args := [.pv (.vs 7 (List.map eGClass a0)), .pv (.vs 1 (List.map eI a1)), .fn 65 [.lp 0 0, .lp 1 0, .lp 2 0, .lp 3 0]]) [1, 0, 3, 4] [1, 0, 3, 4] [] 5 rfl rfl rfl rfl rfl Try_cal_64 (method_walk_w_ok h4) rfl (by decide) ⟨rfl, rfl, rfl, rfl, trivial⟩ rfl (by decide) ⟨.inl rfl, .inl rfl, .inl rfl, .inl rfl, trivial⟩ (by kernel_rfl) (by kernel_rfl) rfl rfl rfl rfl) ?_
  refine reg_nil ?_
  refine post_imp (s' := ⟨17, [(6, some (.lp 0 0)), (8, some (.lp 1 0)), (9, some (.lp 2 0))], [(0, some (.box 35 (bxv (eGFound_method zGFound_method)))), (1, some (.box 35 (bxv (eGFound_method y3.1)))), (2, some (.box 4 [.pv (.bool y3.2)]))], 3, [], [], 0, []⟩) (imps [2, 3, 4] ⟨by kernel_rfl, by kernel_rfl, by kernel_rfl, trivial⟩ ⟨by kernel_rfl, by kernel_rfl, by kernel_rfl, trivial⟩) ?_
  refine post_next ?_
  refine aw_seq ?_
  refine dr_start ⟨_, _, _⟩ rfl ?_
  refine dr_cons { need := [(8, .lp 1 0)], hneed := [(1, .box 35 (bxv (eGFound_method y3.1)))], dst := some 15, val := some (.pv (.agg (eGFound_method y3.1))) } (fun m h => step_on (guard_no rfl) (op_load_lp_agg (ps := eGFound_method y3.1) rfl h.1.1 h.2.1.1 rfl rfl rfl Try_agg_35 rfl rfl) rfl) ⟨⟨rfl, trivial⟩, ⟨rfl, trivial⟩, trivial⟩ ?_
  refine dr_cons { need := [(9, .lp 2 0)], hneed := [(2, .box 4 [.pv (.bool y3.2)])], dst := some 16, val := some (.pv (.bool y3.2)) } (fun m h => step_on (guard_no rfl) (op_load_lp (v := .pv (.bool y3.2)) rfl h.1.1 h.2.1.1 rfl Try_one_4 rfl rfl) rfl) ⟨⟨rfl, trivial⟩, ⟨rfl, trivial⟩, trivial⟩ ?_
  refine dr_cons { need := [(6, .lp 0 0), (15, .pv (.agg (eGFound_method y3.1)))], hneed := [(0, .box 35 (bxv (eGFound_method zGFound_method)))], upd := [(0, some (.box 35 (bxv (eGFound_method y3.1))))] } (fun m h => step_on (guard_no rfl) (op_store_lp (n := 18) rfl h.1.1 h.1.2.1 rfl h.2.1.1 (or_agg Try_agg_35) (by rw [Try_non_35]; rfl) rfl rfl rfl) rfl) ⟨⟨rfl, rfl, trivial⟩, ⟨rfl, trivial⟩, trivial⟩ ?_
  refine dr_cons { need := [(16, .pv (.bool y3.2))], dst := some 7, val := some (.pv (.bool y3.2)) } (fun m h => step_on (guard_no rfl) (op_assign rfl h.1.1 rfl rfl) rfl) ⟨⟨rfl, trivial⟩, trivial, trivial⟩ ?_
  refine dr_nil Try_mixed rfl (by kernel_rfl) ?_
  refine post_imp (s' := ⟨17, [(6, some (.lp 0 0)), (7, some (.pv (.bool y3.2)))], [(0, some (.box 35 (bxv (eGFound_method y3.1))))], 1, [], [], 0, []⟩) (imps [0] ⟨by kernel_rfl, by kernel_rfl, trivial⟩ ⟨by kernel_rfl, trivial⟩) ?_
  refine post_next ?_
  refine aw_ret ?_
  obtain rfl := Option.some.inj hF
  exact post_ret rfl rfl (.cons _ _ _ _ _ (.agg _ _ _ _ _ 18 _ _ rfl rfl Try_agg_35 rfl rfl rfl) (.p _) (.cons _ _ _ _ _ (.tmp _ _ rfl) (.p _) .nil)) (.inl rfl)
theorem method_Over_ok {a0 : List GClass} {a1 : List UInt8} {a2 : List UInt8} {r : GFound_method × Bool} (hF : method_Over a0 a1 a2 = some r) : Abs.Fn Try.prog 14 [.vs 7 (List.map eGClass a0), .str a1, .str a2] [.p (.agg (eGFound_method r.1)), .p (.bool r.2)] := by
  unfold method_Over at hF
  refine fn_of_body (n := 22) Try.func14 rfl rfl rfl ?_
  intro w O
  refine aw_seq ?_
  refine aw_region ?_
  refine rgp (op_alloc 0 rfl (ps := (eGFound_method zGFound_method)) rfl Try_zer_35 (by exact ⟨rfl, rfl, rfl, rfl, rfl, rfl, rfl, rfl, rfl, rfl, rfl, rfl, rfl, rfl, trivial, trivial, trivial, rfl, trivial⟩) rfl rfl) ?_
  refine ras ?_
  refine reg_nil ?_
  refine post_imp (s' := ⟨22, [(0, some (.pv (.vs 7 (List.map eGClass a0)))), (1, some (.pv (.str a1))), (2, some (.pv (.str a2))), (6, some (.lp 0 0))], [(0, some (.box 35 (bxv (eGFound_method zGFound_method))))], 1, [], [], 0, []⟩) (imps [0] ⟨by kernel_rfl, by kernel_rfl, by kernel_rfl, by kernel_rfl, trivial⟩ ⟨by kernel_rfl, trivial⟩) ?_
  refine post_next ?_
  refine aw_seq ?_
  refine aw_region ?_
  iterate 2 (refine rmv ?_)
  obtain ⟨y3, h4, hF⟩ := bind_some hF
  refine rgp (op_call 1 rfl (caps := []) (args := [.vs 7 (List.map eGClass a0), .str a1]) (rs := [.p (.vs 1 (List.map eI y3))]) rfl rfl rfl Try_cal_42 (Fn.frozen (above_Chain_ok h4)) rfl rfl rfl) ?_
  refine ras ?_
  refine reg_nil ?_
  refine post_imp (s' := ⟨22, [(0, some (.pv (.vs 7 (List.map eGClass a0)))), (2, some (.pv (.str a2))), (6, some (.lp 0 0)), (8, some (.pv (.vs 1 (List.map eI y3))))], [(0, some (.box 35 (bxv (eGFound_method zGFound_method))))], 1, [], [], 0, []⟩) (imps [0] ⟨by kernel_rfl, by kernel_rfl, by kernel_rfl, by kernel_rfl, trivial⟩ ⟨by kernel_rfl, trivial⟩) ?_
  refine post_next ?_
  refine aw_seq ?_
  refine aw_region ?_
  iterate 3 (refine rmv ?_)
  refine rgp (op_len_vs (n := y3.length) rfl rfl (List.length_map ..) Try_slc_86 rfl rfl) ?_
  refine rgp (op_min2 rfl rfl rfl rfl rfl) ?_
  obtain ⟨y5, h6, hF⟩ := bind_some hF
  refine rgp (op_slice_vs (nl := (some (if (y3.length : Int) < 1 then (y3.length : Int) else 1))) (nh := none) (nm := none) rfl rfl rfl rfl rfl (.inl rfl) Try_slc_86 (cut_map (nl := (some (if (y3.length : Int) < 1 then (y3.length : Int) else 1))) (nh := none) eI h6) rfl rfl) ?_
  refine rmv ?_
  obtain ⟨y7, h8, hF⟩ := bind_some hF
  refine rgp (op_call 1 rfl (caps := []) (args := [.vs 7 (List.map eGClass a0), .vs 1 (List.map eI y5), .str a2]) (rs := [.p (.agg (eGFound_method y7.1)), .p (.bool y7.2)]) rfl rfl rfl Try_cal_41 (method_first_ok h8) rfl rfl rfl) ?_
  iterate 2 (refine rgp (op_extract rfl rfl rfl rfl rfl) ?_)
  refine rgp (op_store_lp (n := 18) rfl rfl rfl rfl rfl (or_agg Try_agg_35) (by rw [Try_non_35]; rfl) rfl rfl rfl) ?_
  refine ras ?_
  refine reg_nil ?_
  refine post_imp (s' := ⟨22, [(6, some (.lp 0 0)), (7, some (.pv (.bool y7.2)))], [(0, some (.box 35 (bxv (eGFound_method y7.1))))], 1, [], [], 0, []⟩) (imps [0] ⟨by kernel_rfl, by kernel_rfl, trivial⟩ ⟨by kernel_rfl, trivial⟩) ?_
  refine post_next ?_
  refine aw_ret ?_
  obtain rfl := Option.some.inj hF
  exact post_ret rfl rfl (.cons _ _ _ _ _ (.agg _ _ _ _ _ 18 _ _ rfl rfl Try_agg_35 rfl rfl rfl) (.p _) (.cons _ _ _ _ _ (.tmp _ _ rfl) (.p _) .nil)) (.inl rfl)
theorem kind_Unique_ok {a0 : GType} {r : Bool} (hF : kind_Unique a0 = some r) : Abs.Fn Try.prog 52 [.agg (eGType a0)] [.p (.bool r)] := by
  unfold kind_Unique at hF
  refine fn_of_body (n := 13) Try.func52 rfl rfl rfl ?_
  intro w O
  refine aw_seq ?_
  refine aw_region ?_
  refine rgp (op_box 0 rfl rfl rfl rfl rfl rfl) ?_
  refine ras ?_
  refine reg_nil ?_
  refine post_imp (s' := ⟨13, [(1, some (.lp 0 0))], [(0, some (.box 29 (bxv (eGType a0))))], 1, [], [], 0, []⟩) (imps [0] ⟨by kernel_rfl, trivial⟩ ⟨by kernel_rfl, trivial⟩) ?_
  refine post_next ?_
  refine aw_seq ?_
  refine aw_region ?_
  refine rgp (op_field_lp rfl rfl Try_fld_29_0 rfl rfl) ?_
  refine rgp (op_load_lp (v := .pv (.int .i64 a0.fKind)) rfl rfl rfl rfl Try_one_3 rfl rfl) ?_
  refine rgp (op_int (k := .i64) (m := a0.fKind) (n := 2) rfl rfl rfl rfl rfl rfl) ?_
  refine rmv ?_
  rcases ite_some hF with ⟨hb1, hF⟩ | ⟨hb1, hF⟩
  · refine rgn hb1 (op_field_lp rfl rfl Try_fld_29_3 rfl rfl) ?_
    refine rgn hb1 (op_arr_lp (k := .i64) (m := 0) (n := 4) rfl rfl rfl Try_arr_27 rfl rfl rfl rfl) ?_
    refine rgn hb1 (op_field_lp rfl rfl Try_fld_26_0 rfl rfl) ?_
    refine rgn hb1 (op_load_lp (v := .pv (.int .i64 a0.fOwn.a0.fKind)) rfl rfl rfl rfl Try_one_3 rfl rfl) ?_
    refine rgn hb1 (op_int (k := .i64) (m := a0.fOwn.a0.fKind) (n := 6) rfl rfl rfl rfl rfl rfl) ?_
    refine rpt hb1 ?_
    refine ras ?_
    refine reg_nil ?_
    refine post_imp (s' := ⟨13, [(2, some (.pv (.bool (a0.fOwn.a0.fKind == 6))))], [], 0, [], [], 0, []⟩) (imps [] ⟨by kernel_rfl, trivial⟩ trivial) ?_
    refine post_next ?_
    refine aw_ret ?_
    obtain rfl := Option.some.inj hF
    exact prt
  iterate 5 (refine rgo_f hb1 ?_)
  refine rpf hb1 ?_
  refine ras ?_
  refine reg_nil ?_
  refine post_imp (s' := ⟨13, [(2, some (.pv (.bool false)))], [], 0, [], [], 0, []⟩) (imps [] ⟨by kernel_rfl, trivial⟩ trivial) ?_
  refine post_next ?_
  refine aw_ret ?_
  obtain rfl := Option.some.inj hF
  exact prt
end Go.Proofs.Ytahieoaggbmicaa
