/- A part of the proof that the law OwnerTwice gives true for every input. -/
import Derived.Test.YtdffghiejjaomaaOwnerTwiceT
import Derived.Test.YtdffghiejjaomaaOwnerTwiceX
/- Each Go function computes its plain function. -/
namespace Go.Proofs.Ytdffghiejjaomaa
open Go.RowKit Go.Abs
set_option maxRecDepth 100000
theorem owner_Put_ok {a0 : GOwner} {a1 : List GOwner} {r : GOwner} (hF : owner_Put a0 a1 = some r) : Abs.Fn Try.prog 26 [.agg (eGOwner a0), .vs 2 (List.map eGOwner a1)] [.p (.agg (eGOwner r))] := by
  unfold owner_Put at hF
  refine fn_of_body (n := 28) Try.func26 rfl rfl rfl ?_
  intro w O
  refine aw_seq ?_
  refine aw_region ?_
  refine reg_cons (guard_no rfl) (op_box 0 rfl rfl rfl rfl rfl rfl) ?_
  refine reg_cons (guard_no rfl) (op_alloc 1 rfl (ps := [.int .i64 (({ fKind := 0, fN := 0 } : GOwner).fKind), .int .i64 (({ fKind := 0, fN := 0 } : GOwner).fN)]) rfl Try_zer_42 (by exact ⟨rfl, rfl, trivial⟩) rfl rfl) ?_
  refine reg_nil ?_
  refine post_imp (s' := ⟨28, [(1, some (.pv (.vs 2 (List.map eGOwner a1)))), (2, some (.lp 0 0)), (4, some (.lp 1 0))], [(0, some (.box 42 [.pv (.int .i64 a0.fKind), .pv (.int .i64 a0.fN)])), (1, some (.box 42 [.pv (.int .i64 (({ fKind := 0, fN := 0 } : GOwner).fKind)), .pv (.int .i64 (({ fKind := 0, fN := 0 } : GOwner).fN))]))], 2, [], []⟩) (imp_sub [0, 1] rfl rfl (by decide) rfl rfl ⟨rfl, rfl, rfl, trivial⟩ ⟨rfl, rfl, trivial⟩ rfl nolent2) ?_
  refine post_next ?_
  refine aw_seq ?_
  refine aw_region ?_
  refine reg_cons (guard_no rfl) (op_assign rfl rfl rfl rfl) ?_
  refine reg_nil ?_
  refine post_imp (s' := ⟨28, [(1, some (.pv (.vs 2 (List.map eGOwner a1)))), (2, some (.lp 0 0)), (4, some (.lp 1 0)), (5, some (.pv (.int .i64 0)))], [(0, some (.box 42 [.pv (.int .i64 a0.fKind), .pv (.int .i64 a0.fN)])), (1, some (.box 42 [.pv (.int .i64 (({ fKind := 0, fN := 0 } : GOwner).fKind)), .pv (.int .i64 (({ fKind := 0, fN := 0 } : GOwner).fN))]))], 2, [], []⟩) (imp_sub [0, 1] rfl rfl (by decide) rfl rfl ⟨rfl, rfl, rfl, rfl, trivial⟩ ⟨rfl, rfl, trivial⟩ rfl nolent2) ?_
  refine post_next ?_
  refine aw_seq ?_
  refine aw_seq ?_
  refine aw_region ?_
  refine reg_cons (guard_no rfl) (op_field_lp rfl rfl Try_fld_42_0 rfl rfl) ?_
  refine reg_cons (guard_no rfl) (op_load_lp (v := .pv (.int .i64 a0.fKind)) rfl rfl rfl rfl Try_one_3 rfl rfl) ?_
  refine reg_nil ?_
  refine post_imp (s' := ⟨28, [(1, some (.pv (.vs 2 (List.map eGOwner a1)))), (2, some (.lp 0 0)), (4, some (.lp 1 0)), (5, some (.pv (.int .i64 0))), (7, some (.pv (.int .i64 a0.fKind)))], [(0, some (.box 42 [.pv (.int .i64 a0.fKind), .pv (.int .i64 a0.fN)])), (1, some (.box 42 [.pv (.int .i64 (({ fKind := 0, fN := 0 } : GOwner).fKind)), .pv (.int .i64 (({ fKind := 0, fN := 0 } : GOwner).fN))]))], 2, [], []⟩) (imp_sub [0, 1] rfl rfl (by decide) rfl rfl ⟨rfl, rfl, rfl, rfl, rfl, trivial⟩ ⟨rfl, rfl, trivial⟩ rfl nolent2) ?_
  refine post_next ?_
  refine aw_block ?_
  refine aw_seq ?_
  refine aw_join hF (fun q => ⟨28, [(1, some (.pv (.vs 2 (List.map eGOwner a1)))), (4, some (.lp 0 0)), (5, some (.pv (.int .i64 q)))], [(0, some (.box 42 [.pv (.int .i64 (({ fKind := 0, fN := 0 } : GOwner).fKind)), .pv (.int .i64 (({ fKind := 0, fN := 0 } : GOwner).fN))]))], 1, [], []⟩) ?_ ?_
  · refine aw_block ?_
    refine aw_seq ?_
    refine aw_block ?_
    refine aw_seq ?_
    refine aw_seq ?_
    refine aw_seq ?_
    refine aw_region ?_
    refine reg_cons (guard_no rfl) (op_int (k := .i64) (m := a0.fKind) (n := 3) rfl rfl rfl rfl rfl rfl) ?_
    refine reg_cons (guard_no rfl) (op_assign rfl rfl rfl rfl) ?_
    refine reg_nil ?_
    refine post_imp (s' := ⟨28, [(1, some (.pv (.vs 2 (List.map eGOwner a1)))), (2, some (.lp 0 0)), (4, some (.lp 1 0)), (5, some (.pv (.int .i64 0))), (7, some (.pv (.int .i64 a0.fKind))), (8, some (.pv (.bool (a0.fKind == 3))))], [(0, some (.box 42 [.pv (.int .i64 a0.fKind), .pv (.int .i64 a0.fN)])), (1, some (.box 42 [.pv (.int .i64 (({ fKind := 0, fN := 0 } : GOwner).fKind)), .pv (.int .i64 (({ fKind := 0, fN := 0 } : GOwner).fN))]))], 2, [], []⟩) (imp_sub [0, 1] rfl rfl (by decide) rfl rfl ⟨rfl, rfl, rfl, rfl, rfl, rfl, trivial⟩ ⟨rfl, rfl, trivial⟩ rfl nolent2) ?_
    refine post_next ?_
    rcases go_ite hF with ⟨hb1, hF⟩ | ⟨hb1, hF⟩
    · refine aw_cond_t rfl hb1 ?_
      refine aw_exit ?_
      refine post_then_exit ?_
      refine post_then_exit ?_
      refine post_block_exit ?_
      refine post_next ?_
      refine aw_region ?_
      refine reg_cons (guard_no rfl) (op_field_lp rfl rfl Try_fld_42_1 rfl rfl) ?_
      refine reg_cons (guard_no rfl) (op_load_lp (v := .pv (.int .i64 a0.fN)) rfl rfl rfl rfl Try_one_3 rfl rfl) ?_
      refine reg_cons (guard_no rfl) (op_assign rfl rfl rfl rfl) ?_
      refine reg_nil ?_
      refine post_imp (s' := ⟨28, [(1, some (.pv (.vs 2 (List.map eGOwner a1)))), (4, some (.lp 0 0)), (5, some (.pv (.int .i64 a0.fN)))], [(0, some (.box 42 [.pv (.int .i64 (({ fKind := 0, fN := 0 } : GOwner).fKind)), .pv (.int .i64 (({ fKind := 0, fN := 0 } : GOwner).fN))]))], 1, [], []⟩) (imp_sub [1] rfl rfl (by decide) rfl rfl ⟨rfl, rfl, rfl, trivial⟩ ⟨rfl, trivial⟩ rfl nolent2) ?_
      refine post_block_normal ?_
      exact post_cut _ ⟨a0.fN, rfl, hF⟩ (imp_sub [0] rfl rfl (by decide) rfl rfl ⟨rfl, rfl, rfl, trivial⟩ ⟨rfl, trivial⟩ rfl nolent2)
    · refine aw_cond_f rfl hb1 ?_
      refine aw_skip ?_
      refine post_next ?_
      refine aw_seq ?_
      refine aw_region ?_
      refine reg_cons (guard_no rfl) (op_int (k := .i64) (m := a0.fKind) (n := 2) rfl rfl rfl rfl rfl rfl) ?_
      refine reg_cons (guard_no rfl) (op_assign rfl rfl rfl rfl) ?_
      refine reg_nil ?_
      refine post_imp (s' := ⟨28, [(1, some (.pv (.vs 2 (List.map eGOwner a1)))), (2, some (.lp 0 0)), (4, some (.lp 1 0)), (5, some (.pv (.int .i64 0))), (10, some (.pv (.bool (a0.fKind == 2))))], [(0, some (.box 42 [.pv (.int .i64 a0.fKind), .pv (.int .i64 a0.fN)])), (1, some (.box 42 [.pv (.int .i64 (({ fKind := 0, fN := 0 } : GOwner).fKind)), .pv (.int .i64 (({ fKind := 0, fN := 0 } : GOwner).fN))]))], 2, [], []⟩) (imp_sub [0, 1] rfl rfl (by decide) rfl rfl ⟨rfl, rfl, rfl, rfl, rfl, trivial⟩ ⟨rfl, rfl, trivial⟩ rfl nolent2) ?_
      refine post_next ?_
      rcases go_ite hF with ⟨hb2, hF⟩ | ⟨hb2, hF⟩
      · refine aw_cond_t rfl hb2 ?_
        refine aw_exit ?_
        refine post_then_exit ?_
        refine post_block_other rfl ?_
        refine post_then_exit ?_
        refine post_block_exit ?_
        exact post_cut _ ⟨0, rfl, hF⟩ (imp_sub [1] rfl rfl (by decide) rfl rfl ⟨rfl, rfl, rfl, trivial⟩ ⟨rfl, trivial⟩ rfl nolent2)
      · refine aw_cond_f rfl hb2 ?_
        refine aw_skip ?_
        refine post_next ?_
        refine aw_exit ?_
        refine post_block_other rfl ?_
        refine post_then_exit ?_
        refine post_block_other rfl ?_
        refine post_cut_exit ?_
        replace hF := go_stop hF
        refine post_then_exit ?_
        refine post_block_exit ?_
        refine post_next ?_
        refine aw_seq ?_
        refine aw_region ?_
        refine reg_cons (guard_no rfl) (op_load_lp_agg (ps := eGOwner a0) rfl rfl rfl rfl rfl rfl Try_agg_42 rfl rfl) ?_
        refine reg_cons (guard_no rfl) (op_store_lp (n := 2) rfl rfl rfl rfl rfl (or_agg Try_agg_42) (by rw [Try_non_42]; rfl) rfl rfl) ?_
        refine reg_nil ?_
        refine post_imp (s' := ⟨28, [(4, some (.lp 0 0))], [(0, some (.box 42 [.pv (.int .i64 a0.fKind), .pv (.int .i64 a0.fN)]))], 1, [], []⟩) (imp_sub [1] rfl rfl (by decide) rfl rfl ⟨rfl, trivial⟩ ⟨rfl, trivial⟩ rfl nolent2) ?_
        refine post_next ?_
        refine aw_ret ?_
        obtain rfl := Option.some.inj hF
        exact post_ret rfl rfl rfl (.cons _ _ _ _ _ (.agg _ _ _ _ _ 2 _ _ rfl rfl Try_agg_42 rfl rfl rfl) (.p _) .nil) (.inl rfl)
  · rintro x3 hF
    refine post_next ?_
    refine aw_seq ?_
    refine aw_seq ?_
    refine aw_seq ?_
    obtain ⟨x5, hF, hK7⟩ := bind_some hF
    refine aw_cut (fun s1 => s1 = ⟨28, [(1, some (.pv (.vs 2 (List.map eGOwner a1)))), (4, some (.lp 0 0)), (5, some (.pv (.int .i64 x3))), (21, some (.pv (.bool x5)))], [(0, some (.box 42 [.pv (.int .i64 (({ fKind := 0, fN := 0 } : GOwner).fKind)), .pv (.int .i64 (({ fKind := 0, fN := 0 } : GOwner).fN))]))], 1, [], []⟩) ?_ ?_
    · refine aw_region ?_
      refine reg_cons (guard_no rfl) (op_move rfl rfl rfl rfl) ?_
      refine reg_cons (guard_no rfl) (op_int (k := .i64) (m := x3) (n := 0) rfl rfl rfl rfl rfl rfl) ?_
      refine reg_cons (guard_no rfl) (op_move rfl rfl rfl rfl) ?_
      rcases ite_some hF with ⟨hb4, hF⟩ | ⟨hb4, hF⟩
      · refine reg_off (guard_off rfl rfl rfl rfl hb4) rfl ?_
        refine reg_off (guard_off rfl rfl rfl rfl hb4) rfl ?_
        refine reg_off (guard_off rfl rfl rfl rfl hb4) rfl ?_
        refine reg_off (guard_off rfl rfl rfl rfl hb4) rfl ?_
        refine reg_cons (guard_no rfl) (op_pick_t rfl rfl hb4 rfl rfl rfl) ?_
        refine reg_nil ?_
        cases hF
        exact post_cut _ rfl (imp_sub [0] rfl rfl (by decide) rfl rfl ⟨rfl, rfl, rfl, rfl, trivial⟩ ⟨rfl, trivial⟩ rfl nolent2)
      · refine reg_cons (guard_on rfl rfl rfl rfl hb4) (op_move rfl rfl rfl rfl) ?_
        refine reg_cons (guard_on rfl rfl rfl rfl hb4) (op_move rfl rfl rfl rfl) ?_
        refine reg_cons (guard_on rfl rfl rfl rfl hb4) (op_len_vs (n := a1.length) rfl rfl (List.length_map ..) Try_slc_43 rfl rfl) ?_
        refine reg_cons (guard_on rfl rfl rfl rfl hb4) (op_int (k := .i64) (m := x3) (n := (a1.length : Int)) rfl rfl rfl rfl rfl rfl) ?_
        refine reg_cons (guard_no rfl) (op_pick_f rfl rfl hb4 rfl rfl rfl) ?_
        refine reg_nil ?_
        cases hF
        exact post_cut _ rfl (imp_sub [0] rfl rfl (by decide) rfl rfl ⟨rfl, rfl, rfl, rfl, trivial⟩ ⟨rfl, trivial⟩ rfl nolent2)
    · rintro _ rfl
      have hF := hK7
      clear hK7
      refine post_next ?_
      rcases ite_some hF with ⟨hb8, hF⟩ | ⟨hb8, hF⟩
      · refine aw_cond_t rfl hb8 ?_
        refine aw_seq ?_
        refine aw_region ?_
        refine reg_cons (guard_no rfl) (op_build (zs := [.int .i64 (({ fKind := 0, fN := 0 } : GOwner).fKind), .int .i64 (({ fKind := 0, fN := 0 } : GOwner).fN)]) (r := eGOwner ({ fKind := 8, fN := 0 } : GOwner)) rfl Try_zer_42 (by exact ⟨rfl, rfl, trivial⟩) Try_plc_42 rfl rfl rfl rfl) ?_
        refine reg_cons (guard_no rfl) (op_store_lp (n := 2) rfl rfl rfl rfl rfl (or_agg Try_agg_42) (by rw [Try_non_42]; rfl) rfl rfl) ?_
        refine reg_nil ?_
        refine post_imp (s' := ⟨28, [(4, some (.lp 0 0))], [(0, some (.box 42 [.pv (.int .i64 (({ fKind := 8, fN := 0 } : GOwner).fKind)), .pv (.int .i64 (({ fKind := 8, fN := 0 } : GOwner).fN))]))], 1, [], []⟩) (imp_sub [0] rfl rfl (by decide) rfl rfl ⟨rfl, trivial⟩ ⟨rfl, trivial⟩ rfl nolent2) ?_
        refine post_next ?_
        refine aw_ret ?_
        refine post_then_ret ?_
        refine post_then_ret ?_
        refine post_block_ret ?_
        refine post_then_ret ?_
        obtain rfl := Option.some.inj hF
        exact post_ret rfl rfl rfl (.cons _ _ _ _ _ (.agg _ _ _ _ _ 2 _ _ rfl rfl Try_agg_42 rfl rfl rfl) (.p _) .nil) (.inl rfl)
      · refine aw_cond_f rfl hb8 ?_
        refine aw_skip ?_
        refine post_next ?_
        refine aw_seq ?_
        refine aw_region ?_
        refine reg_cons (guard_no rfl) (op_move rfl rfl rfl rfl) ?_
        refine reg_cons (guard_no rfl) (op_move rfl rfl rfl rfl) ?_
        obtain ⟨y9, h10, hF⟩ := bind_some hF
        refine reg_cons (guard_no rfl) (op_index_vs (k := .i64) rfl rfl rfl (idx_map eGOwner h10) Try_slc_43 rfl rfl) ?_
        refine reg_cons (guard_no rfl) (op_load_vp_agg (ps := eGOwner y9) rfl rfl rfl rfl Try_agg_42 rfl rfl) ?_
        refine reg_cons (guard_no rfl) (op_store_lp (n := 2) rfl rfl rfl rfl rfl (or_agg Try_agg_42) (by rw [Try_non_42]; rfl) rfl rfl) ?_
        refine reg_nil ?_
        refine post_imp (s' := ⟨28, [(4, some (.lp 0 0))], [(0, some (.box 42 [.pv (.int .i64 y9.fKind), .pv (.int .i64 y9.fN)]))], 1, [], []⟩) (imp_sub [0] rfl rfl (by decide) rfl rfl ⟨rfl, trivial⟩ ⟨rfl, trivial⟩ rfl nolent2) ?_
        refine post_next ?_
        refine aw_ret ?_
        refine post_then_ret ?_
        refine post_block_ret ?_
        refine post_then_ret ?_
        obtain rfl := Option.some.inj hF
        exact post_ret rfl rfl rfl (.cons _ _ _ _ _ (.agg _ _ _ _ _ 2 _ _ rfl rfl Try_agg_42 rfl rfl rfl) (.p _) .nil) (.inl rfl)
theorem owner_Right_ok {a0 : GOwner} {a1 : Int} {r : Bool} (hF : owner_Right a0 a1 = some r) : Abs.Fn Try.prog 78 [.agg (eGOwner a0), .int .i64 a1] [.p (.bool r)] := by
  unfold owner_Right at hF
  refine fn_of_body (n := 34) Try.func78 rfl rfl rfl ?_
  intro w O
  refine aw_seq ?_
  refine aw_region ?_
  refine reg_cons (guard_no rfl) (op_box 0 rfl rfl rfl rfl rfl rfl) ?_
  refine reg_cons (guard_no rfl) (op_assign rfl rfl rfl rfl) ?_
  refine reg_nil ?_
  refine post_imp (s' := ⟨34, [(1, some (.pv (.int .i64 a1))), (2, some (.lp 0 0))], [(0, some (.box 42 [.pv (.int .i64 a0.fKind), .pv (.int .i64 a0.fN)]))], 1, [], []⟩) (imp_sub [0] rfl rfl (by decide) rfl rfl ⟨rfl, rfl, trivial⟩ ⟨rfl, trivial⟩ rfl nolent2) ?_
  refine post_next ?_
  refine aw_seq ?_
  refine aw_seq ?_
  refine aw_region ?_
  refine reg_cons (guard_no rfl) (op_field_lp rfl rfl Try_fld_42_0 rfl rfl) ?_
  refine reg_cons (guard_no rfl) (op_load_lp (v := .pv (.int .i64 a0.fKind)) rfl rfl rfl rfl Try_one_3 rfl rfl) ?_
  refine reg_nil ?_
  refine post_imp (s' := ⟨34, [(1, some (.pv (.int .i64 a1))), (2, some (.lp 0 0)), (6, some (.pv (.int .i64 a0.fKind)))], [(0, some (.box 42 [.pv (.int .i64 a0.fKind), .pv (.int .i64 a0.fN)]))], 1, [], []⟩) (imp_sub [0] rfl rfl (by decide) rfl rfl ⟨rfl, rfl, rfl, trivial⟩ ⟨rfl, trivial⟩ rfl nolent2) ?_
  refine post_next ?_
  refine aw_block ?_
  refine aw_seq ?_
  refine aw_join hF (fun q => ⟨34, [(2, some (.lp 0 0))], [(0, some (.box 42 [.pv (.int .i64 a0.fKind), .pv (.int .i64 a0.fN)]))], 1, [], []⟩) ?_ ?_
  · refine aw_block ?_
    refine aw_block ?_
    refine aw_block ?_
    refine aw_seq ?_
    refine aw_block ?_
    refine aw_seq ?_
    refine aw_block ?_
    refine aw_seq ?_
    refine aw_seq ?_
    refine aw_seq ?_
    refine aw_region ?_
    refine reg_cons (guard_no rfl) (op_int (k := .i64) (m := a0.fKind) (n := 3) rfl rfl rfl rfl rfl rfl) ?_
    refine reg_cons (guard_no rfl) (op_assign rfl rfl rfl rfl) ?_
    refine reg_nil ?_
    refine post_imp (s' := ⟨34, [(1, some (.pv (.int .i64 a1))), (2, some (.lp 0 0)), (6, some (.pv (.int .i64 a0.fKind))), (7, some (.pv (.bool (a0.fKind == 3))))], [(0, some (.box 42 [.pv (.int .i64 a0.fKind), .pv (.int .i64 a0.fN)]))], 1, [], []⟩) (imp_sub [0] rfl rfl (by decide) rfl rfl ⟨rfl, rfl, rfl, rfl, trivial⟩ ⟨rfl, trivial⟩ rfl nolent2) ?_
    refine post_next ?_
    rcases go_ite hF with ⟨hb1, hF⟩ | ⟨hb1, hF⟩
    · refine aw_cond_t rfl hb1 ?_
      refine aw_exit ?_
      refine post_then_exit ?_
      refine post_then_exit ?_
      refine post_block_exit ?_
      refine post_next ?_
      refine aw_seq ?_
      refine aw_seq ?_
      refine aw_region ?_
      refine reg_cons (guard_no rfl) (op_field_lp rfl rfl Try_fld_42_1 rfl rfl) ?_
      refine reg_cons (guard_no rfl) (op_load_lp (v := .pv (.int .i64 a0.fN)) rfl rfl rfl rfl Try_one_3 rfl rfl) ?_
      refine reg_cons (guard_no rfl) (op_int (k := .i64) (m := a0.fN) (n := 0) rfl rfl rfl rfl rfl rfl) ?_
      refine reg_cons (guard_no rfl) (op_move rfl rfl rfl rfl) ?_
      rcases go_ite hF with ⟨hb2, hF⟩ | ⟨hb2, hF⟩
      · refine reg_cons (guard_on rfl rfl rfl rfl hb2) (op_field_lp rfl rfl Try_fld_42_1 rfl rfl) ?_
        refine reg_cons (guard_on rfl rfl rfl rfl hb2) (op_load_lp (v := .pv (.int .i64 a0.fN)) rfl rfl rfl rfl Try_one_3 rfl rfl) ?_
        refine reg_cons (guard_on rfl rfl rfl rfl hb2) (op_move rfl rfl rfl rfl) ?_
        refine reg_cons (guard_on rfl rfl rfl rfl hb2) (op_int (k := .i64) (m := a0.fN) (n := a1) rfl rfl rfl rfl rfl rfl) ?_
        refine reg_cons (guard_no rfl) (op_pick_t rfl rfl hb2 rfl rfl rfl) ?_
        refine reg_cons (guard_no rfl) (op_assign rfl rfl rfl rfl) ?_
        refine reg_nil ?_
        refine post_imp (s' := ⟨34, [(4, some (.pv (.bool (decide (a0.fN ≤ a1)))))], [], 0, [], []⟩) (imp_sub [] rfl rfl (by decide) rfl rfl ⟨rfl, trivial⟩ trivial rfl nolent2) ?_
        refine post_next ?_
        refine aw_ret ?_
        refine post_then_ret ?_
        refine post_block_ret ?_
        refine post_then_ret ?_
        refine post_block_ret ?_
        refine post_block_ret ?_
        refine post_block_ret ?_
        refine post_cut_ret ?_
        replace hF := go_stop hF
        refine post_then_ret ?_
        refine post_block_ret ?_
        refine post_then_ret ?_
        obtain rfl := Option.some.inj hF
        exact post_ret rfl rfl rfl (.cons _ _ _ _ _ (.tmp _ _ rfl) (.p _) .nil) (.inl rfl)
      · refine reg_off (guard_off rfl rfl rfl rfl hb2) rfl ?_
        refine reg_off (guard_off rfl rfl rfl rfl hb2) rfl ?_
        refine reg_off (guard_off rfl rfl rfl rfl hb2) rfl ?_
        refine reg_off (guard_off rfl rfl rfl rfl hb2) rfl ?_
        refine reg_cons (guard_no rfl) (op_pick_f rfl rfl hb2 rfl rfl rfl) ?_
        refine reg_cons (guard_no rfl) (op_assign rfl rfl rfl rfl) ?_
        refine reg_nil ?_
        refine post_imp (s' := ⟨34, [(4, some (.pv (.bool false)))], [], 0, [], []⟩) (imp_sub [] rfl rfl (by decide) rfl rfl ⟨rfl, trivial⟩ trivial rfl nolent2) ?_
        refine post_next ?_
        refine aw_ret ?_
        refine post_then_ret ?_
        refine post_block_ret ?_
        refine post_then_ret ?_
        refine post_block_ret ?_
        refine post_block_ret ?_
        refine post_block_ret ?_
        refine post_cut_ret ?_
        replace hF := go_stop hF
        refine post_then_ret ?_
        refine post_block_ret ?_
        refine post_then_ret ?_
        obtain rfl := Option.some.inj hF
        exact post_ret rfl rfl rfl (.cons _ _ _ _ _ (.tmp _ _ rfl) (.p _) .nil) (.inl rfl)
    · refine aw_cond_f rfl hb1 ?_
      refine aw_skip ?_
      refine post_next ?_
      refine aw_seq ?_
      refine aw_seq ?_
      refine aw_region ?_
      refine reg_cons (guard_no rfl) (op_int (k := .i64) (m := a0.fKind) (n := 7) rfl rfl rfl rfl rfl rfl) ?_
      refine reg_cons (guard_no rfl) (op_assign rfl rfl rfl rfl) ?_
      refine reg_nil ?_
      refine post_imp (s' := ⟨34, [(2, some (.lp 0 0)), (6, some (.pv (.int .i64 a0.fKind))), (9, some (.pv (.bool (a0.fKind == 7))))], [(0, some (.box 42 [.pv (.int .i64 a0.fKind), .pv (.int .i64 a0.fN)]))], 1, [], []⟩) (imp_sub [0] rfl rfl (by decide) rfl rfl ⟨rfl, rfl, rfl, trivial⟩ ⟨rfl, trivial⟩ rfl nolent2) ?_
      refine post_next ?_
      rcases go_ite hF with ⟨hb3, hF⟩ | ⟨hb3, hF⟩
      · refine aw_cond_t rfl hb3 ?_
        refine aw_exit ?_
        refine post_then_exit ?_
        refine post_then_exit ?_
        refine post_block_other rfl ?_
        refine post_then_exit ?_
        refine post_block_exit ?_
        refine post_next ?_
        refine aw_seq ?_
        refine aw_seq ?_
        refine aw_region ?_
        refine reg_cons (guard_no rfl) (op_field_lp rfl rfl Try_fld_42_1 rfl rfl) ?_
        refine reg_cons (guard_no rfl) (op_load_lp (v := .pv (.int .i64 a0.fN)) rfl rfl rfl rfl Try_one_3 rfl rfl) ?_
        refine reg_cons (guard_no rfl) (op_int (k := .i64) (m := a0.fN) (n := 0) rfl rfl rfl rfl rfl rfl) ?_
        refine reg_cons (guard_no rfl) (op_assign rfl rfl rfl rfl) ?_
        refine reg_nil ?_
        refine post_imp (s' := ⟨34, [(4, some (.pv (.bool (decide (a0.fN ≥ 0)))))], [], 0, [], []⟩) (imp_sub [] rfl rfl (by decide) rfl rfl ⟨rfl, trivial⟩ trivial rfl nolent2) ?_
        refine post_next ?_
        refine aw_ret ?_
        refine post_then_ret ?_
        refine post_block_ret ?_
        refine post_block_ret ?_
        refine post_block_ret ?_
        refine post_cut_ret ?_
        replace hF := go_stop hF
        refine post_then_ret ?_
        refine post_block_ret ?_
        refine post_then_ret ?_
        obtain rfl := Option.some.inj hF
        exact post_ret rfl rfl rfl (.cons _ _ _ _ _ (.tmp _ _ rfl) (.p _) .nil) (.inl rfl)
      · refine aw_cond_f rfl hb3 ?_
        refine aw_skip ?_
        refine post_next ?_
        refine aw_seq ?_
        refine aw_seq ?_
        refine aw_region ?_
        refine reg_cons (guard_no rfl) (op_int (k := .i64) (m := a0.fKind) (n := 1) rfl rfl rfl rfl rfl rfl) ?_
        refine reg_cons (guard_no rfl) (op_assign rfl rfl rfl rfl) ?_
        refine reg_nil ?_
        refine post_imp (s' := ⟨34, [(2, some (.lp 0 0)), (6, some (.pv (.int .i64 a0.fKind))), (11, some (.pv (.bool (a0.fKind == 1))))], [(0, some (.box 42 [.pv (.int .i64 a0.fKind), .pv (.int .i64 a0.fN)]))], 1, [], []⟩) (imp_sub [0] rfl rfl (by decide) rfl rfl ⟨rfl, rfl, rfl, trivial⟩ ⟨rfl, trivial⟩ rfl nolent2) ?_
        refine post_next ?_
        rcases go_ite hF with ⟨hb4, hF⟩ | ⟨hb4, hF⟩
        · refine aw_cond_t rfl hb4 ?_
          refine aw_exit ?_
          refine post_then_exit ?_
          refine post_then_exit ?_
          refine post_block_other rfl ?_
          refine post_then_exit ?_
          refine post_block_other rfl ?_
          refine post_then_exit ?_
          refine post_block_exit ?_
          refine post_block_normal ?_
          refine post_block_normal ?_
          exact post_cut _ ⟨(), rfl, hF⟩ (imp_sub [0] rfl rfl (by decide) rfl rfl ⟨rfl, trivial⟩ ⟨rfl, trivial⟩ rfl nolent2)
        · refine aw_cond_f rfl hb4 ?_
          refine aw_skip ?_
          refine post_next ?_
          refine aw_seq ?_
          refine aw_seq ?_
          refine aw_region ?_
          refine reg_cons (guard_no rfl) (op_int (k := .i64) (m := a0.fKind) (n := 2) rfl rfl rfl rfl rfl rfl) ?_
          refine reg_cons (guard_no rfl) (op_assign rfl rfl rfl rfl) ?_
          refine reg_nil ?_
          refine post_imp (s' := ⟨34, [(2, some (.lp 0 0)), (6, some (.pv (.int .i64 a0.fKind))), (13, some (.pv (.bool (a0.fKind == 2))))], [(0, some (.box 42 [.pv (.int .i64 a0.fKind), .pv (.int .i64 a0.fN)]))], 1, [], []⟩) (imp_sub [0] rfl rfl (by decide) rfl rfl ⟨rfl, rfl, rfl, trivial⟩ ⟨rfl, trivial⟩ rfl nolent2) ?_
          refine post_next ?_
          rcases go_ite hF with ⟨hb5, hF⟩ | ⟨hb5, hF⟩
          · refine aw_cond_t rfl hb5 ?_
            refine aw_exit ?_
            refine post_then_exit ?_
            refine post_then_exit ?_
            refine post_block_other rfl ?_
            refine post_then_exit ?_
            refine post_block_other rfl ?_
            refine post_then_exit ?_
            refine post_block_other rfl ?_
            refine post_block_exit ?_
            refine post_block_normal ?_
            exact post_cut _ ⟨(), rfl, hF⟩ (imp_sub [0] rfl rfl (by decide) rfl rfl ⟨rfl, trivial⟩ ⟨rfl, trivial⟩ rfl nolent2)
          · refine aw_cond_f rfl hb5 ?_
            refine aw_skip ?_
            refine post_next ?_
            refine aw_seq ?_
            obtain ⟨x8, hF, hK10⟩ := go_bind hF
            refine aw_cut (fun s1 => s1 = ⟨34, [(2, some (.lp 0 0)), (15, some (.pv (.bool x8)))], [(0, some (.box 42 [.pv (.int .i64 a0.fKind), .pv (.int .i64 a0.fN)]))], 1, [], []⟩) ?_ ?_
            · refine aw_seq ?_
              refine aw_region ?_
              refine reg_cons (guard_no rfl) (op_int (k := .i64) (m := a0.fKind) (n := 4) rfl rfl rfl rfl rfl rfl) ?_
              refine reg_cons (guard_no rfl) (op_assign rfl rfl rfl rfl) ?_
              refine reg_nil ?_
              refine post_imp (s' := ⟨34, [(2, some (.lp 0 0)), (6, some (.pv (.int .i64 a0.fKind))), (15, some (.pv (.bool (a0.fKind == 4))))], [(0, some (.box 42 [.pv (.int .i64 a0.fKind), .pv (.int .i64 a0.fN)]))], 1, [], []⟩) (imp_sub [0] rfl rfl (by decide) rfl rfl ⟨rfl, rfl, rfl, trivial⟩ ⟨rfl, trivial⟩ rfl nolent2) ?_
              refine post_next ?_
              rcases ite_some hF with ⟨hb6, hF⟩ | ⟨hb6, hF⟩
              · refine aw_cond_t rfl hb6 ?_
                refine aw_skip ?_
                cases hF
                exact post_cut _ rfl (imp_sub [0] rfl rfl (by decide) rfl rfl ⟨rfl, rfl, trivial⟩ ⟨rfl, trivial⟩ rfl nolent2)
              · refine aw_cond_f rfl hb6 ?_
                refine aw_seq ?_
                refine aw_region ?_
                refine reg_cons (guard_no rfl) (op_int (k := .i64) (m := a0.fKind) (n := 5) rfl rfl rfl rfl rfl rfl) ?_
                refine reg_cons (guard_no rfl) (op_assign rfl rfl rfl rfl) ?_
                refine reg_nil ?_
                refine post_imp (s' := ⟨34, [(2, some (.lp 0 0)), (6, some (.pv (.int .i64 a0.fKind))), (15, some (.pv (.bool (a0.fKind == 5))))], [(0, some (.box 42 [.pv (.int .i64 a0.fKind), .pv (.int .i64 a0.fN)]))], 1, [], []⟩) (imp_sub [0] rfl rfl (by decide) rfl rfl ⟨rfl, rfl, rfl, trivial⟩ ⟨rfl, trivial⟩ rfl nolent2) ?_
                refine post_next ?_
                rcases ite_some hF with ⟨hb7, hF⟩ | ⟨hb7, hF⟩
                · refine aw_cond_t rfl hb7 ?_
                  refine aw_skip ?_
                  cases hF
                  exact post_cut _ rfl (imp_sub [0] rfl rfl (by decide) rfl rfl ⟨rfl, rfl, trivial⟩ ⟨rfl, trivial⟩ rfl nolent2)
                · refine aw_cond_f rfl hb7 ?_
                  refine aw_region ?_
                  refine reg_cons (guard_no rfl) (op_int (k := .i64) (m := a0.fKind) (n := 6) rfl rfl rfl rfl rfl rfl) ?_
                  refine reg_cons (guard_no rfl) (op_assign rfl rfl rfl rfl) ?_
                  refine reg_nil ?_
                  cases hF
                  exact post_cut _ rfl (imp_sub [0] rfl rfl (by decide) rfl rfl ⟨rfl, rfl, trivial⟩ ⟨rfl, trivial⟩ rfl nolent2)
            · rintro _ rfl
              have hF := hK10
              clear hK10
              refine post_next ?_
              rcases go_ite hF with ⟨hb11, hF⟩ | ⟨hb11, hF⟩
              · refine aw_cond_t rfl hb11 ?_
                refine aw_exit ?_
                refine post_then_exit ?_
                refine post_block_other rfl ?_
                refine post_then_exit ?_
                refine post_block_other rfl ?_
                refine post_then_exit ?_
                refine post_block_other rfl ?_
                refine post_block_other rfl ?_
                refine post_block_exit ?_
                exact post_cut _ ⟨(), rfl, hF⟩ (imp_sub [0] rfl rfl (by decide) rfl rfl ⟨rfl, trivial⟩ ⟨rfl, trivial⟩ rfl nolent2)
              · refine aw_cond_f rfl hb11 ?_
                refine aw_skip ?_
                refine post_next ?_
                refine aw_exit ?_
                refine post_block_other rfl ?_
                refine post_then_exit ?_
                refine post_block_other rfl ?_
                refine post_then_exit ?_
                refine post_block_other rfl ?_
                refine post_block_other rfl ?_
                refine post_block_other rfl ?_
                refine post_cut_exit ?_
                replace hF := go_stop hF
                refine post_then_exit ?_
                refine post_block_exit ?_
                refine post_next ?_
                refine aw_seq ?_
                refine aw_region ?_
                refine reg_cons (guard_no rfl) (op_assign rfl rfl rfl rfl) ?_
                refine reg_nil ?_
                refine post_imp (s' := ⟨34, [(4, some (.pv (.bool false)))], [], 0, [], []⟩) (imp_sub [] rfl rfl (by decide) rfl rfl ⟨rfl, trivial⟩ trivial rfl nolent2) ?_
                refine post_next ?_
                refine aw_ret ?_
                obtain rfl := Option.some.inj hF
                exact post_ret rfl rfl rfl (.cons _ _ _ _ _ (.tmp _ _ rfl) (.p _) .nil) (.inl rfl)
  · rintro ⟨⟩ hF
    refine post_next ?_
    refine aw_seq ?_
    refine aw_seq ?_
    refine aw_region ?_
    refine reg_cons (guard_no rfl) (op_field_lp rfl rfl Try_fld_42_1 rfl rfl) ?_
    refine reg_cons (guard_no rfl) (op_load_lp (v := .pv (.int .i64 a0.fN)) rfl rfl rfl rfl Try_one_3 rfl rfl) ?_
    refine reg_cons (guard_no rfl) (op_int (k := .i64) (m := a0.fN) (n := 0) rfl rfl rfl rfl rfl rfl) ?_
    refine reg_cons (guard_no rfl) (op_assign rfl rfl rfl rfl) ?_
    refine reg_nil ?_
    refine post_imp (s' := ⟨34, [(4, some (.pv (.bool (a0.fN == 0))))], [], 0, [], []⟩) (imp_sub [] rfl rfl (by decide) rfl rfl ⟨rfl, trivial⟩ trivial rfl nolent2) ?_
    refine post_next ?_
    refine aw_ret ?_
    refine post_then_ret ?_
    refine post_block_ret ?_
    refine post_then_ret ?_
    obtain rfl := Option.some.inj hF
    exact post_ret rfl rfl rfl (.cons _ _ _ _ _ (.tmp _ _ rfl) (.p _) .nil) (.inl rfl)
theorem owner_Text_ok {a0 : GOwner} {a1 : List (List UInt8)} {r : (List UInt8)} (hF : owner_Text a0 a1 = some r) : Abs.Fn Try.prog 61 [.agg (eGOwner a0), .vs 1 (List.map eS a1)] [.p (.str r)] := by
  unfold owner_Text at hF
  refine fn_of_body (n := 30) Try.func61 rfl rfl rfl ?_
  intro w O
  refine aw_seq ?_
  refine aw_region ?_
  refine reg_cons (guard_no rfl) (op_box 0 rfl rfl rfl rfl rfl rfl) ?_
  refine reg_cons (guard_no rfl) (op_assign rfl rfl rfl rfl) ?_
  refine reg_nil ?_
  refine post_imp (s' := ⟨30, [(1, some (.pv (.vs 1 (List.map eS a1)))), (2, some (.lp 0 0))], [(0, some (.box 42 [.pv (.int .i64 a0.fKind), .pv (.int .i64 a0.fN)]))], 1, [], []⟩) (imp_sub [0] rfl rfl (by decide) rfl rfl ⟨rfl, rfl, trivial⟩ ⟨rfl, trivial⟩ rfl nolent2) ?_
  refine post_next ?_
  refine aw_seq ?_
  refine aw_seq ?_
  refine aw_region ?_
  refine reg_cons (guard_no rfl) (op_load_lp_agg (ps := eGOwner a0) rfl rfl rfl rfl rfl rfl Try_agg_42 rfl rfl) ?_
  refine reg_cons (guard_no rfl) (op_move rfl rfl rfl rfl) ?_
  refine reg_cons (guard_no rfl) (op_len_vs (n := a1.length) rfl rfl (List.length_map ..) Try_slc_91 rfl rfl) ?_
  obtain ⟨y3, h4, hF⟩ := bind_some hF
  refine reg_cons (guard_no rfl) (op_call 1 rfl (caps := []) (args := [.agg (eGOwner a0), .int .i64 (a1.length : Int)]) rfl rfl rfl Try_cal_78 (owner_Right_ok h4) rfl rfl rfl) ?_
  refine reg_cons (guard_no rfl) (op_not rfl rfl rfl rfl) ?_
  refine reg_nil ?_
  refine post_imp (s' := ⟨30, [(1, some (.pv (.vs 1 (List.map eS a1)))), (2, some (.lp 0 0)), (9, some (.pv (.bool (!y3))))], [(0, some (.box 42 [.pv (.int .i64 a0.fKind), .pv (.int .i64 a0.fN)]))], 1, [], []⟩) (imp_sub [0] rfl rfl (by decide) rfl rfl ⟨rfl, rfl, rfl, trivial⟩ ⟨rfl, trivial⟩ rfl nolent2) ?_
  refine post_next ?_
  rcases ite_some hF with ⟨hb5, hF⟩ | ⟨hb5, hF⟩
  · refine aw_cond_t rfl hb5 ?_
    refine aw_seq ?_
    refine aw_region ?_
    refine reg_cons (guard_no rfl) (op_assign rfl rfl rfl rfl) ?_
    refine reg_nil ?_
    refine post_imp (s' := ⟨30, [(4, some (.pv (.str [])))], [], 0, [], []⟩) (imp_sub [] rfl rfl (by decide) rfl rfl ⟨rfl, trivial⟩ trivial rfl nolent2) ?_
    refine post_next ?_
    refine aw_ret ?_
    refine post_then_ret ?_
    obtain rfl := Option.some.inj hF
    exact post_ret rfl rfl rfl (.cons _ _ _ _ _ (.tmp _ _ rfl) (.p _) .nil) (.inl rfl)
  · refine aw_cond_f rfl hb5 ?_
    refine aw_skip ?_
    refine post_next ?_
    refine aw_seq ?_
    refine aw_seq ?_
    refine aw_region ?_
    refine reg_cons (guard_no rfl) (op_field_lp rfl rfl Try_fld_42_0 rfl rfl) ?_
    refine reg_cons (guard_no rfl) (op_load_lp (v := .pv (.int .i64 a0.fKind)) rfl rfl rfl rfl Try_one_3 rfl rfl) ?_
    refine reg_nil ?_
    refine post_imp (s' := ⟨30, [(1, some (.pv (.vs 1 (List.map eS a1)))), (2, some (.lp 0 0)), (11, some (.pv (.int .i64 a0.fKind)))], [(0, some (.box 42 [.pv (.int .i64 a0.fKind), .pv (.int .i64 a0.fN)]))], 1, [], []⟩) (imp_sub [0] rfl rfl (by decide) rfl rfl ⟨rfl, rfl, rfl, trivial⟩ ⟨rfl, trivial⟩ rfl nolent2) ?_
    refine post_next ?_
    refine aw_block ?_
    refine aw_seq ?_
    refine aw_region ?_
    refine reg_cons (guard_no rfl) (op_int (k := .i64) (m := a0.fKind) (n := 1) rfl rfl rfl rfl rfl rfl) ?_
    refine reg_cons (guard_no rfl) (op_assign rfl rfl rfl rfl) ?_
    refine reg_nil ?_
    refine post_imp (s' := ⟨30, [(1, some (.pv (.vs 1 (List.map eS a1)))), (2, some (.lp 0 0)), (11, some (.pv (.int .i64 a0.fKind))), (12, some (.pv (.bool (a0.fKind == 1))))], [(0, some (.box 42 [.pv (.int .i64 a0.fKind), .pv (.int .i64 a0.fN)]))], 1, [], []⟩) (imp_sub [0] rfl rfl (by decide) rfl rfl ⟨rfl, rfl, rfl, rfl, trivial⟩ ⟨rfl, trivial⟩ rfl nolent2) ?_
    refine post_next ?_
    rcases ite_some hF with ⟨hb6, hF⟩ | ⟨hb6, hF⟩
    · refine aw_cond_t rfl hb6 ?_
      refine aw_seq ?_
      refine aw_region ?_
      refine reg_cons (guard_no rfl) (op_assign rfl rfl rfl rfl) ?_
      refine reg_nil ?_
      refine post_imp (s' := ⟨30, [(4, some (.pv (.str [114, 101, 112])))], [], 0, [], []⟩) (imp_sub [] rfl rfl (by decide) rfl rfl ⟨rfl, trivial⟩ trivial rfl nolent2) ?_
      refine post_next ?_
      refine aw_ret ?_
      refine post_block_ret ?_
      refine post_then_ret ?_
      obtain rfl := Option.some.inj hF
      exact post_ret rfl rfl rfl (.cons _ _ _ _ _ (.tmp _ _ rfl) (.p _) .nil) (.inl rfl)
    · refine aw_cond_f rfl hb6 ?_
      refine aw_seq ?_
      refine aw_region ?_
      refine reg_cons (guard_no rfl) (op_int (k := .i64) (m := a0.fKind) (n := 2) rfl rfl rfl rfl rfl rfl) ?_
      refine reg_cons (guard_no rfl) (op_assign rfl rfl rfl rfl) ?_
      refine reg_nil ?_
      refine post_imp (s' := ⟨30, [(1, some (.pv (.vs 1 (List.map eS a1)))), (2, some (.lp 0 0)), (11, some (.pv (.int .i64 a0.fKind))), (14, some (.pv (.bool (a0.fKind == 2))))], [(0, some (.box 42 [.pv (.int .i64 a0.fKind), .pv (.int .i64 a0.fN)]))], 1, [], []⟩) (imp_sub [0] rfl rfl (by decide) rfl rfl ⟨rfl, rfl, rfl, rfl, trivial⟩ ⟨rfl, trivial⟩ rfl nolent2) ?_
      refine post_next ?_
      rcases ite_some hF with ⟨hb7, hF⟩ | ⟨hb7, hF⟩
      · refine aw_cond_t rfl hb7 ?_
        refine aw_seq ?_
        refine aw_region ?_
        refine reg_cons (guard_no rfl) (op_assign rfl rfl rfl rfl) ?_
        refine reg_nil ?_
        refine post_imp (s' := ⟨30, [(4, some (.pv (.str [112, 101, 101, 114])))], [], 0, [], []⟩) (imp_sub [] rfl rfl (by decide) rfl rfl ⟨rfl, trivial⟩ trivial rfl nolent2) ?_
        refine post_next ?_
        refine aw_ret ?_
        refine post_block_ret ?_
        refine post_then_ret ?_
        obtain rfl := Option.some.inj hF
        exact post_ret rfl rfl rfl (.cons _ _ _ _ _ (.tmp _ _ rfl) (.p _) .nil) (.inl rfl)
      · refine aw_cond_f rfl hb7 ?_
        refine aw_seq ?_
        refine aw_region ?_
        refine reg_cons (guard_no rfl) (op_int (k := .i64) (m := a0.fKind) (n := 4) rfl rfl rfl rfl rfl rfl) ?_
        refine reg_cons (guard_no rfl) (op_assign rfl rfl rfl rfl) ?_
        refine reg_nil ?_
        refine post_imp (s' := ⟨30, [(1, some (.pv (.vs 1 (List.map eS a1)))), (2, some (.lp 0 0)), (11, some (.pv (.int .i64 a0.fKind))), (16, some (.pv (.bool (a0.fKind == 4))))], [(0, some (.box 42 [.pv (.int .i64 a0.fKind), .pv (.int .i64 a0.fN)]))], 1, [], []⟩) (imp_sub [0] rfl rfl (by decide) rfl rfl ⟨rfl, rfl, rfl, rfl, trivial⟩ ⟨rfl, trivial⟩ rfl nolent2) ?_
        refine post_next ?_
        rcases ite_some hF with ⟨hb8, hF⟩ | ⟨hb8, hF⟩
        · refine aw_cond_t rfl hb8 ?_
          refine aw_seq ?_
          refine aw_region ?_
          refine reg_cons (guard_no rfl) (op_assign rfl rfl rfl rfl) ?_
          refine reg_nil ?_
          refine post_imp (s' := ⟨30, [(4, some (.pv (.str [119, 111, 114, 108, 100])))], [], 0, [], []⟩) (imp_sub [] rfl rfl (by decide) rfl rfl ⟨rfl, trivial⟩ trivial rfl nolent2) ?_
          refine post_next ?_
          refine aw_ret ?_
          refine post_block_ret ?_
          refine post_then_ret ?_
          obtain rfl := Option.some.inj hF
          exact post_ret rfl rfl rfl (.cons _ _ _ _ _ (.tmp _ _ rfl) (.p _) .nil) (.inl rfl)
        · refine aw_cond_f rfl hb8 ?_
          refine aw_seq ?_
          refine aw_region ?_
          refine reg_cons (guard_no rfl) (op_int (k := .i64) (m := a0.fKind) (n := 5) rfl rfl rfl rfl rfl rfl) ?_
          refine reg_cons (guard_no rfl) (op_assign rfl rfl rfl rfl) ?_
          refine reg_nil ?_
          refine post_imp (s' := ⟨30, [(1, some (.pv (.vs 1 (List.map eS a1)))), (2, some (.lp 0 0)), (11, some (.pv (.int .i64 a0.fKind))), (18, some (.pv (.bool (a0.fKind == 5))))], [(0, some (.box 42 [.pv (.int .i64 a0.fKind), .pv (.int .i64 a0.fN)]))], 1, [], []⟩) (imp_sub [0] rfl rfl (by decide) rfl rfl ⟨rfl, rfl, rfl, rfl, trivial⟩ ⟨rfl, trivial⟩ rfl nolent2) ?_
          refine post_next ?_
          rcases ite_some hF with ⟨hb9, hF⟩ | ⟨hb9, hF⟩
          · refine aw_cond_t rfl hb9 ?_
            refine aw_seq ?_
            refine aw_region ?_
            refine reg_cons (guard_no rfl) (op_assign rfl rfl rfl rfl) ?_
            refine reg_nil ?_
            refine post_imp (s' := ⟨30, [(4, some (.pv (.str [97, 110, 121])))], [], 0, [], []⟩) (imp_sub [] rfl rfl (by decide) rfl rfl ⟨rfl, trivial⟩ trivial rfl nolent2) ?_
            refine post_next ?_
            refine aw_ret ?_
            refine post_block_ret ?_
            refine post_then_ret ?_
            obtain rfl := Option.some.inj hF
            exact post_ret rfl rfl rfl (.cons _ _ _ _ _ (.tmp _ _ rfl) (.p _) .nil) (.inl rfl)
          · refine aw_cond_f rfl hb9 ?_
            refine aw_seq ?_
            refine aw_region ?_
            refine reg_cons (guard_no rfl) (op_int (k := .i64) (m := a0.fKind) (n := 6) rfl rfl rfl rfl rfl rfl) ?_
            refine reg_cons (guard_no rfl) (op_assign rfl rfl rfl rfl) ?_
            refine reg_nil ?_
            refine post_imp (s' := ⟨30, [(1, some (.pv (.vs 1 (List.map eS a1)))), (2, some (.lp 0 0)), (11, some (.pv (.int .i64 a0.fKind))), (20, some (.pv (.bool (a0.fKind == 6))))], [(0, some (.box 42 [.pv (.int .i64 a0.fKind), .pv (.int .i64 a0.fN)]))], 1, [], []⟩) (imp_sub [0] rfl rfl (by decide) rfl rfl ⟨rfl, rfl, rfl, rfl, trivial⟩ ⟨rfl, trivial⟩ rfl nolent2) ?_
            refine post_next ?_
            rcases ite_some hF with ⟨hb10, hF⟩ | ⟨hb10, hF⟩
            · refine aw_cond_t rfl hb10 ?_
              refine aw_seq ?_
              refine aw_region ?_
              refine reg_cons (guard_no rfl) (op_assign rfl rfl rfl rfl) ?_
              refine reg_nil ?_
              refine post_imp (s' := ⟨30, [(4, some (.pv (.str [117, 110, 105, 113, 117, 101])))], [], 0, [], []⟩) (imp_sub [] rfl rfl (by decide) rfl rfl ⟨rfl, trivial⟩ trivial rfl nolent2) ?_
              refine post_next ?_
              refine aw_ret ?_
              refine post_block_ret ?_
              refine post_then_ret ?_
              obtain rfl := Option.some.inj hF
              exact post_ret rfl rfl rfl (.cons _ _ _ _ _ (.tmp _ _ rfl) (.p _) .nil) (.inl rfl)
            · refine aw_cond_f rfl hb10 ?_
              refine aw_seq ?_
              refine aw_region ?_
              refine reg_cons (guard_no rfl) (op_int (k := .i64) (m := a0.fKind) (n := 7) rfl rfl rfl rfl rfl rfl) ?_
              refine reg_cons (guard_no rfl) (op_assign rfl rfl rfl rfl) ?_
              refine reg_nil ?_
              refine post_imp (s' := ⟨30, [(1, some (.pv (.vs 1 (List.map eS a1)))), (2, some (.lp 0 0)), (22, some (.pv (.bool (a0.fKind == 7))))], [(0, some (.box 42 [.pv (.int .i64 a0.fKind), .pv (.int .i64 a0.fN)]))], 1, [], []⟩) (imp_sub [0] rfl rfl (by decide) rfl rfl ⟨rfl, rfl, rfl, trivial⟩ ⟨rfl, trivial⟩ rfl nolent2) ?_
              refine post_next ?_
              rcases ite_some hF with ⟨hb11, hF⟩ | ⟨hb11, hF⟩
              · refine aw_cond_t rfl hb11 ?_
                refine aw_seq ?_
                refine aw_region ?_
                refine reg_cons (guard_no rfl) (op_assign rfl rfl rfl rfl) ?_
                refine reg_nil ?_
                refine post_imp (s' := ⟨30, [(4, some (.pv (.str [63])))], [], 0, [], []⟩) (imp_sub [] rfl rfl (by decide) rfl rfl ⟨rfl, trivial⟩ trivial rfl nolent2) ?_
                refine post_next ?_
                refine aw_ret ?_
                refine post_block_ret ?_
                refine post_then_ret ?_
                obtain rfl := Option.some.inj hF
                exact post_ret rfl rfl rfl (.cons _ _ _ _ _ (.tmp _ _ rfl) (.p _) .nil) (.inl rfl)
              · refine aw_cond_f rfl hb11 ?_
                refine aw_skip ?_
                refine post_block_normal ?_
                refine post_next ?_
                refine aw_seq ?_
                refine aw_region ?_
                refine reg_cons (guard_no rfl) (op_move rfl rfl rfl rfl) ?_
                refine reg_cons (guard_no rfl) (op_field_lp rfl rfl Try_fld_42_1 rfl rfl) ?_
                refine reg_cons (guard_no rfl) (op_load_lp (v := .pv (.int .i64 a0.fN)) rfl rfl rfl rfl Try_one_3 rfl rfl) ?_
                refine reg_cons (guard_no rfl) (op_int (k := .i64) (m := a0.fN) (n := 1) rfl rfl rfl rfl rfl rfl) ?_
                obtain ⟨y12, h13, hF⟩ := bind_some hF
                refine reg_cons (guard_no rfl) (op_index_vs (k := .i64) rfl rfl rfl (idx_map eS h13) Try_slc_91 rfl rfl) ?_
                refine reg_cons (guard_no rfl) (op_load_vp (p := .str y12) rfl rfl rfl Try_one_9 rfl rfl) ?_
                refine reg_cons (guard_no rfl) (op_assign rfl rfl rfl rfl) ?_
                refine reg_nil ?_
                refine post_imp (s' := ⟨30, [(4, some (.pv (.str y12)))], [], 0, [], []⟩) (imp_sub [] rfl rfl (by decide) rfl rfl ⟨rfl, trivial⟩ trivial rfl nolent2) ?_
                refine post_next ?_
                refine aw_ret ?_
                obtain rfl := Option.some.inj hF
                exact post_ret rfl rfl rfl (.cons _ _ _ _ _ (.tmp _ _ rfl) (.p _) .nil) (.inl rfl)
theorem law04_awake_ok  {r : Bool} (hF : law04_awake = some r) : Abs.Fn Try.prog 25 [] [.p (.bool r)] := by
  unfold law04_awake at hF
  refine fn_of_body (n := 26) Try.func25 rfl rfl rfl ?_
  intro w O
  refine aw_seq ?_
  refine aw_region ?_
  refine reg_cons (guard_no rfl) (op_assign rfl rfl rfl rfl) ?_
  refine reg_nil ?_
  refine post_imp (s' := ⟨26, [], [], 0, [], []⟩) (imp_sub [] rfl rfl (by decide) rfl rfl trivial trivial rfl nolent2) ?_
  refine post_next ?_
  refine aw_seq ?_
  refine aw_region ?_
  refine reg_cons (guard_no rfl) (op_build (zs := [.int .i64 (({ fKind := 0, fN := 0 } : GOwner).fKind), .int .i64 (({ fKind := 0, fN := 0 } : GOwner).fN)]) (r := eGOwner ({ fKind := 3, fN := 1 } : GOwner)) rfl Try_zer_42 (by exact ⟨rfl, rfl, trivial⟩) Try_plc_42 rfl rfl rfl rfl) ?_
  refine reg_cons (guard_no rfl) (op_alloc 0 rfl (ps := [.int .i64 (({ fKind := 0, fN := 0 } : GOwner).fKind), .int .i64 (({ fKind := 0, fN := 0 } : GOwner).fN)]) rfl Try_zer_42 (by exact ⟨rfl, rfl, trivial⟩) rfl rfl) ?_
  refine reg_cons (guard_no rfl) (op_store_lp (n := 2) rfl rfl rfl rfl rfl (or_agg Try_agg_42) (by rw [Try_non_42]; rfl) rfl rfl) ?_
  refine reg_nil ?_
  refine post_imp (s' := ⟨26, [(1, some (.lp 0 0))], [(0, some (.box 42 [.pv (.int .i64 (({ fKind := 3, fN := 1 } : GOwner).fKind)), .pv (.int .i64 (({ fKind := 3, fN := 1 } : GOwner).fN))]))], 1, [], []⟩) (imp_sub [0] rfl rfl (by decide) rfl rfl ⟨rfl, trivial⟩ ⟨rfl, trivial⟩ rfl nolent2) ?_
  refine post_next ?_
  refine aw_seq ?_
  refine aw_region ?_
  refine reg_cons (guard_no rfl) (op_build (zs := [.int .i64 (({ fKind := 0, fN := 0 } : GOwner).fKind), .int .i64 (({ fKind := 0, fN := 0 } : GOwner).fN)]) (r := eGOwner ({ fKind := 1, fN := 0 } : GOwner)) rfl Try_zer_42 (by exact ⟨rfl, rfl, trivial⟩) Try_plc_42 rfl rfl rfl rfl) ?_
  refine reg_cons (guard_no rfl) (op_build (zs := [.int .i64 (({ fKind := 0, fN := 0 } : GOwner).fKind), .int .i64 (({ fKind := 0, fN := 0 } : GOwner).fN)]) (r := eGOwner ({ fKind := 4, fN := 0 } : GOwner)) rfl Try_zer_42 (by exact ⟨rfl, rfl, trivial⟩) Try_plc_42 rfl rfl rfl rfl) ?_
  refine reg_cons (guard_no rfl) (op_lit (rows := List.map eGOwner ([({ fKind := 1, fN := 0 } : GOwner), ({ fKind := 4, fN := 0 } : GOwner)] : List GOwner)) (zs := [.int .i64 (({ fKind := 0, fN := 0 } : GOwner).fKind), .int .i64 (({ fKind := 0, fN := 0 } : GOwner).fN)]) rfl rfl Try_slc_43 Try_zer_42 (by exact ⟨rfl, rfl, trivial⟩) rfl rfl rfl rfl rfl rfl rfl rfl) ?_
  refine reg_cons (guard_no rfl) (op_assign rfl rfl rfl rfl) ?_
  refine reg_nil ?_
  refine post_imp (s' := ⟨26, [(1, some (.lp 0 0)), (2, some (.pv (.vs 2 (List.map eGOwner [({ fKind := 1, fN := 0 } : GOwner), ({ fKind := 4, fN := 0 } : GOwner)]))))], [(0, some (.box 42 [.pv (.int .i64 (({ fKind := 3, fN := 1 } : GOwner).fKind)), .pv (.int .i64 (({ fKind := 3, fN := 1 } : GOwner).fN))]))], 1, [], []⟩) (imp_sub [0] rfl rfl (by decide) rfl rfl ⟨rfl, rfl, trivial⟩ ⟨rfl, trivial⟩ rfl nolent2) ?_
  refine post_next ?_
  refine aw_seq ?_
  obtain ⟨y1, h2, hF⟩ := bind_some hF
  rcases ite_some hF with ⟨hb3, hF⟩ | ⟨hb3, hF⟩
  · obtain ⟨y4, h5, hF⟩ := bind_some hF
    obtain ⟨y6, h7, hF⟩ := bind_some hF
    rcases ite_some hF with ⟨hb8, hF⟩ | ⟨hb8, hF⟩
    · obtain ⟨y9, h10, hF⟩ := bind_some hF
      refine aw_drawn ({ need := [(1, .lp 0 0)], hneed := [(0, .box 42 [.pv (.int .i64 (({ fKind := 3, fN := 1 } : GOwner).fKind)), .pv (.int .i64 (({ fKind := 3, fN := 1 } : GOwner).fN))])], names := [], dst := some 7, val := some (.pv (.agg (eGOwner ({ fKind := 3, fN := 1 } : GOwner)))), upd := [] } :: { need := [(2, .pv (.vs 2 (List.map eGOwner [({ fKind := 1, fN := 0 } : GOwner), ({ fKind := 4, fN := 0 } : GOwner)])))], hneed := [], names := [], dst := some 8, val := some (.pv (.vs 2 (List.map eGOwner [({ fKind := 1, fN := 0 } : GOwner), ({ fKind := 4, fN := 0 } : GOwner)]))), upd := [] } :: { need := [(8, .pv (.vs 2 (List.map eGOwner [({ fKind := 1, fN := 0 } : GOwner), ({ fKind := 4, fN := 0 } : GOwner)]))), (7, .pv (.agg (eGOwner ({ fKind := 3, fN := 1 } : GOwner))))], hneed := [], names := [], dst := some 9, val := some (.pv (.agg (eGOwner y1))), upd := [] } :: { need := [], hneed := [], names := [], dst := some 10, val := some (.pv (.agg (eGOwner ({ fKind := 4, fN := 0 } : GOwner)))), upd := [] } :: { need := [(9, .pv (.agg (eGOwner y1))), (10, .pv (.agg (eGOwner ({ fKind := 4, fN := 0 } : GOwner))))], hneed := [], names := [], dst := some 11, val := some (.pv (.bool (bGOwner y1 ({ fKind := 4, fN := 0 } : GOwner)))), upd := [] } :: { need := [(11, .pv (.bool (bGOwner y1 ({ fKind := 4, fN := 0 } : GOwner))))], hneed := [], names := [], dst := some 12, val := some (.pv (.bool (bGOwner y1 ({ fKind := 4, fN := 0 } : GOwner)))), upd := [] } :: { need := [(12, .pv (.bool (bGOwner y1 ({ fKind := 4, fN := 0 } : GOwner)))), (1, .lp 0 0)], hneed := [(0, .box 42 [.pv (.int .i64 (({ fKind := 3, fN := 1 } : GOwner).fKind)), .pv (.int .i64 (({ fKind := 3, fN := 1 } : GOwner).fN))])], names := [], dst := some 13, val := some (.pv (.agg (eGOwner ({ fKind := 3, fN := 1 } : GOwner)))), upd := [] } :: { need := [(12, .pv (.bool (bGOwner y1 ({ fKind := 4, fN := 0 } : GOwner)))), (2, .pv (.vs 2 (List.map eGOwner [({ fKind := 1, fN := 0 } : GOwner), ({ fKind := 4, fN := 0 } : GOwner)])))], hneed := [], names := [], dst := some 14, val := some (.pv (.vs 2 (List.map eGOwner [({ fKind := 1, fN := 0 } : GOwner), ({ fKind := 4, fN := 0 } : GOwner)]))), upd := [] } :: { need := [(12, .pv (.bool (bGOwner y1 ({ fKind := 4, fN := 0 } : GOwner)))), (14, .pv (.vs 2 (List.map eGOwner [({ fKind := 1, fN := 0 } : GOwner), ({ fKind := 4, fN := 0 } : GOwner)])))], hneed := [], names := [], dst := some 15, val := some (.pv (.vs 2 (List.map eGOwner y4))), upd := [] } :: { need := [(12, .pv (.bool (bGOwner y1 ({ fKind := 4, fN := 0 } : GOwner)))), (15, .pv (.vs 2 (List.map eGOwner y4))), (13, .pv (.agg (eGOwner ({ fKind := 3, fN := 1 } : GOwner))))], hneed := [], names := [], dst := some 16, val := some (.pv (.agg (eGOwner y6))), upd := [] } :: { need := [(12, .pv (.bool (bGOwner y1 ({ fKind := 4, fN := 0 } : GOwner))))], hneed := [], names := [], dst := some 17, val := some (.pv (.agg (eGOwner ({ fKind := 8, fN := 0 } : GOwner)))), upd := [] } :: { need := [(12, .pv (.bool (bGOwner y1 ({ fKind := 4, fN := 0 } : GOwner)))), (16, .pv (.agg (eGOwner y6))), (17, .pv (.agg (eGOwner ({ fKind := 8, fN := 0 } : GOwner))))], hneed := [], names := [], dst := some 18, val := some (.pv (.bool (bGOwner y6 ({ fKind := 8, fN := 0 } : GOwner)))), upd := [] } :: { need := [(12, .pv (.bool (bGOwner y1 ({ fKind := 4, fN := 0 } : GOwner)))), (18, .pv (.bool (bGOwner y6 ({ fKind := 8, fN := 0 } : GOwner))))], hneed := [], names := [], dst := some 19, val := some (.pv (.bool (bGOwner y6 ({ fKind := 8, fN := 0 } : GOwner)))), upd := [] } :: { need := [(19, .pv (.bool (bGOwner y6 ({ fKind := 8, fN := 0 } : GOwner))))], hneed := [], names := [], dst := some 20, val := some (.pv (.bool (bGOwner y6 ({ fKind := 8, fN := 0 } : GOwner)))), upd := [] } :: { need := [(20, .pv (.bool (bGOwner y6 ({ fKind := 8, fN := 0 } : GOwner)))), (1, .lp 0 0)], hneed := [(0, .box 42 [.pv (.int .i64 (({ fKind := 3, fN := 1 } : GOwner).fKind)), .pv (.int .i64 (({ fKind := 3, fN := 1 } : GOwner).fN))])], names := [], dst := some 21, val := some (.pv (.agg (eGOwner ({ fKind := 3, fN := 1 } : GOwner)))), upd := [] } :: { need := [(20, .pv (.bool (bGOwner y6 ({ fKind := 8, fN := 0 } : GOwner))))], hneed := [], names := [], dst := some 22, val := some (.pv (.vs 1 (List.map eS [[100, 97, 116, 97]]))), upd := [] } :: { need := [(20, .pv (.bool (bGOwner y6 ({ fKind := 8, fN := 0 } : GOwner)))), (22, .pv (.vs 1 (List.map eS [[100, 97, 116, 97]]))), (21, .pv (.agg (eGOwner ({ fKind := 3, fN := 1 } : GOwner))))], hneed := [], names := [], dst := some 23, val := some (.pv (.str y9)), upd := [] } :: { need := [(20, .pv (.bool (bGOwner y6 ({ fKind := 8, fN := 0 } : GOwner)))), (23, .pv (.str y9))], hneed := [], names := [], dst := some 24, val := some (.pv (.bool (y9 == [100, 97, 116, 97]))), upd := [] } :: { need := [(20, .pv (.bool (bGOwner y6 ({ fKind := 8, fN := 0 } : GOwner)))), (24, .pv (.bool (y9 == [100, 97, 116, 97])))], hneed := [], names := [], dst := some 25, val := some (.pv (.bool (y9 == [100, 97, 116, 97]))), upd := [] } :: { need := [(25, .pv (.bool (y9 == [100, 97, 116, 97])))], hneed := [], names := [], dst := some 0, val := some (.pv (.bool (y9 == [100, 97, 116, 97]))), upd := [] } :: []) ⟨_, _, _⟩ Try_mixed rfl ⟨fun m h => step_on (guard_no rfl) (op_load_lp_agg (ps := eGOwner ({ fKind := 3, fN := 1 } : GOwner)) rfl h.1.1 h.2.1.1 rfl rfl rfl Try_agg_42 rfl rfl) rfl, fun m h => step_on (guard_no rfl) (op_move rfl h.1.1 rfl rfl) rfl, fun m h => step_on (guard_no rfl) (op_call 1 rfl (caps := []) (args := [.agg (eGOwner ({ fKind := 3, fN := 1 } : GOwner)), .vs 2 (List.map eGOwner [({ fKind := 1, fN := 0 } : GOwner), ({ fKind := 4, fN := 0 } : GOwner)])]) rfl rfl (evl_cons h.1.2.1 (evl_cons h.1.1 evl_nil)) Try_cal_26 (owner_Put_ok h2) rfl rfl rfl) rfl, fun m h => step_on (guard_no rfl) (op_build (zs := [.int .i64 (({ fKind := 0, fN := 0 } : GOwner).fKind), .int .i64 (({ fKind := 0, fN := 0 } : GOwner).fN)]) (r := eGOwner ({ fKind := 4, fN := 0 } : GOwner)) rfl Try_zer_42 (by exact ⟨rfl, rfl, trivial⟩) Try_plc_42 (evs_cons rfl evs_nil) rfl rfl rfl) rfl, fun m h => step_on (guard_no rfl) (op_eqAgg_eql (r := bGOwner y1 ({ fKind := 4, fN := 0 } : GOwner)) rfl h.1.1 h.1.2.1 Try_eqt_42 rfl rfl rfl rfl rfl) rfl, fun m h => step_on (guard_no rfl) (op_move rfl h.1.1 rfl rfl) rfl, fun m h => step_on (guard_on rfl rfl rfl h.1.1 hb3) (op_load_lp_agg (ps := eGOwner ({ fKind := 3, fN := 1 } : GOwner)) rfl h.1.2.1 h.2.1.1 rfl rfl rfl Try_agg_42 rfl rfl) rfl, fun m h => step_on (guard_on rfl rfl rfl h.1.1 hb3) (op_move rfl h.1.2.1 rfl rfl) rfl, fun m h => step_on (guard_on rfl rfl rfl h.1.1 hb3) (op_slice_vs (nl := none) (nh := (some 1)) (nm := none) rfl h.1.2.1 rfl rfl rfl (.inl rfl) Try_slc_43 (cut_map (nl := none) (nh := (some 1)) eGOwner h5) rfl rfl) rfl, fun m h => step_on (guard_on rfl rfl rfl h.1.1 hb3) (op_call 1 rfl (caps := []) (args := [.agg (eGOwner ({ fKind := 3, fN := 1 } : GOwner)), .vs 2 (List.map eGOwner y4)]) rfl rfl (evl_cons h.1.2.2.1 (evl_cons h.1.2.1 evl_nil)) Try_cal_26 (owner_Put_ok h7) rfl rfl rfl) rfl, fun m h => step_on (guard_on rfl rfl rfl h.1.1 hb3) (op_build (zs := [.int .i64 (({ fKind := 0, fN := 0 } : GOwner).fKind), .int .i64 (({ fKind := 0, fN := 0 } : GOwner).fN)]) (r := eGOwner ({ fKind := 8, fN := 0 } : GOwner)) rfl Try_zer_42 (by exact ⟨rfl, rfl, trivial⟩) Try_plc_42 (evs_cons rfl evs_nil) rfl rfl rfl) rfl, fun m h => step_on (guard_on rfl rfl rfl h.1.1 hb3) (op_eqAgg_eql (r := bGOwner y6 ({ fKind := 8, fN := 0 } : GOwner)) rfl h.1.2.1 h.1.2.2.1 Try_eqt_42 rfl rfl rfl rfl rfl) rfl, fun m h => step_on (guard_no rfl) (op_pick_t rfl h.1.1 hb3 h.1.2.1 rfl rfl) rfl, fun m h => step_on (guard_no rfl) (op_move rfl h.1.1 rfl rfl) rfl, fun m h => step_on (guard_on rfl rfl rfl h.1.1 hb8) (op_load_lp_agg (ps := eGOwner ({ fKind := 3, fN := 1 } : GOwner)) rfl h.1.2.1 h.2.1.1 rfl rfl rfl Try_agg_42 rfl rfl) rfl, fun m h => step_on (guard_on rfl rfl rfl h.1.1 hb8) (op_lit (rows := List.map eS ([[100, 97, 116, 97]] : List (List UInt8))) (zs := [.str []]) rfl rfl Try_slc_91 Try_zer_9 (by exact ⟨rfl, trivial⟩) rfl rfl rfl (evs_cons rfl evs_nil) rfl rfl rfl rfl) rfl, fun m h => step_on (guard_on rfl rfl rfl h.1.1 hb8) (op_call 1 rfl (caps := []) (args := [.agg (eGOwner ({ fKind := 3, fN := 1 } : GOwner)), .vs 1 (List.map eS [[100, 97, 116, 97]])]) rfl rfl (evl_cons h.1.2.2.1 (evl_cons h.1.2.1 evl_nil)) Try_cal_61 (owner_Text_ok h10) rfl rfl rfl) rfl, fun m h => step_on (guard_on rfl rfl rfl h.1.1 hb8) (op_str rfl h.1.2.1 rfl rfl rfl rfl) rfl, fun m h => step_on (guard_no rfl) (op_pick_t rfl h.1.1 hb8 h.1.2.1 rfl rfl) rfl, fun m h => step_on (guard_no rfl) (op_assign rfl h.1.1 rfl rfl) rfl, trivial⟩ ⟨⟨⟨rfl, trivial⟩, ⟨rfl, trivial⟩, trivial⟩, ⟨⟨rfl, trivial⟩, trivial, trivial⟩, ⟨⟨rfl, rfl, trivial⟩, trivial, trivial⟩, ⟨trivial, trivial, trivial⟩, ⟨⟨rfl, rfl, trivial⟩, trivial, trivial⟩, ⟨⟨rfl, trivial⟩, trivial, trivial⟩, ⟨⟨rfl, rfl, trivial⟩, ⟨rfl, trivial⟩, trivial⟩, ⟨⟨rfl, rfl, trivial⟩, trivial, trivial⟩, ⟨⟨rfl, rfl, trivial⟩, trivial, trivial⟩, ⟨⟨rfl, rfl, rfl, trivial⟩, trivial, trivial⟩, ⟨⟨rfl, trivial⟩, trivial, trivial⟩, ⟨⟨rfl, rfl, rfl, trivial⟩, trivial, trivial⟩, ⟨⟨rfl, rfl, trivial⟩, trivial, trivial⟩, ⟨⟨rfl, trivial⟩, trivial, trivial⟩, ⟨⟨rfl, rfl, trivial⟩, ⟨rfl, trivial⟩, trivial⟩, ⟨⟨rfl, trivial⟩, trivial, trivial⟩, ⟨⟨rfl, rfl, rfl, trivial⟩, trivial, trivial⟩, ⟨⟨rfl, rfl, trivial⟩, trivial, trivial⟩, ⟨⟨rfl, rfl, trivial⟩, trivial, trivial⟩, ⟨⟨rfl, trivial⟩, trivial, trivial⟩, trivial⟩ (by kernel_rfl) ?_
      refine post_imp (s' := ⟨26, [(0, some (.pv (.bool (y9 == [100, 97, 116, 97]))))], [], 0, [], []⟩) (imp_sub [] rfl rfl (by decide) rfl rfl ⟨rfl, trivial⟩ trivial rfl nolent2) ?_
      refine post_next ?_
      refine aw_ret ?_
      obtain rfl := Option.some.inj hF
      exact post_ret rfl rfl rfl (.cons _ _ _ _ _ (.tmp _ _ rfl) (.p _) .nil) (.inl rfl)
    · refine aw_drawn ({ need := [(1, .lp 0 0)], hneed := [(0, .box 42 [.pv (.int .i64 (({ fKind := 3, fN := 1 } : GOwner).fKind)), .pv (.int .i64 (({ fKind := 3, fN := 1 } : GOwner).fN))])], names := [], dst := some 7, val := some (.pv (.agg (eGOwner ({ fKind := 3, fN := 1 } : GOwner)))), upd := [] } :: { need := [(2, .pv (.vs 2 (List.map eGOwner [({ fKind := 1, fN := 0 } : GOwner), ({ fKind := 4, fN := 0 } : GOwner)])))], hneed := [], names := [], dst := some 8, val := some (.pv (.vs 2 (List.map eGOwner [({ fKind := 1, fN := 0 } : GOwner), ({ fKind := 4, fN := 0 } : GOwner)]))), upd := [] } :: { need := [(8, .pv (.vs 2 (List.map eGOwner [({ fKind := 1, fN := 0 } : GOwner), ({ fKind := 4, fN := 0 } : GOwner)]))), (7, .pv (.agg (eGOwner ({ fKind := 3, fN := 1 } : GOwner))))], hneed := [], names := [], dst := some 9, val := some (.pv (.agg (eGOwner y1))), upd := [] } :: { need := [], hneed := [], names := [], dst := some 10, val := some (.pv (.agg (eGOwner ({ fKind := 4, fN := 0 } : GOwner)))), upd := [] } :: { need := [(9, .pv (.agg (eGOwner y1))), (10, .pv (.agg (eGOwner ({ fKind := 4, fN := 0 } : GOwner))))], hneed := [], names := [], dst := some 11, val := some (.pv (.bool (bGOwner y1 ({ fKind := 4, fN := 0 } : GOwner)))), upd := [] } :: { need := [(11, .pv (.bool (bGOwner y1 ({ fKind := 4, fN := 0 } : GOwner))))], hneed := [], names := [], dst := some 12, val := some (.pv (.bool (bGOwner y1 ({ fKind := 4, fN := 0 } : GOwner)))), upd := [] } :: { need := [(12, .pv (.bool (bGOwner y1 ({ fKind := 4, fN := 0 } : GOwner)))), (1, .lp 0 0)], hneed := [(0, .box 42 [.pv (.int .i64 (({ fKind := 3, fN := 1 } : GOwner).fKind)), .pv (.int .i64 (({ fKind := 3, fN := 1 } : GOwner).fN))])], names := [], dst := some 13, val := some (.pv (.agg (eGOwner ({ fKind := 3, fN := 1 } : GOwner)))), upd := [] } :: { need := [(12, .pv (.bool (bGOwner y1 ({ fKind := 4, fN := 0 } : GOwner)))), (2, .pv (.vs 2 (List.map eGOwner [({ fKind := 1, fN := 0 } : GOwner), ({ fKind := 4, fN := 0 } : GOwner)])))], hneed := [], names := [], dst := some 14, val := some (.pv (.vs 2 (List.map eGOwner [({ fKind := 1, fN := 0 } : GOwner), ({ fKind := 4, fN := 0 } : GOwner)]))), upd := [] } :: { need := [(12, .pv (.bool (bGOwner y1 ({ fKind := 4, fN := 0 } : GOwner)))), (14, .pv (.vs 2 (List.map eGOwner [({ fKind := 1, fN := 0 } : GOwner), ({ fKind := 4, fN := 0 } : GOwner)])))], hneed := [], names := [], dst := some 15, val := some (.pv (.vs 2 (List.map eGOwner y4))), upd := [] } :: { need := [(12, .pv (.bool (bGOwner y1 ({ fKind := 4, fN := 0 } : GOwner)))), (15, .pv (.vs 2 (List.map eGOwner y4))), (13, .pv (.agg (eGOwner ({ fKind := 3, fN := 1 } : GOwner))))], hneed := [], names := [], dst := some 16, val := some (.pv (.agg (eGOwner y6))), upd := [] } :: { need := [(12, .pv (.bool (bGOwner y1 ({ fKind := 4, fN := 0 } : GOwner))))], hneed := [], names := [], dst := some 17, val := some (.pv (.agg (eGOwner ({ fKind := 8, fN := 0 } : GOwner)))), upd := [] } :: { need := [(12, .pv (.bool (bGOwner y1 ({ fKind := 4, fN := 0 } : GOwner)))), (16, .pv (.agg (eGOwner y6))), (17, .pv (.agg (eGOwner ({ fKind := 8, fN := 0 } : GOwner))))], hneed := [], names := [], dst := some 18, val := some (.pv (.bool (bGOwner y6 ({ fKind := 8, fN := 0 } : GOwner)))), upd := [] } :: { need := [(12, .pv (.bool (bGOwner y1 ({ fKind := 4, fN := 0 } : GOwner)))), (18, .pv (.bool (bGOwner y6 ({ fKind := 8, fN := 0 } : GOwner))))], hneed := [], names := [], dst := some 19, val := some (.pv (.bool (bGOwner y6 ({ fKind := 8, fN := 0 } : GOwner)))), upd := [] } :: { need := [(19, .pv (.bool (bGOwner y6 ({ fKind := 8, fN := 0 } : GOwner))))], hneed := [], names := [], dst := some 20, val := some (.pv (.bool (bGOwner y6 ({ fKind := 8, fN := 0 } : GOwner)))), upd := [] } :: { need := [(20, .pv (.bool (bGOwner y6 ({ fKind := 8, fN := 0 } : GOwner))))], dst := some 21, val := some (.tup []) } :: { need := [(20, .pv (.bool (bGOwner y6 ({ fKind := 8, fN := 0 } : GOwner))))], dst := some 22, val := some (.tup []) } :: { need := [(20, .pv (.bool (bGOwner y6 ({ fKind := 8, fN := 0 } : GOwner))))], dst := some 23, val := some (.tup []) } :: { need := [(20, .pv (.bool (bGOwner y6 ({ fKind := 8, fN := 0 } : GOwner))))], dst := some 24, val := some (.tup []) } :: { need := [(20, .pv (.bool (bGOwner y6 ({ fKind := 8, fN := 0 } : GOwner))))], hneed := [], names := [], dst := some 25, val := some (.pv (.bool false)), upd := [] } :: { need := [(25, .pv (.bool false))], hneed := [], names := [], dst := some 0, val := some (.pv (.bool false)), upd := [] } :: []) ⟨_, _, _⟩ Try_mixed rfl ⟨fun m h => step_on (guard_no rfl) (op_load_lp_agg (ps := eGOwner ({ fKind := 3, fN := 1 } : GOwner)) rfl h.1.1 h.2.1.1 rfl rfl rfl Try_agg_42 rfl rfl) rfl, fun m h => step_on (guard_no rfl) (op_move rfl h.1.1 rfl rfl) rfl, fun m h => step_on (guard_no rfl) (op_call 1 rfl (caps := []) (args := [.agg (eGOwner ({ fKind := 3, fN := 1 } : GOwner)), .vs 2 (List.map eGOwner [({ fKind := 1, fN := 0 } : GOwner), ({ fKind := 4, fN := 0 } : GOwner)])]) rfl rfl (evl_cons h.1.2.1 (evl_cons h.1.1 evl_nil)) Try_cal_26 (owner_Put_ok h2) rfl rfl rfl) rfl, fun m h => step_on (guard_no rfl) (op_build (zs := [.int .i64 (({ fKind := 0, fN := 0 } : GOwner).fKind), .int .i64 (({ fKind := 0, fN := 0 } : GOwner).fN)]) (r := eGOwner ({ fKind := 4, fN := 0 } : GOwner)) rfl Try_zer_42 (by exact ⟨rfl, rfl, trivial⟩) Try_plc_42 (evs_cons rfl evs_nil) rfl rfl rfl) rfl, fun m h => step_on (guard_no rfl) (op_eqAgg_eql (r := bGOwner y1 ({ fKind := 4, fN := 0 } : GOwner)) rfl h.1.1 h.1.2.1 Try_eqt_42 rfl rfl rfl rfl rfl) rfl, fun m h => step_on (guard_no rfl) (op_move rfl h.1.1 rfl rfl) rfl, fun m h => step_on (guard_on rfl rfl rfl h.1.1 hb3) (op_load_lp_agg (ps := eGOwner ({ fKind := 3, fN := 1 } : GOwner)) rfl h.1.2.1 h.2.1.1 rfl rfl rfl Try_agg_42 rfl rfl) rfl, fun m h => step_on (guard_on rfl rfl rfl h.1.1 hb3) (op_move rfl h.1.2.1 rfl rfl) rfl, fun m h => step_on (guard_on rfl rfl rfl h.1.1 hb3) (op_slice_vs (nl := none) (nh := (some 1)) (nm := none) rfl h.1.2.1 rfl rfl rfl (.inl rfl) Try_slc_43 (cut_map (nl := none) (nh := (some 1)) eGOwner h5) rfl rfl) rfl, fun m h => step_on (guard_on rfl rfl rfl h.1.1 hb3) (op_call 1 rfl (caps := []) (args := [.agg (eGOwner ({ fKind := 3, fN := 1 } : GOwner)), .vs 2 (List.map eGOwner y4)]) rfl rfl (evl_cons h.1.2.2.1 (evl_cons h.1.2.1 evl_nil)) Try_cal_26 (owner_Put_ok h7) rfl rfl rfl) rfl, fun m h => step_on (guard_on rfl rfl rfl h.1.1 hb3) (op_build (zs := [.int .i64 (({ fKind := 0, fN := 0 } : GOwner).fKind), .int .i64 (({ fKind := 0, fN := 0 } : GOwner).fN)]) (r := eGOwner ({ fKind := 8, fN := 0 } : GOwner)) rfl Try_zer_42 (by exact ⟨rfl, rfl, trivial⟩) Try_plc_42 (evs_cons rfl evs_nil) rfl rfl rfl) rfl, fun m h => step_on (guard_on rfl rfl rfl h.1.1 hb3) (op_eqAgg_eql (r := bGOwner y6 ({ fKind := 8, fN := 0 } : GOwner)) rfl h.1.2.1 h.1.2.2.1 Try_eqt_42 rfl rfl rfl rfl rfl) rfl, fun m h => step_on (guard_no rfl) (op_pick_t rfl h.1.1 hb3 h.1.2.1 rfl rfl) rfl, fun m h => step_on (guard_no rfl) (op_move rfl h.1.1 rfl rfl) rfl, fun m h => step_off (guard_off rfl rfl rfl h.1.1 hb8) rfl, fun m h => step_off (guard_off rfl rfl rfl h.1.1 hb8) rfl, fun m h => step_off (guard_off rfl rfl rfl h.1.1 hb8) rfl, fun m h => step_off (guard_off rfl rfl rfl h.1.1 hb8) rfl, fun m h => step_on (guard_no rfl) (op_pick_f rfl h.1.1 hb8 rfl rfl rfl) rfl, fun m h => step_on (guard_no rfl) (op_assign rfl h.1.1 rfl rfl) rfl, trivial⟩ ⟨⟨⟨rfl, trivial⟩, ⟨rfl, trivial⟩, trivial⟩, ⟨⟨rfl, trivial⟩, trivial, trivial⟩, ⟨⟨rfl, rfl, trivial⟩, trivial, trivial⟩, ⟨trivial, trivial, trivial⟩, ⟨⟨rfl, rfl, trivial⟩, trivial, trivial⟩, ⟨⟨rfl, trivial⟩, trivial, trivial⟩, ⟨⟨rfl, rfl, trivial⟩, ⟨rfl, trivial⟩, trivial⟩, ⟨⟨rfl, rfl, trivial⟩, trivial, trivial⟩, ⟨⟨rfl, rfl, trivial⟩, trivial, trivial⟩, ⟨⟨rfl, rfl, rfl, trivial⟩, trivial, trivial⟩, ⟨⟨rfl, trivial⟩, trivial, trivial⟩, ⟨⟨rfl, rfl, rfl, trivial⟩, trivial, trivial⟩, ⟨⟨rfl, rfl, trivial⟩, trivial, trivial⟩, ⟨⟨rfl, trivial⟩, trivial, trivial⟩, ⟨⟨rfl, trivial⟩, trivial, trivial⟩, ⟨⟨rfl, trivial⟩, trivial, trivial⟩, ⟨⟨rfl, trivial⟩, trivial, trivial⟩, ⟨⟨rfl, trivial⟩, trivial, trivial⟩, ⟨⟨rfl, trivial⟩, trivial, trivial⟩, ⟨⟨rfl, trivial⟩, trivial, trivial⟩, trivial⟩ (by kernel_rfl) ?_
      refine post_imp (s' := ⟨26, [(0, some (.pv (.bool false)))], [], 0, [], []⟩) (imp_sub [] rfl rfl (by decide) rfl rfl ⟨rfl, trivial⟩ trivial rfl nolent2) ?_
      refine post_next ?_
      refine aw_ret ?_
      obtain rfl := Option.some.inj hF
      exact post_ret rfl rfl rfl (.cons _ _ _ _ _ (.tmp _ _ rfl) (.p _) .nil) (.inl rfl)
  · refine aw_drawn ({ need := [(1, .lp 0 0)], hneed := [(0, .box 42 [.pv (.int .i64 (({ fKind := 3, fN := 1 } : GOwner).fKind)), .pv (.int .i64 (({ fKind := 3, fN := 1 } : GOwner).fN))])], names := [], dst := some 7, val := some (.pv (.agg (eGOwner ({ fKind := 3, fN := 1 } : GOwner)))), upd := [] } :: { need := [(2, .pv (.vs 2 (List.map eGOwner [({ fKind := 1, fN := 0 } : GOwner), ({ fKind := 4, fN := 0 } : GOwner)])))], hneed := [], names := [], dst := some 8, val := some (.pv (.vs 2 (List.map eGOwner [({ fKind := 1, fN := 0 } : GOwner), ({ fKind := 4, fN := 0 } : GOwner)]))), upd := [] } :: { need := [(8, .pv (.vs 2 (List.map eGOwner [({ fKind := 1, fN := 0 } : GOwner), ({ fKind := 4, fN := 0 } : GOwner)]))), (7, .pv (.agg (eGOwner ({ fKind := 3, fN := 1 } : GOwner))))], hneed := [], names := [], dst := some 9, val := some (.pv (.agg (eGOwner y1))), upd := [] } :: { need := [], hneed := [], names := [], dst := some 10, val := some (.pv (.agg (eGOwner ({ fKind := 4, fN := 0 } : GOwner)))), upd := [] } :: { need := [(9, .pv (.agg (eGOwner y1))), (10, .pv (.agg (eGOwner ({ fKind := 4, fN := 0 } : GOwner))))], hneed := [], names := [], dst := some 11, val := some (.pv (.bool (bGOwner y1 ({ fKind := 4, fN := 0 } : GOwner)))), upd := [] } :: { need := [(11, .pv (.bool (bGOwner y1 ({ fKind := 4, fN := 0 } : GOwner))))], hneed := [], names := [], dst := some 12, val := some (.pv (.bool (bGOwner y1 ({ fKind := 4, fN := 0 } : GOwner)))), upd := [] } :: { need := [(12, .pv (.bool (bGOwner y1 ({ fKind := 4, fN := 0 } : GOwner))))], dst := some 13, val := some (.tup []) } :: { need := [(12, .pv (.bool (bGOwner y1 ({ fKind := 4, fN := 0 } : GOwner))))], dst := some 14, val := some (.tup []) } :: { need := [(12, .pv (.bool (bGOwner y1 ({ fKind := 4, fN := 0 } : GOwner))))], dst := some 15, val := some (.tup []) } :: { need := [(12, .pv (.bool (bGOwner y1 ({ fKind := 4, fN := 0 } : GOwner))))], dst := some 16, val := some (.tup []) } :: { need := [(12, .pv (.bool (bGOwner y1 ({ fKind := 4, fN := 0 } : GOwner))))], dst := some 17, val := some (.tup []) } :: { need := [(12, .pv (.bool (bGOwner y1 ({ fKind := 4, fN := 0 } : GOwner))))], dst := some 18, val := some (.tup []) } :: { need := [(12, .pv (.bool (bGOwner y1 ({ fKind := 4, fN := 0 } : GOwner))))], hneed := [], names := [], dst := some 19, val := some (.pv (.bool false)), upd := [] } :: { need := [(19, .pv (.bool false))], hneed := [], names := [], dst := some 20, val := some (.pv (.bool false)), upd := [] } :: { need := [(20, .pv (.bool false))], dst := some 21, val := some (.tup []) } :: { need := [(20, .pv (.bool false))], dst := some 22, val := some (.tup []) } :: { need := [(20, .pv (.bool false))], dst := some 23, val := some (.tup []) } :: { need := [(20, .pv (.bool false))], dst := some 24, val := some (.tup []) } :: { need := [(20, .pv (.bool false))], hneed := [], names := [], dst := some 25, val := some (.pv (.bool false)), upd := [] } :: { need := [(25, .pv (.bool false))], hneed := [], names := [], dst := some 0, val := some (.pv (.bool false)), upd := [] } :: []) ⟨_, _, _⟩ Try_mixed rfl ⟨fun m h => step_on (guard_no rfl) (op_load_lp_agg (ps := eGOwner ({ fKind := 3, fN := 1 } : GOwner)) rfl h.1.1 h.2.1.1 rfl rfl rfl Try_agg_42 rfl rfl) rfl, fun m h => step_on (guard_no rfl) (op_move rfl h.1.1 rfl rfl) rfl, fun m h => step_on (guard_no rfl) (op_call 1 rfl (caps := []) (args := [.agg (eGOwner ({ fKind := 3, fN := 1 } : GOwner)), .vs 2 (List.map eGOwner [({ fKind := 1, fN := 0 } : GOwner), ({ fKind := 4, fN := 0 } : GOwner)])]) rfl rfl (evl_cons h.1.2.1 (evl_cons h.1.1 evl_nil)) Try_cal_26 (owner_Put_ok h2) rfl rfl rfl) rfl, fun m h => step_on (guard_no rfl) (op_build (zs := [.int .i64 (({ fKind := 0, fN := 0 } : GOwner).fKind), .int .i64 (({ fKind := 0, fN := 0 } : GOwner).fN)]) (r := eGOwner ({ fKind := 4, fN := 0 } : GOwner)) rfl Try_zer_42 (by exact ⟨rfl, rfl, trivial⟩) Try_plc_42 (evs_cons rfl evs_nil) rfl rfl rfl) rfl, fun m h => step_on (guard_no rfl) (op_eqAgg_eql (r := bGOwner y1 ({ fKind := 4, fN := 0 } : GOwner)) rfl h.1.1 h.1.2.1 Try_eqt_42 rfl rfl rfl rfl rfl) rfl, fun m h => step_on (guard_no rfl) (op_move rfl h.1.1 rfl rfl) rfl, fun m h => step_off (guard_off rfl rfl rfl h.1.1 hb3) rfl, fun m h => step_off (guard_off rfl rfl rfl h.1.1 hb3) rfl, fun m h => step_off (guard_off rfl rfl rfl h.1.1 hb3) rfl, fun m h => step_off (guard_off rfl rfl rfl h.1.1 hb3) rfl, fun m h => step_off (guard_off rfl rfl rfl h.1.1 hb3) rfl, fun m h => step_off (guard_off rfl rfl rfl h.1.1 hb3) rfl, fun m h => step_on (guard_no rfl) (op_pick_f rfl h.1.1 hb3 rfl rfl rfl) rfl, fun m h => step_on (guard_no rfl) (op_move rfl h.1.1 rfl rfl) rfl, fun m h => step_off (guard_off rfl rfl rfl h.1.1 rfl) rfl, fun m h => step_off (guard_off rfl rfl rfl h.1.1 rfl) rfl, fun m h => step_off (guard_off rfl rfl rfl h.1.1 rfl) rfl, fun m h => step_off (guard_off rfl rfl rfl h.1.1 rfl) rfl, fun m h => step_on (guard_no rfl) (op_pick_f rfl h.1.1 rfl rfl rfl rfl) rfl, fun m h => step_on (guard_no rfl) (op_assign rfl h.1.1 rfl rfl) rfl, trivial⟩ ⟨⟨⟨rfl, trivial⟩, ⟨rfl, trivial⟩, trivial⟩, ⟨⟨rfl, trivial⟩, trivial, trivial⟩, ⟨⟨rfl, rfl, trivial⟩, trivial, trivial⟩, ⟨trivial, trivial, trivial⟩, ⟨⟨rfl, rfl, trivial⟩, trivial, trivial⟩, ⟨⟨rfl, trivial⟩, trivial, trivial⟩, ⟨⟨rfl, trivial⟩, trivial, trivial⟩, ⟨⟨rfl, trivial⟩, trivial, trivial⟩, ⟨⟨rfl, trivial⟩, trivial, trivial⟩, ⟨⟨rfl, trivial⟩, trivial, trivial⟩, ⟨⟨rfl, trivial⟩, trivial, trivial⟩, ⟨⟨rfl, trivial⟩, trivial, trivial⟩, ⟨⟨rfl, trivial⟩, trivial, trivial⟩, ⟨⟨rfl, trivial⟩, trivial, trivial⟩, ⟨⟨rfl, trivial⟩, trivial, trivial⟩, ⟨⟨rfl, trivial⟩, trivial, trivial⟩, ⟨⟨rfl, trivial⟩, trivial, trivial⟩, ⟨⟨rfl, trivial⟩, trivial, trivial⟩, ⟨⟨rfl, trivial⟩, trivial, trivial⟩, ⟨⟨rfl, trivial⟩, trivial, trivial⟩, trivial⟩ (by kernel_rfl) ?_
    refine post_imp (s' := ⟨26, [(0, some (.pv (.bool false)))], [], 0, [], []⟩) (imp_sub [] rfl rfl (by decide) rfl rfl ⟨rfl, trivial⟩ trivial rfl nolent2) ?_
    refine post_next ?_
    refine aw_ret ?_
    obtain rfl := Option.some.inj hF
    exact post_ret rfl rfl rfl (.cons _ _ _ _ _ (.tmp _ _ rfl) (.p _) .nil) (.inl rfl)
theorem cmp_isNaN_int__ok {a0 : Int} {r : Bool} (hF : cmp_isNaN_int_ a0 = some r) : Abs.Fn Try.prog 92 [.int .i64 a0] [.p (.bool r)] := by
  unfold cmp_isNaN_int_ at hF
  refine fn_of_body (n := 6) Try.func92 rfl rfl rfl ?_
  intro w O
  refine aw_seq ?_
  refine aw_region ?_
  refine reg_cons (guard_no rfl) (op_assign rfl rfl rfl rfl) ?_
  refine reg_nil ?_
  refine post_imp (s' := ⟨6, [(0, some (.pv (.int .i64 a0)))], [], 0, [], []⟩) (imp_sub [] rfl rfl (by decide) rfl rfl ⟨rfl, trivial⟩ trivial rfl nolent2) ?_
  refine post_next ?_
  refine aw_seq ?_
  refine aw_region ?_
  refine reg_cons (guard_no rfl) (op_move rfl rfl rfl rfl) ?_
  refine reg_cons (guard_no rfl) (op_move rfl rfl rfl rfl) ?_
  refine reg_cons (guard_no rfl) (op_int (k := .i64) (m := a0) (n := a0) rfl rfl rfl rfl rfl rfl) ?_
  refine reg_cons (guard_no rfl) (op_assign rfl rfl rfl rfl) ?_
  refine reg_nil ?_
  refine post_imp (s' := ⟨6, [(2, some (.pv (.bool (a0 != a0))))], [], 0, [], []⟩) (imp_sub [] rfl rfl (by decide) rfl rfl ⟨rfl, trivial⟩ trivial rfl nolent2) ?_
  refine post_next ?_
  refine aw_ret ?_
  obtain rfl := Option.some.inj hF
  exact post_ret rfl rfl rfl (.cons _ _ _ _ _ (.tmp _ _ rfl) (.p _) .nil) (.inl rfl)
theorem cmp_Compare_int__ok {a0 : Int} {a1 : Int} {r : Int} (hF : cmp_Compare_int_ a0 a1 = some r) : Abs.Fn Try.prog 74 [.int .i64 a0, .int .i64 a1] [.p (.int .i64 r)] := by
  unfold cmp_Compare_int_ at hF
  refine fn_of_body (n := 20) Try.func74 rfl rfl rfl ?_
  intro w O
  refine aw_seq ?_
  refine aw_region ?_
  refine reg_cons (guard_no rfl) (op_assign rfl rfl rfl rfl) ?_
  refine reg_nil ?_
  refine post_imp (s' := ⟨20, [(0, some (.pv (.int .i64 a0))), (1, some (.pv (.int .i64 a1)))], [], 0, [], []⟩) (imp_sub [] rfl rfl (by decide) rfl rfl ⟨rfl, rfl, trivial⟩ trivial rfl nolent2) ?_
  refine post_next ?_
  refine aw_seq ?_
  refine aw_region ?_
  refine reg_cons (guard_no rfl) (op_move rfl rfl rfl rfl) ?_
  obtain ⟨y3, h4, hF⟩ := bind_some hF
  refine reg_cons (guard_no rfl) (op_call 0 rfl (caps := []) (args := [.int .i64 a0]) rfl rfl rfl Try_cal_92 (cmp_isNaN_int__ok h4) rfl rfl rfl) ?_
  refine reg_cons (guard_no rfl) (op_assign rfl rfl rfl rfl) ?_
  refine reg_nil ?_
  refine post_imp (s' := ⟨20, [(0, some (.pv (.int .i64 a0))), (1, some (.pv (.int .i64 a1))), (5, some (.pv (.bool y3)))], [], 0, [], []⟩) (imp_sub [] rfl rfl (by decide) rfl rfl ⟨rfl, rfl, rfl, trivial⟩ trivial rfl nolent2) ?_
  refine post_next ?_
  refine aw_seq ?_
  refine aw_region ?_
  refine reg_cons (guard_no rfl) (op_move rfl rfl rfl rfl) ?_
  obtain ⟨y7, h8, hF⟩ := bind_some hF
  refine reg_cons (guard_no rfl) (op_call 0 rfl (caps := []) (args := [.int .i64 a1]) rfl rfl rfl Try_cal_92 (cmp_isNaN_int__ok h8) rfl rfl rfl) ?_
  refine reg_cons (guard_no rfl) (op_assign rfl rfl rfl rfl) ?_
  refine reg_nil ?_
  refine post_imp (s' := ⟨20, [(0, some (.pv (.int .i64 a0))), (1, some (.pv (.int .i64 a1))), (5, some (.pv (.bool y3))), (6, some (.pv (.bool y7)))], [], 0, [], []⟩) (imp_sub [] rfl rfl (by decide) rfl rfl ⟨rfl, rfl, rfl, rfl, trivial⟩ trivial rfl nolent2) ?_
  refine post_next ?_
  refine aw_seq ?_
  refine aw_seq ?_
  refine aw_region ?_
  refine reg_cons (guard_no rfl) (op_move rfl rfl rfl rfl) ?_
  refine reg_nil ?_
  refine post_imp (s' := ⟨20, [(0, some (.pv (.int .i64 a0))), (1, some (.pv (.int .i64 a1))), (6, some (.pv (.bool y7))), (11, some (.pv (.bool y3)))], [], 0, [], []⟩) (imp_sub [] rfl rfl (by decide) rfl rfl ⟨rfl, rfl, rfl, rfl, trivial⟩ trivial rfl nolent2) ?_
  refine post_next ?_
  rcases ite_some hF with ⟨hb9, hF⟩ | ⟨hb9, hF⟩
  · refine aw_cond_t rfl hb9 ?_
    refine aw_seq ?_
    refine aw_seq ?_
    refine aw_region ?_
    refine reg_cons (guard_no rfl) (op_move rfl rfl rfl rfl) ?_
    refine reg_nil ?_
    refine post_imp (s' := ⟨20, [(12, some (.pv (.bool y7)))], [], 0, [], []⟩) (imp_sub [] rfl rfl (by decide) rfl rfl ⟨rfl, trivial⟩ trivial rfl nolent2) ?_
    refine post_next ?_
    rcases ite_some hF with ⟨hb10, hF⟩ | ⟨hb10, hF⟩
    · refine aw_cond_t rfl hb10 ?_
      refine aw_seq ?_
      refine aw_region ?_
      refine reg_cons (guard_no rfl) (op_assign rfl rfl rfl rfl) ?_
      refine reg_nil ?_
      refine post_imp (s' := ⟨20, [(4, some (.pv (.int .i64 0)))], [], 0, [], []⟩) (imp_sub [] rfl rfl (by decide) rfl rfl ⟨rfl, trivial⟩ trivial rfl nolent2) ?_
      refine post_next ?_
      refine aw_ret ?_
      refine post_then_ret ?_
      refine post_then_ret ?_
      obtain rfl := Option.some.inj hF
      exact post_ret rfl rfl rfl (.cons _ _ _ _ _ (.tmp _ _ rfl) (.p _) .nil) (.inl rfl)
    · refine aw_cond_f rfl hb10 ?_
      refine aw_skip ?_
      refine post_next ?_
      refine aw_seq ?_
      refine aw_region ?_
      refine reg_cons (guard_no rfl) (op_assign rfl rfl rfl rfl) ?_
      refine reg_nil ?_
      refine post_imp (s' := ⟨20, [(4, some (.pv (.int .i64 (-1))))], [], 0, [], []⟩) (imp_sub [] rfl rfl (by decide) rfl rfl ⟨rfl, trivial⟩ trivial rfl nolent2) ?_
      refine post_next ?_
      refine aw_ret ?_
      refine post_then_ret ?_
      obtain rfl := Option.some.inj hF
      exact post_ret rfl rfl rfl (.cons _ _ _ _ _ (.tmp _ _ rfl) (.p _) .nil) (.inl rfl)
  · refine aw_cond_f rfl hb9 ?_
    refine aw_skip ?_
    refine post_next ?_
    refine aw_seq ?_
    refine aw_seq ?_
    refine aw_region ?_
    refine reg_cons (guard_no rfl) (op_move rfl rfl rfl rfl) ?_
    refine reg_nil ?_
    refine post_imp (s' := ⟨20, [(0, some (.pv (.int .i64 a0))), (1, some (.pv (.int .i64 a1))), (13, some (.pv (.bool y7)))], [], 0, [], []⟩) (imp_sub [] rfl rfl (by decide) rfl rfl ⟨rfl, rfl, rfl, trivial⟩ trivial rfl nolent2) ?_
    refine post_next ?_
    rcases ite_some hF with ⟨hb11, hF⟩ | ⟨hb11, hF⟩
    · refine aw_cond_t rfl hb11 ?_
      refine aw_seq ?_
      refine aw_region ?_
      refine reg_cons (guard_no rfl) (op_assign rfl rfl rfl rfl) ?_
      refine reg_nil ?_
      refine post_imp (s' := ⟨20, [(4, some (.pv (.int .i64 1)))], [], 0, [], []⟩) (imp_sub [] rfl rfl (by decide) rfl rfl ⟨rfl, trivial⟩ trivial rfl nolent2) ?_
      refine post_next ?_
      refine aw_ret ?_
      refine post_then_ret ?_
      obtain rfl := Option.some.inj hF
      exact post_ret rfl rfl rfl (.cons _ _ _ _ _ (.tmp _ _ rfl) (.p _) .nil) (.inl rfl)
    · refine aw_cond_f rfl hb11 ?_
      refine aw_skip ?_
      refine post_next ?_
      refine aw_seq ?_
      refine aw_seq ?_
      refine aw_region ?_
      refine reg_cons (guard_no rfl) (op_move rfl rfl rfl rfl) ?_
      refine reg_cons (guard_no rfl) (op_move rfl rfl rfl rfl) ?_
      refine reg_cons (guard_no rfl) (op_int (k := .i64) (m := a0) (n := a1) rfl rfl rfl rfl rfl rfl) ?_
      refine reg_nil ?_
      refine post_imp (s' := ⟨20, [(0, some (.pv (.int .i64 a0))), (1, some (.pv (.int .i64 a1))), (16, some (.pv (.bool (decide (a0 < a1)))))], [], 0, [], []⟩) (imp_sub [] rfl rfl (by decide) rfl rfl ⟨rfl, rfl, rfl, trivial⟩ trivial rfl nolent2) ?_
      refine post_next ?_
      rcases ite_some hF with ⟨hb12, hF⟩ | ⟨hb12, hF⟩
      · refine aw_cond_t rfl hb12 ?_
        refine aw_seq ?_
        refine aw_region ?_
        refine reg_cons (guard_no rfl) (op_assign rfl rfl rfl rfl) ?_
        refine reg_nil ?_
        refine post_imp (s' := ⟨20, [(4, some (.pv (.int .i64 (-1))))], [], 0, [], []⟩) (imp_sub [] rfl rfl (by decide) rfl rfl ⟨rfl, trivial⟩ trivial rfl nolent2) ?_
        refine post_next ?_
        refine aw_ret ?_
        refine post_then_ret ?_
        obtain rfl := Option.some.inj hF
        exact post_ret rfl rfl rfl (.cons _ _ _ _ _ (.tmp _ _ rfl) (.p _) .nil) (.inl rfl)
      · refine aw_cond_f rfl hb12 ?_
        refine aw_skip ?_
        refine post_next ?_
        refine aw_seq ?_
        refine aw_seq ?_
        refine aw_region ?_
        refine reg_cons (guard_no rfl) (op_move rfl rfl rfl rfl) ?_
        refine reg_cons (guard_no rfl) (op_move rfl rfl rfl rfl) ?_
        refine reg_cons (guard_no rfl) (op_int (k := .i64) (m := a0) (n := a1) rfl rfl rfl rfl rfl rfl) ?_
        refine reg_nil ?_
        refine post_imp (s' := ⟨20, [(19, some (.pv (.bool (decide (a0 > a1)))))], [], 0, [], []⟩) (imp_sub [] rfl rfl (by decide) rfl rfl ⟨rfl, trivial⟩ trivial rfl nolent2) ?_
        refine post_next ?_
        rcases ite_some hF with ⟨hb13, hF⟩ | ⟨hb13, hF⟩
        · refine aw_cond_t rfl hb13 ?_
          refine aw_seq ?_
          refine aw_region ?_
          refine reg_cons (guard_no rfl) (op_assign rfl rfl rfl rfl) ?_
          refine reg_nil ?_
          refine post_imp (s' := ⟨20, [(4, some (.pv (.int .i64 1)))], [], 0, [], []⟩) (imp_sub [] rfl rfl (by decide) rfl rfl ⟨rfl, trivial⟩ trivial rfl nolent2) ?_
          refine post_next ?_
          refine aw_ret ?_
          refine post_then_ret ?_
          obtain rfl := Option.some.inj hF
          exact post_ret rfl rfl rfl (.cons _ _ _ _ _ (.tmp _ _ rfl) (.p _) .nil) (.inl rfl)
        · refine aw_cond_f rfl hb13 ?_
          refine aw_skip ?_
          refine post_next ?_
          refine aw_seq ?_
          refine aw_region ?_
          refine reg_cons (guard_no rfl) (op_assign rfl rfl rfl rfl) ?_
          refine reg_nil ?_
          refine post_imp (s' := ⟨20, [(4, some (.pv (.int .i64 0)))], [], 0, [], []⟩) (imp_sub [] rfl rfl (by decide) rfl rfl ⟨rfl, trivial⟩ trivial rfl nolent2) ?_
          refine post_next ?_
          refine aw_ret ?_
          obtain rfl := Option.some.inj hF
          exact post_ret rfl rfl rfl (.cons _ _ _ _ _ (.tmp _ _ rfl) (.p _) .nil) (.inl rfl)
theorem cmp_Or_int__ok {a0 : List Int} {r : Int} (hF : cmp_Or_int_ a0 = some r) : Abs.Fn Try.prog 73 [.vs 1 (List.map eI a0)] [.p (.int .i64 r)] := by
  unfold cmp_Or_int_ at hF
  refine fn_of_body (n := 18) Try.func73 rfl rfl rfl ?_
  intro w O
  refine aw_seq ?_
  refine aw_region ?_
  refine reg_cons (guard_no rfl) (op_assign rfl rfl rfl rfl) ?_
  refine reg_nil ?_
  refine post_imp (s' := ⟨18, [(0, some (.pv (.vs 1 (List.map eI a0))))], [], 0, [], []⟩) (imp_sub [] rfl rfl (by decide) rfl rfl ⟨rfl, trivial⟩ trivial rfl nolent2) ?_
  refine post_next ?_
  refine aw_seq ?_
  refine aw_region ?_
  refine reg_cons (guard_no rfl) (op_assign rfl rfl rfl rfl) ?_
  refine reg_nil ?_
  refine post_imp (s' := ⟨18, [(0, some (.pv (.vs 1 (List.map eI a0)))), (3, some (.pv (.int .i64 0)))], [], 0, [], []⟩) (imp_sub [] rfl rfl (by decide) rfl rfl ⟨rfl, rfl, trivial⟩ trivial rfl nolent2) ?_
  refine post_next ?_
  refine aw_seq ?_
  refine aw_seq ?_
  refine aw_region ?_
  refine reg_cons (guard_no rfl) (op_move rfl rfl rfl rfl) ?_
  refine reg_cons (guard_no rfl) (op_len_vs (n := a0.length) rfl rfl (List.length_map ..) Try_slc_50 rfl rfl) ?_
  refine reg_cons (guard_no rfl) (op_move rfl rfl rfl rfl) ?_
  refine reg_nil ?_
  refine post_imp (s' := ⟨18, [(3, some (.pv (.int .i64 0))), (6, some (.pv (.vs 1 (List.map eI a0)))), (7, some (.pv (.int .i64 (a0.length : Int)))), (8, some (.pv (.int .i64 0)))], [], 0, [], []⟩) (imp_sub [] rfl rfl (by decide) rfl rfl ⟨rfl, rfl, rfl, rfl, trivial⟩ trivial rfl nolent2) ?_
  refine post_next ?_
  obtain ⟨lr22, hF, hK23⟩ := bind_some hF
  refine aw_for ((((a0.length : Int)) - (0)).toNat + 1) (fun s1 => ∃ q, lr22 = .next q ∧ s1 = ⟨18, [(3, some (.pv (.int .i64 0)))], [], 0, [], []⟩) ?_ ?_
  · refine rnd_loop (α := Int) (fun q => ⟨18, [(3, some (.pv (.int .i64 0))), (6, some (.pv (.vs 1 (List.map eI a0)))), (7, some (.pv (.int .i64 (a0.length : Int)))), (8, some (.pv (.int .i64 q)))], [], 0, [], []⟩) (fun k q => cmp_Or_int__L1 a0 k q = some lr22) 0 (imp_sub [] rfl rfl (by decide) rfl rfl ⟨rfl, rfl, rfl, rfl, trivial⟩ trivial rfl nolent2) hF (fun q h => by cases h) ?_
    clear hF
    rintro k x7 hF ih
    refine rnd_succ ?_
    refine aw_seq ?_
    refine aw_region ?_
    refine reg_cons (guard_no rfl) (op_int (k := .i64) (m := x7) (n := (a0.length : Int)) rfl rfl rfl rfl rfl rfl) ?_
    refine reg_nil ?_
    refine post_imp (s' := ⟨18, [(3, some (.pv (.int .i64 0))), (6, some (.pv (.vs 1 (List.map eI a0)))), (7, some (.pv (.int .i64 (a0.length : Int)))), (8, some (.pv (.int .i64 x7))), (9, some (.pv (.bool (decide (x7 < (a0.length : Int))))))], [], 0, [], []⟩) (imp_sub [] rfl rfl (by decide) rfl rfl ⟨rfl, rfl, rfl, rfl, rfl, trivial⟩ trivial rfl nolent2) ?_
    refine post_next ?_
    refine aw_seq ?_
    rcases ite_some hF with ⟨hb15, hF⟩ | ⟨hb15, hF⟩
    · refine aw_cond_t rfl hb15 ?_
      refine aw_skip ?_
      refine post_next ?_
      refine aw_seq ?_
      refine aw_block ?_
      refine aw_seq ?_
      refine aw_region ?_
      obtain ⟨y18, h19, hF⟩ := bind_some hF
      refine reg_cons (guard_no rfl) (op_index_vs (k := .i64) rfl rfl rfl (idx_map eI h19) Try_slc_50 rfl rfl) ?_
      refine reg_cons (guard_no rfl) (op_load_vp (p := .int .i64 y18) rfl rfl rfl Try_one_3 rfl rfl) ?_
      refine reg_cons (guard_no rfl) (op_assign rfl rfl rfl rfl) ?_
      refine reg_nil ?_
      refine post_imp (s' := ⟨18, [(3, some (.pv (.int .i64 0))), (5, some (.pv (.int .i64 y18))), (6, some (.pv (.vs 1 (List.map eI a0)))), (7, some (.pv (.int .i64 (a0.length : Int)))), (8, some (.pv (.int .i64 x7)))], [], 0, [], []⟩) (imp_sub [] rfl rfl (by decide) rfl rfl ⟨rfl, rfl, rfl, rfl, rfl, trivial⟩ trivial rfl nolent2) ?_
      refine post_next ?_
      refine aw_seq ?_
      refine aw_region ?_
      refine reg_cons (guard_no rfl) (op_move rfl rfl rfl rfl) ?_
      refine reg_cons (guard_no rfl) (op_move rfl rfl rfl rfl) ?_
      refine reg_cons (guard_no rfl) (op_int (k := .i64) (m := y18) (n := 0) rfl rfl rfl rfl rfl rfl) ?_
      refine reg_nil ?_
      refine post_imp (s' := ⟨18, [(3, some (.pv (.int .i64 0))), (5, some (.pv (.int .i64 y18))), (6, some (.pv (.vs 1 (List.map eI a0)))), (7, some (.pv (.int .i64 (a0.length : Int)))), (8, some (.pv (.int .i64 x7))), (14, some (.pv (.bool (y18 != 0))))], [], 0, [], []⟩) (imp_sub [] rfl rfl (by decide) rfl rfl ⟨rfl, rfl, rfl, rfl, rfl, rfl, trivial⟩ trivial rfl nolent2) ?_
      refine post_next ?_
      rcases ite_some hF with ⟨hb20, hF⟩ | ⟨hb20, hF⟩
      · refine aw_cond_t rfl hb20 ?_
        refine aw_seq ?_
        refine aw_region ?_
        refine reg_cons (guard_no rfl) (op_move rfl rfl rfl rfl) ?_
        refine reg_cons (guard_no rfl) (op_assign rfl rfl rfl rfl) ?_
        refine reg_nil ?_
        refine post_imp (s' := ⟨18, [(2, some (.pv (.int .i64 y18)))], [], 0, [], []⟩) (imp_sub [] rfl rfl (by decide) rfl rfl ⟨rfl, trivial⟩ trivial rfl nolent2) ?_
        refine post_next ?_
        refine aw_ret ?_
        refine post_block_ret ?_
        refine post_then_ret ?_
        refine post_then_ret ?_
        refine post_lp_ret ?_
        obtain rfl := Option.some.inj hF
        have hF := elim_stop hK23
        refine post_then_ret ?_
        obtain rfl := Option.some.inj hF
        exact post_ret rfl rfl rfl (.cons _ _ _ _ _ (.tmp _ _ rfl) (.p _) .nil) (.inl rfl)
      · refine aw_cond_f rfl hb20 ?_
        refine aw_skip ?_
        refine post_block_normal ?_
        refine post_next ?_
        refine aw_region ?_
        refine reg_cons (guard_no rfl) (op_int (k := .i64) (m := x7) (n := 1) rfl rfl rfl rfl rfl rfl) ?_
        refine reg_cons (guard_no rfl) (op_move rfl rfl rfl rfl) ?_
        refine reg_nil ?_
        refine post_round ?_
        exact rnd_back (ih (w_i64 (x7 + 1)) hF) (imp_sub [] rfl rfl (by decide) rfl rfl ⟨rfl, rfl, rfl, rfl, trivial⟩ trivial rfl nolent2)
    · refine aw_cond_f rfl hb15 ?_
      refine aw_exit ?_
      refine post_then_exit ?_
      refine post_then_exit ?_
      obtain rfl := Option.some.inj hF
      exact post_lp_break _ ⟨_, rfl, rfl⟩ (imp_sub [] rfl rfl (by decide) rfl rfl ⟨rfl, trivial⟩ trivial rfl nolent2)
  · rintro _ ⟨⟨⟩, rfl, rfl⟩
    have hF := elim_next hK23
    clear hK23
    refine post_next ?_
    refine aw_seq ?_
    refine aw_region ?_
    refine reg_cons (guard_no rfl) (op_move rfl rfl rfl rfl) ?_
    refine reg_cons (guard_no rfl) (op_assign rfl rfl rfl rfl) ?_
    refine reg_nil ?_
    refine post_imp (s' := ⟨18, [(2, some (.pv (.int .i64 0)))], [], 0, [], []⟩) (imp_sub [] rfl rfl (by decide) rfl rfl ⟨rfl, trivial⟩ trivial rfl nolent2) ?_
    refine post_next ?_
    refine aw_ret ?_
    obtain rfl := Option.some.inj hF
    exact post_ret rfl rfl rfl (.cons _ _ _ _ _ (.tmp _ _ rfl) (.p _) .nil) (.inl rfl)
theorem owner_Order_ok {a0 : GOwner} {a1 : GOwner} {r : Int} (hF : owner_Order a0 a1 = some r) : Abs.Fn Try.prog 49 [.agg (eGOwner a0), .agg (eGOwner a1)] [.p (.int .i64 r)] := by
  unfold owner_Order at hF
  refine fn_of_body (n := 17) Try.func49 rfl rfl rfl ?_
  intro w O
  refine aw_seq ?_
  refine aw_region ?_
  refine reg_cons (guard_no rfl) (op_box 0 rfl rfl rfl rfl rfl rfl) ?_
  refine reg_cons (guard_no rfl) (op_box 1 rfl rfl rfl rfl rfl rfl) ?_
  refine reg_cons (guard_no rfl) (op_assign rfl rfl rfl rfl) ?_
  refine reg_nil ?_
  refine post_imp (s' := ⟨17, [(2, some (.lp 0 0)), (3, some (.lp 1 0))], [(0, some (.box 42 [.pv (.int .i64 a0.fKind), .pv (.int .i64 a0.fN)])), (1, some (.box 42 [.pv (.int .i64 a1.fKind), .pv (.int .i64 a1.fN)]))], 2, [], []⟩) (imp_sub [0, 1] rfl rfl (by decide) rfl rfl ⟨rfl, rfl, trivial⟩ ⟨rfl, rfl, trivial⟩ rfl nolent2) ?_
  refine post_next ?_
  refine aw_seq ?_
  obtain ⟨y1, h2, hF⟩ := bind_some hF
  obtain ⟨y3, h4, hF⟩ := bind_some hF
  obtain ⟨y5, h6, hF⟩ := bind_some hF
  refine aw_drawn ({ need := [(2, .lp 0 0)], hneed := [], names := [], dst := some 5, val := some (.lp 0 0), upd := [] } :: { need := [(5, .lp 0 0)], hneed := [(0, .box 42 [.pv (.int .i64 a0.fKind), .pv (.int .i64 a0.fN)])], names := [], dst := some 6, val := some (.pv (.int .i64 a0.fKind)), upd := [] } :: { need := [(3, .lp 1 0)], hneed := [], names := [], dst := some 7, val := some (.lp 1 0), upd := [] } :: { need := [(7, .lp 1 0)], hneed := [(1, .box 42 [.pv (.int .i64 a1.fKind), .pv (.int .i64 a1.fN)])], names := [], dst := some 8, val := some (.pv (.int .i64 a1.fKind)), upd := [] } :: { need := [(8, .pv (.int .i64 a1.fKind)), (6, .pv (.int .i64 a0.fKind))], hneed := [], names := [], dst := some 9, val := some (.pv (.int .i64 y1)), upd := [] } :: { need := [(2, .lp 0 0)], hneed := [], names := [], dst := some 10, val := some (.lp 0 1), upd := [] } :: { need := [(10, .lp 0 1)], hneed := [(0, .box 42 [.pv (.int .i64 a0.fKind), .pv (.int .i64 a0.fN)])], names := [], dst := some 11, val := some (.pv (.int .i64 a0.fN)), upd := [] } :: { need := [(3, .lp 1 0)], hneed := [], names := [], dst := some 12, val := some (.lp 1 1), upd := [] } :: { need := [(12, .lp 1 1)], hneed := [(1, .box 42 [.pv (.int .i64 a1.fKind), .pv (.int .i64 a1.fN)])], names := [], dst := some 13, val := some (.pv (.int .i64 a1.fN)), upd := [] } :: { need := [(13, .pv (.int .i64 a1.fN)), (11, .pv (.int .i64 a0.fN))], hneed := [], names := [], dst := some 14, val := some (.pv (.int .i64 y3)), upd := [] } :: { need := [(14, .pv (.int .i64 y3)), (9, .pv (.int .i64 y1))], hneed := [], names := [], dst := some 15, val := some (.pv (.vs 1 (List.map eI [y1, y3]))), upd := [] } :: { need := [(15, .pv (.vs 1 (List.map eI [y1, y3])))], hneed := [], names := [], dst := some 16, val := some (.pv (.int .i64 y5)), upd := [] } :: { need := [(16, .pv (.int .i64 y5))], hneed := [], names := [], dst := some 4, val := some (.pv (.int .i64 y5)), upd := [] } :: []) ⟨_, _, _⟩ Try_mixed rfl ⟨fun m h => step_on (guard_no rfl) (op_field_lp rfl h.1.1 Try_fld_42_0 rfl rfl) rfl, fun m h => step_on (guard_no rfl) (op_load_lp (v := .pv (.int .i64 a0.fKind)) rfl h.1.1 h.2.1.1 rfl Try_one_3 rfl rfl) rfl, fun m h => step_on (guard_no rfl) (op_field_lp rfl h.1.1 Try_fld_42_0 rfl rfl) rfl, fun m h => step_on (guard_no rfl) (op_load_lp (v := .pv (.int .i64 a1.fKind)) rfl h.1.1 h.2.1.1 rfl Try_one_3 rfl rfl) rfl, fun m h => step_on (guard_no rfl) (op_call 2 rfl (caps := []) (args := [.int .i64 a0.fKind, .int .i64 a1.fKind]) rfl rfl (evl_cons h.1.2.1 (evl_cons h.1.1 evl_nil)) Try_cal_74 (cmp_Compare_int__ok h2) rfl rfl rfl) rfl, fun m h => step_on (guard_no rfl) (op_field_lp rfl h.1.1 Try_fld_42_1 rfl rfl) rfl, fun m h => step_on (guard_no rfl) (op_load_lp (v := .pv (.int .i64 a0.fN)) rfl h.1.1 h.2.1.1 rfl Try_one_3 rfl rfl) rfl, fun m h => step_on (guard_no rfl) (op_field_lp rfl h.1.1 Try_fld_42_1 rfl rfl) rfl, fun m h => step_on (guard_no rfl) (op_load_lp (v := .pv (.int .i64 a1.fN)) rfl h.1.1 h.2.1.1 rfl Try_one_3 rfl rfl) rfl, fun m h => step_on (guard_no rfl) (op_call 2 rfl (caps := []) (args := [.int .i64 a0.fN, .int .i64 a1.fN]) rfl rfl (evl_cons h.1.2.1 (evl_cons h.1.1 evl_nil)) Try_cal_74 (cmp_Compare_int__ok h4) rfl rfl rfl) rfl, fun m h => step_on (guard_no rfl) (op_lit (rows := List.map eI ([y1, y3] : List Int)) (zs := [.int .i64 0]) rfl rfl Try_slc_50 Try_zer_3 (by exact ⟨rfl, trivial⟩) rfl rfl rfl (evs_cons h.1.2.1 (evs_cons h.1.1 evs_nil)) rfl rfl rfl rfl) rfl, fun m h => step_on (guard_no rfl) (op_call 2 rfl (caps := []) (args := [.vs 1 (List.map eI [y1, y3])]) rfl rfl (evl_cons h.1.1 evl_nil) Try_cal_73 (cmp_Or_int__ok h6) rfl rfl rfl) rfl, fun m h => step_on (guard_no rfl) (op_assign rfl h.1.1 rfl rfl) rfl, trivial⟩ ⟨⟨⟨rfl, trivial⟩, trivial, trivial⟩, ⟨⟨rfl, trivial⟩, ⟨rfl, trivial⟩, trivial⟩, ⟨⟨rfl, trivial⟩, trivial, trivial⟩, ⟨⟨rfl, trivial⟩, ⟨rfl, trivial⟩, trivial⟩, ⟨⟨rfl, rfl, trivial⟩, trivial, trivial⟩, ⟨⟨rfl, trivial⟩, trivial, trivial⟩, ⟨⟨rfl, trivial⟩, ⟨rfl, trivial⟩, trivial⟩, ⟨⟨rfl, trivial⟩, trivial, trivial⟩, ⟨⟨rfl, trivial⟩, ⟨rfl, trivial⟩, trivial⟩, ⟨⟨rfl, rfl, trivial⟩, trivial, trivial⟩, ⟨⟨rfl, rfl, trivial⟩, trivial, trivial⟩, ⟨⟨rfl, trivial⟩, trivial, trivial⟩, ⟨⟨rfl, trivial⟩, trivial, trivial⟩, trivial⟩ (by kernel_rfl) ?_
  refine post_imp (s' := ⟨17, [(4, some (.pv (.int .i64 y5)))], [], 0, [], []⟩) (imp_sub [] rfl rfl (by decide) rfl rfl ⟨rfl, trivial⟩ trivial rfl nolent2) ?_
  refine post_next ?_
  refine aw_ret ?_
  obtain rfl := Option.some.inj hF
  exact post_ret rfl rfl rfl (.cons _ _ _ _ _ (.tmp _ _ rfl) (.p _) .nil) (.inl rfl)
theorem owner_All_ok {a0 : List GOwner} {a1 : List GOwner} {r : (List GOwner)} (hF : owner_All a0 a1 = some r) : Abs.Fn Try.prog 29 [.vs 2 (List.map eGOwner a0), .vs 2 (List.map eGOwner a1)] [.own 42 2 (List.map eGOwner r)] := by
  unfold owner_All at hF
  refine fn_of_body (n := 26) Try.func29 rfl rfl rfl ?_
  intro w O
  refine aw_seq ?_
  refine aw_region ?_
  refine reg_cons (guard_no rfl) (op_assign rfl rfl rfl rfl) ?_
  refine reg_nil ?_
  refine post_imp (s' := ⟨26, [(0, some (.pv (.vs 2 (List.map eGOwner a0)))), (1, some (.pv (.vs 2 (List.map eGOwner a1))))], [], 0, [], []⟩) (imp_sub [] rfl rfl (by decide) rfl rfl ⟨rfl, rfl, trivial⟩ trivial rfl nolent2) ?_
  refine post_next ?_
  refine aw_seq ?_
  refine aw_region ?_
  refine reg_cons (guard_no rfl) (op_move rfl rfl rfl rfl) ?_
  refine reg_cons (guard_no rfl) (op_len_vs (n := a0.length) rfl rfl (List.length_map ..) Try_slc_43 rfl rfl) ?_
  obtain ⟨u3, h4, hF⟩ := bind_some hF
  refine reg_cons (guard_no rfl) (op_make 0 rfl (k := .i64) (k' := .i64) (n := (a0.length : Int)) (m := (a0.length : Int)) (zs := eGOwner ({ fKind := 0, fN := 0 } : GOwner)) rfl rfl rfl (mkOk_spec h4).1 (mkOk_spec h4).2.1 (mkOk_spec h4).2.2 Try_slc_43 Try_elm_42 rfl Try_zer_42 (by exact ⟨rfl, rfl, trivial⟩) rfl rfl (map_rep eGOwner _ _) rfl rfl) ?_
  refine reg_cons (guard_no rfl) (op_assign rfl rfl rfl rfl) ?_
  refine reg_nil ?_
  refine post_imp (s' := ⟨26, [(0, some (.pv (.vs 2 (List.map eGOwner a0)))), (1, some (.pv (.vs 2 (List.map eGOwner a1)))), (5, some (.ls 0))], [(0, some (.row 42 2 (List.map eGOwner (List.replicate ((a0.length : Int)).toNat ({ fKind := 0, fN := 0 } : GOwner)))))], 1, [], []⟩) (imp_sub [0] rfl rfl (by decide) rfl rfl ⟨rfl, rfl, rfl, trivial⟩ ⟨rfl, trivial⟩ rfl nolent2) ?_
  refine post_next ?_
  refine aw_seq ?_
  refine aw_seq ?_
  refine aw_region ?_
  refine reg_cons (guard_no rfl) (op_move rfl rfl rfl rfl) ?_
  refine reg_cons (guard_no rfl) (op_len_vs (n := a0.length) rfl rfl (List.length_map ..) Try_slc_43 rfl rfl) ?_
  refine reg_cons (guard_no rfl) (op_move rfl rfl rfl rfl) ?_
  refine reg_nil ?_
  refine post_imp (s' := ⟨26, [(1, some (.pv (.vs 2 (List.map eGOwner a1)))), (5, some (.ls 0)), (11, some (.pv (.vs 2 (List.map eGOwner a0)))), (12, some (.pv (.int .i64 (a0.length : Int)))), (13, some (.pv (.int .i64 0)))], [(0, some (.row 42 2 (List.map eGOwner (List.replicate ((a0.length : Int)).toNat ({ fKind := 0, fN := 0 } : GOwner)))))], 1, [], []⟩) (imp_sub [0] rfl rfl (by decide) rfl rfl ⟨rfl, rfl, rfl, rfl, rfl, trivial⟩ ⟨rfl, trivial⟩ rfl nolent2) ?_
  refine post_next ?_
  obtain ⟨x50, hF, hK51⟩ := bind_some hF
  refine aw_for ((((a0.length : Int)) - (0)).toNat + 1) (fun s1 => s1 = ⟨26, [(5, some (.ls 0))], [(0, some (.row 42 2 (List.map eGOwner x50)))], 1, [], []⟩) ?_ ?_
  · refine rnd_loop (α := (List GOwner) × Int) (fun q => ⟨26, [(1, some (.pv (.vs 2 (List.map eGOwner a1)))), (5, some (.ls 0)), (11, some (.pv (.vs 2 (List.map eGOwner a0)))), (12, some (.pv (.int .i64 (a0.length : Int)))), (13, some (.pv (.int .i64 q.2)))], [(0, some (.row 42 2 (List.map eGOwner q.1)))], 1, [], []⟩) (fun k q => owner_All_L1 a0 a1 k q.1 q.2 = some x50) ((List.replicate ((a0.length : Int)).toNat ({ fKind := 0, fN := 0 } : GOwner)), 0) (imp_sub [0] rfl rfl (by decide) rfl rfl ⟨rfl, rfl, rfl, rfl, rfl, trivial⟩ ⟨rfl, trivial⟩ rfl nolent2) hF (fun q h => by cases h) ?_
    clear hF
    rintro k ⟨x18, x19⟩ hF ih
    refine rnd_succ ?_
    refine aw_seq ?_
    refine aw_region ?_
    refine reg_cons (guard_no rfl) (op_int (k := .i64) (m := x19) (n := (a0.length : Int)) rfl rfl rfl rfl rfl rfl) ?_
    refine reg_nil ?_
    refine post_imp (s' := ⟨26, [(1, some (.pv (.vs 2 (List.map eGOwner a1)))), (5, some (.ls 0)), (11, some (.pv (.vs 2 (List.map eGOwner a0)))), (12, some (.pv (.int .i64 (a0.length : Int)))), (13, some (.pv (.int .i64 x19))), (14, some (.pv (.bool (decide (x19 < (a0.length : Int))))))], [(0, some (.row 42 2 (List.map eGOwner x18)))], 1, [], []⟩) (imp_sub [0] rfl rfl (by decide) rfl rfl ⟨rfl, rfl, rfl, rfl, rfl, rfl, trivial⟩ ⟨rfl, trivial⟩ rfl nolent2) ?_
    refine post_next ?_
    refine aw_seq ?_
    rcases ite_some hF with ⟨hb35, hF⟩ | ⟨hb35, hF⟩
    · refine aw_cond_t rfl hb35 ?_
      refine aw_skip ?_
      refine post_next ?_
      refine aw_seq ?_
      refine aw_block ?_
      refine aw_seq ?_
      refine aw_region ?_
      refine reg_cons (guard_no rfl) (op_move rfl rfl rfl rfl) ?_
      obtain ⟨y38, h39, hF⟩ := bind_some hF
      refine reg_cons (guard_no rfl) (op_index_vs (k := .i64) rfl rfl rfl (idx_map eGOwner h39) Try_slc_43 rfl rfl) ?_
      refine reg_cons (guard_no rfl) (op_load_vp_agg (ps := eGOwner y38) rfl rfl rfl rfl Try_agg_42 rfl rfl) ?_
      refine reg_cons (guard_no rfl) (op_alloc 1 rfl (ps := [.int .i64 (({ fKind := 0, fN := 0 } : GOwner).fKind), .int .i64 (({ fKind := 0, fN := 0 } : GOwner).fN)]) rfl Try_zer_42 (by exact ⟨rfl, rfl, trivial⟩) rfl rfl) ?_
      refine reg_cons (guard_no rfl) (op_assign rfl rfl rfl rfl) ?_
      refine reg_cons (guard_no rfl) (op_store_lp (n := 2) rfl rfl rfl rfl rfl (or_agg Try_agg_42) (by rw [Try_non_42]; rfl) rfl rfl) ?_
      refine reg_nil ?_
      refine post_imp (s' := ⟨26, [(1, some (.pv (.vs 2 (List.map eGOwner a1)))), (5, some (.ls 0)), (6, some (.pv (.int .i64 x19))), (7, some (.lp 1 0)), (11, some (.pv (.vs 2 (List.map eGOwner a0)))), (12, some (.pv (.int .i64 (a0.length : Int)))), (13, some (.pv (.int .i64 x19)))], [(0, some (.row 42 2 (List.map eGOwner x18))), (1, some (.box 42 [.pv (.int .i64 y38.fKind), .pv (.int .i64 y38.fN)]))], 2, [], []⟩) (imp_sub [0, 1] rfl rfl (by decide) rfl rfl ⟨rfl, rfl, rfl, rfl, rfl, rfl, rfl, trivial⟩ ⟨rfl, rfl, trivial⟩ rfl nolent2) ?_
      refine post_next ?_
      refine aw_region ?_
      refine reg_cons (guard_no rfl) (op_move rfl rfl rfl rfl) ?_
      refine reg_cons (guard_no rfl) (op_move rfl rfl rfl rfl) ?_
      refine reg_cons (guard_no rfl) (op_load_lp_agg (ps := eGOwner y38) rfl rfl rfl rfl rfl rfl Try_agg_42 rfl rfl) ?_
      refine reg_cons (guard_no rfl) (op_move rfl rfl rfl rfl) ?_
      obtain ⟨y44, h45, hF⟩ := bind_some hF
      refine reg_cons (guard_no rfl) (op_call 2 rfl (caps := []) (args := [.agg (eGOwner y38), .vs 2 (List.map eGOwner a1)]) rfl rfl rfl Try_cal_26 (owner_Put_ok h45) rfl rfl rfl) ?_
      obtain ⟨y46, h47, hF⟩ := bind_some hF
      refine reg_cons (guard_no rfl) (op_index_ls (k := .i64) rfl rfl rfl rfl (idx_map eGOwner h47) Try_slc_43 rfl rfl) ?_
      refine reg_cons (guard_no rfl) (op_store_le (n := 2) rfl rfl rfl rfl rfl (map_get eGOwner h47) (or_agg Try_agg_42) (by rw [Try_non_42]; rfl) rfl (map_set' eGOwner x18 _ y44) rfl) ?_
      refine reg_nil ?_
      refine post_imp (s' := ⟨26, [(1, some (.pv (.vs 2 (List.map eGOwner a1)))), (5, some (.ls 0)), (11, some (.pv (.vs 2 (List.map eGOwner a0)))), (12, some (.pv (.int .i64 (a0.length : Int)))), (13, some (.pv (.int .i64 x19)))], [(0, some (.row 42 2 (List.map eGOwner (x18.set (x19).toNat y44))))], 1, [], []⟩) (imp_sub [0] rfl rfl (by decide) rfl rfl ⟨rfl, rfl, rfl, rfl, rfl, trivial⟩ ⟨rfl, trivial⟩ rfl nolent2) ?_
      refine post_block_normal ?_
      refine post_next ?_
      refine aw_region ?_
      refine reg_cons (guard_no rfl) (op_int (k := .i64) (m := x19) (n := 1) rfl rfl rfl rfl rfl rfl) ?_
      refine reg_cons (guard_no rfl) (op_move rfl rfl rfl rfl) ?_
      refine reg_nil ?_
      refine post_round ?_
      exact rnd_back (ih ((x18.set (x19).toNat y44), w_i64 (x19 + 1)) hF) (imp_sub [0] rfl rfl (by decide) rfl rfl ⟨rfl, rfl, rfl, rfl, rfl, trivial⟩ ⟨rfl, trivial⟩ rfl nolent2)
    · refine aw_cond_f rfl hb35 ?_
      refine aw_exit ?_
      refine post_then_exit ?_
      refine post_then_exit ?_
      obtain rfl := Option.some.inj hF
      exact post_lp_break _ rfl (imp_sub [0] rfl rfl (by decide) rfl rfl ⟨rfl, trivial⟩ ⟨rfl, trivial⟩ rfl nolent2)
  · rintro _ rfl
    have hF := hK51
    clear hK51
    refine post_next ?_
    refine aw_seq ?_
    refine aw_region ?_
    refine reg_cons (guard_no rfl) (op_move rfl rfl rfl rfl) ?_
    refine reg_cons (guard_no rfl) (op_assign rfl rfl rfl rfl) ?_
    refine reg_nil ?_
    refine post_imp (s' := ⟨26, [(4, some (.ls 0))], [(0, some (.row 42 2 (List.map eGOwner x50)))], 1, [], []⟩) (imp_sub [0] rfl rfl (by decide) rfl rfl ⟨rfl, trivial⟩ ⟨rfl, trivial⟩ rfl nolent2) ?_
    refine post_next ?_
    refine aw_ret ?_
    obtain rfl := Option.some.inj hF
    exact post_ret rfl rfl rfl (.cons _ _ _ _ _ (.tmp _ _ rfl) (.own _ _ _ _ rfl nolent3) .nil) (.inl rfl)
theorem law04_OwnerTwice_ok {a0 : A3 GOwner} {a1 : List GOwner} {a2 : List GOwner} {r : Bool} (hF : law04_OwnerTwice a0 a1 a2 = some r) : Abs.Fn Try.prog 11 [.agg ((eA3 eGOwner) a0), .vs 2 (List.map eGOwner a1), .vs 2 (List.map eGOwner a2)] [.p (.bool r)] := by
  unfold law04_OwnerTwice at hF
  refine fn_of_body (n := 75) Try.func11 rfl rfl rfl ?_
  intro w O
  refine aw_seq ?_
  refine aw_region ?_
  refine reg_cons (guard_no rfl) (op_box 0 rfl rfl rfl rfl rfl rfl) ?_
  refine reg_cons (guard_no rfl) (op_assign rfl rfl rfl rfl) ?_
  refine reg_nil ?_
  refine post_imp (s' := ⟨75, [(1, some (.pv (.vs 2 (List.map eGOwner a1)))), (2, some (.pv (.vs 2 (List.map eGOwner a2)))), (3, some (.lp 0 0))], [(0, some (.box 78 [.pv (.int .i64 a0.a0.fKind), .pv (.int .i64 a0.a0.fN), .pv (.int .i64 a0.a1.fKind), .pv (.int .i64 a0.a1.fN), .pv (.int .i64 a0.a2.fKind), .pv (.int .i64 a0.a2.fN)]))], 1, [], []⟩) (imp_sub [0] rfl rfl (by decide) rfl rfl ⟨rfl, rfl, rfl, trivial⟩ ⟨rfl, trivial⟩ rfl nolent2) ?_
  refine post_next ?_
  refine aw_seq ?_
  refine aw_imp (imp_names 3) ?_
  refine aw_drawn ({ need := [(3, .lp 0 0)], hneed := [], names := [], dst := some 12, val := some (.lp 0 0), upd := [] } :: { need := [(12, .lp 0 0)], hneed := [(0, .box 78 [.pv (.int .i64 a0.a0.fKind), .pv (.int .i64 a0.a0.fN), .pv (.int .i64 a0.a1.fKind), .pv (.int .i64 a0.a1.fN), .pv (.int .i64 a0.a2.fKind), .pv (.int .i64 a0.a2.fN)])], names := [], dst := some 13, val := some (.pv (.agg (eGOwner a0.a0))), upd := [] } :: { need := [(3, .lp 0 0)], hneed := [], names := [], dst := some 14, val := some (.lp 0 2), upd := [] } :: { need := [(14, .lp 0 2)], hneed := [(0, .box 78 [.pv (.int .i64 a0.a0.fKind), .pv (.int .i64 a0.a0.fN), .pv (.int .i64 a0.a1.fKind), .pv (.int .i64 a0.a1.fN), .pv (.int .i64 a0.a2.fKind), .pv (.int .i64 a0.a2.fN)])], names := [], dst := some 15, val := some (.pv (.agg (eGOwner a0.a1))), upd := [] } :: { need := [(3, .lp 0 0)], hneed := [], names := [], dst := some 16, val := some (.lp 0 4), upd := [] } :: { need := [(16, .lp 0 4)], hneed := [(0, .box 78 [.pv (.int .i64 a0.a0.fKind), .pv (.int .i64 a0.a0.fN), .pv (.int .i64 a0.a1.fKind), .pv (.int .i64 a0.a1.fN), .pv (.int .i64 a0.a2.fKind), .pv (.int .i64 a0.a2.fN)])], names := [], dst := some 17, val := some (.pv (.agg (eGOwner a0.a2))), upd := [] } :: { need := [], hneed := [], names := [1], dst := some 7, val := some (.lp 1 0), upd := [(1, some (.box 42 [.pv (.int .i64 (({ fKind := 0, fN := 0 } : GOwner).fKind)), .pv (.int .i64 (({ fKind := 0, fN := 0 } : GOwner).fN))]))] } :: { need := [], hneed := [], names := [2], dst := some 8, val := some (.lp 2 0), upd := [(2, some (.box 42 [.pv (.int .i64 (({ fKind := 0, fN := 0 } : GOwner).fKind)), .pv (.int .i64 (({ fKind := 0, fN := 0 } : GOwner).fN))]))] } :: { need := [], hneed := [], names := [3], dst := some 9, val := some (.lp 3 0), upd := [(3, some (.box 42 [.pv (.int .i64 (({ fKind := 0, fN := 0 } : GOwner).fKind)), .pv (.int .i64 (({ fKind := 0, fN := 0 } : GOwner).fN))]))] } :: { need := [(7, .lp 1 0), (13, .pv (.agg (eGOwner a0.a0)))], hneed := [(1, .box 42 [.pv (.int .i64 (({ fKind := 0, fN := 0 } : GOwner).fKind)), .pv (.int .i64 (({ fKind := 0, fN := 0 } : GOwner).fN))])], names := [], dst := none, val := none, upd := [(1, some (.box 42 [.pv (.int .i64 a0.a0.fKind), .pv (.int .i64 a0.a0.fN)]))] } :: { need := [(8, .lp 2 0), (15, .pv (.agg (eGOwner a0.a1)))], hneed := [(2, .box 42 [.pv (.int .i64 (({ fKind := 0, fN := 0 } : GOwner).fKind)), .pv (.int .i64 (({ fKind := 0, fN := 0 } : GOwner).fN))])], names := [], dst := none, val := none, upd := [(2, some (.box 42 [.pv (.int .i64 a0.a1.fKind), .pv (.int .i64 a0.a1.fN)]))] } :: { need := [(9, .lp 3 0), (17, .pv (.agg (eGOwner a0.a2)))], hneed := [(3, .box 42 [.pv (.int .i64 (({ fKind := 0, fN := 0 } : GOwner).fKind)), .pv (.int .i64 (({ fKind := 0, fN := 0 } : GOwner).fN))])], names := [], dst := none, val := none, upd := [(3, some (.box 42 [.pv (.int .i64 a0.a2.fKind), .pv (.int .i64 a0.a2.fN)]))] } :: []) ⟨_, _, _⟩ Try_mixed rfl ⟨fun m h => step_on (guard_no rfl) (op_arr_lp (k := .i64) (m := 0) (n := 3) rfl h.1.1 rfl Try_arr_78 rfl rfl rfl rfl) rfl, fun m h => step_on (guard_no rfl) (op_load_lp_agg (ps := eGOwner a0.a0) rfl h.1.1 h.2.1.1 rfl rfl rfl Try_agg_42 rfl rfl) rfl, fun m h => step_on (guard_no rfl) (op_arr_lp (k := .i64) (m := 1) (n := 3) rfl h.1.1 rfl Try_arr_78 rfl rfl rfl rfl) rfl, fun m h => step_on (guard_no rfl) (op_load_lp_agg (ps := eGOwner a0.a1) rfl h.1.1 h.2.1.1 rfl rfl rfl Try_agg_42 rfl rfl) rfl, fun m h => step_on (guard_no rfl) (op_arr_lp (k := .i64) (m := 2) (n := 3) rfl h.1.1 rfl Try_arr_78 rfl rfl rfl rfl) rfl, fun m h => step_on (guard_no rfl) (op_load_lp_agg (ps := eGOwner a0.a2) rfl h.1.1 h.2.1.1 rfl rfl rfl Try_agg_42 rfl rfl) rfl, fun m h => step_on (guard_no rfl) (op_alloc 1 (fresh_free h.2.2.1) (ps := [.int .i64 (({ fKind := 0, fN := 0 } : GOwner).fKind), .int .i64 (({ fKind := 0, fN := 0 } : GOwner).fN)]) rfl Try_zer_42 (by exact ⟨rfl, rfl, trivial⟩) rfl rfl) rfl, fun m h => step_on (guard_no rfl) (op_alloc 2 (fresh_free h.2.2.1) (ps := [.int .i64 (({ fKind := 0, fN := 0 } : GOwner).fKind), .int .i64 (({ fKind := 0, fN := 0 } : GOwner).fN)]) rfl Try_zer_42 (by exact ⟨rfl, rfl, trivial⟩) rfl rfl) rfl, fun m h => step_on (guard_no rfl) (op_alloc 3 (fresh_free h.2.2.1) (ps := [.int .i64 (({ fKind := 0, fN := 0 } : GOwner).fKind), .int .i64 (({ fKind := 0, fN := 0 } : GOwner).fN)]) rfl Try_zer_42 (by exact ⟨rfl, rfl, trivial⟩) rfl rfl) rfl, fun m h => step_on (guard_no rfl) (op_store_lp (n := 2) rfl h.1.1 h.1.2.1 rfl h.2.1.1 (or_agg Try_agg_42) (by rw [Try_non_42]; rfl) rfl rfl) rfl, fun m h => step_on (guard_no rfl) (op_store_lp (n := 2) rfl h.1.1 h.1.2.1 rfl h.2.1.1 (or_agg Try_agg_42) (by rw [Try_non_42]; rfl) rfl rfl) rfl, fun m h => step_on (guard_no rfl) (op_store_lp (n := 2) rfl h.1.1 h.1.2.1 rfl h.2.1.1 (or_agg Try_agg_42) (by rw [Try_non_42]; rfl) rfl rfl) rfl, trivial⟩ ⟨⟨⟨rfl, trivial⟩, trivial, trivial⟩, ⟨⟨rfl, trivial⟩, ⟨rfl, trivial⟩, trivial⟩, ⟨⟨rfl, trivial⟩, trivial, trivial⟩, ⟨⟨rfl, trivial⟩, ⟨rfl, trivial⟩, trivial⟩, ⟨⟨rfl, trivial⟩, trivial, trivial⟩, ⟨⟨rfl, trivial⟩, ⟨rfl, trivial⟩, trivial⟩, ⟨trivial, trivial, ⟨rfl, trivial⟩⟩, ⟨trivial, trivial, ⟨rfl, trivial⟩⟩, ⟨trivial, trivial, ⟨rfl, trivial⟩⟩, ⟨⟨rfl, rfl, trivial⟩, ⟨rfl, trivial⟩, trivial⟩, ⟨⟨rfl, rfl, trivial⟩, ⟨rfl, trivial⟩, trivial⟩, ⟨⟨rfl, rfl, trivial⟩, ⟨rfl, trivial⟩, trivial⟩, trivial⟩ (by kernel_rfl) ?_
  refine post_imp (s' := ⟨75, [(1, some (.pv (.vs 2 (List.map eGOwner a1)))), (2, some (.pv (.vs 2 (List.map eGOwner a2)))), (7, some (.lp 0 0)), (8, some (.lp 1 0)), (9, some (.lp 2 0))], [(0, some (.box 42 [.pv (.int .i64 a0.a0.fKind), .pv (.int .i64 a0.a0.fN)])), (1, some (.box 42 [.pv (.int .i64 a0.a1.fKind), .pv (.int .i64 a0.a1.fN)])), (2, some (.box 42 [.pv (.int .i64 a0.a2.fKind), .pv (.int .i64 a0.a2.fN)]))], 3, [], []⟩) (imp_sub [1, 2, 3] rfl rfl (by decide) rfl rfl ⟨rfl, rfl, rfl, rfl, rfl, trivial⟩ ⟨rfl, rfl, rfl, trivial⟩ rfl nolent2) ?_
  refine post_next ?_
  refine aw_seq ?_
  refine aw_seq ?_
  obtain ⟨x2, hF, hK4⟩ := bind_some hF
  refine aw_cut (fun s1 => s1 = ⟨75, [(1, some (.pv (.vs 2 (List.map eGOwner a1)))), (2, some (.pv (.vs 2 (List.map eGOwner a2)))), (7, some (.lp 0 0)), (8, some (.lp 1 0)), (9, some (.lp 2 0)), (25, some (.pv (.bool x2)))], [(0, some (.box 42 [.pv (.int .i64 a0.a0.fKind), .pv (.int .i64 a0.a0.fN)])), (1, some (.box 42 [.pv (.int .i64 a0.a1.fKind), .pv (.int .i64 a0.a1.fN)])), (2, some (.box 42 [.pv (.int .i64 a0.a2.fKind), .pv (.int .i64 a0.a2.fN)]))], 3, [], []⟩) ?_ ?_
  · refine aw_region ?_
    refine reg_cons (guard_no rfl) (op_move rfl rfl rfl rfl) ?_
    refine reg_cons (guard_no rfl) (op_len_vs (n := a1.length) rfl rfl (List.length_map ..) Try_slc_43 rfl rfl) ?_
    refine reg_cons (guard_no rfl) (op_int (k := .i64) (m := (a1.length : Int)) (n := 20) rfl rfl rfl rfl rfl rfl) ?_
    refine reg_cons (guard_no rfl) (op_move rfl rfl rfl rfl) ?_
    rcases ite_some hF with ⟨hb1, hF⟩ | ⟨hb1, hF⟩
    · refine reg_off (guard_off rfl rfl rfl rfl hb1) rfl ?_
      refine reg_off (guard_off rfl rfl rfl rfl hb1) rfl ?_
      refine reg_off (guard_off rfl rfl rfl rfl hb1) rfl ?_
      refine reg_cons (guard_no rfl) (op_pick_t rfl rfl hb1 rfl rfl rfl) ?_
      refine reg_nil ?_
      cases hF
      exact post_cut _ rfl (imp_sub [0, 1, 2] rfl rfl (by decide) rfl rfl ⟨rfl, rfl, rfl, rfl, rfl, rfl, trivial⟩ ⟨rfl, rfl, rfl, trivial⟩ rfl nolent2)
    · refine reg_cons (guard_on rfl rfl rfl rfl hb1) (op_move rfl rfl rfl rfl) ?_
      refine reg_cons (guard_on rfl rfl rfl rfl hb1) (op_len_vs (n := a2.length) rfl rfl (List.length_map ..) Try_slc_43 rfl rfl) ?_
      refine reg_cons (guard_on rfl rfl rfl rfl hb1) (op_int (k := .i64) (m := (a2.length : Int)) (n := 20) rfl rfl rfl rfl rfl rfl) ?_
      refine reg_cons (guard_no rfl) (op_pick_f rfl rfl hb1 rfl rfl rfl) ?_
      refine reg_nil ?_
      cases hF
      exact post_cut _ rfl (imp_sub [0, 1, 2] rfl rfl (by decide) rfl rfl ⟨rfl, rfl, rfl, rfl, rfl, rfl, trivial⟩ ⟨rfl, rfl, rfl, trivial⟩ rfl nolent2)
  · rintro _ rfl
    have hF := hK4
    clear hK4
    refine post_next ?_
    rcases ite_some hF with ⟨hb5, hF⟩ | ⟨hb5, hF⟩
    · refine aw_cond_t rfl hb5 ?_
      refine aw_seq ?_
      refine aw_region ?_
      obtain ⟨y6, h7, hF⟩ := bind_some hF
      refine reg_cons (guard_no rfl) (op_call 3 rfl (caps := []) (args := []) rfl rfl rfl Try_cal_25 (law04_awake_ok h7) rfl rfl rfl) ?_
      refine reg_cons (guard_no rfl) (op_assign rfl rfl rfl rfl) ?_
      refine reg_nil ?_
      refine post_imp (s' := ⟨75, [(6, some (.pv (.bool y6)))], [], 0, [], []⟩) (imp_sub [] rfl rfl (by decide) rfl rfl ⟨rfl, trivial⟩ trivial rfl nolent2) ?_
      refine post_next ?_
      refine aw_ret ?_
      refine post_then_ret ?_
      obtain rfl := Option.some.inj hF
      exact post_ret rfl rfl rfl (.cons _ _ _ _ _ (.tmp _ _ rfl) (.p _) .nil) (.inl rfl)
    · refine aw_cond_f rfl hb5 ?_
      refine aw_skip ?_
      refine post_next ?_
      refine aw_seq ?_
      obtain ⟨y12, h13, hF⟩ := bind_some hF
      obtain ⟨y14, h15, hF⟩ := bind_some hF
      refine aw_drawn ({ need := [(7, .lp 0 0)], hneed := [(0, .box 42 [.pv (.int .i64 a0.a0.fKind), .pv (.int .i64 a0.a0.fN)])], names := [], dst := some 27, val := some (.pv (.agg (eGOwner a0.a0))), upd := [] } :: { need := [(8, .lp 1 0)], hneed := [(1, .box 42 [.pv (.int .i64 a0.a1.fKind), .pv (.int .i64 a0.a1.fN)])], names := [], dst := some 28, val := some (.pv (.agg (eGOwner a0.a1))), upd := [] } :: { need := [(28, .pv (.agg (eGOwner a0.a1))), (27, .pv (.agg (eGOwner a0.a0)))], hneed := [], names := [], dst := some 29, val := some (.pv (.int .i64 y12)), upd := [] } :: { need := [(8, .lp 1 0)], hneed := [(1, .box 42 [.pv (.int .i64 a0.a1.fKind), .pv (.int .i64 a0.a1.fN)])], names := [], dst := some 30, val := some (.pv (.agg (eGOwner a0.a1))), upd := [] } :: { need := [(9, .lp 2 0)], hneed := [(2, .box 42 [.pv (.int .i64 a0.a2.fKind), .pv (.int .i64 a0.a2.fN)])], names := [], dst := some 31, val := some (.pv (.agg (eGOwner a0.a2))), upd := [] } :: { need := [(31, .pv (.agg (eGOwner a0.a2))), (30, .pv (.agg (eGOwner a0.a1)))], hneed := [], names := [], dst := some 32, val := some (.pv (.int .i64 y14)), upd := [] } :: { need := [(29, .pv (.int .i64 y12))], hneed := [], names := [], dst := some 10, val := some (.pv (.int .i64 y12)), upd := [] } :: { need := [(32, .pv (.int .i64 y14))], hneed := [], names := [], dst := some 11, val := some (.pv (.int .i64 y14)), upd := [] } :: []) ⟨_, _, _⟩ Try_mixed rfl ⟨fun m h => step_on (guard_no rfl) (op_load_lp_agg (ps := eGOwner a0.a0) rfl h.1.1 h.2.1.1 rfl rfl rfl Try_agg_42 rfl rfl) rfl, fun m h => step_on (guard_no rfl) (op_load_lp_agg (ps := eGOwner a0.a1) rfl h.1.1 h.2.1.1 rfl rfl rfl Try_agg_42 rfl rfl) rfl, fun m h => step_on (guard_no rfl) (op_call 3 rfl (caps := []) (args := [.agg (eGOwner a0.a0), .agg (eGOwner a0.a1)]) rfl rfl (evl_cons h.1.2.1 (evl_cons h.1.1 evl_nil)) Try_cal_49 (owner_Order_ok h13) rfl rfl rfl) rfl, fun m h => step_on (guard_no rfl) (op_load_lp_agg (ps := eGOwner a0.a1) rfl h.1.1 h.2.1.1 rfl rfl rfl Try_agg_42 rfl rfl) rfl, fun m h => step_on (guard_no rfl) (op_load_lp_agg (ps := eGOwner a0.a2) rfl h.1.1 h.2.1.1 rfl rfl rfl Try_agg_42 rfl rfl) rfl, fun m h => step_on (guard_no rfl) (op_call 3 rfl (caps := []) (args := [.agg (eGOwner a0.a1), .agg (eGOwner a0.a2)]) rfl rfl (evl_cons h.1.2.1 (evl_cons h.1.1 evl_nil)) Try_cal_49 (owner_Order_ok h15) rfl rfl rfl) rfl, fun m h => step_on (guard_no rfl) (op_assign rfl h.1.1 rfl rfl) rfl, fun m h => step_on (guard_no rfl) (op_assign rfl h.1.1 rfl rfl) rfl, trivial⟩ ⟨⟨⟨rfl, trivial⟩, ⟨rfl, trivial⟩, trivial⟩, ⟨⟨rfl, trivial⟩, ⟨rfl, trivial⟩, trivial⟩, ⟨⟨rfl, rfl, trivial⟩, trivial, trivial⟩, ⟨⟨rfl, trivial⟩, ⟨rfl, trivial⟩, trivial⟩, ⟨⟨rfl, trivial⟩, ⟨rfl, trivial⟩, trivial⟩, ⟨⟨rfl, rfl, trivial⟩, trivial, trivial⟩, ⟨⟨rfl, trivial⟩, trivial, trivial⟩, ⟨⟨rfl, trivial⟩, trivial, trivial⟩, trivial⟩ (by kernel_rfl) ?_
      refine post_imp (s' := ⟨75, [(1, some (.pv (.vs 2 (List.map eGOwner a1)))), (2, some (.pv (.vs 2 (List.map eGOwner a2)))), (7, some (.lp 0 0)), (8, some (.lp 1 0)), (9, some (.lp 2 0)), (10, some (.pv (.int .i64 y12))), (11, some (.pv (.int .i64 y14)))], [(0, some (.box 42 [.pv (.int .i64 a0.a0.fKind), .pv (.int .i64 a0.a0.fN)])), (1, some (.box 42 [.pv (.int .i64 a0.a1.fKind), .pv (.int .i64 a0.a1.fN)])), (2, some (.box 42 [.pv (.int .i64 a0.a2.fKind), .pv (.int .i64 a0.a2.fN)]))], 3, [], []⟩) (imp_sub [0, 1, 2] rfl rfl (by decide) rfl rfl ⟨rfl, rfl, rfl, rfl, rfl, rfl, rfl, trivial⟩ ⟨rfl, rfl, rfl, trivial⟩ rfl nolent2) ?_
      refine post_next ?_
      refine aw_seq ?_
      refine aw_seq ?_
      obtain ⟨x26, hF, hK28⟩ := bind_some hF
      refine aw_cut (fun s1 => s1 = ⟨75, [(1, some (.pv (.vs 2 (List.map eGOwner a1)))), (2, some (.pv (.vs 2 (List.map eGOwner a2)))), (7, some (.lp 0 0)), (60, some (.pv (.bool x26)))], [(0, some (.box 42 [.pv (.int .i64 a0.a0.fKind), .pv (.int .i64 a0.a0.fN)]))], 1, [], []⟩) ?_ ?_
      · refine aw_region ?_
        refine reg_cons (guard_no rfl) (op_move rfl rfl rfl rfl) ?_
        refine reg_cons (guard_no rfl) (op_load_lp_agg (ps := eGOwner a0.a1) rfl rfl rfl rfl rfl rfl Try_agg_42 rfl rfl) ?_
        refine reg_cons (guard_no rfl) (op_load_lp_agg (ps := eGOwner a0.a0) rfl rfl rfl rfl rfl rfl Try_agg_42 rfl rfl) ?_
        obtain ⟨y18, h19, hF⟩ := bind_some hF
        refine reg_cons (guard_no rfl) (op_call 3 rfl (caps := []) (args := [.agg (eGOwner a0.a1), .agg (eGOwner a0.a0)]) rfl rfl rfl Try_cal_49 (owner_Order_ok h19) rfl rfl rfl) ?_
        refine reg_cons (guard_no rfl) (op_neg rfl rfl rfl rfl) ?_
        refine reg_cons (guard_no rfl) (op_int (k := .i64) (m := y12) (n := w_i64 (0 - y18)) rfl rfl rfl rfl rfl rfl) ?_
        refine reg_cons (guard_no rfl) (op_move rfl rfl rfl rfl) ?_
        rcases ite_some hF with ⟨hb20, hF⟩ | ⟨hb20, hF⟩
        · refine reg_off (guard_off rfl rfl rfl rfl hb20) rfl ?_
          refine reg_off (guard_off rfl rfl rfl rfl hb20) rfl ?_
          refine reg_off (guard_off rfl rfl rfl rfl hb20) rfl ?_
          refine reg_off (guard_off rfl rfl rfl rfl hb20) rfl ?_
          refine reg_off (guard_off rfl rfl rfl rfl hb20) rfl ?_
          refine reg_off (guard_off rfl rfl rfl rfl hb20) rfl ?_
          refine reg_cons (guard_no rfl) (op_pick_t rfl rfl hb20 rfl rfl rfl) ?_
          refine reg_cons (guard_no rfl) (op_move rfl rfl rfl rfl) ?_
          refine reg_off (guard_off rfl rfl rfl rfl rfl) rfl ?_
          refine reg_off (guard_off rfl rfl rfl rfl rfl) rfl ?_
          refine reg_off (guard_off rfl rfl rfl rfl rfl) rfl ?_
          refine reg_off (guard_undef rfl rfl rfl rfl) rfl ?_
          refine reg_off (guard_undef rfl rfl rfl rfl) rfl ?_
          refine reg_off (guard_off rfl rfl rfl rfl rfl) rfl ?_
          refine reg_off (guard_off rfl rfl rfl rfl rfl) rfl ?_
          refine reg_off (guard_undef rfl rfl rfl rfl) rfl ?_
          refine reg_off (guard_undef rfl rfl rfl rfl) rfl ?_
          refine reg_off (guard_undef rfl rfl rfl rfl) rfl ?_
          refine reg_off (guard_undef rfl rfl rfl rfl) rfl ?_
          refine reg_off (guard_off rfl rfl rfl rfl rfl) rfl ?_
          refine reg_cons (guard_no rfl) (op_pick_t rfl rfl rfl rfl rfl rfl) ?_
          refine reg_nil ?_
          cases hF
          exact post_cut _ rfl (imp_sub [0] rfl rfl (by decide) rfl rfl ⟨rfl, rfl, rfl, rfl, trivial⟩ ⟨rfl, trivial⟩ rfl nolent2)
        · refine reg_cons (guard_on rfl rfl rfl rfl hb20) (op_move rfl rfl rfl rfl) ?_
          refine reg_cons (guard_on rfl rfl rfl rfl hb20) (op_int (k := .i64) (m := y12) (n := 0) rfl rfl rfl rfl rfl rfl) ?_
          refine reg_cons (guard_on rfl rfl rfl rfl hb20) (op_load_lp_agg (ps := eGOwner a0.a0) rfl rfl rfl rfl rfl rfl Try_agg_42 rfl rfl) ?_
          refine reg_cons (guard_on rfl rfl rfl rfl hb20) (op_load_lp_agg (ps := eGOwner a0.a1) rfl rfl rfl rfl rfl rfl Try_agg_42 rfl rfl) ?_
          refine reg_cons (guard_on rfl rfl rfl rfl hb20) (op_eqAgg_eql (r := bGOwner a0.a0 a0.a1) rfl rfl rfl Try_eqt_42 rfl rfl rfl rfl rfl) ?_
          refine reg_cons (guard_on rfl rfl rfl rfl hb20) (op_eqBool_neq rfl rfl rfl Try_und_4 rfl rfl) ?_
          refine reg_cons (guard_no rfl) (op_pick_f rfl rfl hb20 rfl rfl rfl) ?_
          refine reg_cons (guard_no rfl) (op_move rfl rfl rfl rfl) ?_
          rcases ite_some hF with ⟨hb21, hF⟩ | ⟨hb21, hF⟩
          · refine reg_off (guard_off rfl rfl rfl rfl hb21) rfl ?_
            refine reg_off (guard_off rfl rfl rfl rfl hb21) rfl ?_
            refine reg_off (guard_off rfl rfl rfl rfl hb21) rfl ?_
            refine reg_off (guard_undef rfl rfl rfl rfl) rfl ?_
            refine reg_off (guard_undef rfl rfl rfl rfl) rfl ?_
            refine reg_off (guard_off rfl rfl rfl rfl hb21) rfl ?_
            refine reg_off (guard_off rfl rfl rfl rfl hb21) rfl ?_
            refine reg_off (guard_undef rfl rfl rfl rfl) rfl ?_
            refine reg_off (guard_undef rfl rfl rfl rfl) rfl ?_
            refine reg_off (guard_undef rfl rfl rfl rfl) rfl ?_
            refine reg_off (guard_undef rfl rfl rfl rfl) rfl ?_
            refine reg_off (guard_off rfl rfl rfl rfl hb21) rfl ?_
            refine reg_cons (guard_no rfl) (op_pick_t rfl rfl hb21 rfl rfl rfl) ?_
            refine reg_nil ?_
            cases hF
            exact post_cut _ rfl (imp_sub [0] rfl rfl (by decide) rfl rfl ⟨rfl, rfl, rfl, rfl, trivial⟩ ⟨rfl, trivial⟩ rfl nolent2)
          · refine reg_cons (guard_on rfl rfl rfl rfl hb21) (op_move rfl rfl rfl rfl) ?_
            refine reg_cons (guard_on rfl rfl rfl rfl hb21) (op_int (k := .i64) (m := y12) (n := 0) rfl rfl rfl rfl rfl rfl) ?_
            refine reg_cons (guard_on rfl rfl rfl rfl hb21) (op_move rfl rfl rfl rfl) ?_
            rcases ite_some hF with ⟨hb22, hF⟩ | ⟨hb22, hF⟩
            · refine reg_cons (guard_on rfl rfl rfl rfl hb22) (op_move rfl rfl rfl rfl) ?_
              refine reg_cons (guard_on rfl rfl rfl rfl hb22) (op_int (k := .i64) (m := y14) (n := 0) rfl rfl rfl rfl rfl rfl) ?_
              refine reg_cons (guard_on rfl rfl rfl rfl hb21) (op_pick_t rfl rfl hb22 rfl rfl rfl) ?_
              refine reg_cons (guard_on rfl rfl rfl rfl hb21) (op_move rfl rfl rfl rfl) ?_
              rcases ite_some hF with ⟨hb23, hF⟩ | ⟨hb23, hF⟩
              · refine reg_cons (guard_on rfl rfl rfl rfl hb23) (op_load_lp_agg (ps := eGOwner a0.a0) rfl rfl rfl rfl rfl rfl Try_agg_42 rfl rfl) ?_
                refine reg_cons (guard_on rfl rfl rfl rfl hb23) (op_load_lp_agg (ps := eGOwner a0.a2) rfl rfl rfl rfl rfl rfl Try_agg_42 rfl rfl) ?_
                obtain ⟨y24, h25, hF⟩ := bind_some hF
                refine reg_cons (guard_on rfl rfl rfl rfl hb23) (op_call 3 rfl (caps := []) (args := [.agg (eGOwner a0.a0), .agg (eGOwner a0.a2)]) rfl rfl rfl Try_cal_49 (owner_Order_ok h25) rfl rfl rfl) ?_
                refine reg_cons (guard_on rfl rfl rfl rfl hb23) (op_int (k := .i64) (m := y24) (n := 0) rfl rfl rfl rfl rfl rfl) ?_
                refine reg_cons (guard_on rfl rfl rfl rfl hb21) (op_pick_t rfl rfl hb23 rfl rfl rfl) ?_
                refine reg_cons (guard_no rfl) (op_pick_f rfl rfl hb21 rfl rfl rfl) ?_
                refine reg_nil ?_
                cases hF
                exact post_cut _ rfl (imp_sub [0] rfl rfl (by decide) rfl rfl ⟨rfl, rfl, rfl, rfl, trivial⟩ ⟨rfl, trivial⟩ rfl nolent2)
              · refine reg_off (guard_off rfl rfl rfl rfl hb23) rfl ?_
                refine reg_off (guard_off rfl rfl rfl rfl hb23) rfl ?_
                refine reg_off (guard_off rfl rfl rfl rfl hb23) rfl ?_
                refine reg_off (guard_off rfl rfl rfl rfl hb23) rfl ?_
                refine reg_cons (guard_on rfl rfl rfl rfl hb21) (op_pick_f rfl rfl hb23 rfl rfl rfl) ?_
                refine reg_cons (guard_no rfl) (op_pick_f rfl rfl hb21 rfl rfl rfl) ?_
                refine reg_nil ?_
                cases hF
                exact post_cut _ rfl (imp_sub [0] rfl rfl (by decide) rfl rfl ⟨rfl, rfl, rfl, rfl, trivial⟩ ⟨rfl, trivial⟩ rfl nolent2)
            · refine reg_off (guard_off rfl rfl rfl rfl hb22) rfl ?_
              refine reg_off (guard_off rfl rfl rfl rfl hb22) rfl ?_
              refine reg_cons (guard_on rfl rfl rfl rfl hb21) (op_pick_f rfl rfl hb22 rfl rfl rfl) ?_
              refine reg_cons (guard_on rfl rfl rfl rfl hb21) (op_move rfl rfl rfl rfl) ?_
              refine reg_off (guard_off rfl rfl rfl rfl rfl) rfl ?_
              refine reg_off (guard_off rfl rfl rfl rfl rfl) rfl ?_
              refine reg_off (guard_off rfl rfl rfl rfl rfl) rfl ?_
              refine reg_off (guard_off rfl rfl rfl rfl rfl) rfl ?_
              refine reg_cons (guard_on rfl rfl rfl rfl hb21) (op_pick_f rfl rfl rfl rfl rfl rfl) ?_
              refine reg_cons (guard_no rfl) (op_pick_f rfl rfl hb21 rfl rfl rfl) ?_
              refine reg_nil ?_
              cases hF
              exact post_cut _ rfl (imp_sub [0] rfl rfl (by decide) rfl rfl ⟨rfl, rfl, rfl, rfl, trivial⟩ ⟨rfl, trivial⟩ rfl nolent2)
      · rintro _ rfl
        have hF := hK28
        clear hK28
        refine post_next ?_
        rcases ite_some hF with ⟨hb29, hF⟩ | ⟨hb29, hF⟩
        · refine aw_cond_t rfl hb29 ?_
          refine aw_seq ?_
          refine aw_region ?_
          refine reg_cons (guard_no rfl) (op_assign rfl rfl rfl rfl) ?_
          refine reg_nil ?_
          refine post_imp (s' := ⟨75, [(6, some (.pv (.bool false)))], [], 0, [], []⟩) (imp_sub [] rfl rfl (by decide) rfl rfl ⟨rfl, trivial⟩ trivial rfl nolent2) ?_
          refine post_next ?_
          refine aw_ret ?_
          refine post_then_ret ?_
          obtain rfl := Option.some.inj hF
          exact post_ret rfl rfl rfl (.cons _ _ _ _ _ (.tmp _ _ rfl) (.p _) .nil) (.inl rfl)
        · refine aw_cond_f rfl hb29 ?_
          refine aw_skip ?_
          refine post_next ?_
          refine aw_seq ?_
          obtain ⟨y30, h31, hF⟩ := bind_some hF
          obtain ⟨y32, h33, hF⟩ := bind_some hF
          obtain ⟨y34, h35, hF⟩ := bind_some hF
          obtain ⟨y36, h37, hF⟩ := bind_some hF
          rcases ite_some hF with ⟨hb38, hF⟩ | ⟨hb38, hF⟩
          · obtain ⟨y39, h40, hF⟩ := bind_some hF
            refine aw_imp (imp_names 1) ?_
            refine aw_drawn ({ need := [(7, .lp 0 0)], hneed := [(0, .box 42 [.pv (.int .i64 a0.a0.fKind), .pv (.int .i64 a0.a0.fN)])], names := [], dst := some 61, val := some (.pv (.agg (eGOwner a0.a0))), upd := [] } :: { need := [(1, .pv (.vs 2 (List.map eGOwner a1)))], hneed := [], names := [], dst := some 62, val := some (.pv (.vs 2 (List.map eGOwner a1))), upd := [] } :: { need := [(62, .pv (.vs 2 (List.map eGOwner a1))), (61, .pv (.agg (eGOwner a0.a0)))], hneed := [], names := [], dst := some 63, val := some (.pv (.agg (eGOwner y30))), upd := [] } :: { need := [(2, .pv (.vs 2 (List.map eGOwner a2)))], hneed := [], names := [], dst := some 64, val := some (.pv (.vs 2 (List.map eGOwner a2))), upd := [] } :: { need := [(64, .pv (.vs 2 (List.map eGOwner a2))), (63, .pv (.agg (eGOwner y30)))], hneed := [], names := [], dst := some 65, val := some (.pv (.agg (eGOwner y32))), upd := [] } :: { need := [(7, .lp 0 0)], hneed := [(0, .box 42 [.pv (.int .i64 a0.a0.fKind), .pv (.int .i64 a0.a0.fN)])], names := [], dst := some 66, val := some (.pv (.agg (eGOwner a0.a0))), upd := [] } :: { need := [(1, .pv (.vs 2 (List.map eGOwner a1)))], hneed := [], names := [], dst := some 67, val := some (.pv (.vs 2 (List.map eGOwner a1))), upd := [] } :: { need := [(2, .pv (.vs 2 (List.map eGOwner a2)))], hneed := [], names := [], dst := some 68, val := some (.pv (.vs 2 (List.map eGOwner a2))), upd := [] } :: { need := [(68, .pv (.vs 2 (List.map eGOwner a2))), (67, .pv (.vs 2 (List.map eGOwner a1)))], hneed := [], names := [1], dst := some 69, val := some (.ls 1), upd := [(1, some (.row 42 2 (List.map eGOwner y34)))] } :: { need := [(69, .ls 1), (66, .pv (.agg (eGOwner a0.a0)))], hneed := [(1, .row 42 2 (List.map eGOwner y34))], names := [], dst := some 70, val := some (.pv (.agg (eGOwner y36))), upd := [] } :: { need := [(65, .pv (.agg (eGOwner y32))), (70, .pv (.agg (eGOwner y36)))], hneed := [], names := [], dst := some 71, val := some (.pv (.bool (bGOwner y32 y36))), upd := [] } :: { need := [(71, .pv (.bool (bGOwner y32 y36)))], hneed := [], names := [], dst := some 72, val := some (.pv (.bool (bGOwner y32 y36))), upd := [] } :: { need := [(72, .pv (.bool (bGOwner y32 y36)))], hneed := [], names := [], dst := some 73, val := some (.pv (.bool y39)), upd := [] } :: { need := [(72, .pv (.bool (bGOwner y32 y36))), (73, .pv (.bool y39))], hneed := [], names := [], dst := some 74, val := some (.pv (.bool y39)), upd := [] } :: { need := [(74, .pv (.bool y39))], hneed := [], names := [], dst := some 6, val := some (.pv (.bool y39)), upd := [] } :: []) ⟨_, _, _⟩ Try_mixed rfl ⟨fun m h => step_on (guard_no rfl) (op_load_lp_agg (ps := eGOwner a0.a0) rfl h.1.1 h.2.1.1 rfl rfl rfl Try_agg_42 rfl rfl) rfl, fun m h => step_on (guard_no rfl) (op_move rfl h.1.1 rfl rfl) rfl, fun m h => step_on (guard_no rfl) (op_call 2 rfl (caps := []) (args := [.agg (eGOwner a0.a0), .vs 2 (List.map eGOwner a1)]) rfl rfl (evl_cons h.1.2.1 (evl_cons h.1.1 evl_nil)) Try_cal_26 (owner_Put_ok h31) rfl rfl rfl) rfl, fun m h => step_on (guard_no rfl) (op_move rfl h.1.1 rfl rfl) rfl, fun m h => step_on (guard_no rfl) (op_call 2 rfl (caps := []) (args := [.agg (eGOwner y30), .vs 2 (List.map eGOwner a2)]) rfl rfl (evl_cons h.1.2.1 (evl_cons h.1.1 evl_nil)) Try_cal_26 (owner_Put_ok h33) rfl rfl rfl) rfl, fun m h => step_on (guard_no rfl) (op_load_lp_agg (ps := eGOwner a0.a0) rfl h.1.1 h.2.1.1 rfl rfl rfl Try_agg_42 rfl rfl) rfl, fun m h => step_on (guard_no rfl) (op_move rfl h.1.1 rfl rfl) rfl, fun m h => step_on (guard_no rfl) (op_move rfl h.1.1 rfl rfl) rfl, fun m h => step_on (guard_no rfl) (op_call 1 (fresh_free h.2.2.1) (caps := []) (args := [.vs 2 (List.map eGOwner a1), .vs 2 (List.map eGOwner a2)]) rfl rfl (evl_cons h.1.2.1 (evl_cons h.1.1 evl_nil)) Try_cal_29 (owner_All_ok h35) rfl rfl rfl) rfl, fun m h => step_on (guard_no rfl) (op_callB 2 rfl (caps := []) (args := [.agg (eGOwner a0.a0), .vs 2 (List.map eGOwner y34)]) [(1, some (.row 42 2 (List.map eGOwner y34)))] rfl rfl (evl_cons h.1.2.1 (evl_cons h.1.1 evl_nil)) (FzH.spec ⟨h.2.1.1, trivial⟩) rfl rfl Try_cal_26 (owner_Put_ok h37) rfl rfl rfl) rfl, fun m h => step_on (guard_no rfl) (op_eqAgg_eql (r := bGOwner y32 y36) rfl h.1.1 h.1.2.1 Try_eqt_42 rfl rfl rfl rfl rfl) rfl, fun m h => step_on (guard_no rfl) (op_move rfl h.1.1 rfl rfl) rfl, fun m h => step_on (guard_on rfl rfl rfl h.1.1 hb38) (op_call 2 rfl (caps := []) (args := []) rfl rfl evl_nil Try_cal_25 (law04_awake_ok h40) rfl rfl rfl) rfl, fun m h => step_on (guard_no rfl) (op_pick_t rfl h.1.1 hb38 h.1.2.1 rfl rfl) rfl, fun m h => step_on (guard_no rfl) (op_assign rfl h.1.1 rfl rfl) rfl, trivial⟩ ⟨⟨⟨rfl, trivial⟩, ⟨rfl, trivial⟩, trivial⟩, ⟨⟨rfl, trivial⟩, trivial, trivial⟩, ⟨⟨rfl, rfl, trivial⟩, trivial, trivial⟩, ⟨⟨rfl, trivial⟩, trivial, trivial⟩, ⟨⟨rfl, rfl, trivial⟩, trivial, trivial⟩, ⟨⟨rfl, trivial⟩, ⟨rfl, trivial⟩, trivial⟩, ⟨⟨rfl, trivial⟩, trivial, trivial⟩, ⟨⟨rfl, trivial⟩, trivial, trivial⟩, ⟨⟨rfl, rfl, trivial⟩, trivial, ⟨rfl, trivial⟩⟩, ⟨⟨rfl, rfl, trivial⟩, ⟨rfl, trivial⟩, trivial⟩, ⟨⟨rfl, rfl, trivial⟩, trivial, trivial⟩, ⟨⟨rfl, trivial⟩, trivial, trivial⟩, ⟨⟨rfl, trivial⟩, trivial, trivial⟩, ⟨⟨rfl, rfl, trivial⟩, trivial, trivial⟩, ⟨⟨rfl, trivial⟩, trivial, trivial⟩, trivial⟩ (by kernel_rfl) ?_
            refine post_imp (imp_freeze [(1, some (.row 42 2 (List.map eGOwner y34)))] [(69, some (.pv (.vs 2 (List.map eGOwner y34))))] (FzH.spec ⟨rfl, trivial⟩) nolent ⟨⟨_, rfl, rfl⟩, trivial⟩) ?_
            refine post_imp (s' := ⟨75, [(6, some (.pv (.bool y39)))], [], 0, [], []⟩) (imp_sub [] rfl rfl (by decide) rfl rfl ⟨rfl, trivial⟩ trivial rfl nolent2) ?_
            refine post_next ?_
            refine aw_ret ?_
            obtain rfl := Option.some.inj hF
            exact post_ret rfl rfl rfl (.cons _ _ _ _ _ (.tmp _ _ rfl) (.p _) .nil) (.inl rfl)
          · refine aw_imp (imp_names 1) ?_
            refine aw_drawn ({ need := [(7, .lp 0 0)], hneed := [(0, .box 42 [.pv (.int .i64 a0.a0.fKind), .pv (.int .i64 a0.a0.fN)])], names := [], dst := some 61, val := some (.pv (.agg (eGOwner a0.a0))), upd := [] } :: { need := [(1, .pv (.vs 2 (List.map eGOwner a1)))], hneed := [], names := [], dst := some 62, val := some (.pv (.vs 2 (List.map eGOwner a1))), upd := [] } :: { need := [(62, .pv (.vs 2 (List.map eGOwner a1))), (61, .pv (.agg (eGOwner a0.a0)))], hneed := [], names := [], dst := some 63, val := some (.pv (.agg (eGOwner y30))), upd := [] } :: { need := [(2, .pv (.vs 2 (List.map eGOwner a2)))], hneed := [], names := [], dst := some 64, val := some (.pv (.vs 2 (List.map eGOwner a2))), upd := [] } :: { need := [(64, .pv (.vs 2 (List.map eGOwner a2))), (63, .pv (.agg (eGOwner y30)))], hneed := [], names := [], dst := some 65, val := some (.pv (.agg (eGOwner y32))), upd := [] } :: { need := [(7, .lp 0 0)], hneed := [(0, .box 42 [.pv (.int .i64 a0.a0.fKind), .pv (.int .i64 a0.a0.fN)])], names := [], dst := some 66, val := some (.pv (.agg (eGOwner a0.a0))), upd := [] } :: { need := [(1, .pv (.vs 2 (List.map eGOwner a1)))], hneed := [], names := [], dst := some 67, val := some (.pv (.vs 2 (List.map eGOwner a1))), upd := [] } :: { need := [(2, .pv (.vs 2 (List.map eGOwner a2)))], hneed := [], names := [], dst := some 68, val := some (.pv (.vs 2 (List.map eGOwner a2))), upd := [] } :: { need := [(68, .pv (.vs 2 (List.map eGOwner a2))), (67, .pv (.vs 2 (List.map eGOwner a1)))], hneed := [], names := [1], dst := some 69, val := some (.ls 1), upd := [(1, some (.row 42 2 (List.map eGOwner y34)))] } :: { need := [(69, .ls 1), (66, .pv (.agg (eGOwner a0.a0)))], hneed := [(1, .row 42 2 (List.map eGOwner y34))], names := [], dst := some 70, val := some (.pv (.agg (eGOwner y36))), upd := [] } :: { need := [(65, .pv (.agg (eGOwner y32))), (70, .pv (.agg (eGOwner y36)))], hneed := [], names := [], dst := some 71, val := some (.pv (.bool (bGOwner y32 y36))), upd := [] } :: { need := [(71, .pv (.bool (bGOwner y32 y36)))], hneed := [], names := [], dst := some 72, val := some (.pv (.bool (bGOwner y32 y36))), upd := [] } :: { need := [(72, .pv (.bool (bGOwner y32 y36)))], dst := some 73, val := some (.tup []) } :: { need := [(72, .pv (.bool (bGOwner y32 y36)))], hneed := [], names := [], dst := some 74, val := some (.pv (.bool false)), upd := [] } :: { need := [(74, .pv (.bool false))], hneed := [], names := [], dst := some 6, val := some (.pv (.bool false)), upd := [] } :: []) ⟨_, _, _⟩ Try_mixed rfl ⟨fun m h => step_on (guard_no rfl) (op_load_lp_agg (ps := eGOwner a0.a0) rfl h.1.1 h.2.1.1 rfl rfl rfl Try_agg_42 rfl rfl) rfl, fun m h => step_on (guard_no rfl) (op_move rfl h.1.1 rfl rfl) rfl, fun m h => step_on (guard_no rfl) (op_call 2 rfl (caps := []) (args := [.agg (eGOwner a0.a0), .vs 2 (List.map eGOwner a1)]) rfl rfl (evl_cons h.1.2.1 (evl_cons h.1.1 evl_nil)) Try_cal_26 (owner_Put_ok h31) rfl rfl rfl) rfl, fun m h => step_on (guard_no rfl) (op_move rfl h.1.1 rfl rfl) rfl, fun m h => step_on (guard_no rfl) (op_call 2 rfl (caps := []) (args := [.agg (eGOwner y30), .vs 2 (List.map eGOwner a2)]) rfl rfl (evl_cons h.1.2.1 (evl_cons h.1.1 evl_nil)) Try_cal_26 (owner_Put_ok h33) rfl rfl rfl) rfl, fun m h => step_on (guard_no rfl) (op_load_lp_agg (ps := eGOwner a0.a0) rfl h.1.1 h.2.1.1 rfl rfl rfl Try_agg_42 rfl rfl) rfl, fun m h => step_on (guard_no rfl) (op_move rfl h.1.1 rfl rfl) rfl, fun m h => step_on (guard_no rfl) (op_move rfl h.1.1 rfl rfl) rfl, fun m h => step_on (guard_no rfl) (op_call 1 (fresh_free h.2.2.1) (caps := []) (args := [.vs 2 (List.map eGOwner a1), .vs 2 (List.map eGOwner a2)]) rfl rfl (evl_cons h.1.2.1 (evl_cons h.1.1 evl_nil)) Try_cal_29 (owner_All_ok h35) rfl rfl rfl) rfl, fun m h => step_on (guard_no rfl) (op_callB 2 rfl (caps := []) (args := [.agg (eGOwner a0.a0), .vs 2 (List.map eGOwner y34)]) [(1, some (.row 42 2 (List.map eGOwner y34)))] rfl rfl (evl_cons h.1.2.1 (evl_cons h.1.1 evl_nil)) (FzH.spec ⟨h.2.1.1, trivial⟩) rfl rfl Try_cal_26 (owner_Put_ok h37) rfl rfl rfl) rfl, fun m h => step_on (guard_no rfl) (op_eqAgg_eql (r := bGOwner y32 y36) rfl h.1.1 h.1.2.1 Try_eqt_42 rfl rfl rfl rfl rfl) rfl, fun m h => step_on (guard_no rfl) (op_move rfl h.1.1 rfl rfl) rfl, fun m h => step_off (guard_off rfl rfl rfl h.1.1 hb38) rfl, fun m h => step_on (guard_no rfl) (op_pick_f rfl h.1.1 hb38 rfl rfl rfl) rfl, fun m h => step_on (guard_no rfl) (op_assign rfl h.1.1 rfl rfl) rfl, trivial⟩ ⟨⟨⟨rfl, trivial⟩, ⟨rfl, trivial⟩, trivial⟩, ⟨⟨rfl, trivial⟩, trivial, trivial⟩, ⟨⟨rfl, rfl, trivial⟩, trivial, trivial⟩, ⟨⟨rfl, trivial⟩, trivial, trivial⟩, ⟨⟨rfl, rfl, trivial⟩, trivial, trivial⟩, ⟨⟨rfl, trivial⟩, ⟨rfl, trivial⟩, trivial⟩, ⟨⟨rfl, trivial⟩, trivial, trivial⟩, ⟨⟨rfl, trivial⟩, trivial, trivial⟩, ⟨⟨rfl, rfl, trivial⟩, trivial, ⟨rfl, trivial⟩⟩, ⟨⟨rfl, rfl, trivial⟩, ⟨rfl, trivial⟩, trivial⟩, ⟨⟨rfl, rfl, trivial⟩, trivial, trivial⟩, ⟨⟨rfl, trivial⟩, trivial, trivial⟩, ⟨⟨rfl, trivial⟩, trivial, trivial⟩, ⟨⟨rfl, trivial⟩, trivial, trivial⟩, ⟨⟨rfl, trivial⟩, trivial, trivial⟩, trivial⟩ (by kernel_rfl) ?_
            refine post_imp (imp_freeze [(1, some (.row 42 2 (List.map eGOwner y34)))] [(69, some (.pv (.vs 2 (List.map eGOwner y34))))] (FzH.spec ⟨rfl, trivial⟩) nolent ⟨⟨_, rfl, rfl⟩, trivial⟩) ?_
            refine post_imp (s' := ⟨75, [(6, some (.pv (.bool false)))], [], 0, [], []⟩) (imp_sub [] rfl rfl (by decide) rfl rfl ⟨rfl, trivial⟩ trivial rfl nolent2) ?_
            refine post_next ?_
            refine aw_ret ?_
            obtain rfl := Option.some.inj hF
            exact post_ret rfl rfl rfl (.cons _ _ _ _ _ (.tmp _ _ rfl) (.p _) .nil) (.inl rfl)
theorem ref04_Put_ok {a0 : GOwner} {a1 : List GOwner} {r : GOwner} (hF : ref04_Put a0 a1 = some r) : Abs.Fn Try.prog 27 [.agg (eGOwner a0), .vs 2 (List.map eGOwner a1)] [.p (.agg (eGOwner r))] := by
  unfold ref04_Put at hF
  refine fn_of_body (n := 38) Try.func27 rfl rfl rfl ?_
  intro w O
  refine aw_seq ?_
  refine aw_region ?_
  refine reg_cons (guard_no rfl) (op_box 0 rfl rfl rfl rfl rfl rfl) ?_
  refine reg_cons (guard_no rfl) (op_alloc 1 rfl (ps := [.int .i64 (({ fKind := 0, fN := 0 } : GOwner).fKind), .int .i64 (({ fKind := 0, fN := 0 } : GOwner).fN)]) rfl Try_zer_42 (by exact ⟨rfl, rfl, trivial⟩) rfl rfl) ?_
  refine reg_nil ?_
  refine post_imp (s' := ⟨38, [(1, some (.pv (.vs 2 (List.map eGOwner a1)))), (2, some (.lp 0 0)), (4, some (.lp 1 0))], [(0, some (.box 42 [.pv (.int .i64 a0.fKind), .pv (.int .i64 a0.fN)])), (1, some (.box 42 [.pv (.int .i64 (({ fKind := 0, fN := 0 } : GOwner).fKind)), .pv (.int .i64 (({ fKind := 0, fN := 0 } : GOwner).fN))]))], 2, [], []⟩) (imp_sub [0, 1] rfl rfl (by decide) rfl rfl ⟨rfl, rfl, rfl, trivial⟩ ⟨rfl, rfl, trivial⟩ rfl nolent2) ?_
  refine post_next ?_
  refine aw_seq ?_
  refine aw_region ?_
  refine reg_cons (guard_no rfl) (op_assign rfl rfl rfl rfl) ?_
  refine reg_nil ?_
  refine post_imp (s' := ⟨38, [(1, some (.pv (.vs 2 (List.map eGOwner a1)))), (2, some (.lp 0 0)), (4, some (.lp 1 0)), (5, some (.pv (.int .i64 (-1))))], [(0, some (.box 42 [.pv (.int .i64 a0.fKind), .pv (.int .i64 a0.fN)])), (1, some (.box 42 [.pv (.int .i64 (({ fKind := 0, fN := 0 } : GOwner).fKind)), .pv (.int .i64 (({ fKind := 0, fN := 0 } : GOwner).fN))]))], 2, [], []⟩) (imp_sub [0, 1] rfl rfl (by decide) rfl rfl ⟨rfl, rfl, rfl, rfl, trivial⟩ ⟨rfl, rfl, trivial⟩ rfl nolent2) ?_
  refine post_next ?_
  refine aw_seq ?_
  obtain ⟨x2, hF, hK4⟩ := bind_some hF
  refine aw_cut (fun s1 => s1 = ⟨38, [(1, some (.pv (.vs 2 (List.map eGOwner a1)))), (2, some (.lp 0 0)), (4, some (.lp 1 0)), (5, some (.pv (.int .i64 x2)))], [(0, some (.box 42 [.pv (.int .i64 a0.fKind), .pv (.int .i64 a0.fN)])), (1, some (.box 42 [.pv (.int .i64 (({ fKind := 0, fN := 0 } : GOwner).fKind)), .pv (.int .i64 (({ fKind := 0, fN := 0 } : GOwner).fN))]))], 2, [], []⟩) ?_ ?_
  · refine aw_seq ?_
    refine aw_region ?_
    refine reg_cons (guard_no rfl) (op_field_lp rfl rfl Try_fld_42_0 rfl rfl) ?_
    refine reg_cons (guard_no rfl) (op_load_lp (v := .pv (.int .i64 a0.fKind)) rfl rfl rfl rfl Try_one_3 rfl rfl) ?_
    refine reg_cons (guard_no rfl) (op_int (k := .i64) (m := a0.fKind) (n := 2) rfl rfl rfl rfl rfl rfl) ?_
    refine reg_nil ?_
    refine post_imp (s' := ⟨38, [(1, some (.pv (.vs 2 (List.map eGOwner a1)))), (2, some (.lp 0 0)), (4, some (.lp 1 0)), (5, some (.pv (.int .i64 (-1)))), (9, some (.pv (.bool (a0.fKind == 2))))], [(0, some (.box 42 [.pv (.int .i64 a0.fKind), .pv (.int .i64 a0.fN)])), (1, some (.box 42 [.pv (.int .i64 (({ fKind := 0, fN := 0 } : GOwner).fKind)), .pv (.int .i64 (({ fKind := 0, fN := 0 } : GOwner).fN))]))], 2, [], []⟩) (imp_sub [0, 1] rfl rfl (by decide) rfl rfl ⟨rfl, rfl, rfl, rfl, rfl, trivial⟩ ⟨rfl, rfl, trivial⟩ rfl nolent2) ?_
    refine post_next ?_
    rcases ite_some hF with ⟨hb1, hF⟩ | ⟨hb1, hF⟩
    · refine aw_cond_t rfl hb1 ?_
      refine aw_region ?_
      refine reg_cons (guard_no rfl) (op_assign rfl rfl rfl rfl) ?_
      refine reg_nil ?_
      cases hF
      exact post_cut _ rfl (imp_sub [0, 1] rfl rfl (by decide) rfl rfl ⟨rfl, rfl, rfl, rfl, trivial⟩ ⟨rfl, rfl, trivial⟩ rfl nolent2)
    · refine aw_cond_f rfl hb1 ?_
      refine aw_skip ?_
      cases hF
      exact post_cut _ rfl (imp_sub [0, 1] rfl rfl (by decide) rfl rfl ⟨rfl, rfl, rfl, rfl, trivial⟩ ⟨rfl, rfl, trivial⟩ rfl nolent2)
  · rintro _ rfl
    have hF := hK4
    clear hK4
    refine post_next ?_
    refine aw_seq ?_
    obtain ⟨x6, hF, hK8⟩ := bind_some hF
    refine aw_cut (fun s1 => s1 = ⟨38, [(1, some (.pv (.vs 2 (List.map eGOwner a1)))), (2, some (.lp 0 0)), (4, some (.lp 1 0)), (5, some (.pv (.int .i64 x6)))], [(0, some (.box 42 [.pv (.int .i64 a0.fKind), .pv (.int .i64 a0.fN)])), (1, some (.box 42 [.pv (.int .i64 (({ fKind := 0, fN := 0 } : GOwner).fKind)), .pv (.int .i64 (({ fKind := 0, fN := 0 } : GOwner).fN))]))], 2, [], []⟩) ?_ ?_
    · refine aw_seq ?_
      refine aw_region ?_
      refine reg_cons (guard_no rfl) (op_field_lp rfl rfl Try_fld_42_0 rfl rfl) ?_
      refine reg_cons (guard_no rfl) (op_load_lp (v := .pv (.int .i64 a0.fKind)) rfl rfl rfl rfl Try_one_3 rfl rfl) ?_
      refine reg_cons (guard_no rfl) (op_int (k := .i64) (m := a0.fKind) (n := 3) rfl rfl rfl rfl rfl rfl) ?_
      refine reg_nil ?_
      refine post_imp (s' := ⟨38, [(1, some (.pv (.vs 2 (List.map eGOwner a1)))), (2, some (.lp 0 0)), (4, some (.lp 1 0)), (5, some (.pv (.int .i64 x2))), (12, some (.pv (.bool (a0.fKind == 3))))], [(0, some (.box 42 [.pv (.int .i64 a0.fKind), .pv (.int .i64 a0.fN)])), (1, some (.box 42 [.pv (.int .i64 (({ fKind := 0, fN := 0 } : GOwner).fKind)), .pv (.int .i64 (({ fKind := 0, fN := 0 } : GOwner).fN))]))], 2, [], []⟩) (imp_sub [0, 1] rfl rfl (by decide) rfl rfl ⟨rfl, rfl, rfl, rfl, rfl, trivial⟩ ⟨rfl, rfl, trivial⟩ rfl nolent2) ?_
      refine post_next ?_
      rcases ite_some hF with ⟨hb5, hF⟩ | ⟨hb5, hF⟩
      · refine aw_cond_t rfl hb5 ?_
        refine aw_region ?_
        refine reg_cons (guard_no rfl) (op_field_lp rfl rfl Try_fld_42_1 rfl rfl) ?_
        refine reg_cons (guard_no rfl) (op_load_lp (v := .pv (.int .i64 a0.fN)) rfl rfl rfl rfl Try_one_3 rfl rfl) ?_
        refine reg_cons (guard_no rfl) (op_assign rfl rfl rfl rfl) ?_
        refine reg_nil ?_
        cases hF
        exact post_cut _ rfl (imp_sub [0, 1] rfl rfl (by decide) rfl rfl ⟨rfl, rfl, rfl, rfl, trivial⟩ ⟨rfl, rfl, trivial⟩ rfl nolent2)
      · refine aw_cond_f rfl hb5 ?_
        refine aw_skip ?_
        cases hF
        exact post_cut _ rfl (imp_sub [0, 1] rfl rfl (by decide) rfl rfl ⟨rfl, rfl, rfl, rfl, trivial⟩ ⟨rfl, rfl, trivial⟩ rfl nolent2)
    · rintro _ rfl
      have hF := hK8
      clear hK8
      refine post_next ?_
      refine aw_seq ?_
      refine aw_seq ?_
      obtain ⟨x10, hF, hK12⟩ := bind_some hF
      refine aw_cut (fun s1 => s1 = ⟨38, [(1, some (.pv (.vs 2 (List.map eGOwner a1)))), (2, some (.lp 0 0)), (4, some (.lp 1 0)), (5, some (.pv (.int .i64 x6))), (22, some (.pv (.bool x10)))], [(0, some (.box 42 [.pv (.int .i64 a0.fKind), .pv (.int .i64 a0.fN)])), (1, some (.box 42 [.pv (.int .i64 (({ fKind := 0, fN := 0 } : GOwner).fKind)), .pv (.int .i64 (({ fKind := 0, fN := 0 } : GOwner).fN))]))], 2, [], []⟩) ?_ ?_
      · refine aw_region ?_
        refine reg_cons (guard_no rfl) (op_field_lp rfl rfl Try_fld_42_0 rfl rfl) ?_
        refine reg_cons (guard_no rfl) (op_load_lp (v := .pv (.int .i64 a0.fKind)) rfl rfl rfl rfl Try_one_3 rfl rfl) ?_
        refine reg_cons (guard_no rfl) (op_int (k := .i64) (m := a0.fKind) (n := 2) rfl rfl rfl rfl rfl rfl) ?_
        refine reg_cons (guard_no rfl) (op_move rfl rfl rfl rfl) ?_
        rcases ite_some hF with ⟨hb9, hF⟩ | ⟨hb9, hF⟩
        · refine reg_cons (guard_on rfl rfl rfl rfl hb9) (op_field_lp rfl rfl Try_fld_42_0 rfl rfl) ?_
          refine reg_cons (guard_on rfl rfl rfl rfl hb9) (op_load_lp (v := .pv (.int .i64 a0.fKind)) rfl rfl rfl rfl Try_one_3 rfl rfl) ?_
          refine reg_cons (guard_on rfl rfl rfl rfl hb9) (op_int (k := .i64) (m := a0.fKind) (n := 3) rfl rfl rfl rfl rfl rfl) ?_
          refine reg_cons (guard_no rfl) (op_pick_t rfl rfl hb9 rfl rfl rfl) ?_
          refine reg_nil ?_
          cases hF
          exact post_cut _ rfl (imp_sub [0, 1] rfl rfl (by decide) rfl rfl ⟨rfl, rfl, rfl, rfl, rfl, trivial⟩ ⟨rfl, rfl, trivial⟩ rfl nolent2)
        · refine reg_off (guard_off rfl rfl rfl rfl hb9) rfl ?_
          refine reg_off (guard_off rfl rfl rfl rfl hb9) rfl ?_
          refine reg_off (guard_off rfl rfl rfl rfl hb9) rfl ?_
          refine reg_cons (guard_no rfl) (op_pick_f rfl rfl hb9 rfl rfl rfl) ?_
          refine reg_nil ?_
          cases hF
          exact post_cut _ rfl (imp_sub [0, 1] rfl rfl (by decide) rfl rfl ⟨rfl, rfl, rfl, rfl, rfl, trivial⟩ ⟨rfl, rfl, trivial⟩ rfl nolent2)
      · rintro _ rfl
        have hF := hK12
        clear hK12
        refine post_next ?_
        rcases ite_some hF with ⟨hb13, hF⟩ | ⟨hb13, hF⟩
        · refine aw_cond_t rfl hb13 ?_
          refine aw_seq ?_
          refine aw_region ?_
          refine reg_cons (guard_no rfl) (op_load_lp_agg (ps := eGOwner a0) rfl rfl rfl rfl rfl rfl Try_agg_42 rfl rfl) ?_
          refine reg_cons (guard_no rfl) (op_store_lp (n := 2) rfl rfl rfl rfl rfl (or_agg Try_agg_42) (by rw [Try_non_42]; rfl) rfl rfl) ?_
          refine reg_nil ?_
          refine post_imp (s' := ⟨38, [(4, some (.lp 0 0))], [(0, some (.box 42 [.pv (.int .i64 a0.fKind), .pv (.int .i64 a0.fN)]))], 1, [], []⟩) (imp_sub [1] rfl rfl (by decide) rfl rfl ⟨rfl, trivial⟩ ⟨rfl, trivial⟩ rfl nolent2) ?_
          refine post_next ?_
          refine aw_ret ?_
          refine post_then_ret ?_
          obtain rfl := Option.some.inj hF
          exact post_ret rfl rfl rfl (.cons _ _ _ _ _ (.agg _ _ _ _ _ 2 _ _ rfl rfl Try_agg_42 rfl rfl rfl) (.p _) .nil) (.inl rfl)
        · refine aw_cond_f rfl hb13 ?_
          refine aw_skip ?_
          refine post_next ?_
          refine aw_seq ?_
          refine aw_seq ?_
          refine aw_region ?_
          refine reg_cons (guard_no rfl) (op_assign rfl rfl rfl rfl) ?_
          refine reg_nil ?_
          refine post_imp (s' := ⟨38, [(1, some (.pv (.vs 2 (List.map eGOwner a1)))), (4, some (.lp 0 0)), (5, some (.pv (.int .i64 x6))), (6, some (.pv (.int .i64 0)))], [(0, some (.box 42 [.pv (.int .i64 (({ fKind := 0, fN := 0 } : GOwner).fKind)), .pv (.int .i64 (({ fKind := 0, fN := 0 } : GOwner).fN))]))], 1, [], []⟩) (imp_sub [1] rfl rfl (by decide) rfl rfl ⟨rfl, rfl, rfl, rfl, trivial⟩ ⟨rfl, trivial⟩ rfl nolent2) ?_
          refine post_next ?_
          obtain ⟨lr29, hF, hK30⟩ := bind_some hF
          refine aw_for ((((a1.length : Int)) - (0)).toNat + 1) (fun s1 => ∃ q, lr29 = .next q ∧ s1 = ⟨38, [(4, some (.lp 0 0))], [(0, some (.box 42 [.pv (.int .i64 (({ fKind := 0, fN := 0 } : GOwner).fKind)), .pv (.int .i64 (({ fKind := 0, fN := 0 } : GOwner).fN))]))], 1, [], []⟩) ?_ ?_
          · refine rnd_loop (α := Int) (fun q => ⟨38, [(1, some (.pv (.vs 2 (List.map eGOwner a1)))), (4, some (.lp 0 0)), (5, some (.pv (.int .i64 x6))), (6, some (.pv (.int .i64 q)))], [(0, some (.box 42 [.pv (.int .i64 (({ fKind := 0, fN := 0 } : GOwner).fKind)), .pv (.int .i64 (({ fKind := 0, fN := 0 } : GOwner).fN))]))], 1, [], []⟩) (fun k q => ref04_Put_L1 a1 x6 k q = some lr29) 0 (imp_sub [0] rfl rfl (by decide) rfl rfl ⟨rfl, rfl, rfl, rfl, trivial⟩ ⟨rfl, trivial⟩ rfl nolent2) hF (fun q h => by cases h) ?_
            clear hF
            rintro k x18 hF ih
            refine rnd_succ ?_
            refine aw_seq ?_
            refine aw_seq ?_
            refine aw_region ?_
            refine reg_cons (guard_no rfl) (op_move rfl rfl rfl rfl) ?_
            refine reg_cons (guard_no rfl) (op_move rfl rfl rfl rfl) ?_
            refine reg_cons (guard_no rfl) (op_len_vs (n := a1.length) rfl rfl (List.length_map ..) Try_slc_43 rfl rfl) ?_
            refine reg_cons (guard_no rfl) (op_int (k := .i64) (m := x18) (n := (a1.length : Int)) rfl rfl rfl rfl rfl rfl) ?_
            refine reg_nil ?_
            refine post_imp (s' := ⟨38, [(1, some (.pv (.vs 2 (List.map eGOwner a1)))), (4, some (.lp 0 0)), (5, some (.pv (.int .i64 x6))), (6, some (.pv (.int .i64 x18))), (27, some (.pv (.bool (decide (x18 < (a1.length : Int))))))], [(0, some (.box 42 [.pv (.int .i64 (({ fKind := 0, fN := 0 } : GOwner).fKind)), .pv (.int .i64 (({ fKind := 0, fN := 0 } : GOwner).fN))]))], 1, [], []⟩) (imp_sub [0] rfl rfl (by decide) rfl rfl ⟨rfl, rfl, rfl, rfl, rfl, trivial⟩ ⟨rfl, trivial⟩ rfl nolent2) ?_
            refine post_next ?_
            rcases ite_some hF with ⟨hb24, hF⟩ | ⟨hb24, hF⟩
            · refine aw_cond_t rfl hb24 ?_
              refine aw_skip ?_
              refine post_next ?_
              refine aw_seq ?_
              refine aw_block ?_
              refine aw_seq ?_
              refine aw_region ?_
              refine reg_cons (guard_no rfl) (op_move rfl rfl rfl rfl) ?_
              refine reg_cons (guard_no rfl) (op_move rfl rfl rfl rfl) ?_
              refine reg_cons (guard_no rfl) (op_int (k := .i64) (m := x18) (n := x6) rfl rfl rfl rfl rfl rfl) ?_
              refine reg_nil ?_
              refine post_imp (s' := ⟨38, [(1, some (.pv (.vs 2 (List.map eGOwner a1)))), (4, some (.lp 0 0)), (5, some (.pv (.int .i64 x6))), (6, some (.pv (.int .i64 x18))), (32, some (.pv (.bool (x18 == x6))))], [(0, some (.box 42 [.pv (.int .i64 (({ fKind := 0, fN := 0 } : GOwner).fKind)), .pv (.int .i64 (({ fKind := 0, fN := 0 } : GOwner).fN))]))], 1, [], []⟩) (imp_sub [0] rfl rfl (by decide) rfl rfl ⟨rfl, rfl, rfl, rfl, rfl, trivial⟩ ⟨rfl, trivial⟩ rfl nolent2) ?_
              refine post_next ?_
              rcases ite_some hF with ⟨hb25, hF⟩ | ⟨hb25, hF⟩
              · refine aw_cond_t rfl hb25 ?_
                refine aw_seq ?_
                refine aw_region ?_
                refine reg_cons (guard_no rfl) (op_move rfl rfl rfl rfl) ?_
                refine reg_cons (guard_no rfl) (op_move rfl rfl rfl rfl) ?_
                obtain ⟨y26, h27, hF⟩ := bind_some hF
                refine reg_cons (guard_no rfl) (op_index_vs (k := .i64) rfl rfl rfl (idx_map eGOwner h27) Try_slc_43 rfl rfl) ?_
                refine reg_cons (guard_no rfl) (op_load_vp_agg (ps := eGOwner y26) rfl rfl rfl rfl Try_agg_42 rfl rfl) ?_
                refine reg_cons (guard_no rfl) (op_store_lp (n := 2) rfl rfl rfl rfl rfl (or_agg Try_agg_42) (by rw [Try_non_42]; rfl) rfl rfl) ?_
                refine reg_nil ?_
                refine post_imp (s' := ⟨38, [(4, some (.lp 0 0))], [(0, some (.box 42 [.pv (.int .i64 y26.fKind), .pv (.int .i64 y26.fN)]))], 1, [], []⟩) (imp_sub [0] rfl rfl (by decide) rfl rfl ⟨rfl, trivial⟩ ⟨rfl, trivial⟩ rfl nolent2) ?_
                refine post_next ?_
                refine aw_ret ?_
                refine post_block_ret ?_
                refine post_then_ret ?_
                refine post_then_ret ?_
                refine post_lp_ret ?_
                obtain rfl := Option.some.inj hF
                have hF := elim_stop hK30
                refine post_then_ret ?_
                obtain rfl := Option.some.inj hF
                exact post_ret rfl rfl rfl (.cons _ _ _ _ _ (.agg _ _ _ _ _ 2 _ _ rfl rfl Try_agg_42 rfl rfl rfl) (.p _) .nil) (.inl rfl)
              · refine aw_cond_f rfl hb25 ?_
                refine aw_skip ?_
                refine post_block_normal ?_
                refine post_next ?_
                refine aw_region ?_
                refine reg_cons (guard_no rfl) (op_move rfl rfl rfl rfl) ?_
                refine reg_cons (guard_no rfl) (op_int (k := .i64) (m := x18) (n := 1) rfl rfl rfl rfl rfl rfl) ?_
                refine reg_cons (guard_no rfl) (op_assign rfl rfl rfl rfl) ?_
                refine reg_nil ?_
                refine post_round ?_
                exact rnd_back (ih (w_i64 (x18 + 1)) hF) (imp_sub [0] rfl rfl (by decide) rfl rfl ⟨rfl, rfl, rfl, rfl, trivial⟩ ⟨rfl, trivial⟩ rfl nolent2)
            · refine aw_cond_f rfl hb24 ?_
              refine aw_exit ?_
              refine post_then_exit ?_
              refine post_then_exit ?_
              obtain rfl := Option.some.inj hF
              exact post_lp_break _ ⟨_, rfl, rfl⟩ (imp_sub [0] rfl rfl (by decide) rfl rfl ⟨rfl, trivial⟩ ⟨rfl, trivial⟩ rfl nolent2)
          · rintro _ ⟨⟨⟩, rfl, rfl⟩
            have hF := elim_next hK30
            clear hK30
            refine post_next ?_
            refine aw_seq ?_
            refine aw_region ?_
            refine reg_cons (guard_no rfl) (op_build (zs := [.int .i64 (({ fKind := 0, fN := 0 } : GOwner).fKind), .int .i64 (({ fKind := 0, fN := 0 } : GOwner).fN)]) (r := eGOwner ({ fKind := 8, fN := 0 } : GOwner)) rfl Try_zer_42 (by exact ⟨rfl, rfl, trivial⟩) Try_plc_42 rfl rfl rfl rfl) ?_
            refine reg_cons (guard_no rfl) (op_store_lp (n := 2) rfl rfl rfl rfl rfl (or_agg Try_agg_42) (by rw [Try_non_42]; rfl) rfl rfl) ?_
            refine reg_nil ?_
            refine post_imp (s' := ⟨38, [(4, some (.lp 0 0))], [(0, some (.box 42 [.pv (.int .i64 (({ fKind := 8, fN := 0 } : GOwner).fKind)), .pv (.int .i64 (({ fKind := 8, fN := 0 } : GOwner).fN))]))], 1, [], []⟩) (imp_sub [0] rfl rfl (by decide) rfl rfl ⟨rfl, trivial⟩ ⟨rfl, trivial⟩ rfl nolent2) ?_
            refine post_next ?_
            refine aw_ret ?_
            obtain rfl := Option.some.inj hF
            exact post_ret rfl rfl rfl (.cons _ _ _ _ _ (.agg _ _ _ _ _ 2 _ _ rfl rfl Try_agg_42 rfl rfl rfl) (.p _) .nil) (.inl rfl)
theorem ref04_All_ok {a0 : List GOwner} {a1 : List GOwner} {r : (List GOwner)} (hF : ref04_All a0 a1 = some r) : Abs.Fn Try.prog 30 [.vs 2 (List.map eGOwner a0), .vs 2 (List.map eGOwner a1)] [.own 42 2 (List.map eGOwner r)] := by
  unfold ref04_All at hF
  refine fn_of_body (n := 23) Try.func30 rfl rfl rfl ?_
  intro w O
  refine aw_seq ?_
  refine aw_region ?_
  refine reg_cons (guard_no rfl) (op_assign rfl rfl rfl rfl) ?_
  refine reg_nil ?_
  refine post_imp (s' := ⟨23, [(0, some (.pv (.vs 2 (List.map eGOwner a0)))), (1, some (.pv (.vs 2 (List.map eGOwner a1))))], [], 0, [], []⟩) (imp_sub [] rfl rfl (by decide) rfl rfl ⟨rfl, rfl, trivial⟩ trivial rfl nolent2) ?_
  refine post_next ?_
  refine aw_seq ?_
  refine aw_region ?_
  refine reg_cons (guard_no rfl) (op_assign rfl rfl rfl rfl) ?_
  refine reg_imp (imp_nil_own 5 42 2 0 rfl rfl) ?_
  refine reg_nil ?_
  refine post_imp (s' := ⟨23, [(0, some (.pv (.vs 2 (List.map eGOwner a0)))), (1, some (.pv (.vs 2 (List.map eGOwner a1)))), (5, some (.ls 0))], [(0, some (.row 42 2 (List.map eGOwner [])))], 1, [], []⟩) (imp_sub [0] rfl rfl (by decide) rfl rfl ⟨rfl, rfl, rfl, trivial⟩ ⟨rfl, trivial⟩ rfl nolent2) ?_
  refine post_next ?_
  refine aw_seq ?_
  refine aw_seq ?_
  refine aw_region ?_
  refine reg_cons (guard_no rfl) (op_assign rfl rfl rfl rfl) ?_
  refine reg_nil ?_
  refine post_imp (s' := ⟨23, [(0, some (.pv (.vs 2 (List.map eGOwner a0)))), (1, some (.pv (.vs 2 (List.map eGOwner a1)))), (5, some (.ls 0)), (6, some (.pv (.int .i64 0)))], [(0, some (.row 42 2 (List.map eGOwner [])))], 1, [], []⟩) (imp_sub [0] rfl rfl (by decide) rfl rfl ⟨rfl, rfl, rfl, rfl, trivial⟩ ⟨rfl, trivial⟩ rfl nolent2) ?_
  refine post_next ?_
  obtain ⟨x46, hF, hK47⟩ := bind_some hF
  refine aw_for ((((a0.length : Int)) - (0)).toNat + 1) (fun s1 => s1 = ⟨23, [(5, some (.ls 0))], [(0, some (.row 42 2 (List.map eGOwner x46)))], 1, [], []⟩) ?_ ?_
  · refine rnd_loop (α := (List GOwner) × Int) (fun q => ⟨23, [(0, some (.pv (.vs 2 (List.map eGOwner a0)))), (1, some (.pv (.vs 2 (List.map eGOwner a1)))), (5, some (.ls 0)), (6, some (.pv (.int .i64 q.2)))], [(0, some (.row 42 2 (List.map eGOwner q.1)))], 1, [], []⟩) (fun k q => ref04_All_L1 a0 a1 k q.1 q.2 = some x46) ([], 0) (imp_sub [0] rfl rfl (by decide) rfl rfl ⟨rfl, rfl, rfl, rfl, trivial⟩ ⟨rfl, trivial⟩ rfl nolent2) hF (fun q h => by cases h) ?_
    clear hF
    rintro k ⟨x14, x15⟩ hF ih
    refine rnd_succ ?_
    refine aw_seq ?_
    refine aw_seq ?_
    refine aw_region ?_
    refine reg_cons (guard_no rfl) (op_move rfl rfl rfl rfl) ?_
    refine reg_cons (guard_no rfl) (op_move rfl rfl rfl rfl) ?_
    refine reg_cons (guard_no rfl) (op_len_vs (n := a0.length) rfl rfl (List.length_map ..) Try_slc_43 rfl rfl) ?_
    refine reg_cons (guard_no rfl) (op_int (k := .i64) (m := x15) (n := (a0.length : Int)) rfl rfl rfl rfl rfl rfl) ?_
    refine reg_nil ?_
    refine post_imp (s' := ⟨23, [(0, some (.pv (.vs 2 (List.map eGOwner a0)))), (1, some (.pv (.vs 2 (List.map eGOwner a1)))), (5, some (.ls 0)), (6, some (.pv (.int .i64 x15))), (10, some (.pv (.bool (decide (x15 < (a0.length : Int))))))], [(0, some (.row 42 2 (List.map eGOwner x14)))], 1, [], []⟩) (imp_sub [0] rfl rfl (by decide) rfl rfl ⟨rfl, rfl, rfl, rfl, rfl, trivial⟩ ⟨rfl, trivial⟩ rfl nolent2) ?_
    refine post_next ?_
    rcases ite_some hF with ⟨hb31, hF⟩ | ⟨hb31, hF⟩
    · refine aw_cond_t rfl hb31 ?_
      refine aw_skip ?_
      refine post_next ?_
      refine aw_seq ?_
      refine aw_block ?_
      refine aw_region ?_
      refine reg_cons (guard_no rfl) (op_move rfl rfl rfl rfl) ?_
      refine reg_cons (guard_no rfl) (op_move rfl rfl rfl rfl) ?_
      refine reg_cons (guard_no rfl) (op_move rfl rfl rfl rfl) ?_
      obtain ⟨y38, h39, hF⟩ := bind_some hF
      refine reg_cons (guard_no rfl) (op_index_vs (k := .i64) rfl rfl rfl (idx_map eGOwner h39) Try_slc_43 rfl rfl) ?_
      refine reg_cons (guard_no rfl) (op_load_vp_agg (ps := eGOwner y38) rfl rfl rfl rfl Try_agg_42 rfl rfl) ?_
      refine reg_cons (guard_no rfl) (op_move rfl rfl rfl rfl) ?_
      obtain ⟨y40, h41, hF⟩ := bind_some hF
      refine reg_cons (guard_no rfl) (op_call 1 rfl (caps := []) (args := [.agg (eGOwner y38), .vs 2 (List.map eGOwner a1)]) rfl rfl rfl Try_cal_27 (ref04_Put_ok h41) rfl rfl rfl) ?_
      refine reg_cons (guard_no rfl) (op_lit (rows := List.map eGOwner ([y40] : List GOwner)) (zs := [.int .i64 (({ fKind := 0, fN := 0 } : GOwner).fKind), .int .i64 (({ fKind := 0, fN := 0 } : GOwner).fN)]) rfl rfl Try_slc_43 Try_zer_42 (by exact ⟨rfl, rfl, trivial⟩) rfl rfl rfl rfl rfl rfl rfl rfl) ?_
      obtain ⟨u42, h43, hF⟩ := bind_some hF
      refine reg_cons (guard_no rfl) (op_append 1 rfl rfl rfl rfl rfl nolent3 Try_slc_43 Try_elm_42 Try_zer_42 rfl rfl rfl (room_map (f := eGOwner) (g := eGOwner) h43) (List.map_append (f := eGOwner) (l₁ := x14) (l₂ := [y40])).symm rfl rfl) ?_
      refine reg_cons (guard_no rfl) (op_assign rfl rfl rfl rfl) ?_
      refine reg_nil ?_
      refine post_imp (s' := ⟨23, [(0, some (.pv (.vs 2 (List.map eGOwner a0)))), (1, some (.pv (.vs 2 (List.map eGOwner a1)))), (5, some (.ls 0)), (6, some (.pv (.int .i64 x15)))], [(0, some (.row 42 2 (List.map eGOwner (x14 ++ [y40]))))], 1, [], []⟩) (imp_sub [1] rfl rfl (by decide) rfl rfl ⟨rfl, rfl, rfl, rfl, trivial⟩ ⟨rfl, trivial⟩ rfl nolent2) ?_
      refine post_block_normal ?_
      refine post_next ?_
      refine aw_region ?_
      refine reg_cons (guard_no rfl) (op_move rfl rfl rfl rfl) ?_
      refine reg_cons (guard_no rfl) (op_int (k := .i64) (m := x15) (n := 1) rfl rfl rfl rfl rfl rfl) ?_
      refine reg_cons (guard_no rfl) (op_assign rfl rfl rfl rfl) ?_
      refine reg_nil ?_
      refine post_round ?_
      exact rnd_back (ih ((x14 ++ [y40]), w_i64 (x15 + 1)) hF) (imp_sub [0] rfl rfl (by decide) rfl rfl ⟨rfl, rfl, rfl, rfl, trivial⟩ ⟨rfl, trivial⟩ rfl nolent2)
    · refine aw_cond_f rfl hb31 ?_
      refine aw_exit ?_
      refine post_then_exit ?_
      refine post_then_exit ?_
      obtain rfl := Option.some.inj hF
      exact post_lp_break _ rfl (imp_sub [0] rfl rfl (by decide) rfl rfl ⟨rfl, trivial⟩ ⟨rfl, trivial⟩ rfl nolent2)
  · rintro _ rfl
    have hF := hK47
    clear hK47
    refine post_next ?_
    refine aw_seq ?_
    refine aw_region ?_
    refine reg_cons (guard_no rfl) (op_move rfl rfl rfl rfl) ?_
    refine reg_cons (guard_no rfl) (op_assign rfl rfl rfl rfl) ?_
    refine reg_nil ?_
    refine post_imp (s' := ⟨23, [(4, some (.ls 0))], [(0, some (.row 42 2 (List.map eGOwner x46)))], 1, [], []⟩) (imp_sub [0] rfl rfl (by decide) rfl rfl ⟨rfl, trivial⟩ ⟨rfl, trivial⟩ rfl nolent2) ?_
    refine post_next ?_
    refine aw_ret ?_
    obtain rfl := Option.some.inj hF
    exact post_ret rfl rfl rfl (.cons _ _ _ _ _ (.tmp _ _ rfl) (.own _ _ _ _ rfl nolent3) .nil) (.inl rfl)
theorem law04_same_ok {a0 : List GOwner} {a1 : List GOwner} {r : Bool} (hF : law04_same a0 a1 = some r) : Abs.Fn Try.prog 28 [.vs 2 (List.map eGOwner a0), .vs 2 (List.map eGOwner a1)] [.p (.bool r)] := by
  unfold law04_same at hF
  refine fn_of_body (n := 26) Try.func28 rfl rfl rfl ?_
  intro w O
  refine aw_seq ?_
  refine aw_region ?_
  refine reg_cons (guard_no rfl) (op_assign rfl rfl rfl rfl) ?_
  refine reg_nil ?_
  refine post_imp (s' := ⟨26, [(0, some (.pv (.vs 2 (List.map eGOwner a0)))), (1, some (.pv (.vs 2 (List.map eGOwner a1))))], [], 0, [], []⟩) (imp_sub [] rfl rfl (by decide) rfl rfl ⟨rfl, rfl, trivial⟩ trivial rfl nolent2) ?_
  refine post_next ?_
  refine aw_seq ?_
  refine aw_seq ?_
  refine aw_region ?_
  refine reg_cons (guard_no rfl) (op_move rfl rfl rfl rfl) ?_
  refine reg_cons (guard_no rfl) (op_len_vs (n := a0.length) rfl rfl (List.length_map ..) Try_slc_43 rfl rfl) ?_
  refine reg_cons (guard_no rfl) (op_move rfl rfl rfl rfl) ?_
  refine reg_cons (guard_no rfl) (op_len_vs (n := a1.length) rfl rfl (List.length_map ..) Try_slc_43 rfl rfl) ?_
  refine reg_cons (guard_no rfl) (op_int (k := .i64) (m := (a0.length : Int)) (n := (a1.length : Int)) rfl rfl rfl rfl rfl rfl) ?_
  refine reg_nil ?_
  refine post_imp (s' := ⟨26, [(0, some (.pv (.vs 2 (List.map eGOwner a0)))), (1, some (.pv (.vs 2 (List.map eGOwner a1)))), (10, some (.pv (.bool ((a0.length : Int) != (a1.length : Int)))))], [], 0, [], []⟩) (imp_sub [] rfl rfl (by decide) rfl rfl ⟨rfl, rfl, rfl, trivial⟩ trivial rfl nolent2) ?_
  refine post_next ?_
  rcases ite_some hF with ⟨hb1, hF⟩ | ⟨hb1, hF⟩
  · refine aw_cond_t rfl hb1 ?_
    refine aw_seq ?_
    refine aw_region ?_
    refine reg_cons (guard_no rfl) (op_assign rfl rfl rfl rfl) ?_
    refine reg_nil ?_
    refine post_imp (s' := ⟨26, [(4, some (.pv (.bool false)))], [], 0, [], []⟩) (imp_sub [] rfl rfl (by decide) rfl rfl ⟨rfl, trivial⟩ trivial rfl nolent2) ?_
    refine post_next ?_
    refine aw_ret ?_
    refine post_then_ret ?_
    obtain rfl := Option.some.inj hF
    exact post_ret rfl rfl rfl (.cons _ _ _ _ _ (.tmp _ _ rfl) (.p _) .nil) (.inl rfl)
  · refine aw_cond_f rfl hb1 ?_
    refine aw_skip ?_
    refine post_next ?_
    refine aw_seq ?_
    refine aw_seq ?_
    refine aw_region ?_
    refine reg_cons (guard_no rfl) (op_assign rfl rfl rfl rfl) ?_
    refine reg_nil ?_
    refine post_imp (s' := ⟨26, [(0, some (.pv (.vs 2 (List.map eGOwner a0)))), (1, some (.pv (.vs 2 (List.map eGOwner a1)))), (5, some (.pv (.int .i64 0)))], [], 0, [], []⟩) (imp_sub [] rfl rfl (by decide) rfl rfl ⟨rfl, rfl, rfl, trivial⟩ trivial rfl nolent2) ?_
    refine post_next ?_
    obtain ⟨lr35, hF, hK36⟩ := bind_some hF
    refine aw_for ((((a0.length : Int)) - (0)).toNat + 1) (fun s1 => ∃ q, lr35 = .next q ∧ s1 = ⟨26, [], [], 0, [], []⟩) ?_ ?_
    · refine rnd_loop (α := Int) (fun q => ⟨26, [(0, some (.pv (.vs 2 (List.map eGOwner a0)))), (1, some (.pv (.vs 2 (List.map eGOwner a1)))), (5, some (.pv (.int .i64 q)))], [], 0, [], []⟩) (fun k q => law04_same_L1 a0 a1 k q = some lr35) 0 (imp_sub [] rfl rfl (by decide) rfl rfl ⟨rfl, rfl, rfl, trivial⟩ trivial rfl nolent2) hF (fun q h => by cases h) ?_
      clear hF
      rintro k x12 hF ih
      refine rnd_succ ?_
      refine aw_seq ?_
      refine aw_seq ?_
      refine aw_region ?_
      refine reg_cons (guard_no rfl) (op_move rfl rfl rfl rfl) ?_
      refine reg_cons (guard_no rfl) (op_move rfl rfl rfl rfl) ?_
      refine reg_cons (guard_no rfl) (op_len_vs (n := a0.length) rfl rfl (List.length_map ..) Try_slc_43 rfl rfl) ?_
      refine reg_cons (guard_no rfl) (op_int (k := .i64) (m := x12) (n := (a0.length : Int)) rfl rfl rfl rfl rfl rfl) ?_
      refine reg_nil ?_
      refine post_imp (s' := ⟨26, [(0, some (.pv (.vs 2 (List.map eGOwner a0)))), (1, some (.pv (.vs 2 (List.map eGOwner a1)))), (5, some (.pv (.int .i64 x12))), (14, some (.pv (.bool (decide (x12 < (a0.length : Int))))))], [], 0, [], []⟩) (imp_sub [] rfl rfl (by decide) rfl rfl ⟨rfl, rfl, rfl, rfl, trivial⟩ trivial rfl nolent2) ?_
      refine post_next ?_
      rcases ite_some hF with ⟨hb24, hF⟩ | ⟨hb24, hF⟩
      · refine aw_cond_t rfl hb24 ?_
        refine aw_skip ?_
        refine post_next ?_
        refine aw_seq ?_
        refine aw_block ?_
        refine aw_seq ?_
        obtain ⟨y29, h30, hF⟩ := bind_some hF
        obtain ⟨y31, h32, hF⟩ := bind_some hF
        refine aw_drawn ({ need := [(0, .pv (.vs 2 (List.map eGOwner a0)))], hneed := [], names := [], dst := some 17, val := some (.pv (.vs 2 (List.map eGOwner a0))), upd := [] } :: { need := [(5, .pv (.int .i64 x12))], hneed := [], names := [], dst := some 18, val := some (.pv (.int .i64 x12)), upd := [] } :: { need := [(17, .pv (.vs 2 (List.map eGOwner a0))), (18, .pv (.int .i64 x12))], hneed := [], names := [], dst := some 19, val := some (.pv (.vp (eGOwner y29))), upd := [] } :: { need := [(19, .pv (.vp (eGOwner y29)))], hneed := [], names := [], dst := some 20, val := some (.pv (.agg (eGOwner y29))), upd := [] } :: { need := [(1, .pv (.vs 2 (List.map eGOwner a1)))], hneed := [], names := [], dst := some 21, val := some (.pv (.vs 2 (List.map eGOwner a1))), upd := [] } :: { need := [(5, .pv (.int .i64 x12))], hneed := [], names := [], dst := some 22, val := some (.pv (.int .i64 x12)), upd := [] } :: { need := [(21, .pv (.vs 2 (List.map eGOwner a1))), (22, .pv (.int .i64 x12))], hneed := [], names := [], dst := some 23, val := some (.pv (.vp (eGOwner y31))), upd := [] } :: { need := [(23, .pv (.vp (eGOwner y31)))], hneed := [], names := [], dst := some 24, val := some (.pv (.agg (eGOwner y31))), upd := [] } :: { need := [(20, .pv (.agg (eGOwner y29))), (24, .pv (.agg (eGOwner y31)))], hneed := [], names := [], dst := some 25, val := some (.pv (.bool (!(bGOwner y29 y31)))), upd := [] } :: []) ⟨_, _, _⟩ Try_mixed rfl ⟨fun m h => step_on (guard_no rfl) (op_move rfl h.1.1 rfl rfl) rfl, fun m h => step_on (guard_no rfl) (op_move rfl h.1.1 rfl rfl) rfl, fun m h => step_on (guard_no rfl) (op_index_vs (k := .i64) rfl h.1.1 h.1.2.1 (idx_map eGOwner h30) Try_slc_43 rfl rfl) rfl, fun m h => step_on (guard_no rfl) (op_load_vp_agg (ps := eGOwner y29) rfl h.1.1 rfl rfl Try_agg_42 rfl rfl) rfl, fun m h => step_on (guard_no rfl) (op_move rfl h.1.1 rfl rfl) rfl, fun m h => step_on (guard_no rfl) (op_move rfl h.1.1 rfl rfl) rfl, fun m h => step_on (guard_no rfl) (op_index_vs (k := .i64) rfl h.1.1 h.1.2.1 (idx_map eGOwner h32) Try_slc_43 rfl rfl) rfl, fun m h => step_on (guard_no rfl) (op_load_vp_agg (ps := eGOwner y31) rfl h.1.1 rfl rfl Try_agg_42 rfl rfl) rfl, fun m h => step_on (guard_no rfl) (op_eqAgg_neq (r := bGOwner y29 y31) rfl h.1.1 h.1.2.1 Try_eqt_42 rfl rfl rfl rfl rfl) rfl, trivial⟩ ⟨⟨⟨rfl, trivial⟩, trivial, trivial⟩, ⟨⟨rfl, trivial⟩, trivial, trivial⟩, ⟨⟨rfl, rfl, trivial⟩, trivial, trivial⟩, ⟨⟨rfl, trivial⟩, trivial, trivial⟩, ⟨⟨rfl, trivial⟩, trivial, trivial⟩, ⟨⟨rfl, trivial⟩, trivial, trivial⟩, ⟨⟨rfl, rfl, trivial⟩, trivial, trivial⟩, ⟨⟨rfl, trivial⟩, trivial, trivial⟩, ⟨⟨rfl, rfl, trivial⟩, trivial, trivial⟩, trivial⟩ (by kernel_rfl) ?_
        refine post_imp (s' := ⟨26, [(0, some (.pv (.vs 2 (List.map eGOwner a0)))), (1, some (.pv (.vs 2 (List.map eGOwner a1)))), (5, some (.pv (.int .i64 x12))), (25, some (.pv (.bool (!(bGOwner y29 y31)))))], [], 0, [], []⟩) (imp_sub [] rfl rfl (by decide) rfl rfl ⟨rfl, rfl, rfl, rfl, trivial⟩ trivial rfl nolent2) ?_
        refine post_next ?_
        rcases ite_some hF with ⟨hb33, hF⟩ | ⟨hb33, hF⟩
        · refine aw_cond_t rfl hb33 ?_
          refine aw_seq ?_
          refine aw_region ?_
          refine reg_cons (guard_no rfl) (op_assign rfl rfl rfl rfl) ?_
          refine reg_nil ?_
          refine post_imp (s' := ⟨26, [(4, some (.pv (.bool false)))], [], 0, [], []⟩) (imp_sub [] rfl rfl (by decide) rfl rfl ⟨rfl, trivial⟩ trivial rfl nolent2) ?_
          refine post_next ?_
          refine aw_ret ?_
          refine post_block_ret ?_
          refine post_then_ret ?_
          refine post_then_ret ?_
          refine post_lp_ret ?_
          obtain rfl := Option.some.inj hF
          have hF := elim_stop hK36
          refine post_then_ret ?_
          obtain rfl := Option.some.inj hF
          exact post_ret rfl rfl rfl (.cons _ _ _ _ _ (.tmp _ _ rfl) (.p _) .nil) (.inl rfl)
        · refine aw_cond_f rfl hb33 ?_
          refine aw_skip ?_
          refine post_block_normal ?_
          refine post_next ?_
          refine aw_region ?_
          refine reg_cons (guard_no rfl) (op_move rfl rfl rfl rfl) ?_
          refine reg_cons (guard_no rfl) (op_int (k := .i64) (m := x12) (n := 1) rfl rfl rfl rfl rfl rfl) ?_
          refine reg_cons (guard_no rfl) (op_assign rfl rfl rfl rfl) ?_
          refine reg_nil ?_
          refine post_round ?_
          exact rnd_back (ih (w_i64 (x12 + 1)) hF) (imp_sub [] rfl rfl (by decide) rfl rfl ⟨rfl, rfl, rfl, trivial⟩ trivial rfl nolent2)
      · refine aw_cond_f rfl hb24 ?_
        refine aw_exit ?_
        refine post_then_exit ?_
        refine post_then_exit ?_
        obtain rfl := Option.some.inj hF
        exact post_lp_break _ ⟨_, rfl, rfl⟩ (imp_sub [] rfl rfl (by decide) rfl rfl trivial trivial rfl nolent2)
    · rintro _ ⟨⟨⟩, rfl, rfl⟩
      have hF := elim_next hK36
      clear hK36
      refine post_next ?_
      refine aw_seq ?_
      refine aw_region ?_
      refine reg_cons (guard_no rfl) (op_assign rfl rfl rfl rfl) ?_
      refine reg_nil ?_
      refine post_imp (s' := ⟨26, [(4, some (.pv (.bool true)))], [], 0, [], []⟩) (imp_sub [] rfl rfl (by decide) rfl rfl ⟨rfl, trivial⟩ trivial rfl nolent2) ?_
      refine post_next ?_
      refine aw_ret ?_
      obtain rfl := Option.some.inj hF
      exact post_ret rfl rfl rfl (.cons _ _ _ _ _ (.tmp _ _ rfl) (.p _) .nil) (.inl rfl)
theorem law04_OwnerPut_ok {a0 : GOwner} {a1 : List GOwner} {a2 : List GOwner} {r : Bool} (hF : law04_OwnerPut a0 a1 a2 = some r) : Abs.Fn Try.prog 4 [.agg (eGOwner a0), .vs 2 (List.map eGOwner a1), .vs 2 (List.map eGOwner a2)] [.p (.bool r)] := by
  unfold law04_OwnerPut at hF
  refine fn_of_body (n := 35) Try.func4 rfl rfl rfl ?_
  intro w O
  refine aw_seq ?_
  refine aw_region ?_
  refine reg_cons (guard_no rfl) (op_box 0 rfl rfl rfl rfl rfl rfl) ?_
  refine reg_cons (guard_no rfl) (op_assign rfl rfl rfl rfl) ?_
  refine reg_nil ?_
  refine post_imp (s' := ⟨35, [(1, some (.pv (.vs 2 (List.map eGOwner a1)))), (2, some (.pv (.vs 2 (List.map eGOwner a2)))), (3, some (.lp 0 0))], [(0, some (.box 42 [.pv (.int .i64 a0.fKind), .pv (.int .i64 a0.fN)]))], 1, [], []⟩) (imp_sub [0] rfl rfl (by decide) rfl rfl ⟨rfl, rfl, rfl, trivial⟩ ⟨rfl, trivial⟩ rfl nolent2) ?_
  refine post_next ?_
  refine aw_seq ?_
  refine aw_seq ?_
  obtain ⟨x2, hF, hK4⟩ := bind_some hF
  refine aw_cut (fun s1 => s1 = ⟨35, [(1, some (.pv (.vs 2 (List.map eGOwner a1)))), (2, some (.pv (.vs 2 (List.map eGOwner a2)))), (3, some (.lp 0 0)), (14, some (.pv (.bool x2)))], [(0, some (.box 42 [.pv (.int .i64 a0.fKind), .pv (.int .i64 a0.fN)]))], 1, [], []⟩) ?_ ?_
  · refine aw_region ?_
    refine reg_cons (guard_no rfl) (op_move rfl rfl rfl rfl) ?_
    refine reg_cons (guard_no rfl) (op_len_vs (n := a1.length) rfl rfl (List.length_map ..) Try_slc_43 rfl rfl) ?_
    refine reg_cons (guard_no rfl) (op_int (k := .i64) (m := (a1.length : Int)) (n := 20) rfl rfl rfl rfl rfl rfl) ?_
    refine reg_cons (guard_no rfl) (op_move rfl rfl rfl rfl) ?_
    rcases ite_some hF with ⟨hb1, hF⟩ | ⟨hb1, hF⟩
    · refine reg_off (guard_off rfl rfl rfl rfl hb1) rfl ?_
      refine reg_off (guard_off rfl rfl rfl rfl hb1) rfl ?_
      refine reg_off (guard_off rfl rfl rfl rfl hb1) rfl ?_
      refine reg_cons (guard_no rfl) (op_pick_t rfl rfl hb1 rfl rfl rfl) ?_
      refine reg_nil ?_
      cases hF
      exact post_cut _ rfl (imp_sub [0] rfl rfl (by decide) rfl rfl ⟨rfl, rfl, rfl, rfl, trivial⟩ ⟨rfl, trivial⟩ rfl nolent2)
    · refine reg_cons (guard_on rfl rfl rfl rfl hb1) (op_move rfl rfl rfl rfl) ?_
      refine reg_cons (guard_on rfl rfl rfl rfl hb1) (op_len_vs (n := a2.length) rfl rfl (List.length_map ..) Try_slc_43 rfl rfl) ?_
      refine reg_cons (guard_on rfl rfl rfl rfl hb1) (op_int (k := .i64) (m := (a2.length : Int)) (n := 20) rfl rfl rfl rfl rfl rfl) ?_
      refine reg_cons (guard_no rfl) (op_pick_f rfl rfl hb1 rfl rfl rfl) ?_
      refine reg_nil ?_
      cases hF
      exact post_cut _ rfl (imp_sub [0] rfl rfl (by decide) rfl rfl ⟨rfl, rfl, rfl, rfl, trivial⟩ ⟨rfl, trivial⟩ rfl nolent2)
  · rintro _ rfl
    have hF := hK4
    clear hK4
    refine post_next ?_
    rcases ite_some hF with ⟨hb5, hF⟩ | ⟨hb5, hF⟩
    · refine aw_cond_t rfl hb5 ?_
      refine aw_seq ?_
      refine aw_region ?_
      obtain ⟨y6, h7, hF⟩ := bind_some hF
      refine reg_cons (guard_no rfl) (op_call 1 rfl (caps := []) (args := []) rfl rfl rfl Try_cal_25 (law04_awake_ok h7) rfl rfl rfl) ?_
      refine reg_cons (guard_no rfl) (op_assign rfl rfl rfl rfl) ?_
      refine reg_nil ?_
      refine post_imp (s' := ⟨35, [(6, some (.pv (.bool y6)))], [], 0, [], []⟩) (imp_sub [] rfl rfl (by decide) rfl rfl ⟨rfl, trivial⟩ trivial rfl nolent2) ?_
      refine post_next ?_
      refine aw_ret ?_
      refine post_then_ret ?_
      obtain rfl := Option.some.inj hF
      exact post_ret rfl rfl rfl (.cons _ _ _ _ _ (.tmp _ _ rfl) (.p _) .nil) (.inl rfl)
    · refine aw_cond_f rfl hb5 ?_
      refine aw_skip ?_
      refine post_next ?_
      refine aw_seq ?_
      obtain ⟨y8, h9, hF⟩ := bind_some hF
      obtain ⟨y10, h11, hF⟩ := bind_some hF
      rcases ite_some hF with ⟨hb12, hF⟩ | ⟨hb12, hF⟩
      · obtain ⟨y13, h14, hF⟩ := bind_some hF
        obtain ⟨y15, h16, hF⟩ := bind_some hF
        obtain ⟨y17, h18, hF⟩ := bind_some hF
        rcases ite_some hF with ⟨hb19, hF⟩ | ⟨hb19, hF⟩
        · obtain ⟨y20, h21, hF⟩ := bind_some hF
          refine aw_imp (imp_names 2) ?_
          refine aw_drawn ({ need := [(3, .lp 0 0)], hneed := [(0, .box 42 [.pv (.int .i64 a0.fKind), .pv (.int .i64 a0.fN)])], names := [], dst := some 16, val := some (.pv (.agg (eGOwner a0))), upd := [] } :: { need := [(1, .pv (.vs 2 (List.map eGOwner a1)))], hneed := [], names := [], dst := some 17, val := some (.pv (.vs 2 (List.map eGOwner a1))), upd := [] } :: { need := [(17, .pv (.vs 2 (List.map eGOwner a1))), (16, .pv (.agg (eGOwner a0)))], hneed := [], names := [], dst := some 18, val := some (.pv (.agg (eGOwner y8))), upd := [] } :: { need := [(3, .lp 0 0)], hneed := [(0, .box 42 [.pv (.int .i64 a0.fKind), .pv (.int .i64 a0.fN)])], names := [], dst := some 19, val := some (.pv (.agg (eGOwner a0))), upd := [] } :: { need := [(1, .pv (.vs 2 (List.map eGOwner a1)))], hneed := [], names := [], dst := some 20, val := some (.pv (.vs 2 (List.map eGOwner a1))), upd := [] } :: { need := [(20, .pv (.vs 2 (List.map eGOwner a1))), (19, .pv (.agg (eGOwner a0)))], hneed := [], names := [], dst := some 21, val := some (.pv (.agg (eGOwner y10))), upd := [] } :: { need := [(18, .pv (.agg (eGOwner y8))), (21, .pv (.agg (eGOwner y10)))], hneed := [], names := [], dst := some 22, val := some (.pv (.bool (bGOwner y8 y10))), upd := [] } :: { need := [(22, .pv (.bool (bGOwner y8 y10)))], hneed := [], names := [], dst := some 23, val := some (.pv (.bool (bGOwner y8 y10))), upd := [] } :: { need := [(23, .pv (.bool (bGOwner y8 y10))), (1, .pv (.vs 2 (List.map eGOwner a1)))], hneed := [], names := [], dst := some 24, val := some (.pv (.vs 2 (List.map eGOwner a1))), upd := [] } :: { need := [(23, .pv (.bool (bGOwner y8 y10))), (2, .pv (.vs 2 (List.map eGOwner a2)))], hneed := [], names := [], dst := some 25, val := some (.pv (.vs 2 (List.map eGOwner a2))), upd := [] } :: { need := [(23, .pv (.bool (bGOwner y8 y10))), (25, .pv (.vs 2 (List.map eGOwner a2))), (24, .pv (.vs 2 (List.map eGOwner a1)))], hneed := [], names := [1], dst := some 26, val := some (.ls 1), upd := [(1, some (.row 42 2 (List.map eGOwner y13)))] } :: { need := [(23, .pv (.bool (bGOwner y8 y10))), (1, .pv (.vs 2 (List.map eGOwner a1)))], hneed := [], names := [], dst := some 27, val := some (.pv (.vs 2 (List.map eGOwner a1))), upd := [] } :: { need := [(23, .pv (.bool (bGOwner y8 y10))), (2, .pv (.vs 2 (List.map eGOwner a2)))], hneed := [], names := [], dst := some 28, val := some (.pv (.vs 2 (List.map eGOwner a2))), upd := [] } :: { need := [(23, .pv (.bool (bGOwner y8 y10))), (28, .pv (.vs 2 (List.map eGOwner a2))), (27, .pv (.vs 2 (List.map eGOwner a1)))], hneed := [], names := [2], dst := some 29, val := some (.ls 2), upd := [(2, some (.row 42 2 (List.map eGOwner y15)))] } :: { need := [(23, .pv (.bool (bGOwner y8 y10))), (29, .ls 2), (26, .ls 1)], hneed := [(1, .row 42 2 (List.map eGOwner y13)), (2, .row 42 2 (List.map eGOwner y15))], names := [], dst := some 30, val := some (.pv (.bool y17)), upd := [] } :: { need := [(23, .pv (.bool (bGOwner y8 y10))), (30, .pv (.bool y17))], hneed := [], names := [], dst := some 31, val := some (.pv (.bool y17)), upd := [] } :: { need := [(31, .pv (.bool y17))], hneed := [], names := [], dst := some 32, val := some (.pv (.bool y17)), upd := [] } :: { need := [(32, .pv (.bool y17))], hneed := [], names := [], dst := some 33, val := some (.pv (.bool y20)), upd := [] } :: { need := [(32, .pv (.bool y17)), (33, .pv (.bool y20))], hneed := [], names := [], dst := some 34, val := some (.pv (.bool y20)), upd := [] } :: { need := [(34, .pv (.bool y20))], hneed := [], names := [], dst := some 6, val := some (.pv (.bool y20)), upd := [] } :: []) ⟨_, _, _⟩ Try_mixed rfl ⟨fun m h => step_on (guard_no rfl) (op_load_lp_agg (ps := eGOwner a0) rfl h.1.1 h.2.1.1 rfl rfl rfl Try_agg_42 rfl rfl) rfl, fun m h => step_on (guard_no rfl) (op_move rfl h.1.1 rfl rfl) rfl, fun m h => step_on (guard_no rfl) (op_call 3 rfl (caps := []) (args := [.agg (eGOwner a0), .vs 2 (List.map eGOwner a1)]) rfl rfl (evl_cons h.1.2.1 (evl_cons h.1.1 evl_nil)) Try_cal_26 (owner_Put_ok h9) rfl rfl rfl) rfl, fun m h => step_on (guard_no rfl) (op_load_lp_agg (ps := eGOwner a0) rfl h.1.1 h.2.1.1 rfl rfl rfl Try_agg_42 rfl rfl) rfl, fun m h => step_on (guard_no rfl) (op_move rfl h.1.1 rfl rfl) rfl, fun m h => step_on (guard_no rfl) (op_call 3 rfl (caps := []) (args := [.agg (eGOwner a0), .vs 2 (List.map eGOwner a1)]) rfl rfl (evl_cons h.1.2.1 (evl_cons h.1.1 evl_nil)) Try_cal_27 (ref04_Put_ok h11) rfl rfl rfl) rfl, fun m h => step_on (guard_no rfl) (op_eqAgg_eql (r := bGOwner y8 y10) rfl h.1.1 h.1.2.1 Try_eqt_42 rfl rfl rfl rfl rfl) rfl, fun m h => step_on (guard_no rfl) (op_move rfl h.1.1 rfl rfl) rfl, fun m h => step_on (guard_on rfl rfl rfl h.1.1 hb12) (op_move rfl h.1.2.1 rfl rfl) rfl, fun m h => step_on (guard_on rfl rfl rfl h.1.1 hb12) (op_move rfl h.1.2.1 rfl rfl) rfl, fun m h => step_on (guard_on rfl rfl rfl h.1.1 hb12) (op_call 1 (fresh_free h.2.2.1) (caps := []) (args := [.vs 2 (List.map eGOwner a1), .vs 2 (List.map eGOwner a2)]) rfl rfl (evl_cons h.1.2.2.1 (evl_cons h.1.2.1 evl_nil)) Try_cal_29 (owner_All_ok h14) rfl rfl rfl) rfl, fun m h => step_on (guard_on rfl rfl rfl h.1.1 hb12) (op_move rfl h.1.2.1 rfl rfl) rfl, fun m h => step_on (guard_on rfl rfl rfl h.1.1 hb12) (op_move rfl h.1.2.1 rfl rfl) rfl, fun m h => step_on (guard_on rfl rfl rfl h.1.1 hb12) (op_call 2 (fresh_free h.2.2.1) (caps := []) (args := [.vs 2 (List.map eGOwner a1), .vs 2 (List.map eGOwner a2)]) rfl rfl (evl_cons h.1.2.2.1 (evl_cons h.1.2.1 evl_nil)) Try_cal_30 (ref04_All_ok h16) rfl rfl rfl) rfl, fun m h => step_on (guard_on rfl rfl rfl h.1.1 hb12) (op_callB 3 rfl (caps := []) (args := [.vs 2 (List.map eGOwner y13), .vs 2 (List.map eGOwner y15)]) [(1, some (.row 42 2 (List.map eGOwner y13))), (2, some (.row 42 2 (List.map eGOwner y15)))] rfl rfl (evl_cons h.1.2.2.1 (evl_cons h.1.2.1 evl_nil)) (FzH.spec ⟨h.2.1.1, h.2.1.2.1, trivial⟩) rfl rfl Try_cal_28 (law04_same_ok h18) rfl rfl rfl) rfl, fun m h => step_on (guard_no rfl) (op_pick_t rfl h.1.1 hb12 h.1.2.1 rfl rfl) rfl, fun m h => step_on (guard_no rfl) (op_move rfl h.1.1 rfl rfl) rfl, fun m h => step_on (guard_on rfl rfl rfl h.1.1 hb19) (op_call 3 rfl (caps := []) (args := []) rfl rfl evl_nil Try_cal_25 (law04_awake_ok h21) rfl rfl rfl) rfl, fun m h => step_on (guard_no rfl) (op_pick_t rfl h.1.1 hb19 h.1.2.1 rfl rfl) rfl, fun m h => step_on (guard_no rfl) (op_assign rfl h.1.1 rfl rfl) rfl, trivial⟩ ⟨⟨⟨rfl, trivial⟩, ⟨rfl, trivial⟩, trivial⟩, ⟨⟨rfl, trivial⟩, trivial, trivial⟩, ⟨⟨rfl, rfl, trivial⟩, trivial, trivial⟩, ⟨⟨rfl, trivial⟩, ⟨rfl, trivial⟩, trivial⟩, ⟨⟨rfl, trivial⟩, trivial, trivial⟩, ⟨⟨rfl, rfl, trivial⟩, trivial, trivial⟩, ⟨⟨rfl, rfl, trivial⟩, trivial, trivial⟩, ⟨⟨rfl, trivial⟩, trivial, trivial⟩, ⟨⟨rfl, rfl, trivial⟩, trivial, trivial⟩, ⟨⟨rfl, rfl, trivial⟩, trivial, trivial⟩, ⟨⟨rfl, rfl, rfl, trivial⟩, trivial, ⟨rfl, trivial⟩⟩, ⟨⟨rfl, rfl, trivial⟩, trivial, trivial⟩, ⟨⟨rfl, rfl, trivial⟩, trivial, trivial⟩, ⟨⟨rfl, rfl, rfl, trivial⟩, trivial, ⟨rfl, trivial⟩⟩, ⟨⟨rfl, rfl, rfl, trivial⟩, ⟨rfl, rfl, trivial⟩, trivial⟩, ⟨⟨rfl, rfl, trivial⟩, trivial, trivial⟩, ⟨⟨rfl, trivial⟩, trivial, trivial⟩, ⟨⟨rfl, trivial⟩, trivial, trivial⟩, ⟨⟨rfl, rfl, trivial⟩, trivial, trivial⟩, ⟨⟨rfl, trivial⟩, trivial, trivial⟩, trivial⟩ (by kernel_rfl) ?_
          refine post_imp (imp_freeze [(1, some (.row 42 2 (List.map eGOwner y13)))] [(26, some (.pv (.vs 2 (List.map eGOwner y13))))] (FzH.spec ⟨rfl, trivial⟩) nolent ⟨⟨_, rfl, rfl⟩, trivial⟩) ?_
          refine post_imp (imp_freeze [(2, some (.row 42 2 (List.map eGOwner y15)))] [(29, some (.pv (.vs 2 (List.map eGOwner y15))))] (FzH.spec ⟨rfl, trivial⟩) nolent ⟨⟨_, rfl, rfl⟩, trivial⟩) ?_
          refine post_imp (s' := ⟨35, [(6, some (.pv (.bool y20)))], [], 0, [], []⟩) (imp_sub [] rfl rfl (by decide) rfl rfl ⟨rfl, trivial⟩ trivial rfl nolent2) ?_
          refine post_next ?_
          refine aw_ret ?_
          obtain rfl := Option.some.inj hF
          exact post_ret rfl rfl rfl (.cons _ _ _ _ _ (.tmp _ _ rfl) (.p _) .nil) (.inl rfl)
        · refine aw_imp (imp_names 2) ?_
          refine aw_drawn ({ need := [(3, .lp 0 0)], hneed := [(0, .box 42 [.pv (.int .i64 a0.fKind), .pv (.int .i64 a0.fN)])], names := [], dst := some 16, val := some (.pv (.agg (eGOwner a0))), upd := [] } :: { need := [(1, .pv (.vs 2 (List.map eGOwner a1)))], hneed := [], names := [], dst := some 17, val := some (.pv (.vs 2 (List.map eGOwner a1))), upd := [] } :: { need := [(17, .pv (.vs 2 (List.map eGOwner a1))), (16, .pv (.agg (eGOwner a0)))], hneed := [], names := [], dst := some 18, val := some (.pv (.agg (eGOwner y8))), upd := [] } :: { need := [(3, .lp 0 0)], hneed := [(0, .box 42 [.pv (.int .i64 a0.fKind), .pv (.int .i64 a0.fN)])], names := [], dst := some 19, val := some (.pv (.agg (eGOwner a0))), upd := [] } :: { need := [(1, .pv (.vs 2 (List.map eGOwner a1)))], hneed := [], names := [], dst := some 20, val := some (.pv (.vs 2 (List.map eGOwner a1))), upd := [] } :: { need := [(20, .pv (.vs 2 (List.map eGOwner a1))), (19, .pv (.agg (eGOwner a0)))], hneed := [], names := [], dst := some 21, val := some (.pv (.agg (eGOwner y10))), upd := [] } :: { need := [(18, .pv (.agg (eGOwner y8))), (21, .pv (.agg (eGOwner y10)))], hneed := [], names := [], dst := some 22, val := some (.pv (.bool (bGOwner y8 y10))), upd := [] } :: { need := [(22, .pv (.bool (bGOwner y8 y10)))], hneed := [], names := [], dst := some 23, val := some (.pv (.bool (bGOwner y8 y10))), upd := [] } :: { need := [(23, .pv (.bool (bGOwner y8 y10))), (1, .pv (.vs 2 (List.map eGOwner a1)))], hneed := [], names := [], dst := some 24, val := some (.pv (.vs 2 (List.map eGOwner a1))), upd := [] } :: { need := [(23, .pv (.bool (bGOwner y8 y10))), (2, .pv (.vs 2 (List.map eGOwner a2)))], hneed := [], names := [], dst := some 25, val := some (.pv (.vs 2 (List.map eGOwner a2))), upd := [] } :: { need := [(23, .pv (.bool (bGOwner y8 y10))), (25, .pv (.vs 2 (List.map eGOwner a2))), (24, .pv (.vs 2 (List.map eGOwner a1)))], hneed := [], names := [1], dst := some 26, val := some (.ls 1), upd := [(1, some (.row 42 2 (List.map eGOwner y13)))] } :: { need := [(23, .pv (.bool (bGOwner y8 y10))), (1, .pv (.vs 2 (List.map eGOwner a1)))], hneed := [], names := [], dst := some 27, val := some (.pv (.vs 2 (List.map eGOwner a1))), upd := [] } :: { need := [(23, .pv (.bool (bGOwner y8 y10))), (2, .pv (.vs 2 (List.map eGOwner a2)))], hneed := [], names := [], dst := some 28, val := some (.pv (.vs 2 (List.map eGOwner a2))), upd := [] } :: { need := [(23, .pv (.bool (bGOwner y8 y10))), (28, .pv (.vs 2 (List.map eGOwner a2))), (27, .pv (.vs 2 (List.map eGOwner a1)))], hneed := [], names := [2], dst := some 29, val := some (.ls 2), upd := [(2, some (.row 42 2 (List.map eGOwner y15)))] } :: { need := [(23, .pv (.bool (bGOwner y8 y10))), (29, .ls 2), (26, .ls 1)], hneed := [(1, .row 42 2 (List.map eGOwner y13)), (2, .row 42 2 (List.map eGOwner y15))], names := [], dst := some 30, val := some (.pv (.bool y17)), upd := [] } :: { need := [(23, .pv (.bool (bGOwner y8 y10))), (30, .pv (.bool y17))], hneed := [], names := [], dst := some 31, val := some (.pv (.bool y17)), upd := [] } :: { need := [(31, .pv (.bool y17))], hneed := [], names := [], dst := some 32, val := some (.pv (.bool y17)), upd := [] } :: { need := [(32, .pv (.bool y17))], dst := some 33, val := some (.tup []) } :: { need := [(32, .pv (.bool y17))], hneed := [], names := [], dst := some 34, val := some (.pv (.bool false)), upd := [] } :: { need := [(34, .pv (.bool false))], hneed := [], names := [], dst := some 6, val := some (.pv (.bool false)), upd := [] } :: []) ⟨_, _, _⟩ Try_mixed rfl ⟨fun m h => step_on (guard_no rfl) (op_load_lp_agg (ps := eGOwner a0) rfl h.1.1 h.2.1.1 rfl rfl rfl Try_agg_42 rfl rfl) rfl, fun m h => step_on (guard_no rfl) (op_move rfl h.1.1 rfl rfl) rfl, fun m h => step_on (guard_no rfl) (op_call 3 rfl (caps := []) (args := [.agg (eGOwner a0), .vs 2 (List.map eGOwner a1)]) rfl rfl (evl_cons h.1.2.1 (evl_cons h.1.1 evl_nil)) Try_cal_26 (owner_Put_ok h9) rfl rfl rfl) rfl, fun m h => step_on (guard_no rfl) (op_load_lp_agg (ps := eGOwner a0) rfl h.1.1 h.2.1.1 rfl rfl rfl Try_agg_42 rfl rfl) rfl, fun m h => step_on (guard_no rfl) (op_move rfl h.1.1 rfl rfl) rfl, fun m h => step_on (guard_no rfl) (op_call 3 rfl (caps := []) (args := [.agg (eGOwner a0), .vs 2 (List.map eGOwner a1)]) rfl rfl (evl_cons h.1.2.1 (evl_cons h.1.1 evl_nil)) Try_cal_27 (ref04_Put_ok h11) rfl rfl rfl) rfl, fun m h => step_on (guard_no rfl) (op_eqAgg_eql (r := bGOwner y8 y10) rfl h.1.1 h.1.2.1 Try_eqt_42 rfl rfl rfl rfl rfl) rfl, fun m h => step_on (guard_no rfl) (op_move rfl h.1.1 rfl rfl) rfl, fun m h => step_on (guard_on rfl rfl rfl h.1.1 hb12) (op_move rfl h.1.2.1 rfl rfl) rfl, fun m h => step_on (guard_on rfl rfl rfl h.1.1 hb12) (op_move rfl h.1.2.1 rfl rfl) rfl, fun m h => step_on (guard_on rfl rfl rfl h.1.1 hb12) (op_call 1 (fresh_free h.2.2.1) (caps := []) (args := [.vs 2 (List.map eGOwner a1), .vs 2 (List.map eGOwner a2)]) rfl rfl (evl_cons h.1.2.2.1 (evl_cons h.1.2.1 evl_nil)) Try_cal_29 (owner_All_ok h14) rfl rfl rfl) rfl, fun m h => step_on (guard_on rfl rfl rfl h.1.1 hb12) (op_move rfl h.1.2.1 rfl rfl) rfl, fun m h => step_on (guard_on rfl rfl rfl h.1.1 hb12) (op_move rfl h.1.2.1 rfl rfl) rfl, fun m h => step_on (guard_on rfl rfl rfl h.1.1 hb12) (op_call 2 (fresh_free h.2.2.1) (caps := []) (args := [.vs 2 (List.map eGOwner a1), .vs 2 (List.map eGOwner a2)]) rfl rfl (evl_cons h.1.2.2.1 (evl_cons h.1.2.1 evl_nil)) Try_cal_30 (ref04_All_ok h16) rfl rfl rfl) rfl, fun m h => step_on (guard_on rfl rfl rfl h.1.1 hb12) (op_callB 3 rfl (caps := []) (args := [.vs 2 (List.map eGOwner y13), .vs 2 (List.map eGOwner y15)]) [(1, some (.row 42 2 (List.map eGOwner y13))), (2, some (.row 42 2 (List.map eGOwner y15)))] rfl rfl (evl_cons h.1.2.2.1 (evl_cons h.1.2.1 evl_nil)) (FzH.spec ⟨h.2.1.1, h.2.1.2.1, trivial⟩) rfl rfl Try_cal_28 (law04_same_ok h18) rfl rfl rfl) rfl, fun m h => step_on (guard_no rfl) (op_pick_t rfl h.1.1 hb12 h.1.2.1 rfl rfl) rfl, fun m h => step_on (guard_no rfl) (op_move rfl h.1.1 rfl rfl) rfl, fun m h => step_off (guard_off rfl rfl rfl h.1.1 hb19) rfl, fun m h => step_on (guard_no rfl) (op_pick_f rfl h.1.1 hb19 rfl rfl rfl) rfl, fun m h => step_on (guard_no rfl) (op_assign rfl h.1.1 rfl rfl) rfl, trivial⟩ ⟨⟨⟨rfl, trivial⟩, ⟨rfl, trivial⟩, trivial⟩, ⟨⟨rfl, trivial⟩, trivial, trivial⟩, ⟨⟨rfl, rfl, trivial⟩, trivial, trivial⟩, ⟨⟨rfl, trivial⟩, ⟨rfl, trivial⟩, trivial⟩, ⟨⟨rfl, trivial⟩, trivial, trivial⟩, ⟨⟨rfl, rfl, trivial⟩, trivial, trivial⟩, ⟨⟨rfl, rfl, trivial⟩, trivial, trivial⟩, ⟨⟨rfl, trivial⟩, trivial, trivial⟩, ⟨⟨rfl, rfl, trivial⟩, trivial, trivial⟩, ⟨⟨rfl, rfl, trivial⟩, trivial, trivial⟩, ⟨⟨rfl, rfl, rfl, trivial⟩, trivial, ⟨rfl, trivial⟩⟩, ⟨⟨rfl, rfl, trivial⟩, trivial, trivial⟩, ⟨⟨rfl, rfl, trivial⟩, trivial, trivial⟩, ⟨⟨rfl, rfl, rfl, trivial⟩, trivial, ⟨rfl, trivial⟩⟩, ⟨⟨rfl, rfl, rfl, trivial⟩, ⟨rfl, rfl, trivial⟩, trivial⟩, ⟨⟨rfl, rfl, trivial⟩, trivial, trivial⟩, ⟨⟨rfl, trivial⟩, trivial, trivial⟩, ⟨⟨rfl, trivial⟩, trivial, trivial⟩, ⟨⟨rfl, trivial⟩, trivial, trivial⟩, ⟨⟨rfl, trivial⟩, trivial, trivial⟩, trivial⟩ (by kernel_rfl) ?_
          refine post_imp (imp_freeze [(1, some (.row 42 2 (List.map eGOwner y13)))] [(26, some (.pv (.vs 2 (List.map eGOwner y13))))] (FzH.spec ⟨rfl, trivial⟩) nolent ⟨⟨_, rfl, rfl⟩, trivial⟩) ?_
          refine post_imp (imp_freeze [(2, some (.row 42 2 (List.map eGOwner y15)))] [(29, some (.pv (.vs 2 (List.map eGOwner y15))))] (FzH.spec ⟨rfl, trivial⟩) nolent ⟨⟨_, rfl, rfl⟩, trivial⟩) ?_
          refine post_imp (s' := ⟨35, [(6, some (.pv (.bool false)))], [], 0, [], []⟩) (imp_sub [] rfl rfl (by decide) rfl rfl ⟨rfl, trivial⟩ trivial rfl nolent2) ?_
          refine post_next ?_
          refine aw_ret ?_
          obtain rfl := Option.some.inj hF
          exact post_ret rfl rfl rfl (.cons _ _ _ _ _ (.tmp _ _ rfl) (.p _) .nil) (.inl rfl)
      · refine aw_drawn ({ need := [(3, .lp 0 0)], hneed := [(0, .box 42 [.pv (.int .i64 a0.fKind), .pv (.int .i64 a0.fN)])], names := [], dst := some 16, val := some (.pv (.agg (eGOwner a0))), upd := [] } :: { need := [(1, .pv (.vs 2 (List.map eGOwner a1)))], hneed := [], names := [], dst := some 17, val := some (.pv (.vs 2 (List.map eGOwner a1))), upd := [] } :: { need := [(17, .pv (.vs 2 (List.map eGOwner a1))), (16, .pv (.agg (eGOwner a0)))], hneed := [], names := [], dst := some 18, val := some (.pv (.agg (eGOwner y8))), upd := [] } :: { need := [(3, .lp 0 0)], hneed := [(0, .box 42 [.pv (.int .i64 a0.fKind), .pv (.int .i64 a0.fN)])], names := [], dst := some 19, val := some (.pv (.agg (eGOwner a0))), upd := [] } :: { need := [(1, .pv (.vs 2 (List.map eGOwner a1)))], hneed := [], names := [], dst := some 20, val := some (.pv (.vs 2 (List.map eGOwner a1))), upd := [] } :: { need := [(20, .pv (.vs 2 (List.map eGOwner a1))), (19, .pv (.agg (eGOwner a0)))], hneed := [], names := [], dst := some 21, val := some (.pv (.agg (eGOwner y10))), upd := [] } :: { need := [(18, .pv (.agg (eGOwner y8))), (21, .pv (.agg (eGOwner y10)))], hneed := [], names := [], dst := some 22, val := some (.pv (.bool (bGOwner y8 y10))), upd := [] } :: { need := [(22, .pv (.bool (bGOwner y8 y10)))], hneed := [], names := [], dst := some 23, val := some (.pv (.bool (bGOwner y8 y10))), upd := [] } :: { need := [(23, .pv (.bool (bGOwner y8 y10)))], dst := some 24, val := some (.tup []) } :: { need := [(23, .pv (.bool (bGOwner y8 y10)))], dst := some 25, val := some (.tup []) } :: { need := [(23, .pv (.bool (bGOwner y8 y10)))], dst := some 26, val := some (.tup []) } :: { need := [(23, .pv (.bool (bGOwner y8 y10)))], dst := some 27, val := some (.tup []) } :: { need := [(23, .pv (.bool (bGOwner y8 y10)))], dst := some 28, val := some (.tup []) } :: { need := [(23, .pv (.bool (bGOwner y8 y10)))], dst := some 29, val := some (.tup []) } :: { need := [(23, .pv (.bool (bGOwner y8 y10)))], dst := some 30, val := some (.tup []) } :: { need := [(23, .pv (.bool (bGOwner y8 y10)))], hneed := [], names := [], dst := some 31, val := some (.pv (.bool false)), upd := [] } :: { need := [(31, .pv (.bool false))], hneed := [], names := [], dst := some 32, val := some (.pv (.bool false)), upd := [] } :: { need := [(32, .pv (.bool false))], dst := some 33, val := some (.tup []) } :: { need := [(32, .pv (.bool false))], hneed := [], names := [], dst := some 34, val := some (.pv (.bool false)), upd := [] } :: { need := [(34, .pv (.bool false))], hneed := [], names := [], dst := some 6, val := some (.pv (.bool false)), upd := [] } :: []) ⟨_, _, _⟩ Try_mixed rfl ⟨fun m h => step_on (guard_no rfl) (op_load_lp_agg (ps := eGOwner a0) rfl h.1.1 h.2.1.1 rfl rfl rfl Try_agg_42 rfl rfl) rfl, fun m h => step_on (guard_no rfl) (op_move rfl h.1.1 rfl rfl) rfl, fun m h => step_on (guard_no rfl) (op_call 1 rfl (caps := []) (args := [.agg (eGOwner a0), .vs 2 (List.map eGOwner a1)]) rfl rfl (evl_cons h.1.2.1 (evl_cons h.1.1 evl_nil)) Try_cal_26 (owner_Put_ok h9) rfl rfl rfl) rfl, fun m h => step_on (guard_no rfl) (op_load_lp_agg (ps := eGOwner a0) rfl h.1.1 h.2.1.1 rfl rfl rfl Try_agg_42 rfl rfl) rfl, fun m h => step_on (guard_no rfl) (op_move rfl h.1.1 rfl rfl) rfl, fun m h => step_on (guard_no rfl) (op_call 1 rfl (caps := []) (args := [.agg (eGOwner a0), .vs 2 (List.map eGOwner a1)]) rfl rfl (evl_cons h.1.2.1 (evl_cons h.1.1 evl_nil)) Try_cal_27 (ref04_Put_ok h11) rfl rfl rfl) rfl, fun m h => step_on (guard_no rfl) (op_eqAgg_eql (r := bGOwner y8 y10) rfl h.1.1 h.1.2.1 Try_eqt_42 rfl rfl rfl rfl rfl) rfl, fun m h => step_on (guard_no rfl) (op_move rfl h.1.1 rfl rfl) rfl, fun m h => step_off (guard_off rfl rfl rfl h.1.1 hb12) rfl, fun m h => step_off (guard_off rfl rfl rfl h.1.1 hb12) rfl, fun m h => step_off (guard_off rfl rfl rfl h.1.1 hb12) rfl, fun m h => step_off (guard_off rfl rfl rfl h.1.1 hb12) rfl, fun m h => step_off (guard_off rfl rfl rfl h.1.1 hb12) rfl, fun m h => step_off (guard_off rfl rfl rfl h.1.1 hb12) rfl, fun m h => step_off (guard_off rfl rfl rfl h.1.1 hb12) rfl, fun m h => step_on (guard_no rfl) (op_pick_f rfl h.1.1 hb12 rfl rfl rfl) rfl, fun m h => step_on (guard_no rfl) (op_move rfl h.1.1 rfl rfl) rfl, fun m h => step_off (guard_off rfl rfl rfl h.1.1 rfl) rfl, fun m h => step_on (guard_no rfl) (op_pick_f rfl h.1.1 rfl rfl rfl rfl) rfl, fun m h => step_on (guard_no rfl) (op_assign rfl h.1.1 rfl rfl) rfl, trivial⟩ ⟨⟨⟨rfl, trivial⟩, ⟨rfl, trivial⟩, trivial⟩, ⟨⟨rfl, trivial⟩, trivial, trivial⟩, ⟨⟨rfl, rfl, trivial⟩, trivial, trivial⟩, ⟨⟨rfl, trivial⟩, ⟨rfl, trivial⟩, trivial⟩, ⟨⟨rfl, trivial⟩, trivial, trivial⟩, ⟨⟨rfl, rfl, trivial⟩, trivial, trivial⟩, ⟨⟨rfl, rfl, trivial⟩, trivial, trivial⟩, ⟨⟨rfl, trivial⟩, trivial, trivial⟩, ⟨⟨rfl, trivial⟩, trivial, trivial⟩, ⟨⟨rfl, trivial⟩, trivial, trivial⟩, ⟨⟨rfl, trivial⟩, trivial, trivial⟩, ⟨⟨rfl, trivial⟩, trivial, trivial⟩, ⟨⟨rfl, trivial⟩, trivial, trivial⟩, ⟨⟨rfl, trivial⟩, trivial, trivial⟩, ⟨⟨rfl, trivial⟩, trivial, trivial⟩, ⟨⟨rfl, trivial⟩, trivial, trivial⟩, ⟨⟨rfl, trivial⟩, trivial, trivial⟩, ⟨⟨rfl, trivial⟩, trivial, trivial⟩, ⟨⟨rfl, trivial⟩, trivial, trivial⟩, ⟨⟨rfl, trivial⟩, trivial, trivial⟩, trivial⟩ (by kernel_rfl) ?_
        refine post_imp (s' := ⟨35, [(6, some (.pv (.bool false)))], [], 0, [], []⟩) (imp_sub [] rfl rfl (by decide) rfl rfl ⟨rfl, trivial⟩ trivial rfl nolent2) ?_
        refine post_next ?_
        refine aw_ret ?_
        obtain rfl := Option.some.inj hF
        exact post_ret rfl rfl rfl (.cons _ _ _ _ _ (.tmp _ _ rfl) (.p _) .nil) (.inl rfl)
end Go.Proofs.Ytdffghiejjaomaa
