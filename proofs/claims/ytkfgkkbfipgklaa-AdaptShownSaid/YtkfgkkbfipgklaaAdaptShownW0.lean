/- A part of the proof that the law AdaptShown gives true for every input. -/
import Derived.Test.YtkfgkkbfipgklaaAdaptShownT
import Derived.Test.YtkfgkkbfipgklaaAdaptShownX
import Derived.Test.YtkfgkkbfipgklaaAdaptShownI
/- Each Go function computes its plain function. -/
namespace Go.Proofs.Ytkfgkkbfipgklaa
open Go.RowKit Go.Abs
set_option maxRecDepth 100000
set_option maxHeartbeats 4000000
theorem ref13_Find_ok {a0 : List GClass} {a1 : List UInt8} {r : Int} (hF : ref13_Find a0 a1 = some r) : Abs.Fn Try.prog 13 [.vs 7 (List.map eGClass a0), .str a1] [.p (.int .i64 r)] := by
  unfold ref13_Find at hF
  refine fn_of_body (n := 20) Try.func13 rfl rfl rfl ?_
  intro w O
  refine aw_seq ?_
  refine aw_region ?_
  refine ras ?_
  refine reg_nil ?_
  refine post_imp (s' := ⟨20, [(0, some (.pv (.vs 7 (List.map eGClass a0)))), (1, some (.pv (.str a1)))], [], 0, [], [], 0, []⟩) (imps [] ⟨by kernel_rfl, by kernel_rfl, trivial⟩ trivial) ?_
  refine post_next ?_
  iterate 2 (refine aw_seq ?_)
  refine aw_region ?_
  refine ras ?_
  refine reg_nil ?_
  refine post_imp (s' := ⟨20, [(0, some (.pv (.vs 7 (List.map eGClass a0)))), (1, some (.pv (.str a1))), (5, some (.pv (.int .i64 0)))], [], 0, [], [], 0, []⟩) (imps [] ⟨by kernel_rfl, by kernel_rfl, by kernel_rfl, trivial⟩ trivial) ?_
  refine post_next ?_
  obtain ⟨lr22, hF, hK23⟩ := bind_some hF
  refine aw_for ((((a0.length : Int) : Int) - (0)).toNat + 1) (fun s1 => ∃ q, lr22 = .next q ∧ s1 = ⟨20, [], [], 0, [], [], 0, []⟩) ?_ ?_
  · refine rnd_loop (α := Int) (fun q => ⟨20, [(0, some (.pv (.vs 7 (List.map eGClass a0)))), (1, some (.pv (.str a1))), (5, some (.pv (.int .i64 q)))], [], 0, [], [], 0, []⟩) (fun k q => ref13_Find_L1 a0 a1 k q = some lr22) 0 (imps [] ⟨by kernel_rfl, by kernel_rfl, by kernel_rfl, trivial⟩ trivial) hF (fun q h => by cases h) ?_
    clear hF
    rintro k x7 hF ih
    refine rnd_succ ?_
    iterate 2 (refine aw_seq ?_)
    refine aw_region ?_
    iterate 2 (refine rmv ?_)
    refine reg_cons (guard_no rfl) (op_len_vs (n := a0.length) rfl rfl (List.length_map ..) Try_slc_22 rfl rfl) ?_
    refine reg_cons (guard_no rfl) (op_int (k := .i64) (m := x7) (n := (a0.length : Int)) rfl rfl rfl rfl rfl rfl) ?_
    refine reg_nil ?_
    refine post_imp (s' := ⟨20, [(0, some (.pv (.vs 7 (List.map eGClass a0)))), (1, some (.pv (.str a1))), (5, some (.pv (.int .i64 x7))), (9, some (.pv (.bool (decide (x7 < (a0.length : Int))))))], [], 0, [], [], 0, []⟩) (imps [] ⟨by kernel_rfl, by kernel_rfl, by kernel_rfl, by kernel_rfl, trivial⟩ trivial) ?_
    refine post_next ?_
    rcases ite_some hF with ⟨hb15, hF⟩ | ⟨hb15, hF⟩
    · refine aw_cond_t rfl hb15 ?_
      refine aw_skip ?_
      refine post_next ?_
      refine aw_seq ?_
      refine aw_block ?_
      refine aw_seq ?_
      refine aw_region ?_
      iterate 2 (refine rmv ?_)
      obtain ⟨y18, h19, hF⟩ := bind_some hF
      refine reg_cons (guard_no rfl) (op_index_vs (k := .i64) rfl rfl rfl (idx_map eGClass h19) Try_slc_22 rfl rfl) ?_
      refine reg_cons (guard_no rfl) (op_field_vp rfl rfl Try_fld_43_0 rfl rfl) ?_
      refine reg_cons (guard_no rfl) (op_load_vp (p := .str y18.fName) rfl rfl rfl Try_one_9 rfl rfl) ?_
      refine rmv ?_
      refine reg_cons (guard_no rfl) (op_str rfl rfl rfl rfl rfl rfl) ?_
      refine reg_nil ?_
      refine post_imp (s' := ⟨20, [(0, some (.pv (.vs 7 (List.map eGClass a0)))), (1, some (.pv (.str a1))), (5, some (.pv (.int .i64 x7))), (18, some (.pv (.bool (y18.fName == a1))))], [], 0, [], [], 0, []⟩) (imps [] ⟨by kernel_rfl, by kernel_rfl, by kernel_rfl, by kernel_rfl, trivial⟩ trivial) ?_
      refine post_next ?_
      rcases ite_some hF with ⟨hb20, hF⟩ | ⟨hb20, hF⟩
      · refine aw_cond_t rfl hb20 ?_
        refine aw_seq ?_
        refine aw_region ?_
        refine rmv ?_
        refine ras ?_
        refine reg_nil ?_
        refine post_imp (s' := ⟨20, [(4, some (.pv (.int .i64 x7)))], [], 0, [], [], 0, []⟩) (imps [] ⟨by kernel_rfl, trivial⟩ trivial) ?_
        refine post_next ?_
        refine aw_ret ?_
        refine post_block_ret ?_
        iterate 2 (refine post_then_ret ?_)
        refine post_lp_ret ?_
        obtain rfl := Option.some.inj hF
        have hF := elim_stop hK23
        refine post_then_ret ?_
        obtain rfl := Option.some.inj hF
        exact post_ret rfl rfl (.cons _ _ _ _ _ (.tmp _ _ rfl) (.p _) .nil) (.inl rfl)
      refine aw_cond_f rfl hb20 ?_
      refine aw_skip ?_
      refine post_block_normal ?_
      refine post_next ?_
      refine aw_region ?_
      refine rmv ?_
      refine reg_cons (guard_no rfl) (op_int (k := .i64) (m := x7) (n := 1) rfl rfl rfl rfl rfl rfl) ?_
      refine ras ?_
      refine reg_nil ?_
      refine post_round ?_
      exact rnd_back (ih (w_i64 (x7 + 1)) hF) (imps [] ⟨by kernel_rfl, by kernel_rfl, by kernel_rfl, trivial⟩ trivial)
    refine aw_cond_f rfl hb15 ?_
    refine aw_exit ?_
    iterate 2 (refine post_then_exit ?_)
    obtain rfl := Option.some.inj hF
    exact post_lp_break _ ⟨_, rfl, rfl⟩ (imps [] trivial trivial)
  rintro _ ⟨⟨⟩, rfl, rfl⟩
  have hF := elim_next hK23
  clear hK23
  refine post_next ?_
  refine aw_seq ?_
  refine aw_region ?_
  refine ras ?_
  refine reg_nil ?_
  refine post_imp (s' := ⟨20, [(4, some (.pv (.int .i64 (-1))))], [], 0, [], [], 0, []⟩) (imps [] ⟨by kernel_rfl, trivial⟩ trivial) ?_
  refine post_next ?_
  refine aw_ret ?_
  obtain rfl := Option.some.inj hF
  exact post_ret rfl rfl (.cons _ _ _ _ _ (.tmp _ _ rfl) (.p _) .nil) (.inl rfl)
theorem law26_great_ok {a0 : List GClass} {r : Bool} (hF : law26_great a0 = some r) : Abs.Fn Try.prog 14 [.vs 7 (List.map eGClass a0)] [.p (.bool r)] := by
  unfold law26_great at hF
  refine fn_of_body (n := 29) Try.func14 rfl rfl rfl ?_
  intro w O
  refine aw_seq ?_
  refine aw_region ?_
  refine ras ?_
  refine reg_nil ?_
  refine post_imp (s' := ⟨29, [(0, some (.pv (.vs 7 (List.map eGClass a0))))], [], 0, [], [], 0, []⟩) (imps [] ⟨by kernel_rfl, trivial⟩ trivial) ?_
  refine post_next ?_
  iterate 2 (refine aw_seq ?_)
  refine aw_region ?_
  refine ras ?_
  refine reg_nil ?_
  refine post_imp (s' := ⟨29, [(0, some (.pv (.vs 7 (List.map eGClass a0)))), (3, some (.pv (.int .i64 0)))], [], 0, [], [], 0, []⟩) (imps [] ⟨by kernel_rfl, by kernel_rfl, trivial⟩ trivial) ?_
  refine post_next ?_
  obtain ⟨lr40, hF, hK41⟩ := bind_some hF
  refine aw_for ((((a0.length : Int) : Int) - (0)).toNat + 1) (fun s1 => ∃ q, lr40 = .next q ∧ s1 = ⟨29, [(0, some (.pv (.vs 7 (List.map eGClass a0))))], [], 0, [], [], 0, []⟩) ?_ ?_
  · refine rnd_loop (α := Int) (fun q => ⟨29, [(0, some (.pv (.vs 7 (List.map eGClass a0)))), (3, some (.pv (.int .i64 q)))], [], 0, [], [], 0, []⟩) (fun k q => law26_great_L1 a0 k q = some lr40) 0 (imps [] ⟨by kernel_rfl, by kernel_rfl, trivial⟩ trivial) hF (fun q h => by cases h) ?_
    clear hF
    rintro k x13 hF ih
    refine rnd_succ ?_
    iterate 2 (refine aw_seq ?_)
    refine aw_region ?_
    iterate 2 (refine rmv ?_)
    refine reg_cons (guard_no rfl) (op_len_vs (n := a0.length) rfl rfl (List.length_map ..) Try_slc_22 rfl rfl) ?_
    refine reg_cons (guard_no rfl) (op_int (k := .i64) (m := x13) (n := (a0.length : Int)) rfl rfl rfl rfl rfl rfl) ?_
    refine reg_nil ?_
    refine post_imp (s' := ⟨29, [(0, some (.pv (.vs 7 (List.map eGClass a0)))), (3, some (.pv (.int .i64 x13))), (7, some (.pv (.bool (decide (x13 < (a0.length : Int))))))], [], 0, [], [], 0, []⟩) (imps [] ⟨by kernel_rfl, by kernel_rfl, by kernel_rfl, trivial⟩ trivial) ?_
    refine post_next ?_
    rcases ite_some hF with ⟨hb27, hF⟩ | ⟨hb27, hF⟩
    · refine aw_cond_t rfl hb27 ?_
      refine aw_skip ?_
      refine post_next ?_
      refine aw_seq ?_
      refine aw_block ?_
      refine aw_seq ?_
      obtain ⟨x35, hF, hK37⟩ := bind_some hF
      refine aw_cut (fun s1 => s1 = ⟨29, [(0, some (.pv (.vs 7 (List.map eGClass a0)))), (3, some (.pv (.int .i64 x13))), (25, some (.pv (.bool x35)))], [], 0, [], [], 0, []⟩) ?_ ?_
      · refine aw_region ?_
        iterate 2 (refine rmv ?_)
        obtain ⟨y30, h31, hF⟩ := bind_some hF
        refine reg_cons (guard_no rfl) (op_index_vs (k := .i64) rfl rfl rfl (idx_map eGClass h31) Try_slc_22 rfl rfl) ?_
        refine reg_cons (guard_no rfl) (op_field_vp rfl rfl Try_fld_43_3 rfl rfl) ?_
        refine reg_cons (guard_no rfl) (op_load_vp (p := .vs 2 (List.map eGOwner y30.fAbove)) rfl rfl rfl Try_one_39 rfl rfl) ?_
        refine reg_cons (guard_no rfl) (op_len_vs (n := y30.fAbove.length) rfl rfl (List.length_map ..) Try_slc_39 rfl rfl) ?_
        refine reg_cons (guard_no rfl) (op_int (k := .i64) (m := (y30.fAbove.length : Int)) (n := 20) rfl rfl rfl rfl rfl rfl) ?_
        refine rmv ?_
        rcases ite_some hF with ⟨hb32, hF⟩ | ⟨hb32, hF⟩
        · refine rgo_t hb32 ?_
          iterate 6 (refine rgo_t hb32 ?_)
          refine rpt hb32 ?_
          refine reg_nil ?_
          cases hF
          exact post_cut _ rfl (imps [] ⟨by kernel_rfl, by kernel_rfl, by kernel_rfl, trivial⟩ trivial)
        iterate 2 (refine reg_cons (guard_on rfl rfl rfl rfl hb32) (op_move rfl rfl rfl rfl) ?_)
        obtain ⟨y33, h34, hF⟩ := bind_some hF
        refine reg_cons (guard_on rfl rfl rfl rfl hb32) (op_index_vs (k := .i64) rfl rfl rfl (idx_map eGClass h34) Try_slc_22 rfl rfl) ?_
        refine reg_cons (guard_on rfl rfl rfl rfl hb32) (op_field_vp rfl rfl Try_fld_43_1 rfl rfl) ?_
        refine reg_cons (guard_on rfl rfl rfl rfl hb32) (op_load_vp (p := .vs 1 (List.map eS y33.fParams)) rfl rfl rfl Try_one_38 rfl rfl) ?_
        refine reg_cons (guard_on rfl rfl rfl rfl hb32) (op_len_vs (n := y33.fParams.length) rfl rfl (List.length_map ..) Try_slc_38 rfl rfl) ?_
        refine reg_cons (guard_on rfl rfl rfl rfl hb32) (op_int (k := .i64) (m := (y33.fParams.length : Int)) (n := 20) rfl rfl rfl rfl rfl rfl) ?_
        refine rpf hb32 ?_
        refine reg_nil ?_
        cases hF
        exact post_cut _ rfl (imps [] ⟨by kernel_rfl, by kernel_rfl, by kernel_rfl, trivial⟩ trivial)
      rintro _ rfl
      have hF := hK37
      clear hK37
      refine post_next ?_
      rcases ite_some hF with ⟨hb38, hF⟩ | ⟨hb38, hF⟩
      · refine aw_cond_t rfl hb38 ?_
        refine aw_seq ?_
        refine aw_region ?_
        refine ras ?_
        refine reg_nil ?_
        refine post_imp (s' := ⟨29, [(2, some (.pv (.bool true)))], [], 0, [], [], 0, []⟩) (imps [] ⟨by kernel_rfl, trivial⟩ trivial) ?_
        refine post_next ?_
        refine aw_ret ?_
        refine post_block_ret ?_
        iterate 2 (refine post_then_ret ?_)
        refine post_lp_ret ?_
        obtain rfl := Option.some.inj hF
        have hF := elim_stop hK41
        refine post_then_ret ?_
        obtain rfl := Option.some.inj hF
        exact post_ret rfl rfl (.cons _ _ _ _ _ (.tmp _ _ rfl) (.p _) .nil) (.inl rfl)
      refine aw_cond_f rfl hb38 ?_
      refine aw_skip ?_
      refine post_block_normal ?_
      refine post_next ?_
      refine aw_region ?_
      refine rmv ?_
      refine reg_cons (guard_no rfl) (op_int (k := .i64) (m := x13) (n := 1) rfl rfl rfl rfl rfl rfl) ?_
      refine ras ?_
      refine reg_nil ?_
      refine post_round ?_
      exact rnd_back (ih (w_i64 (x13 + 1)) hF) (imps [] ⟨by kernel_rfl, by kernel_rfl, trivial⟩ trivial)
    refine aw_cond_f rfl hb27 ?_
    refine aw_exit ?_
    iterate 2 (refine post_then_exit ?_)
    obtain rfl := Option.some.inj hF
    exact post_lp_break _ ⟨_, rfl, rfl⟩ (imps [] ⟨by kernel_rfl, trivial⟩ trivial)
  rintro _ ⟨⟨⟩, rfl, rfl⟩
  have hF := elim_next hK41
  clear hK41
  refine post_next ?_
  refine aw_seq ?_
  refine aw_region ?_
  refine rmv ?_
  refine reg_cons (guard_no rfl) (op_len_vs (n := a0.length) rfl rfl (List.length_map ..) Try_slc_22 rfl rfl) ?_
  refine reg_cons (guard_no rfl) (op_int (k := .i64) (m := (a0.length : Int)) (n := 30) rfl rfl rfl rfl rfl rfl) ?_
  refine ras ?_
  refine reg_nil ?_
  refine post_imp (s' := ⟨29, [(2, some (.pv (.bool (decide ((a0.length : Int) > 30)))))], [], 0, [], [], 0, []⟩) (imps [] ⟨by kernel_rfl, trivial⟩ trivial) ?_
  refine post_next ?_
  refine aw_ret ?_
  obtain rfl := Option.some.inj hF
  exact post_ret rfl rfl (.cons _ _ _ _ _ (.tmp _ _ rfl) (.p _) .nil) (.inl rfl)
theorem ref05_Unique_ok {a0 : GType} {r : Bool} (hF : ref05_Unique a0 = some r) : Abs.Fn Try.prog 20 [.agg (eGType a0)] [.p (.bool r)] := by
  unfold ref05_Unique at hF
  refine fn_of_body (n := 13) Try.func20 rfl rfl rfl ?_
  intro w O
  refine aw_seq ?_
  refine aw_region ?_
  refine reg_cons (guard_no rfl) (op_box 0 rfl rfl rfl rfl rfl rfl) ?_
  refine ras ?_
  refine reg_nil ?_
  refine post_imp (s' := ⟨13, [(1, some (.lp 0 0))], [(0, some (.box 27 (bxv (eGType a0))))], 1, [], [], 0, []⟩) (imps [0] ⟨by kernel_rfl, trivial⟩ ⟨by kernel_rfl, trivial⟩) ?_
  refine post_next ?_
  refine aw_seq ?_
  refine aw_region ?_
  refine reg_cons (guard_no rfl) (op_field_lp rfl rfl Try_fld_27_0 rfl rfl) ?_
  refine reg_cons (guard_no rfl) (op_load_lp (v := .pv (.int .i64 a0.fKind)) rfl rfl rfl rfl Try_one_3 rfl rfl) ?_
  refine reg_cons (guard_no rfl) (op_int (k := .i64) (m := a0.fKind) (n := 2) rfl rfl rfl rfl rfl rfl) ?_
  refine rmv ?_
  rcases ite_some hF with ⟨hb1, hF⟩ | ⟨hb1, hF⟩
  · refine reg_cons (guard_on rfl rfl rfl rfl hb1) (op_field_lp rfl rfl Try_fld_27_3 rfl rfl) ?_
    refine reg_cons (guard_on rfl rfl rfl rfl hb1) (op_arr_lp (k := .i64) (m := 0) (n := 4) rfl rfl rfl Try_arr_25 rfl rfl rfl rfl) ?_
    refine reg_cons (guard_on rfl rfl rfl rfl hb1) (op_field_lp rfl rfl Try_fld_24_0 rfl rfl) ?_
    refine reg_cons (guard_on rfl rfl rfl rfl hb1) (op_load_lp (v := .pv (.int .i64 a0.fOwn.a0.fKind)) rfl rfl rfl rfl Try_one_3 rfl rfl) ?_
    refine reg_cons (guard_on rfl rfl rfl rfl hb1) (op_int (k := .i64) (m := a0.fOwn.a0.fKind) (n := 6) rfl rfl rfl rfl rfl rfl) ?_
    refine rpt hb1 ?_
    refine ras ?_
    refine reg_nil ?_
    refine post_imp (s' := ⟨13, [(2, some (.pv (.bool (a0.fOwn.a0.fKind == 6))))], [], 0, [], [], 0, []⟩) (imps [] ⟨by kernel_rfl, trivial⟩ trivial) ?_
    refine post_next ?_
    refine aw_ret ?_
    obtain rfl := Option.some.inj hF
    exact post_ret rfl rfl (.cons _ _ _ _ _ (.tmp _ _ rfl) (.p _) .nil) (.inl rfl)
  iterate 5 (refine rgo_f hb1 ?_)
  refine rpf hb1 ?_
  refine ras ?_
  refine reg_nil ?_
  refine post_imp (s' := ⟨13, [(2, some (.pv (.bool false)))], [], 0, [], [], 0, []⟩) (imps [] ⟨by kernel_rfl, trivial⟩ trivial) ?_
  refine post_next ?_
  refine aw_ret ?_
  obtain rfl := Option.some.inj hF
  exact post_ret rfl rfl (.cons _ _ _ _ _ (.tmp _ _ rfl) (.p _) .nil) (.inl rfl)
theorem ref02_Letter_ok {a0 : Int} {r : Bool} (hF : ref02_Letter a0 = some r) : Abs.Fn Try.prog 67 [.int .u8 a0] [.p (.bool r)] := by
  unfold ref02_Letter at hF
  refine fn_of_body (n := 17) Try.func67 rfl rfl rfl ?_
  intro w O
  refine aw_seq ?_
  refine aw_region ?_
  refine ras ?_
  refine reg_nil ?_
  refine post_imp (s' := ⟨17, [(0, some (.pv (.int .u8 a0)))], [], 0, [], [], 0, []⟩) (imps [] ⟨by kernel_rfl, trivial⟩ trivial) ?_
  refine post_next ?_
  refine aw_seq ?_
  refine aw_region ?_
  refine rmv ?_
  refine reg_cons (guard_no rfl) (op_int (k := .u8) (m := a0) (n := 97) rfl rfl rfl rfl rfl rfl) ?_
  refine rmv ?_
  rcases ite_some hF with ⟨hb1, hF⟩ | ⟨hb1, hF⟩
  · refine reg_cons (guard_on rfl rfl rfl rfl hb1) (op_move rfl rfl rfl rfl) ?_
    refine reg_cons (guard_on rfl rfl rfl rfl hb1) (op_int (k := .u8) (m := a0) (n := 122) rfl rfl rfl rfl rfl rfl) ?_
    refine rpt hb1 ?_
    refine rmv ?_
    rcases ite_some hF with ⟨hb2, hF⟩ | ⟨hb2, hF⟩
    · refine rgo_t hb2 ?_
      iterate 2 (refine rgo_t hb2 ?_)
      iterate 2 (refine rgu ?_)
      refine rgo_t hb2 ?_
      refine rpt hb2 ?_
      refine ras ?_
      refine reg_nil ?_
      refine post_imp (s' := ⟨17, [(2, some (.pv (.bool true)))], [], 0, [], [], 0, []⟩) (imps [] ⟨by kernel_rfl, trivial⟩ trivial) ?_
      refine post_next ?_
      refine aw_ret ?_
      obtain rfl := Option.some.inj hF
      exact post_ret rfl rfl (.cons _ _ _ _ _ (.tmp _ _ rfl) (.p _) .nil) (.inl rfl)
    refine reg_cons (guard_on rfl rfl rfl rfl hb2) (op_move rfl rfl rfl rfl) ?_
    refine reg_cons (guard_on rfl rfl rfl rfl hb2) (op_int (k := .u8) (m := a0) (n := 65) rfl rfl rfl rfl rfl rfl) ?_
    refine reg_cons (guard_on rfl rfl rfl rfl hb2) (op_move rfl rfl rfl rfl) ?_
    rcases ite_some hF with ⟨hb3, hF⟩ | ⟨hb3, hF⟩
    · refine reg_cons (guard_on rfl rfl rfl rfl hb3) (op_move rfl rfl rfl rfl) ?_
      refine reg_cons (guard_on rfl rfl rfl rfl hb3) (op_int (k := .u8) (m := a0) (n := 90) rfl rfl rfl rfl rfl rfl) ?_
      refine reg_cons (guard_on rfl rfl rfl rfl hb2) (op_pick_t rfl rfl hb3 rfl rfl rfl) ?_
      refine rpf hb2 ?_
      refine ras ?_
      refine reg_nil ?_
      refine post_imp (s' := ⟨17, [(2, some (.pv (.bool (decide (a0 ≤ 90)))))], [], 0, [], [], 0, []⟩) (imps [] ⟨by kernel_rfl, trivial⟩ trivial) ?_
      refine post_next ?_
      refine aw_ret ?_
      obtain rfl := Option.some.inj hF
      exact post_ret rfl rfl (.cons _ _ _ _ _ (.tmp _ _ rfl) (.p _) .nil) (.inl rfl)
    iterate 2 (refine rgo_f hb3 ?_)
    refine reg_cons (guard_on rfl rfl rfl rfl hb2) (op_pick_f rfl rfl hb3 rfl rfl rfl) ?_
    refine rpf hb2 ?_
    refine ras ?_
    refine reg_nil ?_
    refine post_imp (s' := ⟨17, [(2, some (.pv (.bool false)))], [], 0, [], [], 0, []⟩) (imps [] ⟨by kernel_rfl, trivial⟩ trivial) ?_
    refine post_next ?_
    refine aw_ret ?_
    obtain rfl := Option.some.inj hF
    exact post_ret rfl rfl (.cons _ _ _ _ _ (.tmp _ _ rfl) (.p _) .nil) (.inl rfl)
  iterate 2 (refine rgo_f hb1 ?_)
  refine rpf hb1 ?_
  refine rmv ?_
  refine reg_cons (guard_on rfl rfl rfl rfl rfl) (op_move rfl rfl rfl rfl) ?_
  refine reg_cons (guard_on rfl rfl rfl rfl rfl) (op_int (k := .u8) (m := a0) (n := 65) rfl rfl rfl rfl rfl rfl) ?_
  refine reg_cons (guard_on rfl rfl rfl rfl rfl) (op_move rfl rfl rfl rfl) ?_
  rcases ite_some hF with ⟨hb4, hF⟩ | ⟨hb4, hF⟩
  · refine reg_cons (guard_on rfl rfl rfl rfl hb4) (op_move rfl rfl rfl rfl) ?_
    refine reg_cons (guard_on rfl rfl rfl rfl hb4) (op_int (k := .u8) (m := a0) (n := 90) rfl rfl rfl rfl rfl rfl) ?_
    refine reg_cons (guard_on rfl rfl rfl rfl rfl) (op_pick_t rfl rfl hb4 rfl rfl rfl) ?_
    refine rpf rfl ?_
    refine ras ?_
    refine reg_nil ?_
    refine post_imp (s' := ⟨17, [(2, some (.pv (.bool (decide (a0 ≤ 90)))))], [], 0, [], [], 0, []⟩) (imps [] ⟨by kernel_rfl, trivial⟩ trivial) ?_
    refine post_next ?_
    refine aw_ret ?_
    obtain rfl := Option.some.inj hF
    exact post_ret rfl rfl (.cons _ _ _ _ _ (.tmp _ _ rfl) (.p _) .nil) (.inl rfl)
  iterate 2 (refine rgo_f hb4 ?_)
  refine reg_cons (guard_on rfl rfl rfl rfl rfl) (op_pick_f rfl rfl hb4 rfl rfl rfl) ?_
  refine rpf rfl ?_
  refine ras ?_
  refine reg_nil ?_
  refine post_imp (s' := ⟨17, [(2, some (.pv (.bool false)))], [], 0, [], [], 0, []⟩) (imps [] ⟨by kernel_rfl, trivial⟩ trivial) ?_
  refine post_next ?_
  refine aw_ret ?_
  obtain rfl := Option.some.inj hF
  exact post_ret rfl rfl (.cons _ _ _ _ _ (.tmp _ _ rfl) (.p _) .nil) (.inl rfl)
theorem ref02_Words_ok  {r : (List (List UInt8))} (hF : ref02_Words = some r) : Abs.Fn Try.prog 85 [] [.p (.vs 1 (List.map eS r))] := by
  unfold ref02_Words at hF
  refine fn_of_body (n := 2) Try.func85 rfl rfl rfl ?_
  intro w O
  refine aw_seq ?_
  refine aw_region ?_
  refine ras ?_
  refine reg_nil ?_
  refine post_imp (s' := ⟨2, [], [], 0, [], [], 0, []⟩) (imps [] trivial trivial) ?_
  refine post_next ?_
  refine aw_seq ?_
  refine aw_region ?_
  refine reg_cons (guard_no rfl) (op_lit (rows := List.map eS ([[99, 108, 97, 115, 115], [101, 120, 116, 101, 110, 100, 115], [114, 101, 112], [112, 101, 101, 114], [119, 111, 114, 108, 100], [97, 110, 121], [117, 110, 105, 113, 117, 101], [112, 117, 114, 101], [118, 111, 105, 100], [105, 110, 116], [105, 102], [101, 108, 115, 101], [119, 104, 105, 108, 101], [114, 101, 116, 117, 114, 110], [110, 101, 119], [109, 111, 118, 101], [100, 101, 108, 101, 116, 101], [116, 104, 105, 115], [110, 117, 108, 108], [105, 110, 112, 117, 116], [110, 105, 108], [115, 97, 109, 101], [99, 97, 115, 116]] : List (List UInt8))) (zs := [.str []]) rfl rfl Try_slc_38 Try_zer_9 (by exact ⟨rfl, trivial⟩) rfl rfl rfl rfl rfl rfl rfl rfl) ?_
  refine ras ?_
  refine reg_nil ?_
  refine post_imp (s' := ⟨2, [(0, some (.pv (.vs 1 (List.map eS [[99, 108, 97, 115, 115], [101, 120, 116, 101, 110, 100, 115], [114, 101, 112], [112, 101, 101, 114], [119, 111, 114, 108, 100], [97, 110, 121], [117, 110, 105, 113, 117, 101], [112, 117, 114, 101], [118, 111, 105, 100], [105, 110, 116], [105, 102], [101, 108, 115, 101], [119, 104, 105, 108, 101], [114, 101, 116, 117, 114, 110], [110, 101, 119], [109, 111, 118, 101], [100, 101, 108, 101, 116, 101], [116, 104, 105, 115], [110, 117, 108, 108], [105, 110, 112, 117, 116], [110, 105, 108], [115, 97, 109, 101], [99, 97, 115, 116]]))))], [], 0, [], [], 0, []⟩) (imps [] ⟨by kernel_rfl, trivial⟩ trivial) ?_
  refine post_next ?_
  refine aw_ret ?_
  obtain rfl := Option.some.inj hF
  exact post_ret rfl rfl (.cons _ _ _ _ _ (.tmp _ _ rfl) (.p _) .nil) (.inl rfl)
theorem ref02_Find_ok {a0 : List UInt8} {r : Int} (hF : ref02_Find a0 = some r) : Abs.Fn Try.prog 68 [.str a0] [.p (.int .i64 r)] := by
  unfold ref02_Find at hF
  refine fn_of_body (n := 20) Try.func68 rfl rfl rfl ?_
  intro w O
  refine aw_seq ?_
  refine aw_region ?_
  refine ras ?_
  refine reg_nil ?_
  refine post_imp (s' := ⟨20, [(0, some (.pv (.str a0)))], [], 0, [], [], 0, []⟩) (imps [] ⟨by kernel_rfl, trivial⟩ trivial) ?_
  refine post_next ?_
  refine aw_seq ?_
  refine aw_region ?_
  obtain ⟨y3, h4, hF⟩ := bind_some hF
  refine reg_cons (guard_no rfl) (op_call 0 rfl (caps := []) (args := []) (rs := [.p (.vs 1 (List.map eS y3))]) rfl rfl rfl Try_cal_85 (ref02_Words_ok h4) rfl rfl rfl) ?_
  refine ras ?_
  refine reg_nil ?_
  refine post_imp (s' := ⟨20, [(0, some (.pv (.str a0))), (3, some (.pv (.vs 1 (List.map eS y3))))], [], 0, [], [], 0, []⟩) (imps [] ⟨by kernel_rfl, by kernel_rfl, trivial⟩ trivial) ?_
  refine post_next ?_
  iterate 2 (refine aw_seq ?_)
  refine aw_region ?_
  refine ras ?_
  refine reg_nil ?_
  refine post_imp (s' := ⟨20, [(0, some (.pv (.str a0))), (3, some (.pv (.vs 1 (List.map eS y3)))), (4, some (.pv (.int .i64 0)))], [], 0, [], [], 0, []⟩) (imps [] ⟨by kernel_rfl, by kernel_rfl, by kernel_rfl, trivial⟩ trivial) ?_
  refine post_next ?_
  obtain ⟨lr26, hF, hK27⟩ := bind_some hF
  refine aw_for ((((y3.length : Int) : Int) - (0)).toNat + 1) (fun s1 => ∃ q, lr26 = .next q ∧ s1 = ⟨20, [], [], 0, [], [], 0, []⟩) ?_ ?_
  · refine rnd_loop (α := Int) (fun q => ⟨20, [(0, some (.pv (.str a0))), (3, some (.pv (.vs 1 (List.map eS y3)))), (4, some (.pv (.int .i64 q)))], [], 0, [], [], 0, []⟩) (fun k q => ref02_Find_L1 a0 y3 k q = some lr26) 0 (imps [] ⟨by kernel_rfl, by kernel_rfl, by kernel_rfl, trivial⟩ trivial) hF (fun q h => by cases h) ?_
    clear hF
    rintro k x11 hF ih
    refine rnd_succ ?_
    iterate 2 (refine aw_seq ?_)
    refine aw_region ?_
    iterate 2 (refine rmv ?_)
    refine reg_cons (guard_no rfl) (op_len_vs (n := y3.length) rfl rfl (List.length_map ..) Try_slc_38 rfl rfl) ?_
    refine reg_cons (guard_no rfl) (op_int (k := .i64) (m := x11) (n := (y3.length : Int)) rfl rfl rfl rfl rfl rfl) ?_
    refine reg_nil ?_
    refine post_imp (s' := ⟨20, [(0, some (.pv (.str a0))), (3, some (.pv (.vs 1 (List.map eS y3)))), (4, some (.pv (.int .i64 x11))), (9, some (.pv (.bool (decide (x11 < (y3.length : Int))))))], [], 0, [], [], 0, []⟩) (imps [] ⟨by kernel_rfl, by kernel_rfl, by kernel_rfl, by kernel_rfl, trivial⟩ trivial) ?_
    refine post_next ?_
    rcases ite_some hF with ⟨hb19, hF⟩ | ⟨hb19, hF⟩
    · refine aw_cond_t rfl hb19 ?_
      refine aw_skip ?_
      refine post_next ?_
      refine aw_seq ?_
      refine aw_block ?_
      refine aw_seq ?_
      refine aw_region ?_
      iterate 2 (refine rmv ?_)
      obtain ⟨y22, h23, hF⟩ := bind_some hF
      refine reg_cons (guard_no rfl) (op_index_vs (k := .i64) rfl rfl rfl (idx_map eS h23) Try_slc_38 rfl rfl) ?_
      refine reg_cons (guard_no rfl) (op_load_vp (p := .str y22) rfl rfl rfl Try_one_9 rfl rfl) ?_
      refine rmv ?_
      refine reg_cons (guard_no rfl) (op_str rfl rfl rfl rfl rfl rfl) ?_
      refine reg_nil ?_
      refine post_imp (s' := ⟨20, [(0, some (.pv (.str a0))), (3, some (.pv (.vs 1 (List.map eS y3)))), (4, some (.pv (.int .i64 x11))), (17, some (.pv (.bool (y22 == a0))))], [], 0, [], [], 0, []⟩) (imps [] ⟨by kernel_rfl, by kernel_rfl, by kernel_rfl, by kernel_rfl, trivial⟩ trivial) ?_
      refine post_next ?_
      rcases ite_some hF with ⟨hb24, hF⟩ | ⟨hb24, hF⟩
      · refine aw_cond_t rfl hb24 ?_
        refine aw_seq ?_
        refine aw_region ?_
        refine rmv ?_
        refine reg_cons (guard_no rfl) (op_int (k := .i64) (m := x11) (n := 1) rfl rfl rfl rfl rfl rfl) ?_
        refine ras ?_
        refine reg_nil ?_
        refine post_imp (s' := ⟨20, [(2, some (.pv (.int .i64 (w_i64 (x11 + 1)))))], [], 0, [], [], 0, []⟩) (imps [] ⟨by kernel_rfl, trivial⟩ trivial) ?_
        refine post_next ?_
        refine aw_ret ?_
        refine post_block_ret ?_
        iterate 2 (refine post_then_ret ?_)
        refine post_lp_ret ?_
        obtain rfl := Option.some.inj hF
        have hF := elim_stop hK27
        refine post_then_ret ?_
        obtain rfl := Option.some.inj hF
        exact post_ret rfl rfl (.cons _ _ _ _ _ (.tmp _ _ rfl) (.p _) .nil) (.inl rfl)
      refine aw_cond_f rfl hb24 ?_
      refine aw_skip ?_
      refine post_block_normal ?_
      refine post_next ?_
      refine aw_region ?_
      refine rmv ?_
      refine reg_cons (guard_no rfl) (op_int (k := .i64) (m := x11) (n := 1) rfl rfl rfl rfl rfl rfl) ?_
      refine ras ?_
      refine reg_nil ?_
      refine post_round ?_
      exact rnd_back (ih (w_i64 (x11 + 1)) hF) (imps [] ⟨by kernel_rfl, by kernel_rfl, by kernel_rfl, trivial⟩ trivial)
    refine aw_cond_f rfl hb19 ?_
    refine aw_exit ?_
    iterate 2 (refine post_then_exit ?_)
    obtain rfl := Option.some.inj hF
    exact post_lp_break _ ⟨_, rfl, rfl⟩ (imps [] trivial trivial)
  rintro _ ⟨⟨⟩, rfl, rfl⟩
  have hF := elim_next hK27
  clear hK27
  refine post_next ?_
  refine aw_seq ?_
  refine aw_region ?_
  refine ras ?_
  refine reg_nil ?_
  refine post_imp (s' := ⟨20, [(2, some (.pv (.int .i64 0)))], [], 0, [], [], 0, []⟩) (imps [] ⟨by kernel_rfl, trivial⟩ trivial) ?_
  refine post_next ?_
  refine aw_ret ?_
  obtain rfl := Option.some.inj hF
  exact post_ret rfl rfl (.cons _ _ _ _ _ (.tmp _ _ rfl) (.p _) .nil) (.inl rfl)
theorem ref02_Digit_ok {a0 : Int} {r : Bool} (hF : ref02_Digit a0 = some r) : Abs.Fn Try.prog 69 [.int .u8 a0] [.p (.bool r)] := by
  unfold ref02_Digit at hF
  refine fn_of_body (n := 9) Try.func69 rfl rfl rfl ?_
  intro w O
  refine aw_seq ?_
  refine aw_region ?_
  refine ras ?_
  refine reg_nil ?_
  refine post_imp (s' := ⟨9, [(0, some (.pv (.int .u8 a0)))], [], 0, [], [], 0, []⟩) (imps [] ⟨by kernel_rfl, trivial⟩ trivial) ?_
  refine post_next ?_
  refine aw_seq ?_
  refine aw_region ?_
  refine rmv ?_
  refine reg_cons (guard_no rfl) (op_int (k := .u8) (m := a0) (n := 48) rfl rfl rfl rfl rfl rfl) ?_
  refine rmv ?_
  rcases ite_some hF with ⟨hb1, hF⟩ | ⟨hb1, hF⟩
  · refine reg_cons (guard_on rfl rfl rfl rfl hb1) (op_move rfl rfl rfl rfl) ?_
    refine reg_cons (guard_on rfl rfl rfl rfl hb1) (op_int (k := .u8) (m := a0) (n := 57) rfl rfl rfl rfl rfl rfl) ?_
    refine rpt hb1 ?_
    refine ras ?_
    refine reg_nil ?_
    refine post_imp (s' := ⟨9, [(2, some (.pv (.bool (decide (a0 ≤ 57)))))], [], 0, [], [], 0, []⟩) (imps [] ⟨by kernel_rfl, trivial⟩ trivial) ?_
    refine post_next ?_
    refine aw_ret ?_
    obtain rfl := Option.some.inj hF
    exact post_ret rfl rfl (.cons _ _ _ _ _ (.tmp _ _ rfl) (.p _) .nil) (.inl rfl)
  iterate 2 (refine rgo_f hb1 ?_)
  refine rpf hb1 ?_
  refine ras ?_
  refine reg_nil ?_
  refine post_imp (s' := ⟨9, [(2, some (.pv (.bool false)))], [], 0, [], [], 0, []⟩) (imps [] ⟨by kernel_rfl, trivial⟩ trivial) ?_
  refine post_next ?_
  refine aw_ret ?_
  obtain rfl := Option.some.inj hF
  exact post_ret rfl rfl (.cons _ _ _ _ _ (.tmp _ _ rfl) (.p _) .nil) (.inl rfl)
theorem ref02_Name_ok {a0 : List UInt8} {r : Bool} (hF : ref02_Name a0 = some r) : Abs.Fn Try.prog 41 [.str a0] [.p (.bool r)] := by
  unfold ref02_Name at hF
  refine fn_of_body (n := 41) Try.func41 rfl rfl rfl ?_
  intro w O
  refine aw_seq ?_
  refine aw_region ?_
  refine ras ?_
  refine reg_nil ?_
  refine post_imp (s' := ⟨41, [(0, some (.pv (.str a0)))], [], 0, [], [], 0, []⟩) (imps [] ⟨by kernel_rfl, trivial⟩ trivial) ?_
  refine post_next ?_
  iterate 2 (refine aw_seq ?_)
  obtain ⟨x10, hF, hK12⟩ := bind_some hF
  refine aw_cut (fun s1 => s1 = ⟨41, [(0, some (.pv (.str a0))), (22, some (.pv (.bool x10)))], [], 0, [], [], 0, []⟩) ?_ ?_
  · refine aw_region ?_
    refine rmv ?_
    refine reg_cons (guard_no rfl) (op_len_str rfl rfl Try_und_9 rfl rfl) ?_
    refine reg_cons (guard_no rfl) (op_int (k := .i64) (m := (a0.length : Int)) (n := 1) rfl rfl rfl rfl rfl rfl) ?_
    refine rmv ?_
    rcases ite_some hF with ⟨hb1, hF⟩ | ⟨hb1, hF⟩
    · refine rgo_t hb1 ?_
      iterate 2 (refine rgo_t hb1 ?_)
      refine rpt hb1 ?_
      refine rmv ?_
      iterate 4 (refine rgo_t rfl ?_)
      refine rpt rfl ?_
      refine rmv ?_
      iterate 3 (refine rgo_t rfl ?_)
      refine rpt rfl ?_
      refine reg_nil ?_
      cases hF
      exact post_cut _ rfl (imps [] ⟨by kernel_rfl, by kernel_rfl, trivial⟩ trivial)
    refine reg_cons (guard_on rfl rfl rfl rfl hb1) (op_move rfl rfl rfl rfl) ?_
    refine reg_cons (guard_on rfl rfl rfl rfl hb1) (op_len_str rfl rfl Try_und_9 rfl rfl) ?_
    refine reg_cons (guard_on rfl rfl rfl rfl hb1) (op_int (k := .i64) (m := (a0.length : Int)) (n := 20) rfl rfl rfl rfl rfl rfl) ?_
    refine rpf hb1 ?_
    refine rmv ?_
    rcases ite_some hF with ⟨hb2, hF⟩ | ⟨hb2, hF⟩
    · refine rgo_t hb2 ?_
      iterate 3 (refine rgo_t hb2 ?_)
      refine rpt hb2 ?_
      refine rmv ?_
      iterate 3 (refine rgo_t rfl ?_)
      refine rpt rfl ?_
      refine reg_nil ?_
      cases hF
      exact post_cut _ rfl (imps [] ⟨by kernel_rfl, by kernel_rfl, trivial⟩ trivial)
    refine reg_cons (guard_on rfl rfl rfl rfl hb2) (op_move rfl rfl rfl rfl) ?_
    obtain ⟨y3, h4, hF⟩ := bind_some hF
    refine reg_cons (guard_on rfl rfl rfl rfl hb2) (op_index_str (k := .i64) rfl rfl rfl h4 Try_und_9 rfl rfl) ?_
    obtain ⟨y5, h6, hF⟩ := bind_some hF
    refine reg_cons (guard_on rfl rfl rfl rfl hb2) (op_call 0 rfl (caps := []) (args := [.int .u8 (y3.toNat : Int)]) (rs := [.p (.bool y5)]) rfl rfl rfl Try_cal_67 (ref02_Letter_ok h6) rfl rfl rfl) ?_
    refine reg_cons (guard_on rfl rfl rfl rfl hb2) (op_not rfl rfl rfl rfl) ?_
    refine rpf hb2 ?_
    refine rmv ?_
    rcases ite_some hF with ⟨hb7, hF⟩ | ⟨hb7, hF⟩
    · refine rgo_t hb7 ?_
      iterate 2 (refine rgo_t hb7 ?_)
      refine rpt hb7 ?_
      refine reg_nil ?_
      cases hF
      exact post_cut _ rfl (imps [] ⟨by kernel_rfl, by kernel_rfl, trivial⟩ trivial)
    refine reg_cons (guard_on rfl rfl rfl rfl hb7) (op_move rfl rfl rfl rfl) ?_
    obtain ⟨y8, h9, hF⟩ := bind_some hF
    refine reg_cons (guard_on rfl rfl rfl rfl hb7) (op_call 0 rfl (caps := []) (args := [.str a0]) (rs := [.p (.int .i64 y8)]) rfl rfl rfl Try_cal_68 (ref02_Find_ok h9) rfl rfl rfl) ?_
    refine reg_cons (guard_on rfl rfl rfl rfl hb7) (op_int (k := .i64) (m := y8) (n := 0) rfl rfl rfl rfl rfl rfl) ?_
    refine rpf hb7 ?_
    refine reg_nil ?_
    cases hF
    exact post_cut _ rfl (imps [] ⟨by kernel_rfl, by kernel_rfl, trivial⟩ trivial)
  rintro _ rfl
  have hF := hK12
  clear hK12
  refine post_next ?_
  rcases ite_some hF with ⟨hb13, hF⟩ | ⟨hb13, hF⟩
  · refine aw_cond_t rfl hb13 ?_
    refine aw_seq ?_
    refine aw_region ?_
    refine ras ?_
    refine reg_nil ?_
    refine post_imp (s' := ⟨41, [(2, some (.pv (.bool false)))], [], 0, [], [], 0, []⟩) (imps [] ⟨by kernel_rfl, trivial⟩ trivial) ?_
    refine post_next ?_
    refine aw_ret ?_
    refine post_then_ret ?_
    obtain rfl := Option.some.inj hF
    exact post_ret rfl rfl (.cons _ _ _ _ _ (.tmp _ _ rfl) (.p _) .nil) (.inl rfl)
  refine aw_cond_f rfl hb13 ?_
  refine aw_skip ?_
  refine post_next ?_
  iterate 2 (refine aw_seq ?_)
  refine aw_region ?_
  refine ras ?_
  refine reg_nil ?_
  refine post_imp (s' := ⟨41, [(0, some (.pv (.str a0))), (3, some (.pv (.int .i64 0)))], [], 0, [], [], 0, []⟩) (imps [] ⟨by kernel_rfl, by kernel_rfl, trivial⟩ trivial) ?_
  refine post_next ?_
  obtain ⟨lr71, hF, hK72⟩ := bind_some hF
  refine aw_for ((((a0.length : Int) : Int) - (0)).toNat + 1) (fun s1 => ∃ q, lr71 = .next q ∧ s1 = ⟨41, [], [], 0, [], [], 0, []⟩) ?_ ?_
  · refine rnd_loop (α := Int) (fun q => ⟨41, [(0, some (.pv (.str a0))), (3, some (.pv (.int .i64 q)))], [], 0, [], [], 0, []⟩) (fun k q => ref02_Name_L1 a0 k q = some lr71) 0 (imps [] ⟨by kernel_rfl, by kernel_rfl, trivial⟩ trivial) hF (fun q h => by cases h) ?_
    clear hF
    rintro k x32 hF ih
    refine rnd_succ ?_
    iterate 2 (refine aw_seq ?_)
    refine aw_region ?_
    iterate 2 (refine rmv ?_)
    refine reg_cons (guard_no rfl) (op_len_str rfl rfl Try_und_9 rfl rfl) ?_
    refine reg_cons (guard_no rfl) (op_int (k := .i64) (m := x32) (n := (a0.length : Int)) rfl rfl rfl rfl rfl rfl) ?_
    refine reg_nil ?_
    refine post_imp (s' := ⟨41, [(0, some (.pv (.str a0))), (3, some (.pv (.int .i64 x32))), (26, some (.pv (.bool (decide (x32 < (a0.length : Int))))))], [], 0, [], [], 0, []⟩) (imps [] ⟨by kernel_rfl, by kernel_rfl, by kernel_rfl, trivial⟩ trivial) ?_
    refine post_next ?_
    rcases ite_some hF with ⟨hb52, hF⟩ | ⟨hb52, hF⟩
    · refine aw_cond_t rfl hb52 ?_
      refine aw_skip ?_
      refine post_next ?_
      refine aw_seq ?_
      refine aw_block ?_
      refine aw_seq ?_
      obtain ⟨x66, hF, hK68⟩ := bind_some hF
      refine aw_cut (fun s1 => s1 = ⟨41, [(0, some (.pv (.str a0))), (3, some (.pv (.int .i64 x32))), (40, some (.pv (.bool x66)))], [], 0, [], [], 0, []⟩) ?_ ?_
      · refine aw_region ?_
        iterate 2 (refine rmv ?_)
        obtain ⟨y57, h58, hF⟩ := bind_some hF
        refine reg_cons (guard_no rfl) (op_index_str (k := .i64) rfl rfl rfl h58 Try_und_9 rfl rfl) ?_
        obtain ⟨y59, h60, hF⟩ := bind_some hF
        refine reg_cons (guard_no rfl) (op_call 0 rfl (caps := []) (args := [.int .u8 (y57.toNat : Int)]) (rs := [.p (.bool y59)]) rfl rfl rfl Try_cal_67 (ref02_Letter_ok h60) rfl rfl rfl) ?_
        refine reg_cons (guard_no rfl) (op_not rfl rfl rfl rfl) ?_
        refine rmv ?_
        rcases ite_some hF with ⟨hb61, hF⟩ | ⟨hb61, hF⟩
        · refine reg_cons (guard_on rfl rfl rfl rfl hb61) (op_move rfl rfl rfl rfl) ?_
          refine reg_cons (guard_on rfl rfl rfl rfl hb61) (op_move rfl rfl rfl rfl) ?_
          obtain ⟨y62, h63, hF⟩ := bind_some hF
          refine reg_cons (guard_on rfl rfl rfl rfl hb61) (op_index_str (k := .i64) rfl rfl rfl h63 Try_und_9 rfl rfl) ?_
          obtain ⟨y64, h65, hF⟩ := bind_some hF
          refine reg_cons (guard_on rfl rfl rfl rfl hb61) (op_call 0 rfl (caps := []) (args := [.int .u8 (y62.toNat : Int)]) (rs := [.p (.bool y64)]) rfl rfl rfl Try_cal_69 (ref02_Digit_ok h65) rfl rfl rfl) ?_
          refine reg_cons (guard_on rfl rfl rfl rfl hb61) (op_not rfl rfl rfl rfl) ?_
          refine rpt hb61 ?_
          refine reg_nil ?_
          cases hF
          exact post_cut _ rfl (imps [] ⟨by kernel_rfl, by kernel_rfl, by kernel_rfl, trivial⟩ trivial)
        iterate 5 (refine rgo_f hb61 ?_)
        refine rpf hb61 ?_
        refine reg_nil ?_
        cases hF
        exact post_cut _ rfl (imps [] ⟨by kernel_rfl, by kernel_rfl, by kernel_rfl, trivial⟩ trivial)
      rintro _ rfl
      have hF := hK68
      clear hK68
      refine post_next ?_
      rcases ite_some hF with ⟨hb69, hF⟩ | ⟨hb69, hF⟩
      · refine aw_cond_t rfl hb69 ?_
        refine aw_seq ?_
        refine aw_region ?_
        refine ras ?_
        refine reg_nil ?_
        refine post_imp (s' := ⟨41, [(2, some (.pv (.bool false)))], [], 0, [], [], 0, []⟩) (imps [] ⟨by kernel_rfl, trivial⟩ trivial) ?_
        refine post_next ?_
        refine aw_ret ?_
        refine post_block_ret ?_
        iterate 2 (refine post_then_ret ?_)
        refine post_lp_ret ?_
        obtain rfl := Option.some.inj hF
        have hF := elim_stop hK72
        refine post_then_ret ?_
        obtain rfl := Option.some.inj hF
        exact post_ret rfl rfl (.cons _ _ _ _ _ (.tmp _ _ rfl) (.p _) .nil) (.inl rfl)
      refine aw_cond_f rfl hb69 ?_
      refine aw_skip ?_
      refine post_block_normal ?_
      refine post_next ?_
      refine aw_region ?_
      refine rmv ?_
      refine reg_cons (guard_no rfl) (op_int (k := .i64) (m := x32) (n := 1) rfl rfl rfl rfl rfl rfl) ?_
      refine ras ?_
      refine reg_nil ?_
      refine post_round ?_
      exact rnd_back (ih (w_i64 (x32 + 1)) hF) (imps [] ⟨by kernel_rfl, by kernel_rfl, trivial⟩ trivial)
    refine aw_cond_f rfl hb52 ?_
    refine aw_exit ?_
    iterate 2 (refine post_then_exit ?_)
    obtain rfl := Option.some.inj hF
    exact post_lp_break _ ⟨_, rfl, rfl⟩ (imps [] trivial trivial)
  rintro _ ⟨⟨⟩, rfl, rfl⟩
  have hF := elim_next hK72
  clear hK72
  refine post_next ?_
  refine aw_seq ?_
  refine aw_region ?_
  refine ras ?_
  refine reg_nil ?_
  refine post_imp (s' := ⟨41, [(2, some (.pv (.bool true)))], [], 0, [], [], 0, []⟩) (imps [] ⟨by kernel_rfl, trivial⟩ trivial) ?_
  refine post_next ?_
  refine aw_ret ?_
  obtain rfl := Option.some.inj hF
  exact post_ret rfl rfl (.cons _ _ _ _ _ (.tmp _ _ rfl) (.p _) .nil) (.inl rfl)
theorem ref04_Right_ok {a0 : GOwner} {a1 : Int} {r : Bool} (hF : ref04_Right a0 a1 = some r) : Abs.Fn Try.prog 42 [.agg (eGOwner a0), .int .i64 a1] [.p (.bool r)] := by
  unfold ref04_Right at hF
  refine fn_of_body (n := 51) Try.func42 rfl rfl rfl ?_
  intro w O
  refine aw_seq ?_
  refine aw_region ?_
  refine reg_cons (guard_no rfl) (op_box 0 rfl rfl rfl rfl rfl rfl) ?_
  refine ras ?_
  refine reg_nil ?_
  refine post_imp (s' := ⟨51, [(1, some (.pv (.int .i64 a1))), (2, some (.lp 0 0))], [(0, some (.box 24 (bxv (eGOwner a0))))], 1, [], [], 0, []⟩) (imps [0] ⟨by kernel_rfl, by kernel_rfl, trivial⟩ ⟨by kernel_rfl, trivial⟩) ?_
  refine post_next ?_
  iterate 2 (refine aw_seq ?_)
  refine aw_region ?_
  refine reg_cons (guard_no rfl) (op_field_lp rfl rfl Try_fld_24_0 rfl rfl) ?_
  refine reg_cons (guard_no rfl) (op_load_lp (v := .pv (.int .i64 a0.fKind)) rfl rfl rfl rfl Try_one_3 rfl rfl) ?_
  refine reg_cons (guard_no rfl) (op_int (k := .i64) (m := a0.fKind) (n := 3) rfl rfl rfl rfl rfl rfl) ?_
  refine reg_nil ?_
  refine post_imp (s' := ⟨51, [(1, some (.pv (.int .i64 a1))), (2, some (.lp 0 0)), (7, some (.pv (.bool (a0.fKind == 3))))], [(0, some (.box 24 (bxv (eGOwner a0))))], 1, [], [], 0, []⟩) (imps [0] ⟨by kernel_rfl, by kernel_rfl, by kernel_rfl, trivial⟩ ⟨by kernel_rfl, trivial⟩) ?_
  refine post_next ?_
  rcases ite_some hF with ⟨hb1, hF⟩ | ⟨hb1, hF⟩
  · refine aw_cond_t rfl hb1 ?_
    refine aw_seq ?_
    refine aw_region ?_
    refine reg_cons (guard_no rfl) (op_field_lp rfl rfl Try_fld_24_1 rfl rfl) ?_
    refine reg_cons (guard_no rfl) (op_load_lp (v := .pv (.int .i64 a0.fN)) rfl rfl rfl rfl Try_one_3 rfl rfl) ?_
    refine reg_cons (guard_no rfl) (op_int (k := .i64) (m := a0.fN) (n := 1) rfl rfl rfl rfl rfl rfl) ?_
    refine rmv ?_
    rcases ite_some hF with ⟨hb2, hF⟩ | ⟨hb2, hF⟩
    · refine reg_cons (guard_on rfl rfl rfl rfl hb2) (op_field_lp rfl rfl Try_fld_24_1 rfl rfl) ?_
      refine reg_cons (guard_on rfl rfl rfl rfl hb2) (op_load_lp (v := .pv (.int .i64 a0.fN)) rfl rfl rfl rfl Try_one_3 rfl rfl) ?_
      refine reg_cons (guard_on rfl rfl rfl rfl hb2) (op_move rfl rfl rfl rfl) ?_
      refine reg_cons (guard_on rfl rfl rfl rfl hb2) (op_int (k := .i64) (m := a0.fN) (n := a1) rfl rfl rfl rfl rfl rfl) ?_
      refine rpt hb2 ?_
      refine ras ?_
      refine reg_nil ?_
      refine post_imp (s' := ⟨51, [(4, some (.pv (.bool (decide (a0.fN ≤ a1)))))], [], 0, [], [], 0, []⟩) (imps [] ⟨by kernel_rfl, trivial⟩ trivial) ?_
      refine post_next ?_
      refine aw_ret ?_
      refine post_then_ret ?_
      obtain rfl := Option.some.inj hF
      exact post_ret rfl rfl (.cons _ _ _ _ _ (.tmp _ _ rfl) (.p _) .nil) (.inl rfl)
    iterate 4 (refine rgo_f hb2 ?_)
    refine rpf hb2 ?_
    refine ras ?_
    refine reg_nil ?_
    refine post_imp (s' := ⟨51, [(4, some (.pv (.bool false)))], [], 0, [], [], 0, []⟩) (imps [] ⟨by kernel_rfl, trivial⟩ trivial) ?_
    refine post_next ?_
    refine aw_ret ?_
    refine post_then_ret ?_
    obtain rfl := Option.some.inj hF
    exact post_ret rfl rfl (.cons _ _ _ _ _ (.tmp _ _ rfl) (.p _) .nil) (.inl rfl)
  refine aw_cond_f rfl hb1 ?_
  refine aw_skip ?_
  refine post_next ?_
  iterate 2 (refine aw_seq ?_)
  refine aw_region ?_
  refine reg_cons (guard_no rfl) (op_field_lp rfl rfl Try_fld_24_0 rfl rfl) ?_
  refine reg_cons (guard_no rfl) (op_load_lp (v := .pv (.int .i64 a0.fKind)) rfl rfl rfl rfl Try_one_3 rfl rfl) ?_
  refine reg_cons (guard_no rfl) (op_int (k := .i64) (m := a0.fKind) (n := 7) rfl rfl rfl rfl rfl rfl) ?_
  refine reg_nil ?_
  refine post_imp (s' := ⟨51, [(2, some (.lp 0 0)), (19, some (.pv (.bool (a0.fKind == 7))))], [(0, some (.box 24 (bxv (eGOwner a0))))], 1, [], [], 0, []⟩) (imps [0] ⟨by kernel_rfl, by kernel_rfl, trivial⟩ ⟨by kernel_rfl, trivial⟩) ?_
  refine post_next ?_
  rcases ite_some hF with ⟨hb3, hF⟩ | ⟨hb3, hF⟩
  · refine aw_cond_t rfl hb3 ?_
    refine aw_seq ?_
    refine aw_region ?_
    refine reg_cons (guard_no rfl) (op_field_lp rfl rfl Try_fld_24_1 rfl rfl) ?_
    refine reg_cons (guard_no rfl) (op_load_lp (v := .pv (.int .i64 a0.fN)) rfl rfl rfl rfl Try_one_3 rfl rfl) ?_
    refine reg_cons (guard_no rfl) (op_int (k := .i64) (m := a0.fN) (n := 0) rfl rfl rfl rfl rfl rfl) ?_
    refine ras ?_
    refine reg_nil ?_
    refine post_imp (s' := ⟨51, [(4, some (.pv (.bool (decide (a0.fN ≥ 0)))))], [], 0, [], [], 0, []⟩) (imps [] ⟨by kernel_rfl, trivial⟩ trivial) ?_
    refine post_next ?_
    refine aw_ret ?_
    refine post_then_ret ?_
    obtain rfl := Option.some.inj hF
    exact post_ret rfl rfl (.cons _ _ _ _ _ (.tmp _ _ rfl) (.p _) .nil) (.inl rfl)
  refine aw_cond_f rfl hb3 ?_
  refine aw_skip ?_
  refine post_next ?_
  refine aw_seq ?_
  refine aw_region ?_
  refine reg_cons (guard_no rfl) (op_field_lp rfl rfl Try_fld_24_1 rfl rfl) ?_
  refine reg_cons (guard_no rfl) (op_load_lp (v := .pv (.int .i64 a0.fN)) rfl rfl rfl rfl Try_one_3 rfl rfl) ?_
  refine reg_cons (guard_no rfl) (op_int (k := .i64) (m := a0.fN) (n := 0) rfl rfl rfl rfl rfl rfl) ?_
  refine rmv ?_
  rcases ite_some hF with ⟨hb4, hF⟩ | ⟨hb4, hF⟩
  · refine reg_cons (guard_on rfl rfl rfl rfl hb4) (op_field_lp rfl rfl Try_fld_24_0 rfl rfl) ?_
    refine reg_cons (guard_on rfl rfl rfl rfl hb4) (op_load_lp (v := .pv (.int .i64 a0.fKind)) rfl rfl rfl rfl Try_one_3 rfl rfl) ?_
    refine reg_cons (guard_on rfl rfl rfl rfl hb4) (op_int (k := .i64) (m := a0.fKind) (n := 1) rfl rfl rfl rfl rfl rfl) ?_
    refine reg_cons (guard_on rfl rfl rfl rfl hb4) (op_move rfl rfl rfl rfl) ?_
    rcases ite_some hF with ⟨hb5, hF⟩ | ⟨hb5, hF⟩
    · refine rgo_t hb5 ?_
      iterate 2 (refine rgo_t hb5 ?_)
      refine reg_cons (guard_on rfl rfl rfl rfl hb4) (op_pick_t rfl rfl hb5 rfl rfl rfl) ?_
      refine reg_cons (guard_on rfl rfl rfl rfl hb4) (op_move rfl rfl rfl rfl) ?_
      iterate 3 (refine rgo_t rfl ?_)
      refine reg_cons (guard_on rfl rfl rfl rfl hb4) (op_pick_t rfl rfl rfl rfl rfl rfl) ?_
      refine reg_cons (guard_on rfl rfl rfl rfl hb4) (op_move rfl rfl rfl rfl) ?_
      iterate 3 (refine rgo_t rfl ?_)
      refine reg_cons (guard_on rfl rfl rfl rfl hb4) (op_pick_t rfl rfl rfl rfl rfl rfl) ?_
      refine reg_cons (guard_on rfl rfl rfl rfl hb4) (op_move rfl rfl rfl rfl) ?_
      iterate 3 (refine rgo_t rfl ?_)
      refine reg_cons (guard_on rfl rfl rfl rfl hb4) (op_pick_t rfl rfl rfl rfl rfl rfl) ?_
      refine rpt hb4 ?_
      refine ras ?_
      refine reg_nil ?_
      refine post_imp (s' := ⟨51, [(4, some (.pv (.bool true)))], [], 0, [], [], 0, []⟩) (imps [] ⟨by kernel_rfl, trivial⟩ trivial) ?_
      refine post_next ?_
      refine aw_ret ?_
      obtain rfl := Option.some.inj hF
      exact post_ret rfl rfl (.cons _ _ _ _ _ (.tmp _ _ rfl) (.p _) .nil) (.inl rfl)
    refine reg_cons (guard_on rfl rfl rfl rfl hb5) (op_field_lp rfl rfl Try_fld_24_0 rfl rfl) ?_
    refine reg_cons (guard_on rfl rfl rfl rfl hb5) (op_load_lp (v := .pv (.int .i64 a0.fKind)) rfl rfl rfl rfl Try_one_3 rfl rfl) ?_
    refine reg_cons (guard_on rfl rfl rfl rfl hb5) (op_int (k := .i64) (m := a0.fKind) (n := 2) rfl rfl rfl rfl rfl rfl) ?_
    refine reg_cons (guard_on rfl rfl rfl rfl hb4) (op_pick_f rfl rfl hb5 rfl rfl rfl) ?_
    refine reg_cons (guard_on rfl rfl rfl rfl hb4) (op_move rfl rfl rfl rfl) ?_
    rcases ite_some hF with ⟨hb6, hF⟩ | ⟨hb6, hF⟩
    · refine rgo_t hb6 ?_
      iterate 2 (refine rgo_t hb6 ?_)
      refine reg_cons (guard_on rfl rfl rfl rfl hb4) (op_pick_t rfl rfl hb6 rfl rfl rfl) ?_
      refine reg_cons (guard_on rfl rfl rfl rfl hb4) (op_move rfl rfl rfl rfl) ?_
      iterate 3 (refine rgo_t rfl ?_)
      refine reg_cons (guard_on rfl rfl rfl rfl hb4) (op_pick_t rfl rfl rfl rfl rfl rfl) ?_
      refine reg_cons (guard_on rfl rfl rfl rfl hb4) (op_move rfl rfl rfl rfl) ?_
      iterate 3 (refine rgo_t rfl ?_)
      refine reg_cons (guard_on rfl rfl rfl rfl hb4) (op_pick_t rfl rfl rfl rfl rfl rfl) ?_
      refine rpt hb4 ?_
      refine ras ?_
      refine reg_nil ?_
      refine post_imp (s' := ⟨51, [(4, some (.pv (.bool true)))], [], 0, [], [], 0, []⟩) (imps [] ⟨by kernel_rfl, trivial⟩ trivial) ?_
      refine post_next ?_
      refine aw_ret ?_
      obtain rfl := Option.some.inj hF
      exact post_ret rfl rfl (.cons _ _ _ _ _ (.tmp _ _ rfl) (.p _) .nil) (.inl rfl)
    refine reg_cons (guard_on rfl rfl rfl rfl hb6) (op_field_lp rfl rfl Try_fld_24_0 rfl rfl) ?_
    refine reg_cons (guard_on rfl rfl rfl rfl hb6) (op_load_lp (v := .pv (.int .i64 a0.fKind)) rfl rfl rfl rfl Try_one_3 rfl rfl) ?_
    refine reg_cons (guard_on rfl rfl rfl rfl hb6) (op_int (k := .i64) (m := a0.fKind) (n := 4) rfl rfl rfl rfl rfl rfl) ?_
    refine reg_cons (guard_on rfl rfl rfl rfl hb4) (op_pick_f rfl rfl hb6 rfl rfl rfl) ?_
    refine reg_cons (guard_on rfl rfl rfl rfl hb4) (op_move rfl rfl rfl rfl) ?_
    rcases ite_some hF with ⟨hb7, hF⟩ | ⟨hb7, hF⟩
    · refine rgo_t hb7 ?_
      iterate 2 (refine rgo_t hb7 ?_)
      refine reg_cons (guard_on rfl rfl rfl rfl hb4) (op_pick_t rfl rfl hb7 rfl rfl rfl) ?_
      refine reg_cons (guard_on rfl rfl rfl rfl hb4) (op_move rfl rfl rfl rfl) ?_
      iterate 3 (refine rgo_t rfl ?_)
      refine reg_cons (guard_on rfl rfl rfl rfl hb4) (op_pick_t rfl rfl rfl rfl rfl rfl) ?_
      refine rpt hb4 ?_
      refine ras ?_
      refine reg_nil ?_
      refine post_imp (s' := ⟨51, [(4, some (.pv (.bool true)))], [], 0, [], [], 0, []⟩) (imps [] ⟨by kernel_rfl, trivial⟩ trivial) ?_
      refine post_next ?_
      refine aw_ret ?_
      obtain rfl := Option.some.inj hF
      exact post_ret rfl rfl (.cons _ _ _ _ _ (.tmp _ _ rfl) (.p _) .nil) (.inl rfl)
    refine reg_cons (guard_on rfl rfl rfl rfl hb7) (op_field_lp rfl rfl Try_fld_24_0 rfl rfl) ?_
    refine reg_cons (guard_on rfl rfl rfl rfl hb7) (op_load_lp (v := .pv (.int .i64 a0.fKind)) rfl rfl rfl rfl Try_one_3 rfl rfl) ?_
    refine reg_cons (guard_on rfl rfl rfl rfl hb7) (op_int (k := .i64) (m := a0.fKind) (n := 5) rfl rfl rfl rfl rfl rfl) ?_
    refine reg_cons (guard_on rfl rfl rfl rfl hb4) (op_pick_f rfl rfl hb7 rfl rfl rfl) ?_
    refine reg_cons (guard_on rfl rfl rfl rfl hb4) (op_move rfl rfl rfl rfl) ?_
    rcases ite_some hF with ⟨hb8, hF⟩ | ⟨hb8, hF⟩
    · refine rgo_t hb8 ?_
      iterate 2 (refine rgo_t hb8 ?_)
      refine reg_cons (guard_on rfl rfl rfl rfl hb4) (op_pick_t rfl rfl hb8 rfl rfl rfl) ?_
      refine rpt hb4 ?_
      refine ras ?_
      refine reg_nil ?_
      refine post_imp (s' := ⟨51, [(4, some (.pv (.bool true)))], [], 0, [], [], 0, []⟩) (imps [] ⟨by kernel_rfl, trivial⟩ trivial) ?_
      refine post_next ?_
      refine aw_ret ?_
      obtain rfl := Option.some.inj hF
      exact post_ret rfl rfl (.cons _ _ _ _ _ (.tmp _ _ rfl) (.p _) .nil) (.inl rfl)
    refine reg_cons (guard_on rfl rfl rfl rfl hb8) (op_field_lp rfl rfl Try_fld_24_0 rfl rfl) ?_
    refine reg_cons (guard_on rfl rfl rfl rfl hb8) (op_load_lp (v := .pv (.int .i64 a0.fKind)) rfl rfl rfl rfl Try_one_3 rfl rfl) ?_
    refine reg_cons (guard_on rfl rfl rfl rfl hb8) (op_int (k := .i64) (m := a0.fKind) (n := 6) rfl rfl rfl rfl rfl rfl) ?_
    refine reg_cons (guard_on rfl rfl rfl rfl hb4) (op_pick_f rfl rfl hb8 rfl rfl rfl) ?_
    refine rpt hb4 ?_
    refine ras ?_
    refine reg_nil ?_
    refine post_imp (s' := ⟨51, [(4, some (.pv (.bool (a0.fKind == 6))))], [], 0, [], [], 0, []⟩) (imps [] ⟨by kernel_rfl, trivial⟩ trivial) ?_
    refine post_next ?_
    refine aw_ret ?_
    obtain rfl := Option.some.inj hF
    exact post_ret rfl rfl (.cons _ _ _ _ _ (.tmp _ _ rfl) (.p _) .nil) (.inl rfl)
  iterate 4 (refine rgo_f hb4 ?_)
  iterate 3 (refine rgu ?_)
  iterate 2 (refine rgo_f hb4 ?_)
  iterate 3 (refine rgu ?_)
  iterate 2 (refine rgo_f hb4 ?_)
  iterate 3 (refine rgu ?_)
  iterate 2 (refine rgo_f hb4 ?_)
  iterate 3 (refine rgu ?_)
  refine rgo_f hb4 ?_
  refine rpf hb4 ?_
  refine ras ?_
  refine reg_nil ?_
  refine post_imp (s' := ⟨51, [(4, some (.pv (.bool false)))], [], 0, [], [], 0, []⟩) (imps [] ⟨by kernel_rfl, trivial⟩ trivial) ?_
  refine post_next ?_
  refine aw_ret ?_
  obtain rfl := Option.some.inj hF
  exact post_ret rfl rfl (.cons _ _ _ _ _ (.tmp _ _ rfl) (.p _) .nil) (.inl rfl)
theorem ref05_Right_ok {a0 : GType} {a1 : Int} {r : Bool} (hF : ref05_Right a0 a1 = some r) : Abs.Fn Try.prog 15 [.agg (eGType a0), .int .i64 a1] [.p (.bool r)] := by
  unfold ref05_Right at hF
  refine fn_of_body (n := 77) Try.func15 rfl rfl rfl ?_
  intro w O
  refine aw_seq ?_
  refine aw_region ?_
  refine reg_cons (guard_no rfl) (op_box 0 rfl rfl rfl rfl rfl rfl) ?_
  refine ras ?_
  refine reg_nil ?_
  refine post_imp (s' := ⟨77, [(1, some (.pv (.int .i64 a1))), (2, some (.lp 0 0))], [(0, some (.box 27 (bxv (eGType a0))))], 1, [], [], 0, []⟩) (imps [0] ⟨by kernel_rfl, by kernel_rfl, trivial⟩ ⟨by kernel_rfl, trivial⟩) ?_
  refine post_next ?_
  iterate 2 (refine aw_seq ?_)
  obtain ⟨x2, hF, hK4⟩ := bind_some hF
  refine aw_cut (fun s1 => s1 = ⟨77, [(1, some (.pv (.int .i64 a1))), (2, some (.lp 0 0)), (14, some (.pv (.bool x2)))], [(0, some (.box 27 (bxv (eGType a0))))], 1, [], [], 0, []⟩) ?_ ?_
  · refine aw_region ?_
    refine reg_cons (guard_no rfl) (op_field_lp rfl rfl Try_fld_27_0 rfl rfl) ?_
    refine reg_cons (guard_no rfl) (op_load_lp (v := .pv (.int .i64 a0.fKind)) rfl rfl rfl rfl Try_one_3 rfl rfl) ?_
    refine reg_cons (guard_no rfl) (op_int (k := .i64) (m := a0.fKind) (n := 0) rfl rfl rfl rfl rfl rfl) ?_
    refine rmv ?_
    rcases ite_some hF with ⟨hb1, hF⟩ | ⟨hb1, hF⟩
    · refine rgo_t hb1 ?_
      iterate 2 (refine rgo_t hb1 ?_)
      refine rpt hb1 ?_
      refine reg_nil ?_
      cases hF
      exact post_cut _ rfl (imps [0] ⟨by kernel_rfl, by kernel_rfl, by kernel_rfl, trivial⟩ ⟨by kernel_rfl, trivial⟩)
    refine reg_cons (guard_on rfl rfl rfl rfl hb1) (op_field_lp rfl rfl Try_fld_27_0 rfl rfl) ?_
    refine reg_cons (guard_on rfl rfl rfl rfl hb1) (op_load_lp (v := .pv (.int .i64 a0.fKind)) rfl rfl rfl rfl Try_one_3 rfl rfl) ?_
    refine reg_cons (guard_on rfl rfl rfl rfl hb1) (op_int (k := .i64) (m := a0.fKind) (n := 1) rfl rfl rfl rfl rfl rfl) ?_
    refine rpf hb1 ?_
    refine reg_nil ?_
    cases hF
    exact post_cut _ rfl (imps [0] ⟨by kernel_rfl, by kernel_rfl, by kernel_rfl, trivial⟩ ⟨by kernel_rfl, trivial⟩)
  rintro _ rfl
  have hF := hK4
  clear hK4
  refine post_next ?_
  rcases ite_some hF with ⟨hb5, hF⟩ | ⟨hb5, hF⟩
  · refine aw_cond_t rfl hb5 ?_
    refine aw_seq ?_
    refine aw_region ?_
    refine reg_cons (guard_no rfl) (op_load_lp_agg (ps := eGType a0) rfl rfl rfl rfl rfl rfl Try_agg_27 rfl rfl) ?_
    refine reg_cons (guard_no rfl) (op_field_lp rfl rfl Try_fld_27_0 rfl rfl) ?_
    refine reg_cons (guard_no rfl) (op_load_lp (v := .pv (.int .i64 a0.fKind)) rfl rfl rfl rfl Try_one_3 rfl rfl) ?_
    refine reg_cons (guard_no rfl) (op_build (zs := (eGType zGType)) (r := eGType ({ fKind := a0.fKind, fClass := [], fN := 0, fOwn := (⟨zGOwner, zGOwner, zGOwner, zGOwner⟩ : A4 GOwner) } : GType)) rfl Try_zer_27 (by exact ⟨rfl, rfl, rfl, rfl, rfl, rfl, rfl, rfl, rfl, rfl, rfl, trivial⟩) Try_plc_27 rfl rfl rfl rfl) ?_
    refine reg_cons (guard_no rfl) (op_eqAgg_eql (r := bGType a0 ({ fKind := a0.fKind, fClass := [], fN := 0, fOwn := (⟨zGOwner, zGOwner, zGOwner, zGOwner⟩ : A4 GOwner) } : GType)) rfl rfl rfl Try_eqt_27 rfl rfl rfl rfl rfl) ?_
    refine ras ?_
    refine reg_nil ?_
    refine post_imp (s' := ⟨77, [(4, some (.pv (.bool (bGType a0 ({ fKind := a0.fKind, fClass := [], fN := 0, fOwn := (⟨zGOwner, zGOwner, zGOwner, zGOwner⟩ : A4 GOwner) } : GType)))))], [], 0, [], [], 0, []⟩) (imps [] ⟨by kernel_rfl, trivial⟩ trivial) ?_
    refine post_next ?_
    refine aw_ret ?_
    refine post_then_ret ?_
    obtain rfl := Option.some.inj hF
    exact post_ret rfl rfl (.cons _ _ _ _ _ (.tmp _ _ rfl) (.p _) .nil) (.inl rfl)
  refine aw_cond_f rfl hb5 ?_
  refine aw_skip ?_
  refine post_next ?_
  iterate 2 (refine aw_seq ?_)
  obtain ⟨x11, hF, hK13⟩ := bind_some hF
  refine aw_cut (fun s1 => s1 = ⟨77, [(1, some (.pv (.int .i64 a1))), (2, some (.lp 0 0)), (38, some (.pv (.bool x11)))], [(0, some (.box 27 (bxv (eGType a0))))], 1, [], [], 0, []⟩) ?_ ?_
  · refine aw_region ?_
    refine reg_cons (guard_no rfl) (op_field_lp rfl rfl Try_fld_27_0 rfl rfl) ?_
    refine reg_cons (guard_no rfl) (op_load_lp (v := .pv (.int .i64 a0.fKind)) rfl rfl rfl rfl Try_one_3 rfl rfl) ?_
    refine reg_cons (guard_no rfl) (op_int (k := .i64) (m := a0.fKind) (n := 2) rfl rfl rfl rfl rfl rfl) ?_
    refine rmv ?_
    rcases ite_some hF with ⟨hb6, hF⟩ | ⟨hb6, hF⟩
    · refine rgo_t hb6 ?_
      iterate 3 (refine rgo_t hb6 ?_)
      refine rpt hb6 ?_
      refine rmv ?_
      iterate 3 (refine rgo_t rfl ?_)
      refine rpt rfl ?_
      refine rmv ?_
      iterate 3 (refine rgo_t rfl ?_)
      refine rpt rfl ?_
      refine reg_nil ?_
      cases hF
      exact post_cut _ rfl (imps [0] ⟨by kernel_rfl, by kernel_rfl, by kernel_rfl, trivial⟩ ⟨by kernel_rfl, trivial⟩)
    refine reg_cons (guard_on rfl rfl rfl rfl hb6) (op_field_lp rfl rfl Try_fld_27_1 rfl rfl) ?_
    refine reg_cons (guard_on rfl rfl rfl rfl hb6) (op_load_lp (v := .pv (.str a0.fClass)) rfl rfl rfl rfl Try_one_9 rfl rfl) ?_
    obtain ⟨y7, h8, hF⟩ := bind_some hF
    refine reg_cons (guard_on rfl rfl rfl rfl hb6) (op_call 1 rfl (caps := []) (args := [.str a0.fClass]) (rs := [.p (.bool y7)]) rfl rfl rfl Try_cal_41 (ref02_Name_ok h8) rfl rfl rfl) ?_
    refine reg_cons (guard_on rfl rfl rfl rfl hb6) (op_not rfl rfl rfl rfl) ?_
    refine rpf hb6 ?_
    refine rmv ?_
    rcases ite_some hF with ⟨hb9, hF⟩ | ⟨hb9, hF⟩
    · refine rgo_t hb9 ?_
      iterate 2 (refine rgo_t hb9 ?_)
      refine rpt hb9 ?_
      refine rmv ?_
      iterate 3 (refine rgo_t rfl ?_)
      refine rpt rfl ?_
      refine reg_nil ?_
      cases hF
      exact post_cut _ rfl (imps [0] ⟨by kernel_rfl, by kernel_rfl, by kernel_rfl, trivial⟩ ⟨by kernel_rfl, trivial⟩)
    refine reg_cons (guard_on rfl rfl rfl rfl hb9) (op_field_lp rfl rfl Try_fld_27_2 rfl rfl) ?_
    refine reg_cons (guard_on rfl rfl rfl rfl hb9) (op_load_lp (v := .pv (.int .i64 a0.fN)) rfl rfl rfl rfl Try_one_3 rfl rfl) ?_
    refine reg_cons (guard_on rfl rfl rfl rfl hb9) (op_int (k := .i64) (m := a0.fN) (n := 0) rfl rfl rfl rfl rfl rfl) ?_
    refine rpf hb9 ?_
    refine rmv ?_
    rcases ite_some hF with ⟨hb10, hF⟩ | ⟨hb10, hF⟩
    · refine rgo_t hb10 ?_
      iterate 2 (refine rgo_t hb10 ?_)
      refine rpt hb10 ?_
      refine reg_nil ?_
      cases hF
      exact post_cut _ rfl (imps [0] ⟨by kernel_rfl, by kernel_rfl, by kernel_rfl, trivial⟩ ⟨by kernel_rfl, trivial⟩)
    refine reg_cons (guard_on rfl rfl rfl rfl hb10) (op_field_lp rfl rfl Try_fld_27_2 rfl rfl) ?_
    refine reg_cons (guard_on rfl rfl rfl rfl hb10) (op_load_lp (v := .pv (.int .i64 a0.fN)) rfl rfl rfl rfl Try_one_3 rfl rfl) ?_
    refine reg_cons (guard_on rfl rfl rfl rfl hb10) (op_int (k := .i64) (m := a0.fN) (n := 3) rfl rfl rfl rfl rfl rfl) ?_
    refine rpf hb10 ?_
    refine reg_nil ?_
    cases hF
    exact post_cut _ rfl (imps [0] ⟨by kernel_rfl, by kernel_rfl, by kernel_rfl, trivial⟩ ⟨by kernel_rfl, trivial⟩)
  rintro _ rfl
  have hF := hK13
  clear hK13
  refine post_next ?_
  rcases ite_some hF with ⟨hb14, hF⟩ | ⟨hb14, hF⟩
  · refine aw_cond_t rfl hb14 ?_
    refine aw_seq ?_
    refine aw_region ?_
    refine ras ?_
    refine reg_nil ?_
    refine post_imp (s' := ⟨77, [(4, some (.pv (.bool false)))], [], 0, [], [], 0, []⟩) (imps [] ⟨by kernel_rfl, trivial⟩ trivial) ?_
    refine post_next ?_
    refine aw_ret ?_
    refine post_then_ret ?_
    obtain rfl := Option.some.inj hF
    exact post_ret rfl rfl (.cons _ _ _ _ _ (.tmp _ _ rfl) (.p _) .nil) (.inl rfl)
  refine aw_cond_f rfl hb14 ?_
  refine aw_skip ?_
  refine post_next ?_
  iterate 2 (refine aw_seq ?_)
  refine aw_region ?_
  refine ras ?_
  refine reg_nil ?_
  refine post_imp (s' := ⟨77, [(1, some (.pv (.int .i64 a1))), (2, some (.lp 0 0)), (5, some (.pv (.int .i64 0)))], [(0, some (.box 27 (bxv (eGType a0))))], 1, [], [], 0, []⟩) (imps [0] ⟨by kernel_rfl, by kernel_rfl, by kernel_rfl, trivial⟩ ⟨by kernel_rfl, trivial⟩) ?_
  refine post_next ?_
  obtain ⟨lr77, hF, hK78⟩ := bind_some hF
  refine aw_for (((4 : Int) - (0)).toNat + 1) (fun s1 => ∃ q, lr77 = .next q ∧ s1 = ⟨77, [], [], 0, [], [], 0, []⟩) ?_ ?_
  · refine rnd_loop (α := Int) (fun q => ⟨77, [(1, some (.pv (.int .i64 a1))), (2, some (.lp 0 0)), (5, some (.pv (.int .i64 q)))], [(0, some (.box 27 (bxv (eGType a0))))], 1, [], [], 0, []⟩) (fun k q => ref05_Right_L1 a0 a1 k q = some lr77) 0 (imps [0] ⟨by kernel_rfl, by kernel_rfl, by kernel_rfl, trivial⟩ ⟨by kernel_rfl, trivial⟩) hF (fun q h => by cases h) ?_
    clear hF
    rintro k x32 hF ih
    refine rnd_succ ?_
    iterate 2 (refine aw_seq ?_)
    refine aw_region ?_
    refine rmv ?_
    refine reg_cons (guard_no rfl) (op_int (k := .i64) (m := x32) (n := 4) rfl rfl rfl rfl rfl rfl) ?_
    refine reg_nil ?_
    refine post_imp (s' := ⟨77, [(1, some (.pv (.int .i64 a1))), (2, some (.lp 0 0)), (5, some (.pv (.int .i64 x32))), (40, some (.pv (.bool (decide (x32 < 4)))))], [(0, some (.box 27 (bxv (eGType a0))))], 1, [], [], 0, []⟩) (imps [0] ⟨by kernel_rfl, by kernel_rfl, by kernel_rfl, by kernel_rfl, trivial⟩ ⟨by kernel_rfl, trivial⟩) ?_
    refine post_next ?_
    rcases ite_some hF with ⟨hb55, hF⟩ | ⟨hb55, hF⟩
    · refine aw_cond_t rfl hb55 ?_
      refine aw_skip ?_
      refine post_next ?_
      refine aw_seq ?_
      refine aw_block ?_
      refine aw_seq ?_
      refine aw_region ?_
      refine rmv ?_
      refine reg_cons (guard_no rfl) (op_field_lp rfl rfl Try_fld_27_3 rfl rfl) ?_
      obtain ⟨y58, h59, hF⟩ := bind_some hF
      refine reg_cons (guard_no rfl) (op_arr_lpN (l := (a0.fOwn).l) rfl rfl rfl Try_arr_25 rfl h59 rfl rfl) ?_
      refine reg_cons (guard_no rfl) (op_load_lp_agg (ps := eGOwner y58) rfl rfl rfl (arr_cellsN (l := (a0.fOwn).l) (f := eGOwner) rfl (fun _ => rfl) rfl h59) rfl rfl Try_agg_24 rfl rfl) ?_
      refine reg_cons (guard_no rfl) (op_alloc 1 rfl (ps := (eGOwner zGOwner)) rfl Try_zer_24 (by exact ⟨rfl, rfl, trivial⟩) rfl rfl) ?_
      refine reg_cons (guard_no rfl) (op_store_lp (n := 2) rfl rfl rfl rfl rfl (or_agg Try_agg_24) (by rw [Try_non_24]; rfl) rfl rfl rfl) ?_
      refine reg_nil ?_
      refine post_imp (s' := ⟨77, [(1, some (.pv (.int .i64 a1))), (2, some (.lp 0 0)), (5, some (.pv (.int .i64 x32))), (6, some (.lp 1 0))], [(0, some (.box 27 (bxv (eGType a0)))), (1, some (.box 24 (bxv (eGOwner y58))))], 2, [], [], 0, []⟩) (imps [0, 1] ⟨by kernel_rfl, by kernel_rfl, by kernel_rfl, by kernel_rfl, trivial⟩ ⟨by kernel_rfl, by kernel_rfl, trivial⟩) ?_
      refine post_next ?_
      refine aw_seq ?_
      obtain ⟨x72, hF, hK74⟩ := bind_some hF
      refine aw_cut (fun s1 => s1 = ⟨77, [(1, some (.pv (.int .i64 a1))), (2, some (.lp 0 0)), (5, some (.pv (.int .i64 x32))), (76, some (.pv (.bool x72)))], [(0, some (.box 27 (bxv (eGType a0))))], 1, [], [], 0, []⟩) ?_ ?_
      · refine aw_region ?_
        refine rmv ?_
        refine reg_cons (guard_no rfl) (op_field_lp rfl rfl Try_fld_27_2 rfl rfl) ?_
        refine reg_cons (guard_no rfl) (op_load_lp (v := .pv (.int .i64 a0.fN)) rfl rfl rfl rfl Try_one_3 rfl rfl) ?_
        refine reg_cons (guard_no rfl) (op_int (k := .i64) (m := x32) (n := a0.fN) rfl rfl rfl rfl rfl rfl) ?_
        refine rmv ?_
        rcases ite_some hF with ⟨hb60, hF⟩ | ⟨hb60, hF⟩
        · refine reg_cons (guard_on rfl rfl rfl rfl hb60) (op_load_lp_agg (ps := eGOwner y58) rfl rfl rfl rfl rfl rfl Try_agg_24 rfl rfl) ?_
          refine reg_cons (guard_on rfl rfl rfl rfl hb60) (op_build (zs := (eGOwner zGOwner)) (r := eGOwner ({ fKind := 0, fN := 0 } : GOwner)) rfl Try_zer_24 (by exact ⟨rfl, rfl, trivial⟩) Try_plc_24 rfl rfl rfl rfl) ?_
          refine reg_cons (guard_on rfl rfl rfl rfl hb60) (op_eqAgg_neq (r := bGOwner y58 ({ fKind := 0, fN := 0 } : GOwner)) rfl rfl rfl Try_eqt_24 rfl rfl rfl rfl rfl) ?_
          refine rpt hb60 ?_
          refine rmv ?_
          rcases ite_some hF with ⟨hb61, hF⟩ | ⟨hb61, hF⟩
          · refine rgo_t hb61 ?_
            iterate 4 (refine rgo_t hb61 ?_)
            iterate 13 (refine rgu ?_)
            refine rgo_t hb61 ?_
            refine rpt hb61 ?_
            refine reg_nil ?_
            cases hF
            exact post_cut _ rfl (imps [0] ⟨by kernel_rfl, by kernel_rfl, by kernel_rfl, by kernel_rfl, trivial⟩ ⟨by kernel_rfl, trivial⟩)
          refine reg_cons (guard_on rfl rfl rfl rfl hb61) (op_move rfl rfl rfl rfl) ?_
          refine reg_cons (guard_on rfl rfl rfl rfl hb61) (op_field_lp rfl rfl Try_fld_27_2 rfl rfl) ?_
          refine reg_cons (guard_on rfl rfl rfl rfl hb61) (op_load_lp (v := .pv (.int .i64 a0.fN)) rfl rfl rfl rfl Try_one_3 rfl rfl) ?_
          refine reg_cons (guard_on rfl rfl rfl rfl hb61) (op_int (k := .i64) (m := x32) (n := a0.fN) rfl rfl rfl rfl rfl rfl) ?_
          refine reg_cons (guard_on rfl rfl rfl rfl hb61) (op_move rfl rfl rfl rfl) ?_
          rcases ite_some hF with ⟨hb62, hF⟩ | ⟨hb62, hF⟩
          · refine reg_cons (guard_on rfl rfl rfl rfl hb62) (op_load_lp_agg (ps := eGOwner y58) rfl rfl rfl rfl rfl rfl Try_agg_24 rfl rfl) ?_
            refine reg_cons (guard_on rfl rfl rfl rfl hb62) (op_move rfl rfl rfl rfl) ?_
            obtain ⟨y63, h64, hF⟩ := bind_some hF
            refine reg_cons (guard_on rfl rfl rfl rfl hb62) (op_call 2 rfl (caps := []) (args := [.agg (eGOwner y58), .int .i64 a1]) (rs := [.p (.bool y63)]) rfl rfl rfl Try_cal_42 (ref04_Right_ok h64) rfl rfl rfl) ?_
            refine reg_cons (guard_on rfl rfl rfl rfl hb62) (op_not rfl rfl rfl rfl) ?_
            refine reg_cons (guard_on rfl rfl rfl rfl hb62) (op_move rfl rfl rfl rfl) ?_
            rcases ite_some hF with ⟨hb65, hF⟩ | ⟨hb65, hF⟩
            · refine rgo_t hb65 ?_
              iterate 2 (refine rgo_t hb65 ?_)
              iterate 3 (refine rgu ?_)
              refine rgo_t hb65 ?_
              refine reg_cons (guard_on rfl rfl rfl rfl hb62) (op_pick_t rfl rfl hb65 rfl rfl rfl) ?_
              refine reg_cons (guard_on rfl rfl rfl rfl hb61) (op_pick_t rfl rfl hb62 rfl rfl rfl) ?_
              refine rpf hb61 ?_
              refine reg_nil ?_
              cases hF
              exact post_cut _ rfl (imps [0] ⟨by kernel_rfl, by kernel_rfl, by kernel_rfl, by kernel_rfl, trivial⟩ ⟨by kernel_rfl, trivial⟩)
            refine reg_cons (guard_on rfl rfl rfl rfl hb65) (op_move rfl rfl rfl rfl) ?_
            refine reg_cons (guard_on rfl rfl rfl rfl hb65) (op_int (k := .i64) (m := x32) (n := 0) rfl rfl rfl rfl rfl rfl) ?_
            refine reg_cons (guard_on rfl rfl rfl rfl hb65) (op_move rfl rfl rfl rfl) ?_
            rcases ite_some hF with ⟨hb66, hF⟩ | ⟨hb66, hF⟩
            · refine reg_cons (guard_on rfl rfl rfl rfl hb66) (op_field_lp rfl rfl Try_fld_24_0 rfl rfl) ?_
              refine reg_cons (guard_on rfl rfl rfl rfl hb66) (op_load_lp (v := .pv (.int .i64 y58.fKind)) rfl rfl rfl rfl Try_one_3 rfl rfl) ?_
              refine reg_cons (guard_on rfl rfl rfl rfl hb66) (op_int (k := .i64) (m := y58.fKind) (n := 6) rfl rfl rfl rfl rfl rfl) ?_
              refine reg_cons (guard_on rfl rfl rfl rfl hb65) (op_pick_t rfl rfl hb66 rfl rfl rfl) ?_
              refine reg_cons (guard_on rfl rfl rfl rfl hb62) (op_pick_f rfl rfl hb65 rfl rfl rfl) ?_
              refine reg_cons (guard_on rfl rfl rfl rfl hb61) (op_pick_t rfl rfl hb62 rfl rfl rfl) ?_
              refine rpf hb61 ?_
              refine reg_nil ?_
              cases hF
              exact post_cut _ rfl (imps [0] ⟨by kernel_rfl, by kernel_rfl, by kernel_rfl, by kernel_rfl, trivial⟩ ⟨by kernel_rfl, trivial⟩)
            iterate 3 (refine rgo_f hb66 ?_)
            refine reg_cons (guard_on rfl rfl rfl rfl hb65) (op_pick_f rfl rfl hb66 rfl rfl rfl) ?_
            refine reg_cons (guard_on rfl rfl rfl rfl hb62) (op_pick_f rfl rfl hb65 rfl rfl rfl) ?_
            refine reg_cons (guard_on rfl rfl rfl rfl hb61) (op_pick_t rfl rfl hb62 rfl rfl rfl) ?_
            refine rpf hb61 ?_
            refine reg_nil ?_
            cases hF
            exact post_cut _ rfl (imps [0] ⟨by kernel_rfl, by kernel_rfl, by kernel_rfl, by kernel_rfl, trivial⟩ ⟨by kernel_rfl, trivial⟩)
          iterate 5 (refine rgo_f hb62 ?_)
          iterate 7 (refine rgu ?_)
          refine rgo_f hb62 ?_
          refine reg_cons (guard_on rfl rfl rfl rfl hb61) (op_pick_f rfl rfl hb62 rfl rfl rfl) ?_
          refine rpf hb61 ?_
          refine reg_nil ?_
          cases hF
          exact post_cut _ rfl (imps [0] ⟨by kernel_rfl, by kernel_rfl, by kernel_rfl, by kernel_rfl, trivial⟩ ⟨by kernel_rfl, trivial⟩)
        iterate 3 (refine rgo_f hb60 ?_)
        refine rpf hb60 ?_
        refine rmv ?_
        refine reg_cons (guard_on rfl rfl rfl rfl rfl) (op_move rfl rfl rfl rfl) ?_
        refine reg_cons (guard_on rfl rfl rfl rfl rfl) (op_field_lp rfl rfl Try_fld_27_2 rfl rfl) ?_
        refine reg_cons (guard_on rfl rfl rfl rfl rfl) (op_load_lp (v := .pv (.int .i64 a0.fN)) rfl rfl rfl rfl Try_one_3 rfl rfl) ?_
        refine reg_cons (guard_on rfl rfl rfl rfl rfl) (op_int (k := .i64) (m := x32) (n := a0.fN) rfl rfl rfl rfl rfl rfl) ?_
        refine reg_cons (guard_on rfl rfl rfl rfl rfl) (op_move rfl rfl rfl rfl) ?_
        rcases ite_some hF with ⟨hb67, hF⟩ | ⟨hb67, hF⟩
        · refine reg_cons (guard_on rfl rfl rfl rfl hb67) (op_load_lp_agg (ps := eGOwner y58) rfl rfl rfl rfl rfl rfl Try_agg_24 rfl rfl) ?_
          refine reg_cons (guard_on rfl rfl rfl rfl hb67) (op_move rfl rfl rfl rfl) ?_
          obtain ⟨y68, h69, hF⟩ := bind_some hF
          refine reg_cons (guard_on rfl rfl rfl rfl hb67) (op_call 2 rfl (caps := []) (args := [.agg (eGOwner y58), .int .i64 a1]) (rs := [.p (.bool y68)]) rfl rfl rfl Try_cal_42 (ref04_Right_ok h69) rfl rfl rfl) ?_
          refine reg_cons (guard_on rfl rfl rfl rfl hb67) (op_not rfl rfl rfl rfl) ?_
          refine reg_cons (guard_on rfl rfl rfl rfl hb67) (op_move rfl rfl rfl rfl) ?_
          rcases ite_some hF with ⟨hb70, hF⟩ | ⟨hb70, hF⟩
          · refine rgo_t hb70 ?_
            iterate 2 (refine rgo_t hb70 ?_)
            iterate 3 (refine rgu ?_)
            refine rgo_t hb70 ?_
            refine reg_cons (guard_on rfl rfl rfl rfl hb67) (op_pick_t rfl rfl hb70 rfl rfl rfl) ?_
            refine reg_cons (guard_on rfl rfl rfl rfl rfl) (op_pick_t rfl rfl hb67 rfl rfl rfl) ?_
            refine rpf rfl ?_
            refine reg_nil ?_
            cases hF
            exact post_cut _ rfl (imps [0] ⟨by kernel_rfl, by kernel_rfl, by kernel_rfl, by kernel_rfl, trivial⟩ ⟨by kernel_rfl, trivial⟩)
          refine reg_cons (guard_on rfl rfl rfl rfl hb70) (op_move rfl rfl rfl rfl) ?_
          refine reg_cons (guard_on rfl rfl rfl rfl hb70) (op_int (k := .i64) (m := x32) (n := 0) rfl rfl rfl rfl rfl rfl) ?_
          refine reg_cons (guard_on rfl rfl rfl rfl hb70) (op_move rfl rfl rfl rfl) ?_
          rcases ite_some hF with ⟨hb71, hF⟩ | ⟨hb71, hF⟩
          · refine reg_cons (guard_on rfl rfl rfl rfl hb71) (op_field_lp rfl rfl Try_fld_24_0 rfl rfl) ?_
            refine reg_cons (guard_on rfl rfl rfl rfl hb71) (op_load_lp (v := .pv (.int .i64 y58.fKind)) rfl rfl rfl rfl Try_one_3 rfl rfl) ?_
            refine reg_cons (guard_on rfl rfl rfl rfl hb71) (op_int (k := .i64) (m := y58.fKind) (n := 6) rfl rfl rfl rfl rfl rfl) ?_
            refine reg_cons (guard_on rfl rfl rfl rfl hb70) (op_pick_t rfl rfl hb71 rfl rfl rfl) ?_
            refine reg_cons (guard_on rfl rfl rfl rfl hb67) (op_pick_f rfl rfl hb70 rfl rfl rfl) ?_
            refine reg_cons (guard_on rfl rfl rfl rfl rfl) (op_pick_t rfl rfl hb67 rfl rfl rfl) ?_
            refine rpf rfl ?_
            refine reg_nil ?_
            cases hF
            exact post_cut _ rfl (imps [0] ⟨by kernel_rfl, by kernel_rfl, by kernel_rfl, by kernel_rfl, trivial⟩ ⟨by kernel_rfl, trivial⟩)
          iterate 3 (refine rgo_f hb71 ?_)
          refine reg_cons (guard_on rfl rfl rfl rfl hb70) (op_pick_f rfl rfl hb71 rfl rfl rfl) ?_
          refine reg_cons (guard_on rfl rfl rfl rfl hb67) (op_pick_f rfl rfl hb70 rfl rfl rfl) ?_
          refine reg_cons (guard_on rfl rfl rfl rfl rfl) (op_pick_t rfl rfl hb67 rfl rfl rfl) ?_
          refine rpf rfl ?_
          refine reg_nil ?_
          cases hF
          exact post_cut _ rfl (imps [0] ⟨by kernel_rfl, by kernel_rfl, by kernel_rfl, by kernel_rfl, trivial⟩ ⟨by kernel_rfl, trivial⟩)
        iterate 5 (refine rgo_f hb67 ?_)
        iterate 7 (refine rgu ?_)
        refine rgo_f hb67 ?_
        refine reg_cons (guard_on rfl rfl rfl rfl rfl) (op_pick_f rfl rfl hb67 rfl rfl rfl) ?_
        refine rpf rfl ?_
        refine reg_nil ?_
        cases hF
        exact post_cut _ rfl (imps [0] ⟨by kernel_rfl, by kernel_rfl, by kernel_rfl, by kernel_rfl, trivial⟩ ⟨by kernel_rfl, trivial⟩)
      rintro _ rfl
      have hF := hK74
      clear hK74
      refine post_next ?_
      rcases ite_some hF with ⟨hb75, hF⟩ | ⟨hb75, hF⟩
      · refine aw_cond_t rfl hb75 ?_
        refine aw_seq ?_
        refine aw_region ?_
        refine ras ?_
        refine reg_nil ?_
        refine post_imp (s' := ⟨77, [(4, some (.pv (.bool false)))], [], 0, [], [], 0, []⟩) (imps [] ⟨by kernel_rfl, trivial⟩ trivial) ?_
        refine post_next ?_
        refine aw_ret ?_
        refine post_block_ret ?_
        iterate 2 (refine post_then_ret ?_)
        refine post_lp_ret ?_
        obtain rfl := Option.some.inj hF
        have hF := elim_stop hK78
        refine post_then_ret ?_
        obtain rfl := Option.some.inj hF
        exact post_ret rfl rfl (.cons _ _ _ _ _ (.tmp _ _ rfl) (.p _) .nil) (.inl rfl)
      refine aw_cond_f rfl hb75 ?_
      refine aw_skip ?_
      refine post_block_normal ?_
      refine post_next ?_
      refine aw_region ?_
      refine rmv ?_
      refine reg_cons (guard_no rfl) (op_int (k := .i64) (m := x32) (n := 1) rfl rfl rfl rfl rfl rfl) ?_
      refine ras ?_
      refine reg_nil ?_
      refine post_round ?_
      exact rnd_back (ih (w_i64 (x32 + 1)) hF) (imps [0] ⟨by kernel_rfl, by kernel_rfl, by kernel_rfl, trivial⟩ ⟨by kernel_rfl, trivial⟩)
    refine aw_cond_f rfl hb55 ?_
    refine aw_exit ?_
    iterate 2 (refine post_then_exit ?_)
    obtain rfl := Option.some.inj hF
    exact post_lp_break _ ⟨_, rfl, rfl⟩ (imps [] trivial trivial)
  rintro _ ⟨⟨⟩, rfl, rfl⟩
  have hF := elim_next hK78
  clear hK78
  refine post_next ?_
  refine aw_seq ?_
  refine aw_region ?_
  refine ras ?_
  refine reg_nil ?_
  refine post_imp (s' := ⟨77, [(4, some (.pv (.bool true)))], [], 0, [], [], 0, []⟩) (imps [] ⟨by kernel_rfl, trivial⟩ trivial) ?_
  refine post_next ?_
  refine aw_ret ?_
  obtain rfl := Option.some.inj hF
  exact post_ret rfl rfl (.cons _ _ _ _ _ (.tmp _ _ rfl) (.p _) .nil) (.inl rfl)
theorem ref05_count_ok {a0 : GType} {r : Int} (hF : ref05_count a0 = some r) : Abs.Fn Try.prog 47 [.agg (eGType a0)] [.p (.int .i64 r)] := by
  unfold ref05_count at hF
  refine fn_of_body (n := 7) Try.func47 rfl rfl rfl ?_
  intro w O
  refine aw_seq ?_
  refine aw_region ?_
  refine reg_cons (guard_no rfl) (op_box 0 rfl rfl rfl rfl rfl rfl) ?_
  refine ras ?_
  refine reg_nil ?_
  refine post_imp (s' := ⟨7, [(1, some (.lp 0 0))], [(0, some (.box 27 (bxv (eGType a0))))], 1, [], [], 0, []⟩) (imps [0] ⟨by kernel_rfl, trivial⟩ ⟨by kernel_rfl, trivial⟩) ?_
  refine post_next ?_
  refine aw_seq ?_
  refine aw_region ?_
  refine reg_cons (guard_no rfl) (op_field_lp rfl rfl Try_fld_27_2 rfl rfl) ?_
  refine reg_cons (guard_no rfl) (op_load_lp (v := .pv (.int .i64 a0.fN)) rfl rfl rfl rfl Try_one_3 rfl rfl) ?_
  refine reg_cons (guard_no rfl) (op_min2 rfl rfl rfl rfl rfl) ?_
  refine reg_cons (guard_no rfl) (op_max2 rfl rfl rfl rfl rfl) ?_
  refine ras ?_
  refine reg_nil ?_
  refine post_imp (s' := ⟨7, [(2, some (.pv (.int .i64 (if (if 3 < a0.fN then 3 else a0.fN) > 0 then (if 3 < a0.fN then 3 else a0.fN) else 0))))], [], 0, [], [], 0, []⟩) (imps [] ⟨by kernel_rfl, trivial⟩ trivial) ?_
  refine post_next ?_
  refine aw_ret ?_
  obtain rfl := Option.some.inj hF
  exact post_ret rfl rfl (.cons _ _ _ _ _ (.tmp _ _ rfl) (.p _) .nil) (.inl rfl)
theorem ref05_Owners_ok {a0 : GType} {r : (List GOwner)} (hF : ref05_Owners a0 = some r) : Abs.Fn Try.prog 22 [.agg (eGType a0)] [.own 24 2 (List.map eGOwner r)] := by
  unfold ref05_Owners at hF
  refine fn_of_body (n := 24) Try.func22 rfl rfl rfl ?_
  intro w O
  refine aw_seq ?_
  refine aw_region ?_
  refine reg_cons (guard_no rfl) (op_box 0 rfl rfl rfl rfl rfl rfl) ?_
  refine ras ?_
  refine reg_nil ?_
  refine post_imp (s' := ⟨24, [(1, some (.lp 0 0))], [(0, some (.box 27 (bxv (eGType a0))))], 1, [], [], 0, []⟩) (imps [0] ⟨by kernel_rfl, trivial⟩ ⟨by kernel_rfl, trivial⟩) ?_
  refine post_next ?_
  refine aw_seq ?_
  refine aw_region ?_
  refine ras ?_
  refine reg_imp (imp_nil_own 3 24 2 1 rfl rfl) ?_
  refine reg_nil ?_
  refine post_imp (s' := ⟨24, [(1, some (.lp 0 0)), (3, some (.ls 1))], [(0, some (.box 27 (bxv (eGType a0)))), (1, some (.row 24 2 (List.map eGOwner [])))], 2, [], [], 0, []⟩) (imps [0, 1] ⟨by kernel_rfl, by kernel_rfl, trivial⟩ ⟨by kernel_rfl, by kernel_rfl, trivial⟩) ?_
  refine post_next ?_
  iterate 2 (refine aw_seq ?_)
  refine aw_region ?_
  refine ras ?_
  refine reg_nil ?_
  refine post_imp (s' := ⟨24, [(1, some (.lp 0 0)), (3, some (.ls 1)), (4, some (.pv (.int .i64 0)))], [(0, some (.box 27 (bxv (eGType a0)))), (1, some (.row 24 2 (List.map eGOwner [])))], 2, [], [], 0, []⟩) (imps [0, 1] ⟨by kernel_rfl, by kernel_rfl, by kernel_rfl, trivial⟩ ⟨by kernel_rfl, by kernel_rfl, trivial⟩) ?_
  refine post_next ?_
  obtain ⟨x54, hF, hK55⟩ := bind_some hF
  refine aw_for 6 (fun s1 => s1 = ⟨24, [(3, some (.ls 0))], [(0, some (.row 24 2 (List.map eGOwner x54)))], 1, [], [], 0, []⟩) ?_ ?_
  · refine rnd_loop (α := (List GOwner) × Int) (fun q => ⟨24, [(1, some (.lp 0 0)), (3, some (.ls 1)), (4, some (.pv (.int .i64 q.2)))], [(0, some (.box 27 (bxv (eGType a0)))), (1, some (.row 24 2 (List.map eGOwner q.1)))], 2, [], [], 0, []⟩) (fun k q => ref05_Owners_L1 a0 k q.1 q.2 = some x54) ([], 0) (imps [0, 1] ⟨by kernel_rfl, by kernel_rfl, by kernel_rfl, trivial⟩ ⟨by kernel_rfl, by kernel_rfl, trivial⟩) hF (fun q h => by cases h) ?_
    clear hF
    rintro k ⟨x14, x15⟩ hF ih
    refine rnd_succ ?_
    iterate 2 (refine aw_seq ?_)
    obtain ⟨x40, hF, hK42⟩ := bind_some hF
    refine aw_cut (fun s1 => s1 = ⟨24, [(1, some (.lp 0 0)), (3, some (.ls 1)), (4, some (.pv (.int .i64 x15))), (13, some (.pv (.bool x40)))], [(0, some (.box 27 (bxv (eGType a0)))), (1, some (.row 24 2 (List.map eGOwner x14)))], 2, [], [], 0, []⟩) ?_ ?_
    · refine aw_region ?_
      refine rmv ?_
      refine reg_cons (guard_no rfl) (op_load_lp_agg (ps := eGType a0) rfl rfl rfl rfl rfl rfl Try_agg_27 rfl rfl) ?_
      obtain ⟨y37, h38, hF⟩ := bind_some hF
      refine reg_cons (guard_no rfl) (op_call 2 rfl (caps := []) (args := [.agg (eGType a0)]) (rs := [.p (.int .i64 y37)]) rfl rfl rfl Try_cal_47 (ref05_count_ok h38) rfl rfl rfl) ?_
      refine reg_cons (guard_no rfl) (op_int (k := .i64) (m := x15) (n := y37) rfl rfl rfl rfl rfl rfl) ?_
      refine rmv ?_
      rcases ite_some hF with ⟨hb39, hF⟩ | ⟨hb39, hF⟩
      · refine reg_cons (guard_on rfl rfl rfl rfl hb39) (op_field_lp rfl rfl Try_fld_27_0 rfl rfl) ?_
        refine reg_cons (guard_on rfl rfl rfl rfl hb39) (op_load_lp (v := .pv (.int .i64 a0.fKind)) rfl rfl rfl rfl Try_one_3 rfl rfl) ?_
        refine reg_cons (guard_on rfl rfl rfl rfl hb39) (op_int (k := .i64) (m := a0.fKind) (n := 2) rfl rfl rfl rfl rfl rfl) ?_
        refine rpt hb39 ?_
        refine reg_nil ?_
        cases hF
        exact post_cut _ rfl (imps [0, 1] ⟨by kernel_rfl, by kernel_rfl, by kernel_rfl, by kernel_rfl, trivial⟩ ⟨by kernel_rfl, by kernel_rfl, trivial⟩)
      iterate 3 (refine rgo_f hb39 ?_)
      refine rpf hb39 ?_
      refine reg_nil ?_
      cases hF
      exact post_cut _ rfl (imps [0, 1] ⟨by kernel_rfl, by kernel_rfl, by kernel_rfl, by kernel_rfl, trivial⟩ ⟨by kernel_rfl, by kernel_rfl, trivial⟩)
    rintro _ rfl
    have hF := hK42
    clear hK42
    refine post_next ?_
    rcases ite_some hF with ⟨hb43, hF⟩ | ⟨hb43, hF⟩
    · refine aw_cond_t rfl hb43 ?_
      refine aw_skip ?_
      refine post_next ?_
      refine aw_seq ?_
      refine aw_block ?_
      refine aw_region ?_
      iterate 2 (refine rmv ?_)
      refine reg_cons (guard_no rfl) (op_field_lp rfl rfl Try_fld_27_3 rfl rfl) ?_
      obtain ⟨y48, h49, hF⟩ := bind_some hF
      refine reg_cons (guard_no rfl) (op_arr_lpN (l := (a0.fOwn).l) rfl rfl rfl Try_arr_25 rfl h49 rfl rfl) ?_
      refine reg_cons (guard_no rfl) (op_load_lp_agg (ps := eGOwner y48) rfl rfl rfl (arr_cellsN (l := (a0.fOwn).l) (f := eGOwner) rfl (fun _ => rfl) rfl h49) rfl rfl Try_agg_24 rfl rfl) ?_
      refine reg_cons (guard_no rfl) (op_lit (rows := List.map eGOwner ([y48] : List GOwner)) (zs := (eGOwner zGOwner)) rfl rfl Try_slc_39 Try_zer_24 (by exact ⟨rfl, rfl, trivial⟩) rfl rfl rfl rfl rfl rfl rfl rfl) ?_
      obtain ⟨u50, h51, hF⟩ := bind_some hF
      refine reg_cons (guard_no rfl) (op_append 2 rfl rfl rfl rfl rfl Try_slc_39 Try_elm_24 Try_zer_24 rfl rfl rfl (room_map (f := eGOwner) (g := eGOwner) h51) (List.map_append (f := eGOwner) (l₁ := x14) (l₂ := [y48])).symm rfl rfl) ?_
      refine ras ?_
      refine reg_nil ?_
      refine post_imp (s' := ⟨24, [(1, some (.lp 0 0)), (3, some (.ls 1)), (4, some (.pv (.int .i64 x15)))], [(0, some (.box 27 (bxv (eGType a0)))), (1, some (.row 24 2 (List.map eGOwner (x14 ++ [y48]))))], 2, [], [], 0, []⟩) (imps [0, 2] ⟨by kernel_rfl, by kernel_rfl, by kernel_rfl, trivial⟩ ⟨by kernel_rfl, by kernel_rfl, trivial⟩) ?_
      refine post_block_normal ?_
      refine post_next ?_
      refine aw_region ?_
      refine rmv ?_
      refine reg_cons (guard_no rfl) (op_int (k := .i64) (m := x15) (n := 1) rfl rfl rfl rfl rfl rfl) ?_
      refine ras ?_
      refine reg_nil ?_
      refine post_round ?_
      exact rnd_back (ih ((x14 ++ [y48]), w_i64 (x15 + 1)) hF) (imps [0, 1] ⟨by kernel_rfl, by kernel_rfl, by kernel_rfl, trivial⟩ ⟨by kernel_rfl, by kernel_rfl, trivial⟩)
    refine aw_cond_f rfl hb43 ?_
    refine aw_exit ?_
    iterate 2 (refine post_then_exit ?_)
    obtain rfl := Option.some.inj hF
    exact post_lp_break _ rfl (imps [1] ⟨by kernel_rfl, trivial⟩ ⟨by kernel_rfl, trivial⟩)
  rintro _ rfl
  have hF := hK55
  clear hK55
  refine post_next ?_
  refine aw_seq ?_
  refine aw_region ?_
  refine rmv ?_
  refine ras ?_
  refine reg_nil ?_
  refine post_imp (s' := ⟨24, [(2, some (.ls 0))], [(0, some (.row 24 2 (List.map eGOwner x54)))], 1, [], [], 0, []⟩) (imps [0] ⟨by kernel_rfl, trivial⟩ ⟨by kernel_rfl, trivial⟩) ?_
  refine post_next ?_
  refine aw_ret ?_
  obtain rfl := Option.some.inj hF
  exact post_ret rfl rfl (.cons _ _ _ _ _ (.tmp _ _ rfl) (.own _ _ _ _ rfl nolent3) .nil) (.inl rfl)
theorem ref26_Hidden_ok {a0 : GType} {r : Bool} (hF : ref26_Hidden a0 = some r) : Abs.Fn Try.prog 21 [.agg (eGType a0)] [.p (.bool r)] := by
  unfold ref26_Hidden at hF
  refine fn_of_body (n := 19) Try.func21 rfl rfl rfl ?_
  intro w O
  refine aw_seq ?_
  refine aw_region ?_
  refine reg_cons (guard_no rfl) (op_box 0 rfl rfl rfl rfl rfl rfl) ?_
  refine ras ?_
  refine reg_nil ?_
  refine post_imp (s' := ⟨19, [(1, some (.lp 0 0))], [(0, some (.box 27 (bxv (eGType a0))))], 1, [], [], 0, []⟩) (imps [0] ⟨by kernel_rfl, trivial⟩ ⟨by kernel_rfl, trivial⟩) ?_
  refine post_next ?_
  refine aw_seq ?_
  refine aw_region ?_
  refine reg_cons (guard_no rfl) (op_load_lp_agg (ps := eGType a0) rfl rfl rfl rfl rfl rfl Try_agg_27 rfl rfl) ?_
  obtain ⟨y3, h4, hF⟩ := bind_some hF
  refine reg_cons (guard_no rfl) (op_call 1 rfl (caps := []) (args := [.agg (eGType a0)]) (rs := [.p (.vs 2 (List.map eGOwner y3))]) rfl rfl rfl Try_cal_22 (Fn.frozen (ref05_Owners_ok h4)) rfl rfl rfl) ?_
  refine ras ?_
  refine reg_nil ?_
  refine post_imp (s' := ⟨19, [(3, some (.pv (.vs 2 (List.map eGOwner y3))))], [], 0, [], [], 0, []⟩) (imps [] ⟨by kernel_rfl, trivial⟩ trivial) ?_
  refine post_next ?_
  iterate 2 (refine aw_seq ?_)
  refine aw_region ?_
  refine ras ?_
  refine reg_nil ?_
  refine post_imp (s' := ⟨19, [(3, some (.pv (.vs 2 (List.map eGOwner y3)))), (4, some (.pv (.int .i64 0)))], [], 0, [], [], 0, []⟩) (imps [] ⟨by kernel_rfl, by kernel_rfl, trivial⟩ trivial) ?_
  refine post_next ?_
  obtain ⟨lr26, hF, hK27⟩ := bind_some hF
  refine aw_for ((((y3.length : Int) : Int) - (0)).toNat + 1) (fun s1 => ∃ q, lr26 = .next q ∧ s1 = ⟨19, [], [], 0, [], [], 0, []⟩) ?_ ?_
  · refine rnd_loop (α := Int) (fun q => ⟨19, [(3, some (.pv (.vs 2 (List.map eGOwner y3)))), (4, some (.pv (.int .i64 q)))], [], 0, [], [], 0, []⟩) (fun k q => ref26_Hidden_L1 y3 k q = some lr26) 0 (imps [] ⟨by kernel_rfl, by kernel_rfl, trivial⟩ trivial) hF (fun q h => by cases h) ?_
    clear hF
    rintro k x11 hF ih
    refine rnd_succ ?_
    iterate 2 (refine aw_seq ?_)
    refine aw_region ?_
    iterate 2 (refine rmv ?_)
    refine reg_cons (guard_no rfl) (op_len_vs (n := y3.length) rfl rfl (List.length_map ..) Try_slc_39 rfl rfl) ?_
    refine reg_cons (guard_no rfl) (op_int (k := .i64) (m := x11) (n := (y3.length : Int)) rfl rfl rfl rfl rfl rfl) ?_
    refine reg_nil ?_
    refine post_imp (s' := ⟨19, [(3, some (.pv (.vs 2 (List.map eGOwner y3)))), (4, some (.pv (.int .i64 x11))), (10, some (.pv (.bool (decide (x11 < (y3.length : Int))))))], [], 0, [], [], 0, []⟩) (imps [] ⟨by kernel_rfl, by kernel_rfl, by kernel_rfl, trivial⟩ trivial) ?_
    refine post_next ?_
    rcases ite_some hF with ⟨hb19, hF⟩ | ⟨hb19, hF⟩
    · refine aw_cond_t rfl hb19 ?_
      refine aw_skip ?_
      refine post_next ?_
      refine aw_seq ?_
      refine aw_block ?_
      refine aw_seq ?_
      refine aw_region ?_
      iterate 2 (refine rmv ?_)
      obtain ⟨y22, h23, hF⟩ := bind_some hF
      refine reg_cons (guard_no rfl) (op_index_vs (k := .i64) rfl rfl rfl (idx_map eGOwner h23) Try_slc_39 rfl rfl) ?_
      refine reg_cons (guard_no rfl) (op_field_vp rfl rfl Try_fld_24_0 rfl rfl) ?_
      refine reg_cons (guard_no rfl) (op_load_vp (p := .int .i64 y22.fKind) rfl rfl rfl Try_one_3 rfl rfl) ?_
      refine reg_cons (guard_no rfl) (op_int (k := .i64) (m := y22.fKind) (n := 8) rfl rfl rfl rfl rfl rfl) ?_
      refine reg_nil ?_
      refine post_imp (s' := ⟨19, [(3, some (.pv (.vs 2 (List.map eGOwner y3)))), (4, some (.pv (.int .i64 x11))), (18, some (.pv (.bool (y22.fKind == 8))))], [], 0, [], [], 0, []⟩) (imps [] ⟨by kernel_rfl, by kernel_rfl, by kernel_rfl, trivial⟩ trivial) ?_
      refine post_next ?_
      rcases ite_some hF with ⟨hb24, hF⟩ | ⟨hb24, hF⟩
      · refine aw_cond_t rfl hb24 ?_
        refine aw_seq ?_
        refine aw_region ?_
        refine ras ?_
        refine reg_nil ?_
        refine post_imp (s' := ⟨19, [(2, some (.pv (.bool true)))], [], 0, [], [], 0, []⟩) (imps [] ⟨by kernel_rfl, trivial⟩ trivial) ?_
        refine post_next ?_
        refine aw_ret ?_
        refine post_block_ret ?_
        iterate 2 (refine post_then_ret ?_)
        refine post_lp_ret ?_
        obtain rfl := Option.some.inj hF
        have hF := elim_stop hK27
        refine post_then_ret ?_
        obtain rfl := Option.some.inj hF
        exact post_ret rfl rfl (.cons _ _ _ _ _ (.tmp _ _ rfl) (.p _) .nil) (.inl rfl)
      refine aw_cond_f rfl hb24 ?_
      refine aw_skip ?_
      refine post_block_normal ?_
      refine post_next ?_
      refine aw_region ?_
      refine rmv ?_
      refine reg_cons (guard_no rfl) (op_int (k := .i64) (m := x11) (n := 1) rfl rfl rfl rfl rfl rfl) ?_
      refine ras ?_
      refine reg_nil ?_
      refine post_round ?_
      exact rnd_back (ih (w_i64 (x11 + 1)) hF) (imps [] ⟨by kernel_rfl, by kernel_rfl, trivial⟩ trivial)
    refine aw_cond_f rfl hb19 ?_
    refine aw_exit ?_
    iterate 2 (refine post_then_exit ?_)
    obtain rfl := Option.some.inj hF
    exact post_lp_break _ ⟨_, rfl, rfl⟩ (imps [] trivial trivial)
  rintro _ ⟨⟨⟩, rfl, rfl⟩
  have hF := elim_next hK27
  clear hK27
  refine post_next ?_
  refine aw_seq ?_
  refine aw_region ?_
  refine ras ?_
  refine reg_nil ?_
  refine post_imp (s' := ⟨19, [(2, some (.pv (.bool false)))], [], 0, [], [], 0, []⟩) (imps [] ⟨by kernel_rfl, trivial⟩ trivial) ?_
  refine post_next ?_
  refine aw_ret ?_
  obtain rfl := Option.some.inj hF
  exact post_ret rfl rfl (.cons _ _ _ _ _ (.tmp _ _ rfl) (.p _) .nil) (.inl rfl)
theorem kind_own_ok {a0 : GType} {r : (List GOwner)} (hF : kind_own a0 = some r) : Abs.Fn Try.prog 64 [.vp (eGType a0)] [.p (.vs 2 (List.map eGOwner r))] := by
  unfold kind_own at hF
  refine fn_of_body (n := 17) Try.func64 rfl rfl rfl ?_
  intro w O
  refine aw_seq ?_
  refine aw_region ?_
  refine ras ?_
  refine reg_nil ?_
  refine post_imp (s' := ⟨17, [(0, some (.pv (.vp (eGType a0))))], [], 0, [], [], 0, []⟩) (imps [] ⟨by kernel_rfl, trivial⟩ trivial) ?_
  refine post_next ?_
  refine aw_seq ?_
  refine aw_region ?_
  refine rmv ?_
  refine reg_cons (guard_no rfl) (op_nilCheck rfl rfl rfl rfl rfl) ?_
  refine reg_cons (guard_no rfl) (op_field_vp rfl rfl Try_fld_27_2 rfl rfl) ?_
  refine reg_cons (guard_no rfl) (op_load_vp (p := .int .i64 a0.fN) rfl rfl rfl Try_one_3 rfl rfl) ?_
  refine reg_cons (guard_no rfl) (op_min2 rfl rfl rfl rfl rfl) ?_
  refine reg_cons (guard_no rfl) (op_max2 rfl rfl rfl rfl rfl) ?_
  refine reg_cons (guard_no rfl) (op_int (k := .i64) (m := (if (if 3 < a0.fN then 3 else a0.fN) > 0 then (if 3 < a0.fN then 3 else a0.fN) else 0)) (n := 1) rfl rfl rfl rfl rfl rfl) ?_
  refine ras ?_
  refine reg_nil ?_
  refine post_imp (s' := ⟨17, [(0, some (.pv (.vp (eGType a0)))), (3, some (.pv (.int .i64 (w_i64 ((if (if 3 < a0.fN then 3 else a0.fN) > 0 then (if 3 < a0.fN then 3 else a0.fN) else 0) + 1)))))], [], 0, [], [], 0, []⟩) (imps [] ⟨by kernel_rfl, by kernel_rfl, trivial⟩ trivial) ?_
  refine post_next ?_
  refine aw_seq ?_
  refine aw_region ?_
  refine rmv ?_
  refine reg_cons (guard_no rfl) (op_nilCheck rfl rfl rfl rfl rfl) ?_
  refine reg_cons (guard_no rfl) (op_field_vp rfl rfl Try_fld_27_3 rfl rfl) ?_
  iterate 2 (refine rmv ?_)
  obtain ⟨y1, h2, hF⟩ := bind_some hF
  refine reg_cons (guard_no rfl) (op_sliceArr (f := eGOwner) (l := (a0.fOwn).l) (nl := none) (nh := (some (w_i64 ((if (if 3 < a0.fN then 3 else a0.fN) > 0 then (if 3 < a0.fN then 3 else a0.fN) else 0) + 1)))) (nm := (some (w_i64 ((if (if 3 < a0.fN then 3 else a0.fN) > 0 then (if 3 < a0.fN then 3 else a0.fN) else 0) + 1)))) rfl rfl rfl rfl rfl (.inr rfl) Try_arr_25 rfl (fun _ => rfl) rfl rfl h2 rfl rfl) ?_
  refine ras ?_
  refine reg_nil ?_
  refine post_imp (s' := ⟨17, [(2, some (.pv (.vs 2 (List.map eGOwner y1))))], [], 0, [], [], 0, []⟩) (imps [] ⟨by kernel_rfl, trivial⟩ trivial) ?_
  refine post_next ?_
  refine aw_ret ?_
  obtain rfl := Option.some.inj hF
  exact post_ret rfl rfl (.cons _ _ _ _ _ (.tmp _ _ rfl) (.p _) .nil) (.inl rfl)
theorem slices_Clone_api_Owner_ok {a0 : List GOwner} {r : List GOwner} (hF : slices_Clone_api_Owner a0 = some r) : Abs.Fn Try.prog 63 [.vs 2 (List.map eGOwner a0)] [.own 24 2 (List.map eGOwner r)] := by
  unfold slices_Clone_api_Owner at hF
  obtain ⟨u, h, hF⟩ := bind_some hF
  obtain rfl := Option.some.inj hF
  refine fn_of_body (n := 8) Try.func63 rfl rfl rfl ?_
  intro w O
  refine aw_seq ?_
  refine aw_region ?_
  refine reg_cons (guard_no rfl) (op_assign rfl rfl rfl rfl) ?_
  refine reg_nil ?_
  refine post_next ?_
  iterate 2 (refine aw_seq ?_)
  refine aw_region ?_
  refine reg_cons (guard_no rfl) (op_move rfl rfl rfl rfl) ?_
  refine op_eqNil rfl rfl rfl Try_slc_39 (guard_no rfl) rfl rfl ?_ ?_
  · intro hn
    refine reg_nil ?_
    refine post_next ?_
    refine aw_cond_t rfl rfl ?_
    refine aw_seq ?_
    refine aw_region ?_
    refine reg_cons (guard_no rfl) (op_assign rfl rfl rfl rfl) ?_
    refine reg_nil ?_
    refine post_next ?_
    refine aw_ret ?_
    refine post_then_ret ?_
    refine post_imp (imp_nil_own 2 24 2 0 rfl rfl) ?_
    rw [hn]
    exact post_ret rfl rfl (.cons _ _ _ _ _ (.tmp _ _ rfl) (.own _ _ _ _ rfl nolent3) .nil) (.inl rfl)
  · refine reg_nil ?_
    refine post_next ?_
    refine aw_cond_f rfl rfl ?_
    refine aw_skip ?_
    refine post_next ?_
    refine aw_seq ?_
    refine aw_region ?_
    refine reg_cons (guard_no rfl) (op_litOwn 0 rfl (rows := List.map eGOwner ([] : List GOwner)) (zs := [.int .i64 zGOwner.fKind, .int .i64 zGOwner.fN]) rfl rfl Try_slc_39 Try_zer_24 (by exact ⟨rfl, rfl, trivial⟩) rfl rfl rfl rfl rfl rfl rfl rfl) ?_
    refine reg_cons (guard_no rfl) (op_move rfl rfl rfl rfl) ?_
    refine reg_cons (guard_no rfl) (op_append 1 rfl rfl rfl rfl rfl Try_slc_39 Try_elm_24 Try_zer_24 rfl rfl rfl (room_map (f := eGOwner) (g := eGOwner) h) (List.map_append (f := eGOwner) (l₁ := []) (l₂ := a0)).symm rfl rfl) ?_
    refine reg_cons (guard_no rfl) (op_assign rfl rfl rfl rfl) ?_
    refine reg_nil ?_
    refine post_next ?_
    refine aw_ret ?_
    exact post_ret rfl rfl (.cons _ _ _ _ _ (.tmp _ _ rfl) (.own _ _ _ _ rfl nolent3) .nil) (.inl rfl)
theorem kind_Owners_ok {a0 : GType} {r : (List GOwner)} (hF : kind_Owners a0 = some r) : Abs.Fn Try.prog 38 [.agg (eGType a0)] [.p (.vs 2 (List.map eGOwner r))] := by
  unfold kind_Owners at hF
  refine fn_of_body (n := 8) Try.func38 rfl rfl rfl ?_
  intro w O
  refine aw_seq ?_
  refine aw_region ?_
  refine reg_cons (guard_no rfl) (op_box 0 rfl rfl rfl rfl rfl rfl) ?_
  refine ras ?_
  refine reg_nil ?_
  refine post_imp (s' := ⟨8, [(1, some (.lp 0 0))], [(0, some (.box 27 (bxv (eGType a0))))], 1, [], [], 0, []⟩) (imps [0] ⟨by kernel_rfl, trivial⟩ ⟨by kernel_rfl, trivial⟩) ?_
  refine post_next ?_
  iterate 2 (refine aw_seq ?_)
  refine aw_region ?_
  refine reg_cons (guard_no rfl) (op_field_lp rfl rfl Try_fld_27_0 rfl rfl) ?_
  refine reg_cons (guard_no rfl) (op_load_lp (v := .pv (.int .i64 a0.fKind)) rfl rfl rfl rfl Try_one_3 rfl rfl) ?_
  refine reg_cons (guard_no rfl) (op_int (k := .i64) (m := a0.fKind) (n := 2) rfl rfl rfl rfl rfl rfl) ?_
  refine reg_nil ?_
  refine post_imp (s' := ⟨8, [(1, some (.lp 0 0)), (5, some (.pv (.bool (a0.fKind != 2))))], [(0, some (.box 27 (bxv (eGType a0))))], 1, [], [], 0, []⟩) (imps [0] ⟨by kernel_rfl, by kernel_rfl, trivial⟩ ⟨by kernel_rfl, trivial⟩) ?_
  refine post_next ?_
  rcases ite_some hF with ⟨hb1, hF⟩ | ⟨hb1, hF⟩
  · refine aw_cond_t rfl hb1 ?_
    refine aw_seq ?_
    refine aw_region ?_
    refine ras ?_
    refine reg_nil ?_
    refine post_imp (s' := ⟨8, [(2, some (.pv .nils))], [], 0, [], [], 0, []⟩) (imps [] ⟨by kernel_rfl, trivial⟩ trivial) ?_
    refine post_next ?_
    refine aw_ret ?_
    refine post_then_ret ?_
    refine post_imp (imp_nil_vs 2 2 rfl) ?_
    obtain rfl := Option.some.inj hF
    exact post_ret rfl rfl (.cons _ _ _ _ _ (.tmp _ _ rfl) (.p _) .nil) (.inl rfl)
  refine aw_cond_f rfl hb1 ?_
  refine aw_skip ?_
  refine post_next ?_
  refine aw_seq ?_
  refine aw_region ?_
  refine reg_imp (imp_freeze [(0, some (.box 27 (bxv (eGType a0))))] [(1, some (.pv (.vp (eGType a0))))] (FzH.spec ⟨rfl, trivial⟩) ⟨⟨_, rfl, rfl⟩, trivial⟩) ?_
  obtain ⟨y2, h3, hF⟩ := bind_some hF
  refine reg_cons (guard_no rfl) (op_call 1 rfl (caps := []) (args := [.vp (eGType a0)]) (rs := [.p (.vs 2 (List.map eGOwner y2))]) rfl rfl rfl Try_cal_64 (kind_own_ok h3) rfl rfl rfl) ?_
  obtain ⟨y4, h5, hF⟩ := bind_some hF
  refine reg_cons (guard_no rfl) (op_call 1 rfl (caps := []) (args := [.vs 2 (List.map eGOwner y2)]) (rs := [.p (.vs 2 (List.map eGOwner y4))]) rfl rfl rfl Try_cal_63 (Fn.frozen (slices_Clone_api_Owner_ok h5)) rfl rfl rfl) ?_
  refine ras ?_
  refine reg_nil ?_
  refine post_imp (s' := ⟨8, [(2, some (.pv (.vs 2 (List.map eGOwner y4))))], [], 0, [], [], 0, []⟩) (imps [] ⟨by kernel_rfl, trivial⟩ trivial) ?_
  refine post_next ?_
  refine aw_ret ?_
  obtain rfl := Option.some.inj hF
  exact post_ret rfl rfl (.cons _ _ _ _ _ (.tmp _ _ rfl) (.p _) .nil) (.inl rfl)
theorem slices_IndexFunc_api_Class_ok {a0 : List GClass} {q1 : GClass → Option Bool} {r : Int} {q1_f : Nat} {q1_c : List PV} (q1_b : callB Try.prog q1_f = true) (q1_h : ∀ (x0 : GClass) (r : Bool), q1 x0 = some r → Abs.Fn Try.prog q1_f ([.agg (eGClass x0)] ++ q1_c) [.p (.bool r)]) (hF : slices_IndexFunc_api_Class a0 q1 = some r) : Abs.Fn Try.prog 79 [.vs 7 (List.map eGClass a0), .fn q1_f q1_c] [.p (.int .i64 r)] := by
  unfold slices_IndexFunc_api_Class at hF
  refine fn_of_body (n := 19) Try.func79 rfl rfl rfl ?_
  intro w O
  refine aw_seq ?_
  refine aw_region ?_
  refine ras ?_
  refine reg_nil ?_
  refine post_imp (s' := ⟨19, [(0, some (.pv (.vs 7 (List.map eGClass a0)))), (1, some (.pv (.fn q1_f q1_c)))], [], 0, [], [], 0, []⟩) (imps [] ⟨by kernel_rfl, by kernel_rfl, trivial⟩ trivial) ?_
  refine post_next ?_
  iterate 2 (refine aw_seq ?_)
  refine aw_region ?_
  refine rmv ?_
  refine reg_cons (guard_no rfl) (op_len_vs (n := a0.length) rfl rfl (List.length_map ..) Try_slc_22 rfl rfl) ?_
  refine rmv ?_
  refine reg_nil ?_
  refine post_imp (s' := ⟨19, [(0, some (.pv (.vs 7 (List.map eGClass a0)))), (1, some (.pv (.fn q1_f q1_c))), (7, some (.pv (.int .i64 (a0.length : Int)))), (8, some (.pv (.int .i64 0)))], [], 0, [], [], 0, []⟩) (imps [] ⟨by kernel_rfl, by kernel_rfl, by kernel_rfl, by kernel_rfl, trivial⟩ trivial) ?_
  refine post_next ?_
  obtain ⟨lr34, hF, hK35⟩ := bind_some hF
  refine aw_for ((((a0.length : Int) : Int) - (0)).toNat + 1) (fun s1 => ∃ q, lr34 = .next q ∧ s1 = ⟨19, [], [], 0, [], [], 0, []⟩) ?_ ?_
  · refine rnd_loop (α := Int) (fun q => ⟨19, [(0, some (.pv (.vs 7 (List.map eGClass a0)))), (1, some (.pv (.fn q1_f q1_c))), (7, some (.pv (.int .i64 (a0.length : Int)))), (8, some (.pv (.int .i64 q)))], [], 0, [], [], 0, []⟩) (fun k q => slices_IndexFunc_api_Class_L1 a0 q1 k q = some lr34) 0 (imps [] ⟨by kernel_rfl, by kernel_rfl, by kernel_rfl, by kernel_rfl, trivial⟩ trivial) hF (fun q h => by cases h) ?_
    clear hF
    rintro k x11 hF ih
    refine rnd_succ ?_
    refine aw_seq ?_
    refine aw_region ?_
    refine reg_cons (guard_no rfl) (op_int (k := .i64) (m := x11) (n := (a0.length : Int)) rfl rfl rfl rfl rfl rfl) ?_
    refine reg_nil ?_
    refine post_imp (s' := ⟨19, [(0, some (.pv (.vs 7 (List.map eGClass a0)))), (1, some (.pv (.fn q1_f q1_c))), (7, some (.pv (.int .i64 (a0.length : Int)))), (8, some (.pv (.int .i64 x11))), (9, some (.pv (.bool (decide (x11 < (a0.length : Int))))))], [], 0, [], [], 0, []⟩) (imps [] ⟨by kernel_rfl, by kernel_rfl, by kernel_rfl, by kernel_rfl, by kernel_rfl, trivial⟩ trivial) ?_
    refine post_next ?_
    refine aw_seq ?_
    rcases ite_some hF with ⟨hb23, hF⟩ | ⟨hb23, hF⟩
    · refine aw_cond_t rfl hb23 ?_
      refine aw_skip ?_
      refine post_next ?_
      refine aw_seq ?_
      refine aw_block ?_
      refine aw_seq ?_
      refine aw_region ?_
      refine rmv ?_
      refine ras ?_
      refine reg_nil ?_
      refine post_imp (s' := ⟨19, [(0, some (.pv (.vs 7 (List.map eGClass a0)))), (1, some (.pv (.fn q1_f q1_c))), (5, some (.pv (.int .i64 x11))), (7, some (.pv (.int .i64 (a0.length : Int)))), (8, some (.pv (.int .i64 x11)))], [], 0, [], [], 0, []⟩) (imps [] ⟨by kernel_rfl, by kernel_rfl, by kernel_rfl, by kernel_rfl, by kernel_rfl, trivial⟩ trivial) ?_
      refine post_next ?_
      refine aw_seq ?_
      refine aw_region ?_
      iterate 3 (refine rmv ?_)
      obtain ⟨y28, h29, hF⟩ := bind_some hF
      refine reg_cons (guard_no rfl) (op_index_vs (k := .i64) rfl rfl rfl (idx_map eGClass h29) Try_slc_22 rfl rfl) ?_
      refine reg_cons (guard_no rfl) (op_load_vp_agg (ps := eGClass y28) rfl rfl rfl rfl Try_agg_43 rfl rfl) ?_
      obtain ⟨y30, h31, hF⟩ := bind_some hF
      refine reg_cons (guard_no rfl) (op_call 0 rfl (caps := q1_c) (args := [.agg (eGClass y28)]) (rs := [.p (.bool y30)]) rfl rfl rfl q1_b (q1_h y28 _ h31) rfl rfl rfl) ?_
      refine reg_nil ?_
      refine post_imp (s' := ⟨19, [(0, some (.pv (.vs 7 (List.map eGClass a0)))), (1, some (.pv (.fn q1_f q1_c))), (5, some (.pv (.int .i64 x11))), (7, some (.pv (.int .i64 (a0.length : Int)))), (8, some (.pv (.int .i64 x11))), (16, some (.pv (.bool y30)))], [], 0, [], [], 0, []⟩) (imps [] ⟨by kernel_rfl, by kernel_rfl, by kernel_rfl, by kernel_rfl, by kernel_rfl, by kernel_rfl, trivial⟩ trivial) ?_
      refine post_next ?_
      rcases ite_some hF with ⟨hb32, hF⟩ | ⟨hb32, hF⟩
      · refine aw_cond_t rfl hb32 ?_
        refine aw_seq ?_
        refine aw_region ?_
        refine rmv ?_
        refine ras ?_
        refine reg_nil ?_
        refine post_imp (s' := ⟨19, [(4, some (.pv (.int .i64 x11)))], [], 0, [], [], 0, []⟩) (imps [] ⟨by kernel_rfl, trivial⟩ trivial) ?_
        refine post_next ?_
        refine aw_ret ?_
        refine post_block_ret ?_
        iterate 2 (refine post_then_ret ?_)
        refine post_lp_ret ?_
        obtain rfl := Option.some.inj hF
        have hF := elim_stop hK35
        refine post_then_ret ?_
        obtain rfl := Option.some.inj hF
        exact post_ret rfl rfl (.cons _ _ _ _ _ (.tmp _ _ rfl) (.p _) .nil) (.inl rfl)
      refine aw_cond_f rfl hb32 ?_
      refine aw_skip ?_
      refine post_block_normal ?_
      refine post_next ?_
      refine aw_region ?_
      refine reg_cons (guard_no rfl) (op_int (k := .i64) (m := x11) (n := 1) rfl rfl rfl rfl rfl rfl) ?_
      refine rmv ?_
      refine reg_nil ?_
      refine post_round ?_
      exact rnd_back (ih (w_i64 (x11 + 1)) hF) (imps [] ⟨by kernel_rfl, by kernel_rfl, by kernel_rfl, by kernel_rfl, trivial⟩ trivial)
    refine aw_cond_f rfl hb23 ?_
    refine aw_exit ?_
    iterate 2 (refine post_then_exit ?_)
    obtain rfl := Option.some.inj hF
    exact post_lp_break _ ⟨_, rfl, rfl⟩ (imps [] trivial trivial)
  rintro _ ⟨⟨⟩, rfl, rfl⟩
  have hF := elim_next hK35
  clear hK35
  refine post_next ?_
  refine aw_seq ?_
  refine aw_region ?_
  refine ras ?_
  refine reg_nil ?_
  refine post_imp (s' := ⟨19, [(4, some (.pv (.int .i64 (-1))))], [], 0, [], [], 0, []⟩) (imps [] ⟨by kernel_rfl, trivial⟩ trivial) ?_
  refine post_next ?_
  refine aw_ret ?_
  obtain rfl := Option.some.inj hF
  exact post_ret rfl rfl (.cons _ _ _ _ _ (.tmp _ _ rfl) (.p _) .nil) (.inl rfl)
theorem table_Find_1_ok {a0 : GClass} {c0 : List UInt8} {r : Bool} (hF : table_Find_1 a0 c0 = some r) : Abs.Fn Try.prog 80 [.agg (eGClass a0), .vp (eS c0)] [.p (.bool r)] := by
  unfold table_Find_1 at hF
  refine fn_of_body (n := 8) Try.func80 rfl rfl rfl ?_
  intro w O
  refine aw_seq ?_
  refine aw_region ?_
  refine reg_cons (guard_no rfl) (op_box 0 rfl rfl rfl rfl rfl rfl) ?_
  refine ras ?_
  refine reg_nil ?_
  refine post_imp (s' := ⟨8, [(1, some (.pv (.vp (eS c0)))), (2, some (.lp 0 0))], [(0, some (.box 43 (bxv (eGClass a0))))], 1, [], [], 0, []⟩) (imps [0] ⟨by kernel_rfl, by kernel_rfl, trivial⟩ ⟨by kernel_rfl, trivial⟩) ?_
  refine post_next ?_
  refine aw_seq ?_
  refine aw_region ?_
  refine reg_cons (guard_no rfl) (op_field_lp rfl rfl Try_fld_43_0 rfl rfl) ?_
  refine reg_cons (guard_no rfl) (op_load_lp (v := .pv (.str a0.fName)) rfl rfl rfl rfl Try_one_9 rfl rfl) ?_
  refine reg_cons (guard_no rfl) (op_load_vp (p := .str c0) rfl rfl rfl Try_one_9 rfl rfl) ?_
  refine reg_cons (guard_no rfl) (op_str rfl rfl rfl rfl rfl rfl) ?_
  refine ras ?_
  refine reg_nil ?_
  refine post_imp (s' := ⟨8, [(3, some (.pv (.bool (a0.fName == c0))))], [], 0, [], [], 0, []⟩) (imps [] ⟨by kernel_rfl, trivial⟩ trivial) ?_
  refine post_next ?_
  refine aw_ret ?_
  obtain rfl := Option.some.inj hF
  exact post_ret rfl rfl (.cons _ _ _ _ _ (.tmp _ _ rfl) (.p _) .nil) (.inl rfl)
theorem table_Find_ok {a0 : List GClass} {a1 : List UInt8} {r : Int} (hF : table_Find a0 a1 = some r) : Abs.Fn Try.prog 59 [.vs 7 (List.map eGClass a0), .str a1] [.p (.int .i64 r)] := by
  unfold table_Find at hF
  refine fn_of_body (n := 8) Try.func59 rfl rfl rfl ?_
  intro w O
  refine aw_seq ?_
  refine aw_region ?_
  refine reg_cons (guard_no rfl) (op_box 0 rfl rfl rfl rfl rfl rfl) ?_
  refine ras ?_
  refine reg_nil ?_
  refine post_imp (s' := ⟨8, [(0, some (.pv (.vs 7 (List.map eGClass a0)))), (3, some (.lp 0 0))], [(0, some (.box 9 [.pv (.str a1)]))], 1, [], [], 0, []⟩) (imps [0] ⟨by kernel_rfl, by kernel_rfl, trivial⟩ ⟨by kernel_rfl, trivial⟩) ?_
  refine post_next ?_
  refine aw_seq ?_
  refine aw_region ?_
  refine rmv ?_
  refine reg_cons (guard_no rfl) (op_makeFunc rfl rfl rfl rfl) ?_
  obtain ⟨y2, h3, hF⟩ := bind_some hF
  refine reg_cons (guard_no rfl) (op_callB 1 rfl (caps := []) (args := [.vs 7 (List.map eGClass a0), .fn 80 [.vp (eS a1)]]) [(0, some (.box 9 [.pv (.str a1)]))] rfl rfl rfl (FzH.spec ⟨rfl, trivial⟩) rfl rfl Try_cal_79 (slices_IndexFunc_api_Class_ok (q1_f := 80) (q1_c := [.vp (eS a1)]) (q1_b := Try_cal_80) (q1_h := fun _ r h => (table_Find_1_ok h)) h3) rfl rfl rfl) ?_
  refine ras ?_
  refine reg_nil ?_
  refine post_imp (s' := ⟨8, [(4, some (.pv (.int .i64 y2)))], [], 0, [], [], 0, []⟩) (imps [] ⟨by kernel_rfl, trivial⟩ trivial) ?_
  refine post_next ?_
  refine aw_ret ?_
  obtain rfl := Option.some.inj hF
  exact post_ret rfl rfl (.cons _ _ _ _ _ (.tmp _ _ rfl) (.p _) .nil) (.inl rfl)
theorem table_Arity_ok {a0 : List GClass} {a1 : List UInt8} {r : Int} (hF : table_Arity a0 a1 = some r) : Abs.Fn Try.prog 82 [.vs 7 (List.map eGClass a0), .str a1] [.p (.int .i64 r)] := by
  unfold table_Arity at hF
  refine fn_of_body (n := 17) Try.func82 rfl rfl rfl ?_
  intro w O
  refine aw_seq ?_
  refine aw_region ?_
  refine ras ?_
  refine reg_nil ?_
  refine post_imp (s' := ⟨17, [(0, some (.pv (.vs 7 (List.map eGClass a0)))), (1, some (.pv (.str a1)))], [], 0, [], [], 0, []⟩) (imps [] ⟨by kernel_rfl, by kernel_rfl, trivial⟩ trivial) ?_
  refine post_next ?_
  refine aw_seq ?_
  refine aw_region ?_
  iterate 2 (refine rmv ?_)
  obtain ⟨y3, h4, hF⟩ := bind_some hF
  refine reg_cons (guard_no rfl) (op_call 0 rfl (caps := []) (args := [.vs 7 (List.map eGClass a0), .str a1]) (rs := [.p (.int .i64 y3)]) rfl rfl rfl Try_cal_59 (table_Find_ok h4) rfl rfl rfl) ?_
  refine ras ?_
  refine reg_nil ?_
  refine post_imp (s' := ⟨17, [(0, some (.pv (.vs 7 (List.map eGClass a0)))), (5, some (.pv (.int .i64 y3)))], [], 0, [], [], 0, []⟩) (imps [] ⟨by kernel_rfl, by kernel_rfl, trivial⟩ trivial) ?_
  refine post_next ?_
  iterate 2 (refine aw_seq ?_)
  refine aw_region ?_
  refine rmv ?_
  refine reg_cons (guard_no rfl) (op_int (k := .i64) (m := y3) (n := 0) rfl rfl rfl rfl rfl rfl) ?_
  refine reg_nil ?_
  refine post_imp (s' := ⟨17, [(0, some (.pv (.vs 7 (List.map eGClass a0)))), (5, some (.pv (.int .i64 y3))), (10, some (.pv (.bool (decide (y3 < 0)))))], [], 0, [], [], 0, []⟩) (imps [] ⟨by kernel_rfl, by kernel_rfl, by kernel_rfl, trivial⟩ trivial) ?_
  refine post_next ?_
  rcases ite_some hF with ⟨hb5, hF⟩ | ⟨hb5, hF⟩
  · refine aw_cond_t rfl hb5 ?_
    refine aw_seq ?_
    refine aw_region ?_
    refine ras ?_
    refine reg_nil ?_
    refine post_imp (s' := ⟨17, [(4, some (.pv (.int .i64 (-1))))], [], 0, [], [], 0, []⟩) (imps [] ⟨by kernel_rfl, trivial⟩ trivial) ?_
    refine post_next ?_
    refine aw_ret ?_
    refine post_then_ret ?_
    obtain rfl := Option.some.inj hF
    exact post_ret rfl rfl (.cons _ _ _ _ _ (.tmp _ _ rfl) (.p _) .nil) (.inl rfl)
  refine aw_cond_f rfl hb5 ?_
  refine aw_skip ?_
  refine post_next ?_
  refine aw_seq ?_
  refine aw_region ?_
  iterate 2 (refine rmv ?_)
  obtain ⟨y6, h7, hF⟩ := bind_some hF
  refine reg_cons (guard_no rfl) (op_index_vs (k := .i64) rfl rfl rfl (idx_map eGClass h7) Try_slc_22 rfl rfl) ?_
  refine reg_cons (guard_no rfl) (op_field_vp rfl rfl Try_fld_43_1 rfl rfl) ?_
  refine reg_cons (guard_no rfl) (op_load_vp (p := .vs 1 (List.map eS y6.fParams)) rfl rfl rfl Try_one_38 rfl rfl) ?_
  refine reg_cons (guard_no rfl) (op_len_vs (n := y6.fParams.length) rfl rfl (List.length_map ..) Try_slc_38 rfl rfl) ?_
  refine ras ?_
  refine reg_nil ?_
  refine post_imp (s' := ⟨17, [(4, some (.pv (.int .i64 (y6.fParams.length : Int))))], [], 0, [], [], 0, []⟩) (imps [] ⟨by kernel_rfl, trivial⟩ trivial) ?_
  refine post_next ?_
  refine aw_ret ?_
  obtain rfl := Option.some.inj hF
  exact post_ret rfl rfl (.cons _ _ _ _ _ (.tmp _ _ rfl) (.p _) .nil) (.inl rfl)
theorem above_up_ok {a0 : List GClass} {a1 : List UInt8} {r : (List GClass) × (List UInt8)} (hF : above_up a0 a1 = some r) : Abs.Fn Try.prog 60 [.vs 7 (List.map eGClass a0), .str a1] [.clo 81 [.vp ((eL 7 eGClass) r.1)] 9 [.str r.2] []] := by
  unfold above_up at hF
  refine fn_of_body (n := 6) Try.func60 rfl rfl rfl ?_
  intro w O
  refine aw_seq ?_
  refine aw_region ?_
  refine reg_cons (guard_no rfl) (op_box 0 rfl rfl rfl rfl rfl rfl) ?_
  refine reg_cons (guard_no rfl) (op_box 1 rfl rfl rfl rfl rfl rfl) ?_
  refine ras ?_
  refine reg_nil ?_
  refine post_imp (s' := ⟨6, [(2, some (.lp 0 0)), (3, some (.lp 1 0))], [(0, some (.box 22 [.pv (.vs 7 (List.map eGClass a0))])), (1, some (.box 9 [.pv (.str a1)]))], 2, [], [], 0, []⟩) (imps [0, 1] ⟨by kernel_rfl, by kernel_rfl, trivial⟩ ⟨by kernel_rfl, by kernel_rfl, trivial⟩) ?_
  refine post_next ?_
  refine aw_seq ?_
  refine aw_region ?_
  refine reg_cons (guard_no rfl) (op_makeFunc rfl rfl rfl rfl) ?_
  refine ras ?_
  refine reg_nil ?_
  refine post_imp (s' := ⟨6, [(4, some (.fn 81 [.lp 0 0, .lp 1 0]))], [(0, some (.box 22 [.pv (.vs 7 (List.map eGClass a0))])), (1, some (.box 9 [.pv (.str a1)]))], 2, [], [], 0, []⟩) (imps [0, 1] ⟨by kernel_rfl, trivial⟩ ⟨by kernel_rfl, by kernel_rfl, trivial⟩) ?_
  refine post_next ?_
  refine aw_ret ?_
  refine post_imp (imp_freeze_cap 4 0 [.pv (.vp ((eL 7 eGClass) a0)), .lp 1 0] rfl rfl rfl rfl ⟨.inr ⟨rfl, rfl⟩, .inl rfl, trivial⟩) ?_
  obtain rfl := Option.some.inj hF
  exact post_ret rfl rfl (.cons _ _ _ _ _ (.tmp _ _ rfl) (.clo 81 [.vp ((eL 7 eGClass) a0)] [] 1 9 [.str a1] rfl nolent3) .nil) (.inl rfl)
theorem above_up_1_it {rows : List (Int)} {sp : Nat} {c0 : List GClass} {c1 : List UInt8} (hF : above_up_1 rows sp c0 c1 = some (min (sp + 1) rows.length)) : It Try.prog 81 1 [.vp ((eL 7 eGClass) c0)] (some (9, [.str c1])) [] (rows.map (fun z : Int => ([.int .i64 z] : List PV))) sp := by
  unfold above_up_1 at hF
  refine it_of_body (n := 29) Try.func81 rfl rfl rfl ?_
  intro l c hcx
  refine aw_seq ?_
  refine aw_region ?_
  refine reg_cons (guard_no rfl) (op_load_vp (p := .vs 7 (List.map eGClass c0)) rfl rfl rfl Try_one_22 rfl rfl) ?_
  refine reg_cons (guard_no rfl) (op_len_vs (n := c0.length) rfl rfl (List.length_map ..) Try_slc_22 rfl rfl) ?_
  refine reg_cons (guard_no rfl) (op_int (k := .i64) (m := (c0.length : Int)) (n := 1) rfl rfl rfl rfl rfl rfl) ?_
  refine rmv ?_
  refine reg_nil ?_
  refine post_imp (s' := ⟨29, [(0, some (.pv (.yld l))), (1, some (.pv (.vp ((eL 7 eGClass) c0)))), (2, some (.lp 0 0)), (7, some (.pv (.int .i64 (w_i64 ((c0.length : Int) + 1))))), (8, some (.pv (.int .i64 0)))], [(0, some (.box 9 [.pv (.str c1)]))], 1, [], [], 0, []⟩) (imps [0] ⟨by kernel_rfl, by kernel_rfl, by kernel_rfl, by kernel_rfl, by kernel_rfl, trivial⟩ ⟨by kernel_rfl, trivial⟩) ?_
  refine post_next ?_
  obtain ⟨lr65, hF, hK66⟩ := bind_some hF
  refine aw_for ((((w_i64 ((c0.length : Int) + 1)) : Int) - (0)).toNat + 1) (fun s1 => ∃ q, lr65 = .next q ∧ s1 = ⟨29, [], [], 0, [], [], q, []⟩) ?_ ?_
  · refine rnd_loop (α := Nat × (List UInt8) × Int) (fun q => ⟨29, [(0, some (.pv (.yld l))), (1, some (.pv (.vp ((eL 7 eGClass) c0)))), (2, some (.lp 0 0)), (7, some (.pv (.int .i64 (w_i64 ((c0.length : Int) + 1))))), (8, some (.pv (.int .i64 q.2.2)))], [(0, some (.box 9 [.pv (.str q.2.1)]))], 1, [], [], q.1, []⟩) (fun k q => above_up_1_L1 c0 sp rows k q.1 q.2.1 q.2.2 = some lr65) (0, c1, 0) (imps [0] ⟨by kernel_rfl, by kernel_rfl, by kernel_rfl, by kernel_rfl, by kernel_rfl, trivial⟩ ⟨by kernel_rfl, trivial⟩) hF (fun q h => by cases h) ?_
    clear hF
    rintro k ⟨x19, x20, x21⟩ hF ih
    refine rnd_succ ?_
    refine aw_seq ?_
    refine aw_region ?_
    refine reg_cons (guard_no rfl) (op_int (k := .i64) (m := x21) (n := w_i64 ((c0.length : Int) + 1)) rfl rfl rfl rfl rfl rfl) ?_
    refine reg_nil ?_
    refine post_imp (s' := ⟨29, [(0, some (.pv (.yld l))), (1, some (.pv (.vp ((eL 7 eGClass) c0)))), (2, some (.lp 0 0)), (7, some (.pv (.int .i64 (w_i64 ((c0.length : Int) + 1))))), (8, some (.pv (.int .i64 x21))), (9, some (.pv (.bool (decide (x21 < (w_i64 ((c0.length : Int) + 1)))))))], [(0, some (.box 9 [.pv (.str x20)]))], 1, [], [], x19, []⟩) (imps [0] ⟨by kernel_rfl, by kernel_rfl, by kernel_rfl, by kernel_rfl, by kernel_rfl, by kernel_rfl, trivial⟩ ⟨by kernel_rfl, trivial⟩) ?_
    refine post_next ?_
    refine aw_seq ?_
    rcases ite_some hF with ⟨hb43, hF⟩ | ⟨hb43, hF⟩
    · refine aw_cond_t rfl hb43 ?_
      refine aw_skip ?_
      refine post_next ?_
      refine aw_seq ?_
      refine aw_block ?_
      refine aw_seq ?_
      refine aw_region ?_
      refine reg_cons (guard_no rfl) (op_load_vp (p := .vs 7 (List.map eGClass c0)) rfl rfl rfl Try_one_22 rfl rfl) ?_
      refine reg_cons (guard_no rfl) (op_load_lp (v := .pv (.str x20)) rfl rfl rfl rfl Try_one_9 rfl rfl) ?_
      obtain ⟨y46, h47, hF⟩ := bind_some hF
      refine reg_cons (guard_no rfl) (op_call 1 rfl (caps := []) (args := [.vs 7 (List.map eGClass c0), .str x20]) (rs := [.p (.int .i64 y46)]) rfl rfl rfl Try_cal_59 (table_Find_ok h47) rfl rfl rfl) ?_
      refine ras ?_
      refine reg_nil ?_
      refine post_imp (s' := ⟨29, [(0, some (.pv (.yld l))), (1, some (.pv (.vp ((eL 7 eGClass) c0)))), (2, some (.lp 0 0)), (4, some (.pv (.int .i64 y46))), (7, some (.pv (.int .i64 (w_i64 ((c0.length : Int) + 1))))), (8, some (.pv (.int .i64 x21)))], [(0, some (.box 9 [.pv (.str x20)]))], 1, [], [], x19, []⟩) (imps [0] ⟨by kernel_rfl, by kernel_rfl, by kernel_rfl, by kernel_rfl, by kernel_rfl, by kernel_rfl, trivial⟩ ⟨by kernel_rfl, trivial⟩) ?_
      refine post_next ?_
      iterate 2 (refine aw_seq ?_)
      obtain ⟨p53, hF, hK54⟩ := bind_some hF
      obtain ⟨x51, x52⟩ := p53
      refine aw_cut (fun s1 => s1 = ⟨29, [(0, some (.pv (.yld l))), (1, some (.pv (.vp ((eL 7 eGClass) c0)))), (2, some (.lp 0 0)), (4, some (.pv (.int .i64 y46))), (7, some (.pv (.int .i64 (w_i64 ((c0.length : Int) + 1))))), (8, some (.pv (.int .i64 x21))), (20, some (.pv (.bool x52)))], [(0, some (.box 9 [.pv (.str x20)]))], 1, [], [], x51, []⟩) ?_ ?_
      · refine aw_region ?_
        refine rmv ?_
        refine reg_cons (guard_no rfl) (op_int (k := .i64) (m := y46) (n := 0) rfl rfl rfl rfl rfl rfl) ?_
        refine rmv ?_
        rcases ite_some hF with ⟨hb48, hF⟩ | ⟨hb48, hF⟩
        · refine rgo_t hb48 ?_
          iterate 3 (refine rgo_t hb48 ?_)
          refine rpt hb48 ?_
          refine reg_nil ?_
          cases hF
          exact post_cut _ rfl (imps [0] ⟨by kernel_rfl, by kernel_rfl, by kernel_rfl, by kernel_rfl, by kernel_rfl, by kernel_rfl, by kernel_rfl, trivial⟩ ⟨by kernel_rfl, trivial⟩)
        iterate 2 (refine reg_cons (guard_on rfl rfl rfl rfl hb48) (op_move rfl rfl rfl rfl) ?_)
        obtain ⟨u49, h50, hF⟩ := bind_some hF
        refine reg_cons (guard_on rfl rfl rfl rfl hb48) (op_yield (row := (fun z : Int => ([.int .i64 z] : List PV)) y46) hcx rfl rfl rfl rfl (yck_row (fun z : Int => ([.int .i64 z] : List PV)) h50) (yck_spec h50).2 rfl rfl) ?_
        refine reg_cons (guard_on rfl rfl rfl rfl hb48) (op_not rfl rfl rfl rfl) ?_
        refine rpf hb48 ?_
        refine reg_nil ?_
        cases hF
        exact post_cut _ rfl (imps [0] ⟨by kernel_rfl, by kernel_rfl, by kernel_rfl, by kernel_rfl, by kernel_rfl, by kernel_rfl, by kernel_rfl, trivial⟩ ⟨by kernel_rfl, trivial⟩)
      rintro _ rfl
      have hF := hK54
      clear hK54
      refine post_next ?_
      rcases ite_some hF with ⟨hb55, hF⟩ | ⟨hb55, hF⟩
      · refine aw_cond_t rfl hb55 ?_
        refine aw_ret ?_
        refine post_then_ret ?_
        refine post_block_ret ?_
        iterate 2 (refine post_then_ret ?_)
        refine post_lp_ret ?_
        obtain rfl := Option.some.inj hF
        have hF := elim_stop hK66
        exact post_it (it_len hF) rfl (.inl rfl)
      refine aw_cond_f rfl hb55 ?_
      refine aw_skip ?_
      refine post_next ?_
      refine aw_seq ?_
      refine aw_region ?_
      refine reg_cons (guard_no rfl) (op_load_vp (p := .vs 7 (List.map eGClass c0)) rfl rfl rfl Try_one_22 rfl rfl) ?_
      refine rmv ?_
      obtain ⟨y58, h59, hF⟩ := bind_some hF
      refine reg_cons (guard_no rfl) (op_index_vs (k := .i64) rfl rfl rfl (idx_map eGClass h59) Try_slc_22 rfl rfl) ?_
      refine reg_cons (guard_no rfl) (op_field_vp rfl rfl Try_fld_43_2 rfl rfl) ?_
      refine reg_cons (guard_no rfl) (op_load_vp (p := .str y58.fSuper) rfl rfl rfl Try_one_9 rfl rfl) ?_
      refine reg_cons (guard_no rfl) (op_store_lp (n := 1) rfl rfl rfl rfl rfl (or_one Try_one_9) (by rw [Try_one_9]; rfl) rfl rfl rfl) ?_
      refine reg_nil ?_
      refine post_imp (s' := ⟨29, [(0, some (.pv (.yld l))), (1, some (.pv (.vp ((eL 7 eGClass) c0)))), (2, some (.lp 0 0)), (7, some (.pv (.int .i64 (w_i64 ((c0.length : Int) + 1))))), (8, some (.pv (.int .i64 x21)))], [(0, some (.box 9 [.pv (.str y58.fSuper)]))], 1, [], [], x51, []⟩) (imps [0] ⟨by kernel_rfl, by kernel_rfl, by kernel_rfl, by kernel_rfl, by kernel_rfl, trivial⟩ ⟨by kernel_rfl, trivial⟩) ?_
      refine post_next ?_
      refine aw_seq ?_
      refine aw_region ?_
      refine reg_cons (guard_no rfl) (op_load_lp (v := .pv (.str y58.fSuper)) rfl rfl rfl rfl Try_one_9 rfl rfl) ?_
      refine reg_cons (guard_no rfl) (op_str rfl rfl rfl rfl rfl rfl) ?_
      refine reg_nil ?_
      refine post_imp (s' := ⟨29, [(0, some (.pv (.yld l))), (1, some (.pv (.vp ((eL 7 eGClass) c0)))), (2, some (.lp 0 0)), (7, some (.pv (.int .i64 (w_i64 ((c0.length : Int) + 1))))), (8, some (.pv (.int .i64 x21))), (27, some (.pv (.bool (y58.fSuper == []))))], [(0, some (.box 9 [.pv (.str y58.fSuper)]))], 1, [], [], x51, []⟩) (imps [0] ⟨by kernel_rfl, by kernel_rfl, by kernel_rfl, by kernel_rfl, by kernel_rfl, by kernel_rfl, trivial⟩ ⟨by kernel_rfl, trivial⟩) ?_
      refine post_next ?_
      rcases ite_some hF with ⟨hb60, hF⟩ | ⟨hb60, hF⟩
      · refine aw_cond_t rfl hb60 ?_
        refine aw_ret ?_
        refine post_block_ret ?_
        iterate 2 (refine post_then_ret ?_)
        refine post_lp_ret ?_
        obtain rfl := Option.some.inj hF
        have hF := elim_stop hK66
        exact post_it (it_len hF) rfl (.inl rfl)
      refine aw_cond_f rfl hb60 ?_
      refine aw_skip ?_
      refine post_block_normal ?_
      refine post_next ?_
      refine aw_region ?_
      refine reg_cons (guard_no rfl) (op_int (k := .i64) (m := x21) (n := 1) rfl rfl rfl rfl rfl rfl) ?_
      refine rmv ?_
      refine reg_nil ?_
      refine post_round ?_
      exact rnd_back (ih (x51, y58.fSuper, w_i64 (x21 + 1)) hF) (imps [0] ⟨by kernel_rfl, by kernel_rfl, by kernel_rfl, by kernel_rfl, by kernel_rfl, trivial⟩ ⟨by kernel_rfl, trivial⟩)
    refine aw_cond_f rfl hb43 ?_
    refine aw_exit ?_
    iterate 2 (refine post_then_exit ?_)
    obtain rfl := Option.some.inj hF
    exact post_lp_break _ ⟨_, rfl, rfl⟩ (imps [] trivial trivial)
  rintro _ ⟨x64, rfl, rfl⟩
  have hF := elim_next hK66
  clear hK66
  exact post_it (it_len hF) rfl (.inr rfl)

theorem above_Chain_ok {a0 : List GClass} {a1 : List UInt8} {r : (List Int)} (hF : above_Chain a0 a1 = some r) : Abs.Fn Try.prog 83 [.vs 7 (List.map eGClass a0), .str a1] [.own 3 1 (List.map eI r)] := by
  unfold above_Chain at hF
  refine fn_of_body (n := 19) Try.func83 rfl rfl rfl ?_
  intro w O
  refine aw_seq ?_
  refine aw_region ?_
  refine ras ?_
  refine reg_nil ?_
  refine post_imp (s' := ⟨19, [(0, some (.pv (.vs 7 (List.map eGClass a0)))), (1, some (.pv (.str a1)))], [], 0, [], [], 0, []⟩) (imps [] ⟨by kernel_rfl, by kernel_rfl, trivial⟩ trivial) ?_
  refine post_next ?_
  refine aw_seq ?_
  refine aw_region ?_
  refine reg_cons (guard_no rfl) (op_alloc 0 rfl (ps := [.nils]) rfl Try_zer_55 (by exact ⟨rfl, trivial⟩) rfl rfl) ?_
  refine reg_imp (imp_nil_box 0 0 55 3 1 1 rfl rfl rfl) ?_
  refine reg_nil ?_
  refine post_imp (s' := ⟨19, [(0, some (.pv (.vs 7 (List.map eGClass a0)))), (1, some (.pv (.str a1))), (5, some (.lp 0 0))], [(0, some (.box 55 [.ls 1])), (1, some (.row 3 1 (List.map eI [])))], 2, [], [], 0, []⟩) (imps [0, 1] ⟨by kernel_rfl, by kernel_rfl, by kernel_rfl, trivial⟩ ⟨by kernel_rfl, by kernel_rfl, trivial⟩) ?_
  refine post_next ?_
  iterate 2 (refine aw_seq ?_)
  refine aw_region ?_
  iterate 2 (refine rmv ?_)
  obtain ⟨y3, h4, hF⟩ := bind_some hF
  refine reg_cons (guard_no rfl) (op_call 2 rfl (caps := []) (args := [.vs 7 (List.map eGClass a0), .str a1]) (rs := [.clo 81 [.vp ((eL 7 eGClass) y3.1)] 9 [.str y3.2] []]) rfl rfl rfl Try_cal_60 (above_up_ok h4) rfl rfl rfl) ?_
  refine reg_nil ?_
  refine post_imp (s' := ⟨19, [(5, some (.lp 0 0)), (9, some (.fn 81 [.pv (.vp ((eL 7 eGClass) y3.1)), .lp 2 0]))], [(0, some (.box 55 [.ls 1])), (1, some (.row 3 1 (List.map eI []))), (2, some (.box 9 [.pv (.str y3.2)]))], 3, [], [], 0, []⟩) (imps [0, 1, 2] ⟨by kernel_rfl, by kernel_rfl, trivial⟩ ⟨by kernel_rfl, by kernel_rfl, by kernel_rfl, trivial⟩) ?_
  refine post_next ?_
  refine aw_block ?_
  refine aw_imp (s' := ⟨19, [(5, some (.lp 0 0)), (9, some (.fn 81 [.pv (.vp ((eL 7 eGClass) y3.1)), .lp 2 0]))], [(0, some (.box 55 [.ls 1])), (1, some (.row 3 1 (List.map eI []))), (2, some (.box 9 [.pv (.str y3.2)]))], 3, [], [], 0, []⟩) (imps [0, 1, 2] ⟨by kernel_rfl, by kernel_rfl, trivial⟩ ⟨by kernel_rfl, by kernel_rfl, by kernel_rfl, trivial⟩) ?_
  obtain ⟨rows33, hR34, hF⟩ := bind_some hF
  obtain ⟨lr35, hL36, hF⟩ := bind_some hF
  refine aw_rangeFunc (X := Int) (Q := (List Int)) (E := (List Int)) (pre := [.vp ((eL 7 eGClass) y3.1)]) (bx := (some (9, [.str y3.2]))) (post := []) (kt := [5]) (psl := [10]) (some 2) (fun z : Int => ([.int .i64 z] : List PV)) rows33 above_Chain_B1 [] lr35 hL36 (fun q => ⟨19, [(5, some (.lp 0 0))], [(0, some (.box 55 [.ls 1])), (1, some (.row 3 1 (List.map eI q)))], 3, [], [], 0, []⟩) (fun z => ((.exit 0), ⟨19, [(5, some (.lp 0 0))], [(0, some (.box 55 [.ls 1])), (1, some (.row 3 1 (List.map eI z)))], 2, [], [], 0, []⟩)) ⟨_, _, rfl, rfl, rfl⟩ Try_cal_81 (fun sp => above_up_1_it (itR_up_ok hR34 sp)) (fun _ => rfl) rfl rfl (by decide) rfl (fun x q => ⟨19, [(5, some (.lp 0 0)), (6, some (.pv (.int .i64 x))), (10, some (.pv (.int .i64 x)))], [(0, some (.box 55 [.ls 1])), (1, some (.row 3 1 (List.map eI q)))], 3, [], [], 0, [5]⟩) (fun q => ⟨rfl, rfl, rfl, rfl⟩) (fun z => ⟨rfl, rfl, rfl, rfl⟩) (fun z => rfl) rfl rfl ⟨rfl, trivial⟩ ⟨⟨rfl, rfl, rfl⟩, ⟨rfl, rfl, rfl⟩, trivial⟩ ?_ ?_ ?_ ?_
  · rintro l37 c38 x23 x13 hc39
    refine aw_region ?_
    refine ras ?_
    refine reg_nil ?_
    exact post_cut1 (imps [0, 1, 2] ⟨by kernel_rfl, by kernel_rfl, by kernel_rfl, trivial⟩ ⟨by kernel_rfl, by kernel_rfl, trivial⟩)
  · rintro l37 c38 x23 x13 r40 hc39 hF
    refine aw_block ?_
    iterate 2 (refine aw_seq ?_)
    refine aw_region ?_
    refine reg_cons (guard_no rfl) (op_load_lp (v := .ls 1) rfl rfl rfl rfl Try_one_55 rfl rfl) ?_
    refine rmv ?_
    obtain ⟨y26, h27, hF⟩ := bind_some hF
    refine reg_cons (guard_no rfl) (op_callB 3 rfl (caps := []) (args := [.vs 1 (List.map eI x13), .int .i64 x23]) [(1, some (.row 3 1 (List.map eI x13)))] rfl rfl rfl (FzH.spec ⟨rfl, trivial⟩) rfl rfl Try_cal_66 (slices_Contains_int_ok h27) rfl rfl rfl) ?_
    refine reg_nil ?_
    refine post_imp (s' := ⟨19, [(5, some (.lp 0 0)), (6, some (.pv (.int .i64 x23))), (13, some (.pv (.bool y26)))], [(0, some (.box 55 [.ls 1])), (1, some (.row 3 1 (List.map eI x13)))], 2, [], [], 0, [5]⟩) (imps [0, 1] ⟨by kernel_rfl, by kernel_rfl, by kernel_rfl, trivial⟩ ⟨by kernel_rfl, by kernel_rfl, trivial⟩) ?_
    refine post_next ?_
    rcases ite_some hF with ⟨hb28, hF⟩ | ⟨hb28, hF⟩
    · refine aw_cond_t rfl hb28 ?_
      refine aw_exit ?_
      refine post_then_exit ?_
      refine post_block_other rfl ?_
      obtain rfl := Option.some.inj hF
      exact post_rnd_exit x13 rfl rfl (imps [0, 1] ⟨by kernel_rfl, trivial⟩ ⟨by kernel_rfl, by kernel_rfl, trivial⟩)
    refine aw_cond_f rfl hb28 ?_
    refine aw_skip ?_
    refine post_next ?_
    refine aw_region ?_
    refine reg_cons (guard_no rfl) (op_load_lp (v := .ls 1) rfl rfl rfl rfl Try_one_55 rfl rfl) ?_
    refine rmv ?_
    refine reg_cons (guard_no rfl) (op_lit (rows := List.map eI ([x23] : List Int)) (zs := [.int .i64 0]) rfl rfl Try_slc_55 Try_zer_3 (by exact ⟨rfl, trivial⟩) rfl rfl rfl rfl rfl rfl rfl rfl) ?_
    obtain ⟨u29, h30, hF⟩ := bind_some hF
    refine reg_cons (guard_no rfl) (op_append 2 rfl rfl rfl rfl rfl Try_slc_55 Try_elm_3 Try_zer_3 rfl rfl rfl (room_map (f := eI) (g := eI) h30) (List.map_append (f := eI) (l₁ := x13) (l₂ := [x23])).symm rfl rfl) ?_
    refine reg_cons (guard_no rfl) (op_store_lp (n := 1) rfl rfl rfl rfl rfl (or_one Try_one_55) (by rw [Try_one_55]; rfl) rfl rfl rfl) ?_
    refine reg_nil ?_
    refine post_imp (s' := ⟨19, [(5, some (.lp 0 0))], [(0, some (.box 55 [.ls 1])), (1, some (.row 3 1 (List.map eI (x13 ++ [x23]))))], 2, [], [], 0, [5]⟩) (imps [0, 2] ⟨by kernel_rfl, trivial⟩ ⟨by kernel_rfl, by kernel_rfl, trivial⟩) ?_
    refine post_block_normal ?_
    obtain rfl := Option.some.inj hF
    exact post_rnd (x13 ++ [x23]) rfl (imps [0, 1, 1000000] ⟨by kernel_rfl, trivial⟩ ⟨by kernel_rfl, by kernel_rfl, trivial⟩)
  · rintro x13 rfl
    have hF := elim_next hF
    refine post_block_normal ?_
    refine post_next ?_
    refine aw_seq ?_
    refine aw_region ?_
    refine reg_cons (guard_no rfl) (op_load_lp (v := .ls 1) rfl rfl rfl rfl Try_one_55 rfl rfl) ?_
    refine ras ?_
    refine reg_nil ?_
    refine post_imp (s' := ⟨19, [(4, some (.ls 0))], [(0, some (.row 3 1 (List.map eI x13)))], 1, [], [], 0, []⟩) (imps [1] ⟨by kernel_rfl, trivial⟩ ⟨by kernel_rfl, trivial⟩) ?_
    refine post_next ?_
    refine aw_ret ?_
    obtain rfl := Option.some.inj hF
    exact post_ret rfl rfl (.cons _ _ _ _ _ (.tmp _ _ rfl) (.own _ _ _ _ rfl nolent3) .nil) (.inl rfl)
  rintro x32 rfl
  have hF := elim_stop hF
  show Post _ _ (.exit 0) _
  refine post_block_exit ?_
  refine post_next ?_
  refine aw_seq ?_
  refine aw_region ?_
  refine reg_cons (guard_no rfl) (op_load_lp (v := .ls 1) rfl rfl rfl rfl Try_one_55 rfl rfl) ?_
  refine ras ?_
  refine reg_nil ?_
  refine post_imp (s' := ⟨19, [(4, some (.ls 0))], [(0, some (.row 3 1 (List.map eI x32)))], 1, [], [], 0, []⟩) (imps [1] ⟨by kernel_rfl, trivial⟩ ⟨by kernel_rfl, trivial⟩) ?_
  refine post_next ?_
  refine aw_ret ?_
  obtain rfl := Option.some.inj hF
  exact post_ret rfl rfl (.cons _ _ _ _ _ (.tmp _ _ rfl) (.own _ _ _ _ rfl nolent3) .nil) (.inl rfl)
theorem raise_raise_api_Owner__ok {a0 : List GClass} {a1 : List UInt8} {a2 : List GOwner} {a3 : List UInt8} {q4 : GOwner → (List GOwner) → Option GOwner} {r : (List GOwner) × Bool} {q4_f : Nat} {q4_c : List PV} (q4_b : callB Try.prog q4_f = true) (q4_h : ∀ (x0 : GOwner) (x1 : List GOwner) (r : GOwner), q4 x0 x1 = some r → Abs.Fn Try.prog q4_f ([.agg (eGOwner x0), .vs 2 (List.map eGOwner x1)] ++ q4_c) [.p (.agg (eGOwner r))]) (hF : raise_raise_api_Owner_ a0 a1 a2 a3 q4 = some r) : Abs.Fn Try.prog 61 [.vs 7 (List.map eGClass a0), .str a1, .vs 2 (List.map eGOwner a2), .str a3, .fn q4_f q4_c] [.own 24 2 (List.map eGOwner r.1), .p (.bool r.2)] := by
  unfold raise_raise_api_Owner_ at hF
  refine fn_of_body (n := 73) Try.func61 rfl rfl rfl ?_
  intro w O
  refine aw_seq ?_
  refine aw_region ?_
  iterate 2 (refine ras ?_)
  refine reg_nil ?_
  refine post_imp (s' := ⟨73, [(0, some (.pv (.vs 7 (List.map eGClass a0)))), (1, some (.pv (.str a1))), (2, some (.pv (.vs 2 (List.map eGOwner a2)))), (3, some (.pv (.str a3))), (4, some (.pv (.fn q4_f q4_c)))], [], 0, [], [], 0, []⟩) (imps [] ⟨by kernel_rfl, by kernel_rfl, by kernel_rfl, by kernel_rfl, by kernel_rfl, trivial⟩ trivial) ?_
  refine post_next ?_
  refine aw_seq ?_
  refine aw_region ?_
  iterate 2 (refine rmv ?_)
  obtain ⟨y3, h4, hF⟩ := bind_some hF
  refine reg_cons (guard_no rfl) (op_call 0 rfl (caps := []) (args := [.vs 7 (List.map eGClass a0), .str a3]) (rs := [.p (.int .i64 y3)]) rfl rfl rfl Try_cal_59 (table_Find_ok h4) rfl rfl rfl) ?_
  refine ras ?_
  refine reg_nil ?_
  refine post_imp (s' := ⟨73, [(0, some (.pv (.vs 7 (List.map eGClass a0)))), (1, some (.pv (.str a1))), (2, some (.pv (.vs 2 (List.map eGOwner a2)))), (4, some (.pv (.fn q4_f q4_c))), (12, some (.pv (.int .i64 y3)))], [], 0, [], [], 0, []⟩) (imps [] ⟨by kernel_rfl, by kernel_rfl, by kernel_rfl, by kernel_rfl, by kernel_rfl, trivial⟩ trivial) ?_
  refine post_next ?_
  iterate 2 (refine aw_seq ?_)
  obtain ⟨x9, hF, hK11⟩ := bind_some hF
  refine aw_cut (fun s1 => s1 = ⟨73, [(0, some (.pv (.vs 7 (List.map eGClass a0)))), (1, some (.pv (.str a1))), (2, some (.pv (.vs 2 (List.map eGOwner a2)))), (4, some (.pv (.fn q4_f q4_c))), (12, some (.pv (.int .i64 y3))), (36, some (.pv (.bool x9)))], [], 0, [], [], 0, []⟩) ?_ ?_
  · refine aw_region ?_
    refine rmv ?_
    refine reg_cons (guard_no rfl) (op_int (k := .i64) (m := y3) (n := 0) rfl rfl rfl rfl rfl rfl) ?_
    refine rmv ?_
    rcases ite_some hF with ⟨hb5, hF⟩ | ⟨hb5, hF⟩
    · refine rgo_t hb5 ?_
      iterate 6 (refine rgo_t hb5 ?_)
      refine rpt hb5 ?_
      refine rmv ?_
      iterate 3 (refine rgo_t rfl ?_)
      refine rpt rfl ?_
      refine reg_nil ?_
      cases hF
      exact post_cut _ rfl (imps [] ⟨by kernel_rfl, by kernel_rfl, by kernel_rfl, by kernel_rfl, by kernel_rfl, by kernel_rfl, trivial⟩ trivial)
    refine reg_cons (guard_on rfl rfl rfl rfl hb5) (op_move rfl rfl rfl rfl) ?_
    refine reg_cons (guard_on rfl rfl rfl rfl hb5) (op_len_vs (n := a2.length) rfl rfl (List.length_map ..) Try_slc_39 rfl rfl) ?_
    iterate 2 (refine reg_cons (guard_on rfl rfl rfl rfl hb5) (op_move rfl rfl rfl rfl) ?_)
    obtain ⟨y6, h7, hF⟩ := bind_some hF
    refine reg_cons (guard_on rfl rfl rfl rfl hb5) (op_call 0 rfl (caps := []) (args := [.vs 7 (List.map eGClass a0), .str a1]) (rs := [.p (.int .i64 y6)]) rfl rfl rfl Try_cal_82 (table_Arity_ok h7) rfl rfl rfl) ?_
    refine reg_cons (guard_on rfl rfl rfl rfl hb5) (op_int (k := .i64) (m := y6) (n := 1) rfl rfl rfl rfl rfl rfl) ?_
    refine reg_cons (guard_on rfl rfl rfl rfl hb5) (op_int (k := .i64) (m := (a2.length : Int)) (n := w_i64 (y6 + 1)) rfl rfl rfl rfl rfl rfl) ?_
    refine rpf hb5 ?_
    refine rmv ?_
    rcases ite_some hF with ⟨hb8, hF⟩ | ⟨hb8, hF⟩
    · refine rgo_t hb8 ?_
      iterate 2 (refine rgo_t hb8 ?_)
      refine rpt hb8 ?_
      refine reg_nil ?_
      cases hF
      exact post_cut _ rfl (imps [] ⟨by kernel_rfl, by kernel_rfl, by kernel_rfl, by kernel_rfl, by kernel_rfl, by kernel_rfl, trivial⟩ trivial)
    refine reg_cons (guard_on rfl rfl rfl rfl hb8) (op_move rfl rfl rfl rfl) ?_
    refine reg_cons (guard_on rfl rfl rfl rfl hb8) (op_len_vs (n := a2.length) rfl rfl (List.length_map ..) Try_slc_39 rfl rfl) ?_
    refine reg_cons (guard_on rfl rfl rfl rfl hb8) (op_int (k := .i64) (m := (a2.length : Int)) (n := 0) rfl rfl rfl rfl rfl rfl) ?_
    refine rpf hb8 ?_
    refine reg_nil ?_
    cases hF
    exact post_cut _ rfl (imps [] ⟨by kernel_rfl, by kernel_rfl, by kernel_rfl, by kernel_rfl, by kernel_rfl, by kernel_rfl, trivial⟩ trivial)
  rintro _ rfl
  have hF := hK11
  clear hK11
  refine post_next ?_
  rcases ite_some hF with ⟨hb12, hF⟩ | ⟨hb12, hF⟩
  · refine aw_cond_t rfl hb12 ?_
    refine aw_seq ?_
    refine aw_region ?_
    iterate 2 (refine ras ?_)
    refine reg_nil ?_
    refine post_imp (s' := ⟨73, [(10, some (.pv .nils)), (11, some (.pv (.bool false)))], [], 0, [], [], 0, []⟩) (imps [] ⟨by kernel_rfl, by kernel_rfl, trivial⟩ trivial) ?_
    refine post_next ?_
    refine aw_ret ?_
    refine post_then_ret ?_
    refine post_imp (imp_nil_own 10 24 2 0 rfl rfl) ?_
    obtain rfl := Option.some.inj hF
    exact post_ret rfl rfl (.cons _ _ _ _ _ (.tmp _ _ rfl) (.own _ _ _ _ rfl nolent3) (.cons _ _ _ _ _ (.tmp _ _ rfl) (.p _) .nil)) (.inl rfl)
  refine aw_cond_f rfl hb12 ?_
  refine aw_skip ?_
  refine post_next ?_
  refine aw_seq ?_
  refine aw_region ?_
  refine rmv ?_
  obtain ⟨y15, h16, hF⟩ := bind_some hF
  refine reg_cons (guard_no rfl) (op_call 0 rfl (caps := []) (args := [.vs 2 (List.map eGOwner a2)]) (rs := [.own 24 2 (List.map eGOwner y15)]) rfl rfl rfl Try_cal_63 (slices_Clone_api_Owner_ok h16) rfl rfl rfl) ?_
  refine ras ?_
  refine reg_nil ?_
  refine post_imp (s' := ⟨73, [(0, some (.pv (.vs 7 (List.map eGClass a0)))), (1, some (.pv (.str a1))), (2, some (.ls 0)), (4, some (.pv (.fn q4_f q4_c))), (12, some (.pv (.int .i64 y3)))], [(0, some (.row 24 2 (List.map eGOwner y15)))], 1, [], [], 0, []⟩) (imps [0] ⟨by kernel_rfl, by kernel_rfl, by kernel_rfl, by kernel_rfl, by kernel_rfl, trivial⟩ ⟨by kernel_rfl, trivial⟩) ?_
  refine post_next ?_
  iterate 2 (refine aw_seq ?_)
  refine aw_region ?_
  iterate 2 (refine rmv ?_)
  obtain ⟨y19, h20, hF⟩ := bind_some hF
  refine reg_cons (guard_no rfl) (op_call 1 rfl (caps := []) (args := [.vs 7 (List.map eGClass a0), .str a1]) (rs := [.p (.vs 1 (List.map eI y19))]) rfl rfl rfl Try_cal_83 (Fn.frozen (above_Chain_ok h20)) rfl rfl rfl) ?_
  refine reg_cons (guard_no rfl) (op_len_vs (n := y19.length) rfl rfl (List.length_map ..) Try_slc_55 rfl rfl) ?_
  refine rmv ?_
  refine reg_nil ?_
  refine post_imp (s' := ⟨73, [(0, some (.pv (.vs 7 (List.map eGClass a0)))), (2, some (.ls 0)), (4, some (.pv (.fn q4_f q4_c))), (12, some (.pv (.int .i64 y3))), (41, some (.pv (.vs 1 (List.map eI y19)))), (42, some (.pv (.int .i64 (y19.length : Int)))), (43, some (.pv (.int .i64 0)))], [(0, some (.row 24 2 (List.map eGOwner y15)))], 1, [], [], 0, []⟩) (imps [0] ⟨by kernel_rfl, by kernel_rfl, by kernel_rfl, by kernel_rfl, by kernel_rfl, by kernel_rfl, by kernel_rfl, trivial⟩ ⟨by kernel_rfl, trivial⟩) ?_
  refine post_next ?_
  obtain ⟨lr252, hF, hK253⟩ := bind_some hF
  refine aw_for ((((y19.length : Int) : Int) - (0)).toNat + 1) (fun s1 => ∃ q, lr252 = .next q ∧ s1 = ⟨73, [], [], 0, [], [], 0, []⟩) ?_ ?_
  · refine rnd_loop (α := (List GOwner) × Int) (fun q => ⟨73, [(0, some (.pv (.vs 7 (List.map eGClass a0)))), (2, some (.ls 0)), (4, some (.pv (.fn q4_f q4_c))), (12, some (.pv (.int .i64 y3))), (41, some (.pv (.vs 1 (List.map eI y19)))), (42, some (.pv (.int .i64 (y19.length : Int)))), (43, some (.pv (.int .i64 q.2)))], [(0, some (.row 24 2 (List.map eGOwner q.1)))], 1, [], [], 0, []⟩) (fun k q => raise_raise_api_Owner__L1 a0 q4 y3 y19 k q.1 q.2 = some lr252) (y15, 0) (imps [0] ⟨by kernel_rfl, by kernel_rfl, by kernel_rfl, by kernel_rfl, by kernel_rfl, by kernel_rfl, by kernel_rfl, trivial⟩ ⟨by kernel_rfl, trivial⟩) hF (fun q h => by cases h) ?_
    clear hF
    rintro k ⟨x96, x97⟩ hF ih
    refine rnd_succ ?_
    refine aw_seq ?_
    refine aw_region ?_
    refine reg_cons (guard_no rfl) (op_int (k := .i64) (m := x97) (n := (y19.length : Int)) rfl rfl rfl rfl rfl rfl) ?_
    refine reg_nil ?_
    refine post_imp (s' := ⟨73, [(0, some (.pv (.vs 7 (List.map eGClass a0)))), (2, some (.ls 0)), (4, some (.pv (.fn q4_f q4_c))), (12, some (.pv (.int .i64 y3))), (41, some (.pv (.vs 1 (List.map eI y19)))), (42, some (.pv (.int .i64 (y19.length : Int)))), (43, some (.pv (.int .i64 x97))), (44, some (.pv (.bool (decide (x97 < (y19.length : Int))))))], [(0, some (.row 24 2 (List.map eGOwner x96)))], 1, [], [], 0, []⟩) (imps [0] ⟨by kernel_rfl, by kernel_rfl, by kernel_rfl, by kernel_rfl, by kernel_rfl, by kernel_rfl, by kernel_rfl, by kernel_rfl, trivial⟩ ⟨by kernel_rfl, trivial⟩) ?_
    refine post_next ?_
    refine aw_seq ?_
    rcases ite_some hF with ⟨hb175, hF⟩ | ⟨hb175, hF⟩
    · refine aw_cond_t rfl hb175 ?_
      refine aw_skip ?_
      refine post_next ?_
      refine aw_seq ?_
      refine aw_block ?_
      refine aw_seq ?_
      refine aw_region ?_
      obtain ⟨y178, h179, hF⟩ := bind_some hF
      refine reg_cons (guard_no rfl) (op_index_vs (k := .i64) rfl rfl rfl (idx_map eI h179) Try_slc_55 rfl rfl) ?_
      refine reg_cons (guard_no rfl) (op_load_vp (p := .int .i64 y178) rfl rfl rfl Try_one_3 rfl rfl) ?_
      refine ras ?_
      refine reg_nil ?_
      refine post_imp (s' := ⟨73, [(0, some (.pv (.vs 7 (List.map eGClass a0)))), (2, some (.ls 0)), (4, some (.pv (.fn q4_f q4_c))), (12, some (.pv (.int .i64 y3))), (14, some (.pv (.int .i64 y178))), (41, some (.pv (.vs 1 (List.map eI y19)))), (42, some (.pv (.int .i64 (y19.length : Int)))), (43, some (.pv (.int .i64 x97)))], [(0, some (.row 24 2 (List.map eGOwner x96)))], 1, [], [], 0, []⟩) (imps [0] ⟨by kernel_rfl, by kernel_rfl, by kernel_rfl, by kernel_rfl, by kernel_rfl, by kernel_rfl, by kernel_rfl, by kernel_rfl, trivial⟩ ⟨by kernel_rfl, trivial⟩) ?_
      refine post_next ?_
      iterate 2 (refine aw_seq ?_)
      refine aw_region ?_
      iterate 2 (refine rmv ?_)
      refine reg_cons (guard_no rfl) (op_int (k := .i64) (m := y178) (n := y3) rfl rfl rfl rfl rfl rfl) ?_
      refine reg_nil ?_
      refine post_imp (s' := ⟨73, [(0, some (.pv (.vs 7 (List.map eGClass a0)))), (2, some (.ls 0)), (4, some (.pv (.fn q4_f q4_c))), (12, some (.pv (.int .i64 y3))), (14, some (.pv (.int .i64 y178))), (41, some (.pv (.vs 1 (List.map eI y19)))), (42, some (.pv (.int .i64 (y19.length : Int)))), (43, some (.pv (.int .i64 x97))), (49, some (.pv (.bool (y178 == y3))))], [(0, some (.row 24 2 (List.map eGOwner x96)))], 1, [], [], 0, []⟩) (imps [0] ⟨by kernel_rfl, by kernel_rfl, by kernel_rfl, by kernel_rfl, by kernel_rfl, by kernel_rfl, by kernel_rfl, by kernel_rfl, by kernel_rfl, trivial⟩ ⟨by kernel_rfl, trivial⟩) ?_
      refine post_next ?_
      rcases ite_some hF with ⟨hb180, hF⟩ | ⟨hb180, hF⟩
      · refine aw_cond_t rfl hb180 ?_
        refine aw_seq ?_
        refine aw_region ?_
        refine rmv ?_
        iterate 2 (refine ras ?_)
        refine reg_nil ?_
        refine post_imp (s' := ⟨73, [(10, some (.ls 0)), (11, some (.pv (.bool true)))], [(0, some (.row 24 2 (List.map eGOwner x96)))], 1, [], [], 0, []⟩) (imps [0] ⟨by kernel_rfl, by kernel_rfl, trivial⟩ ⟨by kernel_rfl, trivial⟩) ?_
        refine post_next ?_
        refine aw_ret ?_
        refine post_then_ret ?_
        refine post_block_ret ?_
        iterate 2 (refine post_then_ret ?_)
        refine post_lp_ret ?_
        obtain rfl := Option.some.inj hF
        have hF := elim_stop hK253
        refine post_then_ret ?_
        obtain rfl := Option.some.inj hF
        exact post_ret rfl rfl (.cons _ _ _ _ _ (.tmp _ _ rfl) (.own _ _ _ _ rfl nolent3) (.cons _ _ _ _ _ (.tmp _ _ rfl) (.p _) .nil)) (.inl rfl)
      refine aw_cond_f rfl hb180 ?_
      refine aw_skip ?_
      refine post_next ?_
      refine aw_seq ?_
      refine aw_region ?_
      refine rmv ?_
      obtain ⟨y183, h184, hF⟩ := bind_some hF
      refine reg_cons (guard_no rfl) (op_slice_ra (k := 1) rfl rfl rfl rfl rfl Try_slc_39 (cutL_map eGOwner h184) rfl rfl rfl) ?_
      refine ras ?_
      refine reg_nil ?_
      refine post_imp (s' := ⟨73, [(0, some (.pv (.vs 7 (List.map eGClass a0)))), (2, some (.ls 0)), (4, some (.pv (.fn q4_f q4_c))), (12, some (.pv (.int .i64 y3))), (14, some (.pv (.int .i64 y178))), (15, some (.ra 0 (1 : Int).toNat)), (41, some (.pv (.vs 1 (List.map eI y19)))), (42, some (.pv (.int .i64 (y19.length : Int)))), (43, some (.pv (.int .i64 x97)))], [(0, some (.row 24 2 (List.map eGOwner x96)))], 1, [], [], 0, []⟩) (imps [0] ⟨by kernel_rfl, by kernel_rfl, by kernel_rfl, by kernel_rfl, by kernel_rfl, by kernel_rfl, by kernel_rfl, by kernel_rfl, by kernel_rfl, trivial⟩ ⟨by kernel_rfl, trivial⟩) ?_
      refine post_next ?_
      iterate 2 (refine aw_seq ?_)
      refine aw_region ?_
      iterate 2 (refine rmv ?_)
      obtain ⟨y187, h188, hF⟩ := bind_some hF
      refine reg_cons (guard_no rfl) (op_index_vs (k := .i64) rfl rfl rfl (idx_map eGClass h188) Try_slc_22 rfl rfl) ?_
      refine reg_cons (guard_no rfl) (op_field_vp rfl rfl Try_fld_43_3 rfl rfl) ?_
      refine reg_cons (guard_no rfl) (op_load_vp (p := .vs 2 (List.map eGOwner y187.fAbove)) rfl rfl rfl Try_one_39 rfl rfl) ?_
      refine reg_cons (guard_no rfl) (op_len_vs (n := y187.fAbove.length) rfl rfl (List.length_map ..) Try_slc_39 rfl rfl) ?_
      refine rmv ?_
      refine reg_nil ?_
      refine post_imp (s' := ⟨73, [(0, some (.pv (.vs 7 (List.map eGClass a0)))), (2, some (.ls 0)), (4, some (.pv (.fn q4_f q4_c))), (12, some (.pv (.int .i64 y3))), (15, some (.ra 0 (1 : Int).toNat)), (41, some (.pv (.vs 1 (List.map eI y19)))), (42, some (.pv (.int .i64 (y19.length : Int)))), (43, some (.pv (.int .i64 x97))), (57, some (.pv (.vs 2 (List.map eGOwner y187.fAbove)))), (58, some (.pv (.int .i64 (y187.fAbove.length : Int)))), (59, some (.pv (.int .i64 0)))], [(0, some (.row 24 2 (List.map eGOwner x96)))], 1, [], [], 0, []⟩) (imps [0] ⟨by kernel_rfl, by kernel_rfl, by kernel_rfl, by kernel_rfl, by kernel_rfl, by kernel_rfl, by kernel_rfl, by kernel_rfl, by kernel_rfl, by kernel_rfl, by kernel_rfl, trivial⟩ ⟨by kernel_rfl, trivial⟩) ?_
      refine post_next ?_
      obtain ⟨x248, hF, hK249⟩ := bind_some hF
      refine aw_for ((((y187.fAbove.length : Int) : Int) - ((w_i64 (0 + 1)))).toNat + 1 + 1) (fun s1 => s1 = ⟨73, [(0, some (.pv (.vs 7 (List.map eGClass a0)))), (4, some (.pv (.fn q4_f q4_c))), (12, some (.pv (.int .i64 y3))), (15, some (.ls 0)), (41, some (.pv (.vs 1 (List.map eI y19)))), (42, some (.pv (.int .i64 (y19.length : Int)))), (43, some (.pv (.int .i64 x97)))], [(0, some (.row 24 2 (List.map eGOwner x248)))], 1, [], [], 0, []⟩) ?_ ?_
      · refine rnd_succ ?_
        refine aw_seq ?_
        refine aw_region ?_
        refine reg_cons (guard_no rfl) (op_int (k := .i64) (m := 0) (n := (y187.fAbove.length : Int)) rfl rfl rfl rfl rfl rfl) ?_
        refine reg_nil ?_
        refine post_imp (s' := ⟨73, [(0, some (.pv (.vs 7 (List.map eGClass a0)))), (2, some (.ls 0)), (4, some (.pv (.fn q4_f q4_c))), (12, some (.pv (.int .i64 y3))), (15, some (.ra 0 (1 : Int).toNat)), (41, some (.pv (.vs 1 (List.map eI y19)))), (42, some (.pv (.int .i64 (y19.length : Int)))), (43, some (.pv (.int .i64 x97))), (57, some (.pv (.vs 2 (List.map eGOwner y187.fAbove)))), (58, some (.pv (.int .i64 (y187.fAbove.length : Int)))), (59, some (.pv (.int .i64 0))), (60, some (.pv (.bool (decide (0 < (y187.fAbove.length : Int))))))], [(0, some (.row 24 2 (List.map eGOwner x96)))], 1, [], [], 0, []⟩) (imps [0] ⟨by kernel_rfl, by kernel_rfl, by kernel_rfl, by kernel_rfl, by kernel_rfl, by kernel_rfl, by kernel_rfl, by kernel_rfl, by kernel_rfl, by kernel_rfl, by kernel_rfl, by kernel_rfl, trivial⟩ ⟨by kernel_rfl, trivial⟩) ?_
        refine post_next ?_
        refine aw_seq ?_
        rcases ite_some hF with ⟨hb189, hF⟩ | ⟨hb189, hF⟩
        · refine aw_cond_t rfl hb189 ?_
          refine aw_skip ?_
          refine post_next ?_
          refine aw_seq ?_
          refine aw_block ?_
          refine aw_seq ?_
          refine aw_region ?_
          obtain ⟨y192, h193, hF⟩ := bind_some hF
          refine reg_cons (guard_no rfl) (op_index_vs (k := .i64) rfl rfl rfl (idx_map eGOwner h193) Try_slc_39 rfl rfl) ?_
          refine reg_cons (guard_no rfl) (op_load_vp_agg (ps := eGOwner y192) rfl rfl rfl rfl Try_agg_24 rfl rfl) ?_
          refine reg_cons (guard_no rfl) (op_alloc 1 rfl (ps := (eGOwner zGOwner)) rfl Try_zer_24 (by exact ⟨rfl, rfl, trivial⟩) rfl rfl) ?_
          refine reg_cons (guard_no rfl) (op_store_lp (n := 2) rfl rfl rfl rfl rfl (or_agg Try_agg_24) (by rw [Try_non_24]; rfl) rfl rfl rfl) ?_
          refine reg_nil ?_
          refine post_imp (s' := ⟨73, [(0, some (.pv (.vs 7 (List.map eGClass a0)))), (2, some (.ls 0)), (4, some (.pv (.fn q4_f q4_c))), (12, some (.pv (.int .i64 y3))), (15, some (.ra 0 (1 : Int).toNat)), (17, some (.lp 1 0)), (41, some (.pv (.vs 1 (List.map eI y19)))), (42, some (.pv (.int .i64 (y19.length : Int)))), (43, some (.pv (.int .i64 x97))), (57, some (.pv (.vs 2 (List.map eGOwner y187.fAbove)))), (58, some (.pv (.int .i64 (y187.fAbove.length : Int)))), (59, some (.pv (.int .i64 0)))], [(0, some (.row 24 2 (List.map eGOwner x96))), (1, some (.box 24 (bxv (eGOwner y192))))], 2, [], [], 0, []⟩) (imps [0, 1] ⟨by kernel_rfl, by kernel_rfl, by kernel_rfl, by kernel_rfl, by kernel_rfl, by kernel_rfl, by kernel_rfl, by kernel_rfl, by kernel_rfl, by kernel_rfl, by kernel_rfl, by kernel_rfl, trivial⟩ ⟨by kernel_rfl, by kernel_rfl, trivial⟩) ?_
          refine post_next ?_
          refine aw_region ?_
          iterate 2 (refine rmv ?_)
          refine reg_cons (guard_no rfl) (op_load_lp_agg (ps := eGOwner y192) rfl rfl rfl rfl rfl rfl Try_agg_24 rfl rfl) ?_
          refine rmv ?_
          obtain ⟨y198, h199, hF⟩ := bind_some hF
          refine reg_cons (guard_no rfl) (op_callB 2 rfl (caps := q4_c) (args := [.agg (eGOwner y192), .vs 2 (List.map eGOwner x96)]) [(0, some (.row 24 2 (List.map eGOwner x96)))] rfl rfl rfl (FzH.spec ⟨rfl, trivial⟩) rfl rfl q4_b (q4_h y192 x96 _ h199) rfl rfl rfl) ?_
          refine reg_cons (guard_no rfl) (op_lit (rows := List.map eGOwner ([y198] : List GOwner)) (zs := (eGOwner zGOwner)) rfl rfl Try_slc_39 Try_zer_24 (by exact ⟨rfl, rfl, trivial⟩) rfl rfl rfl rfl rfl rfl rfl rfl) ?_
          obtain ⟨u200, h201, hF⟩ := bind_some hF
          refine reg_cons (guard_no rfl) (op_append_ra 2 rfl rfl rfl rfl (cut_take eGOwner h184) (cut_len eGOwner h184) rfl rfl Try_slc_39 Try_elm_24 Try_zer_24 rfl rfl rfl (room_map (f := eGOwner) (g := eGOwner) h201) (List.map_append (f := eGOwner) (l₁ := y183) (l₂ := [y198])).symm rfl rfl) ?_
          refine ras ?_
          refine reg_nil ?_
          refine post_imp (s' := ⟨73, [(0, some (.pv (.vs 7 (List.map eGClass a0)))), (2, some (.ls 0)), (4, some (.pv (.fn q4_f q4_c))), (12, some (.pv (.int .i64 y3))), (15, some (.ls 1)), (41, some (.pv (.vs 1 (List.map eI y19)))), (42, some (.pv (.int .i64 (y19.length : Int)))), (43, some (.pv (.int .i64 x97))), (57, some (.pv (.vs 2 (List.map eGOwner y187.fAbove)))), (58, some (.pv (.int .i64 (y187.fAbove.length : Int)))), (59, some (.pv (.int .i64 0)))], [(0, some (.row 24 2 (List.map eGOwner x96))), (1, some (.row 24 2 (List.map eGOwner (y183 ++ [y198]))))], 2, [], [], 0, []⟩) (imps [0, 2] ⟨by kernel_rfl, by kernel_rfl, by kernel_rfl, by kernel_rfl, by kernel_rfl, by kernel_rfl, by kernel_rfl, by kernel_rfl, by kernel_rfl, by kernel_rfl, by kernel_rfl, trivial⟩ ⟨by kernel_rfl, by kernel_rfl, trivial⟩) ?_
          refine post_block_normal ?_
          refine post_next ?_
          refine aw_region ?_
          refine reg_cons (guard_no rfl) (op_int (k := .i64) (m := 0) (n := 1) rfl rfl rfl rfl rfl rfl) ?_
          refine rmv ?_
          refine reg_nil ?_
          replace hF : raise_raise_api_Owner__L2 q4 x96 y187 ((((y187.fAbove.length : Int) : Int) - ((w_i64 (0 + 1)))).toNat + 1) (y183 ++ [y198]) (w_i64 (0 + 1)) = some x248 := hF
          refine post_round ?_
          refine rnd_loop (α := (List GOwner) × Int) (fun q => ⟨73, [(0, some (.pv (.vs 7 (List.map eGClass a0)))), (2, some (.ls 0)), (4, some (.pv (.fn q4_f q4_c))), (12, some (.pv (.int .i64 y3))), (15, some (.ls 1)), (41, some (.pv (.vs 1 (List.map eI y19)))), (42, some (.pv (.int .i64 (y19.length : Int)))), (43, some (.pv (.int .i64 x97))), (57, some (.pv (.vs 2 (List.map eGOwner y187.fAbove)))), (58, some (.pv (.int .i64 (y187.fAbove.length : Int)))), (59, some (.pv (.int .i64 q.2)))], [(0, some (.row 24 2 (List.map eGOwner x96))), (1, some (.row 24 2 (List.map eGOwner q.1)))], 2, [], [], 0, []⟩) (fun k q => raise_raise_api_Owner__L2 q4 x96 y187 k q.1 q.2 = some x248) ((y183 ++ [y198]), w_i64 (0 + 1)) (imps [0, 1] ⟨by kernel_rfl, by kernel_rfl, by kernel_rfl, by kernel_rfl, by kernel_rfl, by kernel_rfl, by kernel_rfl, by kernel_rfl, by kernel_rfl, by kernel_rfl, by kernel_rfl, trivial⟩ ⟨by kernel_rfl, by kernel_rfl, trivial⟩) (by exact hF) (fun q h => by cases h) ?_
          clear hF
          rintro k ⟨x216, x217⟩ hF ih
          refine rnd_succ ?_
          refine aw_seq ?_
          refine aw_region ?_
          refine reg_cons (guard_no rfl) (op_int (k := .i64) (m := x217) (n := (y187.fAbove.length : Int)) rfl rfl rfl rfl rfl rfl) ?_
          refine reg_nil ?_
          refine post_imp (s' := ⟨73, [(0, some (.pv (.vs 7 (List.map eGClass a0)))), (2, some (.ls 0)), (4, some (.pv (.fn q4_f q4_c))), (12, some (.pv (.int .i64 y3))), (15, some (.ls 1)), (41, some (.pv (.vs 1 (List.map eI y19)))), (42, some (.pv (.int .i64 (y19.length : Int)))), (43, some (.pv (.int .i64 x97))), (57, some (.pv (.vs 2 (List.map eGOwner y187.fAbove)))), (58, some (.pv (.int .i64 (y187.fAbove.length : Int)))), (59, some (.pv (.int .i64 x217))), (60, some (.pv (.bool (decide (x217 < (y187.fAbove.length : Int))))))], [(0, some (.row 24 2 (List.map eGOwner x96))), (1, some (.row 24 2 (List.map eGOwner x216)))], 2, [], [], 0, []⟩) (imps [0, 1] ⟨by kernel_rfl, by kernel_rfl, by kernel_rfl, by kernel_rfl, by kernel_rfl, by kernel_rfl, by kernel_rfl, by kernel_rfl, by kernel_rfl, by kernel_rfl, by kernel_rfl, by kernel_rfl, trivial⟩ ⟨by kernel_rfl, by kernel_rfl, trivial⟩) ?_
          refine post_next ?_
          refine aw_seq ?_
          rcases ite_some hF with ⟨hb233, hF⟩ | ⟨hb233, hF⟩
          · refine aw_cond_t rfl hb233 ?_
            refine aw_skip ?_
            refine post_next ?_
            refine aw_seq ?_
            refine aw_block ?_
            refine aw_seq ?_
            refine aw_region ?_
            obtain ⟨y236, h237, hF⟩ := bind_some hF
            refine reg_cons (guard_no rfl) (op_index_vs (k := .i64) rfl rfl rfl (idx_map eGOwner h237) Try_slc_39 rfl rfl) ?_
            refine reg_cons (guard_no rfl) (op_load_vp_agg (ps := eGOwner y236) rfl rfl rfl rfl Try_agg_24 rfl rfl) ?_
            refine reg_cons (guard_no rfl) (op_alloc 2 rfl (ps := (eGOwner zGOwner)) rfl Try_zer_24 (by exact ⟨rfl, rfl, trivial⟩) rfl rfl) ?_
            refine reg_cons (guard_no rfl) (op_store_lp (n := 2) rfl rfl rfl rfl rfl (or_agg Try_agg_24) (by rw [Try_non_24]; rfl) rfl rfl rfl) ?_
            refine reg_nil ?_
            refine post_imp (s' := ⟨73, [(0, some (.pv (.vs 7 (List.map eGClass a0)))), (2, some (.ls 0)), (4, some (.pv (.fn q4_f q4_c))), (12, some (.pv (.int .i64 y3))), (15, some (.ls 1)), (17, some (.lp 2 0)), (41, some (.pv (.vs 1 (List.map eI y19)))), (42, some (.pv (.int .i64 (y19.length : Int)))), (43, some (.pv (.int .i64 x97))), (57, some (.pv (.vs 2 (List.map eGOwner y187.fAbove)))), (58, some (.pv (.int .i64 (y187.fAbove.length : Int)))), (59, some (.pv (.int .i64 x217)))], [(0, some (.row 24 2 (List.map eGOwner x96))), (1, some (.row 24 2 (List.map eGOwner x216))), (2, some (.box 24 (bxv (eGOwner y236))))], 3, [], [], 0, []⟩) (imps [0, 1, 2] ⟨by kernel_rfl, by kernel_rfl, by kernel_rfl, by kernel_rfl, by kernel_rfl, by kernel_rfl, by kernel_rfl, by kernel_rfl, by kernel_rfl, by kernel_rfl, by kernel_rfl, by kernel_rfl, trivial⟩ ⟨by kernel_rfl, by kernel_rfl, by kernel_rfl, trivial⟩) ?_
            refine post_next ?_
            refine aw_region ?_
            iterate 2 (refine rmv ?_)
            refine reg_cons (guard_no rfl) (op_load_lp_agg (ps := eGOwner y236) rfl rfl rfl rfl rfl rfl Try_agg_24 rfl rfl) ?_
            refine rmv ?_
            obtain ⟨y242, h243, hF⟩ := bind_some hF
            refine reg_cons (guard_no rfl) (op_callB 3 rfl (caps := q4_c) (args := [.agg (eGOwner y236), .vs 2 (List.map eGOwner x96)]) [(0, some (.row 24 2 (List.map eGOwner x96)))] rfl rfl rfl (FzH.spec ⟨rfl, trivial⟩) rfl rfl q4_b (q4_h y236 x96 _ h243) rfl rfl rfl) ?_
            refine reg_cons (guard_no rfl) (op_lit (rows := List.map eGOwner ([y242] : List GOwner)) (zs := (eGOwner zGOwner)) rfl rfl Try_slc_39 Try_zer_24 (by exact ⟨rfl, rfl, trivial⟩) rfl rfl rfl rfl rfl rfl rfl rfl) ?_
            obtain ⟨u244, h245, hF⟩ := bind_some hF
            refine reg_cons (guard_no rfl) (op_append 3 rfl rfl rfl rfl rfl Try_slc_39 Try_elm_24 Try_zer_24 rfl rfl rfl (room_map (f := eGOwner) (g := eGOwner) h245) (List.map_append (f := eGOwner) (l₁ := x216) (l₂ := [y242])).symm rfl rfl) ?_
            refine ras ?_
            refine reg_nil ?_
            refine post_imp (s' := ⟨73, [(0, some (.pv (.vs 7 (List.map eGClass a0)))), (2, some (.ls 0)), (4, some (.pv (.fn q4_f q4_c))), (12, some (.pv (.int .i64 y3))), (15, some (.ls 1)), (41, some (.pv (.vs 1 (List.map eI y19)))), (42, some (.pv (.int .i64 (y19.length : Int)))), (43, some (.pv (.int .i64 x97))), (57, some (.pv (.vs 2 (List.map eGOwner y187.fAbove)))), (58, some (.pv (.int .i64 (y187.fAbove.length : Int)))), (59, some (.pv (.int .i64 x217)))], [(0, some (.row 24 2 (List.map eGOwner x96))), (1, some (.row 24 2 (List.map eGOwner (x216 ++ [y242]))))], 2, [], [], 0, []⟩) (imps [0, 3] ⟨by kernel_rfl, by kernel_rfl, by kernel_rfl, by kernel_rfl, by kernel_rfl, by kernel_rfl, by kernel_rfl, by kernel_rfl, by kernel_rfl, by kernel_rfl, by kernel_rfl, trivial⟩ ⟨by kernel_rfl, by kernel_rfl, trivial⟩) ?_
            refine post_block_normal ?_
            refine post_next ?_
            refine aw_region ?_
            refine reg_cons (guard_no rfl) (op_int (k := .i64) (m := x217) (n := 1) rfl rfl rfl rfl rfl rfl) ?_
            refine rmv ?_
            refine reg_nil ?_
            refine post_round ?_
            exact rnd_back (ih ((x216 ++ [y242]), w_i64 (x217 + 1)) hF) (imps [0, 1] ⟨by kernel_rfl, by kernel_rfl, by kernel_rfl, by kernel_rfl, by kernel_rfl, by kernel_rfl, by kernel_rfl, by kernel_rfl, by kernel_rfl, by kernel_rfl, by kernel_rfl, trivial⟩ ⟨by kernel_rfl, by kernel_rfl, trivial⟩)
          refine aw_cond_f rfl hb233 ?_
          refine aw_exit ?_
          iterate 2 (refine post_then_exit ?_)
          obtain rfl := Option.some.inj hF
          exact post_lp_break _ rfl (imps [1] ⟨by kernel_rfl, by kernel_rfl, by kernel_rfl, by kernel_rfl, by kernel_rfl, by kernel_rfl, by kernel_rfl, trivial⟩ ⟨by kernel_rfl, trivial⟩)
        refine aw_cond_f rfl hb189 ?_
        refine aw_exit ?_
        iterate 2 (refine post_then_exit ?_)
        obtain rfl := Option.some.inj hF
        refine post_imp (imp_ra 15 0 1 rfl rfl rfl (cut_take eGOwner h184) (cut_len eGOwner h184)) ?_
        exact post_lp_break _ rfl (imps [1] ⟨by kernel_rfl, by kernel_rfl, by kernel_rfl, by kernel_rfl, by kernel_rfl, by kernel_rfl, by kernel_rfl, trivial⟩ ⟨by kernel_rfl, trivial⟩)
      rintro _ rfl
      have hF := hK249
      clear hK249
      refine post_next ?_
      refine aw_region ?_
      refine rmv ?_
      refine ras ?_
      refine reg_nil ?_
      refine post_imp (s' := ⟨73, [(0, some (.pv (.vs 7 (List.map eGClass a0)))), (2, some (.ls 0)), (4, some (.pv (.fn q4_f q4_c))), (12, some (.pv (.int .i64 y3))), (41, some (.pv (.vs 1 (List.map eI y19)))), (42, some (.pv (.int .i64 (y19.length : Int)))), (43, some (.pv (.int .i64 x97)))], [(0, some (.row 24 2 (List.map eGOwner x248)))], 1, [], [], 0, []⟩) (imps [0] ⟨by kernel_rfl, by kernel_rfl, by kernel_rfl, by kernel_rfl, by kernel_rfl, by kernel_rfl, by kernel_rfl, trivial⟩ ⟨by kernel_rfl, trivial⟩) ?_
      refine post_block_normal ?_
      refine post_next ?_
      refine aw_region ?_
      refine reg_cons (guard_no rfl) (op_int (k := .i64) (m := x97) (n := 1) rfl rfl rfl rfl rfl rfl) ?_
      refine rmv ?_
      refine reg_nil ?_
      refine post_round ?_
      exact rnd_back (ih (x248, w_i64 (x97 + 1)) hF) (imps [0] ⟨by kernel_rfl, by kernel_rfl, by kernel_rfl, by kernel_rfl, by kernel_rfl, by kernel_rfl, by kernel_rfl, trivial⟩ ⟨by kernel_rfl, trivial⟩)
    refine aw_cond_f rfl hb175 ?_
    refine aw_exit ?_
    iterate 2 (refine post_then_exit ?_)
    obtain rfl := Option.some.inj hF
    exact post_lp_break _ ⟨_, rfl, rfl⟩ (imps [] trivial trivial)
  rintro _ ⟨⟨⟩, rfl, rfl⟩
  have hF := elim_next hK253
  clear hK253
  refine post_next ?_
  refine aw_seq ?_
  refine aw_region ?_
  iterate 2 (refine ras ?_)
  refine reg_nil ?_
  refine post_imp (s' := ⟨73, [(10, some (.pv .nils)), (11, some (.pv (.bool false)))], [], 0, [], [], 0, []⟩) (imps [] ⟨by kernel_rfl, by kernel_rfl, trivial⟩ trivial) ?_
  refine post_next ?_
  refine aw_ret ?_
  refine post_imp (imp_nil_own 10 24 2 0 rfl rfl) ?_
  obtain rfl := Option.some.inj hF
  exact post_ret rfl rfl (.cons _ _ _ _ _ (.tmp _ _ rfl) (.own _ _ _ _ rfl nolent3) (.cons _ _ _ _ _ (.tmp _ _ rfl) (.p _) .nil)) (.inl rfl)
theorem raise_Raise_ok {a0 : List GClass} {a1 : List UInt8} {a2 : List GOwner} {a3 : List UInt8} {r : (List GOwner) × Bool} (hF : raise_Raise a0 a1 a2 a3 = some r) : Abs.Fn Try.prog 37 [.vs 7 (List.map eGClass a0), .str a1, .vs 2 (List.map eGOwner a2), .str a3] [.own 24 2 (List.map eGOwner r.1), .p (.bool r.2)] := by
  unfold raise_Raise at hF
  refine fn_of_body (n := 17) Try.func37 rfl rfl rfl ?_
  intro w O
  refine aw_seq ?_
  refine aw_region ?_
  refine ras ?_
  refine reg_imp (imp_nil_own 8 24 2 0 rfl rfl) ?_
  refine ras ?_
  refine reg_nil ?_
  refine post_imp (s' := ⟨17, [(0, some (.pv (.vs 7 (List.map eGClass a0)))), (1, some (.pv (.str a1))), (2, some (.pv (.vs 2 (List.map eGOwner a2)))), (3, some (.pv (.str a3)))], [], 0, [], [], 0, []⟩) (imps [] ⟨by kernel_rfl, by kernel_rfl, by kernel_rfl, by kernel_rfl, trivial⟩ trivial) ?_
  refine post_next ?_
  refine aw_seq ?_
  refine aw_region ?_
  iterate 4 (refine rmv ?_)
  obtain ⟨y3, h4, hF⟩ := bind_some hF
  refine reg_cons (guard_no rfl) (op_call 0 rfl (caps := []) (args := [.vs 7 (List.map eGClass a0), .str a1, .vs 2 (List.map eGOwner a2), .str a3, .fn 62 []]) (rs := [.own 24 2 (List.map eGOwner y3.1), .p (.bool y3.2)]) rfl rfl rfl Try_cal_61 (raise_raise_api_Owner__ok (q4_f := 62) (q4_c := []) (q4_b := Try_cal_62) (q4_h := fun _ _ r h => (owner_Put_ok h)) h4) rfl rfl rfl) ?_
  iterate 2 (refine reg_cons (guard_no rfl) (op_extract rfl rfl rfl rfl rfl) ?_)
  iterate 2 (refine ras ?_)
  refine reg_nil ?_
  refine post_imp (s' := ⟨17, [(8, some (.ls 0)), (9, some (.pv (.bool y3.2)))], [(0, some (.row 24 2 (List.map eGOwner y3.1)))], 1, [], [], 0, []⟩) (imps [0] ⟨by kernel_rfl, by kernel_rfl, trivial⟩ ⟨by kernel_rfl, trivial⟩) ?_
  refine post_next ?_
  refine aw_ret ?_
  obtain rfl := Option.some.inj hF
  exact post_ret rfl rfl (.cons _ _ _ _ _ (.tmp _ _ rfl) (.own _ _ _ _ rfl nolent3) (.cons _ _ _ _ _ (.tmp _ _ rfl) (.p _) .nil)) (.inl rfl)
theorem kind_Unique_ok {a0 : GType} {r : Bool} (hF : kind_Unique a0 = some r) : Abs.Fn Try.prog 46 [.agg (eGType a0)] [.p (.bool r)] := by
  unfold kind_Unique at hF
  refine fn_of_body (n := 13) Try.func46 rfl rfl rfl ?_
  intro w O
  refine aw_seq ?_
  refine aw_region ?_
  refine reg_cons (guard_no rfl) (op_box 0 rfl rfl rfl rfl rfl rfl) ?_
  refine ras ?_
  refine reg_nil ?_
  refine post_imp (s' := ⟨13, [(1, some (.lp 0 0))], [(0, some (.box 27 (bxv (eGType a0))))], 1, [], [], 0, []⟩) (imps [0] ⟨by kernel_rfl, trivial⟩ ⟨by kernel_rfl, trivial⟩) ?_
  refine post_next ?_
  refine aw_seq ?_
  refine aw_region ?_
  refine reg_cons (guard_no rfl) (op_field_lp rfl rfl Try_fld_27_0 rfl rfl) ?_
  refine reg_cons (guard_no rfl) (op_load_lp (v := .pv (.int .i64 a0.fKind)) rfl rfl rfl rfl Try_one_3 rfl rfl) ?_
  refine reg_cons (guard_no rfl) (op_int (k := .i64) (m := a0.fKind) (n := 2) rfl rfl rfl rfl rfl rfl) ?_
  refine rmv ?_
  rcases ite_some hF with ⟨hb1, hF⟩ | ⟨hb1, hF⟩
  · refine reg_cons (guard_on rfl rfl rfl rfl hb1) (op_field_lp rfl rfl Try_fld_27_3 rfl rfl) ?_
    refine reg_cons (guard_on rfl rfl rfl rfl hb1) (op_arr_lp (k := .i64) (m := 0) (n := 4) rfl rfl rfl Try_arr_25 rfl rfl rfl rfl) ?_
    refine reg_cons (guard_on rfl rfl rfl rfl hb1) (op_field_lp rfl rfl Try_fld_24_0 rfl rfl) ?_
    refine reg_cons (guard_on rfl rfl rfl rfl hb1) (op_load_lp (v := .pv (.int .i64 a0.fOwn.a0.fKind)) rfl rfl rfl rfl Try_one_3 rfl rfl) ?_
    refine reg_cons (guard_on rfl rfl rfl rfl hb1) (op_int (k := .i64) (m := a0.fOwn.a0.fKind) (n := 6) rfl rfl rfl rfl rfl rfl) ?_
    refine rpt hb1 ?_
    refine ras ?_
    refine reg_nil ?_
    refine post_imp (s' := ⟨13, [(2, some (.pv (.bool (a0.fOwn.a0.fKind == 6))))], [], 0, [], [], 0, []⟩) (imps [] ⟨by kernel_rfl, trivial⟩ trivial) ?_
    refine post_next ?_
    refine aw_ret ?_
    obtain rfl := Option.some.inj hF
    exact post_ret rfl rfl (.cons _ _ _ _ _ (.tmp _ _ rfl) (.p _) .nil) (.inl rfl)
  iterate 5 (refine rgo_f hb1 ?_)
  refine rpf hb1 ?_
  refine ras ?_
  refine reg_nil ?_
  refine post_imp (s' := ⟨13, [(2, some (.pv (.bool false)))], [], 0, [], [], 0, []⟩) (imps [] ⟨by kernel_rfl, trivial⟩ trivial) ?_
  refine post_next ?_
  refine aw_ret ?_
  obtain rfl := Option.some.inj hF
  exact post_ret rfl rfl (.cons _ _ _ _ _ (.tmp _ _ rfl) (.p _) .nil) (.inl rfl)
theorem adapt_through_ok {a0 : List GOwner} {a1 : List Int} {a2 : List Int} {r : (List Int) × (List GOwner) × (List Int)} (hF : adapt_through a0 a1 a2 = some r) : Abs.Fn Try.prog 71 [.vs 2 (List.map eGOwner a0), .vs 1 (List.map eI a1), .vs 1 (List.map eI a2)] [.p (.fn 86 [.vp ((eL 1 eI) r.1), .vp ((eL 2 eGOwner) r.2.1), .vp ((eL 1 eI) r.2.2)])] := by
  unfold adapt_through at hF
  refine fn_of_body (n := 8) Try.func71 rfl rfl rfl ?_
  intro w O
  refine aw_seq ?_
  refine aw_region ?_
  refine reg_cons (guard_no rfl) (op_box 0 rfl rfl rfl rfl rfl rfl) ?_
  refine reg_cons (guard_no rfl) (op_box 1 rfl rfl rfl rfl rfl rfl) ?_
  refine reg_cons (guard_no rfl) (op_box 2 rfl rfl rfl rfl rfl rfl) ?_
  refine ras ?_
  refine reg_nil ?_
  refine post_imp (s' := ⟨8, [(3, some (.lp 0 0)), (4, some (.lp 1 0)), (5, some (.lp 2 0))], [(0, some (.box 39 [.pv (.vs 2 (List.map eGOwner a0))])), (1, some (.box 55 [.pv (.vs 1 (List.map eI a1))])), (2, some (.box 55 [.pv (.vs 1 (List.map eI a2))]))], 3, [], [], 0, []⟩) (imps [0, 1, 2] ⟨by kernel_rfl, by kernel_rfl, by kernel_rfl, trivial⟩ ⟨by kernel_rfl, by kernel_rfl, by kernel_rfl, trivial⟩) ?_
  refine post_next ?_
  refine aw_seq ?_
  refine aw_region ?_
  refine reg_cons (guard_no rfl) (op_makeFunc rfl rfl rfl rfl) ?_
  refine ras ?_
  refine reg_nil ?_
  refine post_imp (s' := ⟨8, [(6, some (.fn 86 [.lp 0 0, .lp 1 0, .lp 2 0]))], [(0, some (.box 55 [.pv (.vs 1 (List.map eI a1))])), (1, some (.box 39 [.pv (.vs 2 (List.map eGOwner a0))])), (2, some (.box 55 [.pv (.vs 1 (List.map eI a2))]))], 3, [], [], 0, []⟩) (imps [1, 0, 2] ⟨by kernel_rfl, trivial⟩ ⟨by kernel_rfl, by kernel_rfl, by kernel_rfl, trivial⟩) ?_
  refine post_next ?_
  refine aw_ret ?_
  refine post_imp (imp_freeze_cap 6 0 [.pv (.vp ((eL 1 eI) a1)), .lp 1 0, .lp 2 0] rfl rfl rfl rfl ⟨.inr ⟨rfl, rfl⟩, .inl rfl, .inl rfl, trivial⟩) ?_
  refine post_imp (imp_freeze_cap 6 1 [.pv (.vp ((eL 1 eI) a1)), .pv (.vp ((eL 2 eGOwner) a0)), .lp 2 0] rfl rfl rfl rfl ⟨.inl rfl, .inr ⟨rfl, rfl⟩, .inl rfl, trivial⟩) ?_
  refine post_imp (imp_freeze [(2, some (.box 55 [.pv (.vs 1 (List.map eI a2))]))] [(6, some (.pv (.fn 86 [.vp ((eL 1 eI) a1), .vp ((eL 2 eGOwner) a0), .vp ((eL 1 eI) a2)])))] (FzH.spec ⟨rfl, trivial⟩) ⟨⟨_, rfl, rfl⟩, trivial⟩) ?_
  obtain rfl := Option.some.inj hF
  exact post_ret rfl rfl (.cons _ _ _ _ _ (.tmp _ _ rfl) (.p _) .nil) (.inl rfl)
theorem adapt_made_ok {a0 : List GClass} {a1 : GView_adapt} {a2 : List UInt8} {r : Clo0} (hF : adapt_made a0 a1 a2 = some r) : Abs.Fn Try.prog 44 [.vs 7 (List.map eGClass a0), .agg (eGView_adapt a1), .str a2] [.p (.fn r.f r.c)] := by
  unfold adapt_made at hF
  refine fn_of_body (n := 63) Try.func44 rfl rfl rfl ?_
  intro w O
  refine aw_seq ?_
  refine aw_region ?_
  refine reg_cons (guard_no rfl) (op_box 0 rfl rfl rfl rfl rfl rfl) ?_
  refine ras ?_
  refine reg_nil ?_
  refine post_imp (s' := ⟨63, [(0, some (.pv (.vs 7 (List.map eGClass a0)))), (2, some (.pv (.str a2))), (4, some (.lp 0 0))], [(0, some (.box 47 (bxv (eGView_adapt a1))))], 1, [], [], 0, []⟩) (imps [0] ⟨by kernel_rfl, by kernel_rfl, by kernel_rfl, trivial⟩ ⟨by kernel_rfl, trivial⟩) ?_
  refine post_next ?_
  refine aw_seq ?_
  refine aw_imp (imp_names 1) ?_
  refine dr_start ⟨_, _, _⟩ rfl ?_
  refine drm ?_
  refine dr_cons { need := [(4, .lp 0 0)], dst := some 12, val := some (.lp 0 1) } (fun m h => step_on (guard_no rfl) (op_field_lp rfl h.1.1 Try_fld_47_1 rfl rfl) rfl) ⟨⟨rfl, trivial⟩, trivial, trivial⟩ ?_
  refine dr_cons { need := [(12, .lp 0 1)], dst := some 13, val := some (.lp 0 2) } (fun m h => step_on (guard_no rfl) (op_field_lp rfl h.1.1 Try_fld_27_1 rfl rfl) rfl) ⟨⟨rfl, trivial⟩, trivial, trivial⟩ ?_
  refine dr_cons { need := [(13, .lp 0 2)], hneed := [(0, .box 47 (bxv (eGView_adapt a1)))], dst := some 14, val := some (.pv (.str a1.fObject.fClass)) } (fun m h => step_on (guard_no rfl) (op_load_lp (v := .pv (.str a1.fObject.fClass)) rfl h.1.1 h.2.1.1 rfl Try_one_9 rfl rfl) rfl) ⟨⟨rfl, trivial⟩, ⟨rfl, trivial⟩, trivial⟩ ?_
  refine dr_cons { need := [(4, .lp 0 0)], dst := some 15, val := some (.lp 0 1) } (fun m h => step_on (guard_no rfl) (op_field_lp rfl h.1.1 Try_fld_47_1 rfl rfl) rfl) ⟨⟨rfl, trivial⟩, trivial, trivial⟩ ?_
  refine dr_cons { need := [(15, .lp 0 1)], hneed := [(0, .box 47 (bxv (eGView_adapt a1)))], dst := some 16, val := some (.pv (.agg (eGType a1.fObject))) } (fun m h => step_on (guard_no rfl) (op_load_lp_agg (ps := eGType a1.fObject) rfl h.1.1 h.2.1.1 rfl rfl rfl Try_agg_27 rfl rfl) rfl) ⟨⟨rfl, trivial⟩, ⟨rfl, trivial⟩, trivial⟩ ?_
  obtain ⟨y5, h6, hF⟩ := bind_some hF
  refine dr_cons { need := [(16, .pv (.agg (eGType a1.fObject)))], dst := some 17, val := some (.pv (.vs 2 (List.map eGOwner y5))) } (fun m h => step_on (guard_no rfl) (op_call 2 rfl (caps := []) (args := [.agg (eGType a1.fObject)]) (rs := [.p (.vs 2 (List.map eGOwner y5))]) rfl rfl (evl_cons h.1.1 evl_nil) Try_cal_38 (kind_Owners_ok h6) rfl rfl rfl) rfl) ⟨⟨rfl, trivial⟩, trivial, trivial⟩ ?_
  refine drm ?_
  obtain ⟨y7, h8, hF⟩ := bind_some hF
  refine dr_cons { need := [(18, .pv (.str a2)), (17, .pv (.vs 2 (List.map eGOwner y5))), (14, .pv (.str a1.fObject.fClass)), (11, .pv (.vs 7 (List.map eGClass a0)))], dst := some 19, val := some (.tup [.pv (.vs 2 (List.map eGOwner y7.1)), .pv (.bool y7.2)]) } (fun m h => step_on (guard_no rfl) (op_call 2 rfl (caps := []) (args := [.vs 7 (List.map eGClass a0), .str a1.fObject.fClass, .vs 2 (List.map eGOwner y5), .str a2]) (rs := [.p (.vs 2 (List.map eGOwner y7.1)), .p (.bool y7.2)]) rfl rfl (evl_cons h.1.2.2.2.1 (evl_cons h.1.2.2.1 (evl_cons h.1.2.1 (evl_cons h.1.1 evl_nil)))) Try_cal_37 (Fn.frozen (raise_Raise_ok h8)) rfl rfl rfl) rfl) ⟨⟨rfl, rfl, rfl, rfl, trivial⟩, trivial, trivial⟩ ?_
  refine drm ?_
  refine dr_cons { need := [(10, .tup [.pv (.vs 2 (List.map eGOwner y7.1)), .pv (.bool y7.2)])], dst := some 20, val := some (.pv (.vs 2 (List.map eGOwner y7.1))) } (fun m h => step_on (guard_no rfl) (op_extract rfl h.1.1 rfl rfl rfl) rfl) ⟨⟨rfl, trivial⟩, trivial, trivial⟩ ?_
  refine dr_cons { need := [(10, .tup [.pv (.vs 2 (List.map eGOwner y7.1)), .pv (.bool y7.2)])], dst := some 21, val := some (.pv (.bool y7.2)) } (fun m h => step_on (guard_no rfl) (op_extract rfl h.1.1 rfl rfl rfl) rfl) ⟨⟨rfl, trivial⟩, trivial, trivial⟩ ?_
  refine dr_cons { names := [1], dst := some 7, val := some (.lp 1 0), upd := [(1, some (.box 39 [.pv (.vs 2 (List.map eGOwner []))]))] } (fun m h => step_on (guard_no rfl) (op_alloc 1 (fresh_free h.2.2.1) (ps := [.vs 2 (List.map eGOwner [])]) rfl Try_zer_39 (by exact ⟨trivial, trivial⟩) rfl rfl) rfl) ⟨trivial, trivial, ⟨rfl, trivial⟩⟩ ?_
  refine dr_cons { need := [(7, .lp 1 0), (20, .pv (.vs 2 (List.map eGOwner y7.1)))], hneed := [(1, .box 39 [.pv (.vs 2 (List.map eGOwner []))])], upd := [(1, some (.box 39 [.pv (.vs 2 (List.map eGOwner y7.1))]))] } (fun m h => step_on (guard_no rfl) (op_store_lp (n := 1) rfl h.1.1 h.1.2.1 rfl h.2.1.1 (or_one Try_one_39) (by rw [Try_one_39]; rfl) rfl rfl rfl) rfl) ⟨⟨rfl, rfl, trivial⟩, ⟨rfl, trivial⟩, trivial⟩ ?_
  refine dr_cons { need := [(21, .pv (.bool y7.2))], dst := some 8, val := some (.pv (.bool y7.2)) } (fun m h => step_on (guard_no rfl) (op_assign rfl h.1.1 rfl rfl) rfl) ⟨⟨rfl, trivial⟩, trivial, trivial⟩ ?_
  refine dr_nil Try_mixed rfl (by kernel_rfl) ?_
  refine post_imp (s' := ⟨63, [(4, some (.lp 0 0)), (7, some (.lp 1 0)), (8, some (.pv (.bool y7.2)))], [(0, some (.box 47 (bxv (eGView_adapt a1)))), (1, some (.box 39 [.pv (.vs 2 (List.map eGOwner y7.1))]))], 2, [], [], 0, []⟩) (imps [0, 1] ⟨by kernel_rfl, by kernel_rfl, by kernel_rfl, trivial⟩ ⟨by kernel_rfl, by kernel_rfl, trivial⟩) ?_
  refine post_next ?_
  refine aw_seq ?_
  refine aw_block ?_
  refine aw_seq ?_
  refine aw_region ?_
  refine rmv ?_
  refine reg_cons (guard_no rfl) (op_not rfl rfl rfl rfl) ?_
  refine ras ?_
  refine reg_nil ?_
  refine post_imp (s' := ⟨63, [(4, some (.lp 0 0)), (7, some (.lp 1 0)), (22, some (.pv (.bool (!y7.2))))], [(0, some (.box 47 (bxv (eGView_adapt a1)))), (1, some (.box 39 [.pv (.vs 2 (List.map eGOwner y7.1))]))], 2, [], [], 0, []⟩) (imps [0, 1] ⟨by kernel_rfl, by kernel_rfl, by kernel_rfl, trivial⟩ ⟨by kernel_rfl, by kernel_rfl, trivial⟩) ?_
  refine post_next ?_
  rcases ite_some hF with ⟨hb9, hF⟩ | ⟨hb9, hF⟩
  · refine aw_cond_t rfl hb9 ?_
    refine aw_seq ?_
    refine aw_region ?_
    refine ras ?_
    refine reg_nil ?_
    refine post_imp (s' := ⟨63, [(6, some (.pv (.fn 45 [])))], [], 0, [], [], 0, []⟩) (imps [] ⟨by kernel_rfl, trivial⟩ trivial) ?_
    refine post_next ?_
    refine aw_ret ?_
    refine post_block_ret ?_
    refine post_then_ret ?_
    obtain rfl := Option.some.inj hF
    exact post_ret rfl rfl (.cons _ _ _ _ _ (.tmp _ _ rfl) (.p _) .nil) (.inl rfl)
  refine aw_cond_f rfl hb9 ?_
  refine aw_seq ?_
  refine aw_region ?_
  refine reg_cons (guard_no rfl) (op_field_lp rfl rfl Try_fld_47_2 rfl rfl) ?_
  refine reg_cons (guard_no rfl) (op_load_lp (v := .pv (.bool a1.fThis)) rfl rfl rfl rfl Try_one_4 rfl rfl) ?_
  refine ras ?_
  refine reg_nil ?_
  refine post_imp (s' := ⟨63, [(4, some (.lp 0 0)), (7, some (.lp 1 0)), (25, some (.pv (.bool a1.fThis)))], [(0, some (.box 47 (bxv (eGView_adapt a1)))), (1, some (.box 39 [.pv (.vs 2 (List.map eGOwner y7.1))]))], 2, [], [], 0, []⟩) (imps [0, 1] ⟨by kernel_rfl, by kernel_rfl, by kernel_rfl, trivial⟩ ⟨by kernel_rfl, by kernel_rfl, trivial⟩) ?_
  refine post_next ?_
  rcases ite_some hF with ⟨hb10, hF⟩ | ⟨hb10, hF⟩
  · refine aw_cond_t rfl hb10 ?_
    refine aw_seq ?_
    refine aw_region ?_
    refine reg_cons (guard_no rfl) (op_makeFunc rfl rfl rfl rfl) ?_
    refine ras ?_
    refine reg_nil ?_
    refine post_imp (s' := ⟨63, [(6, some (.fn 70 [.lp 0 0]))], [(0, some (.box 39 [.pv (.vs 2 (List.map eGOwner y7.1))]))], 1, [], [], 0, []⟩) (imps [1] ⟨by kernel_rfl, trivial⟩ ⟨by kernel_rfl, trivial⟩) ?_
    refine post_next ?_
    refine aw_ret ?_
    refine post_block_ret ?_
    refine post_then_ret ?_
    refine post_imp (imp_freeze [(0, some (.box 39 [.pv (.vs 2 (List.map eGOwner y7.1))]))] [(6, some (.pv (.fn 70 [.vp ((eL 2 eGOwner) y7.1)])))] (FzH.spec ⟨rfl, trivial⟩) ⟨⟨_, rfl, rfl⟩, trivial⟩) ?_
    obtain rfl := Option.some.inj hF
    exact post_ret rfl rfl (.cons _ _ _ _ _ (.tmp _ _ rfl) (.p _) .nil) (.inl rfl)
  refine aw_cond_f rfl hb10 ?_
  refine aw_seq ?_
  refine aw_region ?_
  refine reg_cons (guard_no rfl) (op_field_lp rfl rfl Try_fld_47_1 rfl rfl) ?_
  refine reg_cons (guard_no rfl) (op_load_lp_agg (ps := eGType a1.fObject) rfl rfl rfl rfl rfl rfl Try_agg_27 rfl rfl) ?_
  obtain ⟨y13, h14, hF⟩ := bind_some hF
  refine reg_cons (guard_no rfl) (op_call 2 rfl (caps := []) (args := [.agg (eGType a1.fObject)]) (rs := [.p (.bool y13)]) rfl rfl rfl Try_cal_46 (kind_Unique_ok h14) rfl rfl rfl) ?_
  refine ras ?_
  refine reg_nil ?_
  refine post_imp (s' := ⟨63, [(4, some (.lp 0 0)), (7, some (.lp 1 0)), (29, some (.pv (.bool y13)))], [(0, some (.box 47 (bxv (eGView_adapt a1)))), (1, some (.box 39 [.pv (.vs 2 (List.map eGOwner y7.1))]))], 2, [], [], 0, []⟩) (imps [0, 1] ⟨by kernel_rfl, by kernel_rfl, by kernel_rfl, trivial⟩ ⟨by kernel_rfl, by kernel_rfl, trivial⟩) ?_
  refine post_next ?_
  rcases ite_some hF with ⟨hb15, hF⟩ | ⟨hb15, hF⟩
  · refine aw_cond_t rfl hb15 ?_
    refine aw_seq ?_
    refine aw_region ?_
    refine reg_cons (guard_no rfl) (op_load_lp (v := .pv (.vs 2 (List.map eGOwner y7.1))) rfl rfl rfl rfl Try_one_39 rfl rfl) ?_
    refine reg_cons (guard_no rfl) (op_lit (rows := List.map eI ([3] : List Int)) (zs := [.int .i64 0]) rfl rfl Try_slc_55 Try_zer_3 (by exact ⟨rfl, trivial⟩) rfl rfl rfl rfl rfl rfl rfl rfl) ?_
    refine reg_cons (guard_no rfl) (op_lit (rows := List.map eI ([4, 6] : List Int)) (zs := [.int .i64 0]) rfl rfl Try_slc_55 Try_zer_3 (by exact ⟨rfl, trivial⟩) rfl rfl rfl rfl rfl rfl rfl rfl) ?_
    obtain ⟨y16, h17, hF⟩ := bind_some hF
    refine reg_cons (guard_no rfl) (op_call 2 rfl (caps := []) (args := [.vs 2 (List.map eGOwner y7.1), .vs 1 (List.map eI [3]), .vs 1 (List.map eI [4, 6])]) (rs := [.p (.fn 86 [.vp ((eL 1 eI) y16.1), .vp ((eL 2 eGOwner) y16.2.1), .vp ((eL 1 eI) y16.2.2)])]) rfl rfl rfl Try_cal_71 (adapt_through_ok h17) rfl rfl rfl) ?_
    refine ras ?_
    refine reg_nil ?_
    refine post_imp (s' := ⟨63, [(6, some (.pv (.fn 86 [.vp ((eL 1 eI) y16.1), .vp ((eL 2 eGOwner) y16.2.1), .vp ((eL 1 eI) y16.2.2)])))], [], 0, [], [], 0, []⟩) (imps [] ⟨by kernel_rfl, trivial⟩ trivial) ?_
    refine post_next ?_
    refine aw_ret ?_
    refine post_block_ret ?_
    refine post_then_ret ?_
    obtain rfl := Option.some.inj hF
    exact post_ret rfl rfl (.cons _ _ _ _ _ (.tmp _ _ rfl) (.p _) .nil) (.inl rfl)
  refine aw_cond_f rfl hb15 ?_
  refine aw_seq ?_
  refine aw_region ?_
  refine reg_cons (guard_no rfl) (op_field_lp rfl rfl Try_fld_47_0 rfl rfl) ?_
  refine reg_cons (guard_no rfl) (op_load_lp (v := .pv (.int .i64 a1.fMode)) rfl rfl rfl rfl Try_one_3 rfl rfl) ?_
  refine reg_cons (guard_no rfl) (op_int (k := .i64) (m := a1.fMode) (n := 1) rfl rfl rfl rfl rfl rfl) ?_
  refine ras ?_
  refine reg_nil ?_
  refine post_imp (s' := ⟨63, [(4, some (.lp 0 0)), (7, some (.lp 1 0)), (37, some (.pv (.bool (a1.fMode == 1))))], [(0, some (.box 47 (bxv (eGView_adapt a1)))), (1, some (.box 39 [.pv (.vs 2 (List.map eGOwner y7.1))]))], 2, [], [], 0, []⟩) (imps [0, 1] ⟨by kernel_rfl, by kernel_rfl, by kernel_rfl, trivial⟩ ⟨by kernel_rfl, by kernel_rfl, trivial⟩) ?_
  refine post_next ?_
  rcases ite_some hF with ⟨hb18, hF⟩ | ⟨hb18, hF⟩
  · refine aw_cond_t rfl hb18 ?_
    refine aw_seq ?_
    refine aw_region ?_
    refine reg_cons (guard_no rfl) (op_makeFunc rfl rfl rfl rfl) ?_
    refine ras ?_
    refine reg_nil ?_
    refine post_imp (s' := ⟨63, [(6, some (.fn 72 [.lp 0 0]))], [(0, some (.box 39 [.pv (.vs 2 (List.map eGOwner y7.1))]))], 1, [], [], 0, []⟩) (imps [1] ⟨by kernel_rfl, trivial⟩ ⟨by kernel_rfl, trivial⟩) ?_
    refine post_next ?_
    refine aw_ret ?_
    refine post_block_ret ?_
    refine post_then_ret ?_
    refine post_imp (imp_freeze [(0, some (.box 39 [.pv (.vs 2 (List.map eGOwner y7.1))]))] [(6, some (.pv (.fn 72 [.vp ((eL 2 eGOwner) y7.1)])))] (FzH.spec ⟨rfl, trivial⟩) ⟨⟨_, rfl, rfl⟩, trivial⟩) ?_
    obtain rfl := Option.some.inj hF
    exact post_ret rfl rfl (.cons _ _ _ _ _ (.tmp _ _ rfl) (.p _) .nil) (.inl rfl)
  refine aw_cond_f rfl hb18 ?_
  refine aw_seq ?_
  refine aw_region ?_
  refine reg_cons (guard_no rfl) (op_field_lp rfl rfl Try_fld_47_0 rfl rfl) ?_
  refine reg_cons (guard_no rfl) (op_load_lp (v := .pv (.int .i64 a1.fMode)) rfl rfl rfl rfl Try_one_3 rfl rfl) ?_
  refine reg_cons (guard_no rfl) (op_int (k := .i64) (m := a1.fMode) (n := 2) rfl rfl rfl rfl rfl rfl) ?_
  refine ras ?_
  refine reg_nil ?_
  refine post_imp (s' := ⟨63, [(7, some (.lp 0 0)), (42, some (.pv (.bool (a1.fMode == 2))))], [(0, some (.box 39 [.pv (.vs 2 (List.map eGOwner y7.1))]))], 1, [], [], 0, []⟩) (imps [1] ⟨by kernel_rfl, by kernel_rfl, trivial⟩ ⟨by kernel_rfl, trivial⟩) ?_
  refine post_next ?_
  rcases ite_some hF with ⟨hb19, hF⟩ | ⟨hb19, hF⟩
  · refine aw_cond_t rfl hb19 ?_
    refine aw_seq ?_
    refine aw_region ?_
    refine reg_cons (guard_no rfl) (op_lit (rows := List.map eI ([2] : List Int)) (zs := [.int .i64 0]) rfl rfl Try_slc_55 Try_zer_3 (by exact ⟨rfl, trivial⟩) rfl rfl rfl rfl rfl rfl rfl rfl) ?_
    refine ras ?_
    refine reg_nil ?_
    refine post_imp (s' := ⟨63, [(7, some (.lp 0 0)), (9, some (.pv (.vs 1 (List.map eI [2]))))], [(0, some (.box 39 [.pv (.vs 2 (List.map eGOwner y7.1))]))], 1, [], [], 0, []⟩) (imps [0] ⟨by kernel_rfl, by kernel_rfl, trivial⟩ ⟨by kernel_rfl, trivial⟩) ?_
    refine post_next ?_
    refine aw_seq ?_
    obtain ⟨x31, hF, hK33⟩ := bind_some hF
    refine aw_cut (fun s1 => s1 = ⟨63, [(7, some (.lp 0 0)), (9, some (.pv (.vs 1 (List.map eI x31))))], [(0, some (.box 39 [.pv (.vs 2 (List.map eGOwner y7.1))]))], 1, [], [], 0, []⟩) ?_ ?_
    · refine aw_seq ?_
      obtain ⟨x27, hF, hK29⟩ := bind_some hF
      refine aw_cut (fun s1 => s1 = ⟨63, [(7, some (.lp 0 0)), (9, some (.pv (.vs 1 (List.map eI [2])))), (58, some (.pv (.bool x27)))], [(0, some (.box 39 [.pv (.vs 2 (List.map eGOwner y7.1))]))], 1, [], [], 0, []⟩) ?_ ?_
      · refine aw_region ?_
        refine reg_cons (guard_no rfl) (op_load_lp (v := .pv (.vs 2 (List.map eGOwner y7.1))) rfl rfl rfl rfl Try_one_39 rfl rfl) ?_
        obtain ⟨y22, h23, hF⟩ := bind_some hF
        refine reg_cons (guard_no rfl) (op_index_vs (k := .i64) rfl rfl rfl (idx_map eGOwner h23) Try_slc_39 rfl rfl) ?_
        refine reg_cons (guard_no rfl) (op_field_vp rfl rfl Try_fld_24_0 rfl rfl) ?_
        refine reg_cons (guard_no rfl) (op_load_vp (p := .int .i64 y22.fKind) rfl rfl rfl Try_one_3 rfl rfl) ?_
        refine reg_cons (guard_no rfl) (op_int (k := .i64) (m := y22.fKind) (n := 1) rfl rfl rfl rfl rfl rfl) ?_
        refine rmv ?_
        rcases ite_some hF with ⟨hb24, hF⟩ | ⟨hb24, hF⟩
        · refine reg_cons (guard_on rfl rfl rfl rfl hb24) (op_load_lp (v := .pv (.vs 2 (List.map eGOwner y7.1))) rfl rfl rfl rfl Try_one_39 rfl rfl) ?_
          obtain ⟨y25, h26, hF⟩ := bind_some hF
          refine reg_cons (guard_on rfl rfl rfl rfl hb24) (op_index_vs (k := .i64) rfl rfl rfl (idx_map eGOwner h26) Try_slc_39 rfl rfl) ?_
          refine reg_cons (guard_on rfl rfl rfl rfl hb24) (op_field_vp rfl rfl Try_fld_24_0 rfl rfl) ?_
          refine reg_cons (guard_on rfl rfl rfl rfl hb24) (op_load_vp (p := .int .i64 y25.fKind) rfl rfl rfl Try_one_3 rfl rfl) ?_
          refine reg_cons (guard_on rfl rfl rfl rfl hb24) (op_int (k := .i64) (m := y25.fKind) (n := 2) rfl rfl rfl rfl rfl rfl) ?_
          refine rpt hb24 ?_
          refine reg_nil ?_
          cases hF
          exact post_cut _ rfl (imps [0] ⟨by kernel_rfl, by kernel_rfl, by kernel_rfl, trivial⟩ ⟨by kernel_rfl, trivial⟩)
        iterate 5 (refine rgo_f hb24 ?_)
        refine rpf hb24 ?_
        refine reg_nil ?_
        cases hF
        exact post_cut _ rfl (imps [0] ⟨by kernel_rfl, by kernel_rfl, by kernel_rfl, trivial⟩ ⟨by kernel_rfl, trivial⟩)
      rintro _ rfl
      have hF := hK29
      clear hK29
      refine post_next ?_
      rcases ite_some hF with ⟨hb30, hF⟩ | ⟨hb30, hF⟩
      · refine aw_cond_t rfl hb30 ?_
        refine aw_region ?_
        refine ras ?_
        refine reg_nil ?_
        cases hF
        refine post_imp (imp_nil_vs 9 1 rfl) ?_
        exact post_cut _ rfl (imps [0] ⟨by kernel_rfl, by kernel_rfl, trivial⟩ ⟨by kernel_rfl, trivial⟩)
      refine aw_cond_f rfl hb30 ?_
      refine aw_skip ?_
      cases hF
      exact post_cut _ rfl (imps [0] ⟨by kernel_rfl, by kernel_rfl, trivial⟩ ⟨by kernel_rfl, trivial⟩)
    rintro _ rfl
    have hF := hK33
    clear hK33
    refine post_next ?_
    refine aw_seq ?_
    refine aw_region ?_
    refine reg_cons (guard_no rfl) (op_load_lp (v := .pv (.vs 2 (List.map eGOwner y7.1))) rfl rfl rfl rfl Try_one_39 rfl rfl) ?_
    refine rmv ?_
    refine reg_cons (guard_no rfl) (op_lit (rows := List.map eI ([5, 6] : List Int)) (zs := [.int .i64 0]) rfl rfl Try_slc_55 Try_zer_3 (by exact ⟨rfl, trivial⟩) rfl rfl rfl rfl rfl rfl rfl rfl) ?_
    obtain ⟨y34, h35, hF⟩ := bind_some hF
    refine reg_cons (guard_no rfl) (op_call 1 rfl (caps := []) (args := [.vs 2 (List.map eGOwner y7.1), .vs 1 (List.map eI x31), .vs 1 (List.map eI [5, 6])]) (rs := [.p (.fn 86 [.vp ((eL 1 eI) y34.1), .vp ((eL 2 eGOwner) y34.2.1), .vp ((eL 1 eI) y34.2.2)])]) rfl rfl rfl Try_cal_71 (adapt_through_ok h35) rfl rfl rfl) ?_
    refine ras ?_
    refine reg_nil ?_
    refine post_imp (s' := ⟨63, [(6, some (.pv (.fn 86 [.vp ((eL 1 eI) y34.1), .vp ((eL 2 eGOwner) y34.2.1), .vp ((eL 1 eI) y34.2.2)])))], [], 0, [], [], 0, []⟩) (imps [] ⟨by kernel_rfl, trivial⟩ trivial) ?_
    refine post_next ?_
    refine aw_ret ?_
    refine post_block_ret ?_
    refine post_then_ret ?_
    obtain rfl := Option.some.inj hF
    exact post_ret rfl rfl (.cons _ _ _ _ _ (.tmp _ _ rfl) (.p _) .nil) (.inl rfl)
  refine aw_cond_f rfl hb19 ?_
  refine aw_skip ?_
  refine post_block_normal ?_
  refine post_next ?_
  refine aw_seq ?_
  refine aw_region ?_
  refine ras ?_
  refine reg_nil ?_
  refine post_imp (s' := ⟨63, [(6, some (.pv (.fn 45 [])))], [], 0, [], [], 0, []⟩) (imps [] ⟨by kernel_rfl, trivial⟩ trivial) ?_
  refine post_next ?_
  refine aw_ret ?_
  obtain rfl := Option.some.inj hF
  exact post_ret rfl rfl (.cons _ _ _ _ _ (.tmp _ _ rfl) (.p _) .nil) (.inl rfl)
theorem adapt_See_ok {a0 : List GClass} {a1 : GView_adapt} {a2 : List UInt8} {a3 : GType} {r : GType} (hF : adapt_See a0 a1 a2 a3 = some r) : Abs.Fn Try.prog 18 [.vs 7 (List.map eGClass a0), .agg (eGView_adapt a1), .str a2, .agg (eGType a3)] [.p (.agg (eGType r))] := by
  unfold adapt_See at hF
  refine fn_of_body (n := 43) Try.func18 rfl rfl rfl ?_
  intro w O
  refine aw_seq ?_
  refine aw_region ?_
  refine reg_cons (guard_no rfl) (op_box 0 rfl rfl rfl rfl rfl rfl) ?_
  refine reg_cons (guard_no rfl) (op_box 1 rfl rfl rfl rfl rfl rfl) ?_
  refine reg_cons (guard_no rfl) (op_alloc 2 rfl (ps := (eGType zGType)) rfl Try_zer_27 (by exact ⟨rfl, rfl, rfl, rfl, rfl, rfl, rfl, rfl, rfl, rfl, rfl, trivial⟩) rfl rfl) ?_
  refine reg_nil ?_
  refine post_imp (s' := ⟨43, [(0, some (.pv (.vs 7 (List.map eGClass a0)))), (2, some (.pv (.str a2))), (5, some (.lp 0 0)), (7, some (.lp 1 0)), (8, some (.lp 2 0))], [(0, some (.box 47 (bxv (eGView_adapt a1)))), (1, some (.box 27 (bxv (eGType a3)))), (2, some (.box 27 (bxv (eGType zGType))))], 3, [], [], 0, []⟩) (imps [0, 1, 2] ⟨by kernel_rfl, by kernel_rfl, by kernel_rfl, by kernel_rfl, by kernel_rfl, trivial⟩ ⟨by kernel_rfl, by kernel_rfl, by kernel_rfl, trivial⟩) ?_
  refine post_next ?_
  refine aw_seq ?_
  refine aw_region ?_
  refine rmv ?_
  refine reg_cons (guard_no rfl) (op_load_lp_agg (ps := eGView_adapt a1) rfl rfl rfl rfl rfl rfl Try_agg_47 rfl rfl) ?_
  refine rmv ?_
  obtain ⟨y3, h4, hF⟩ := bind_some hF
  refine reg_cons (guard_no rfl) (op_call 3 rfl (caps := []) (args := [.vs 7 (List.map eGClass a0), .agg (eGView_adapt a1), .str a2]) (rs := [.p (.fn y3.f y3.c)]) rfl rfl rfl Try_cal_44 (adapt_made_ok h4) rfl rfl rfl) ?_
  refine ras ?_
  refine reg_nil ?_
  refine post_imp (s' := ⟨43, [(7, some (.lp 0 0)), (8, some (.lp 1 0)), (9, some (.pv (.fn y3.f y3.c)))], [(0, some (.box 27 (bxv (eGType a3)))), (1, some (.box 27 (bxv (eGType zGType))))], 2, [], [], 0, []⟩) (imps [1, 2] ⟨by kernel_rfl, by kernel_rfl, by kernel_rfl, trivial⟩ ⟨by kernel_rfl, by kernel_rfl, trivial⟩) ?_
  refine post_next ?_
  iterate 2 (refine aw_seq ?_)
  refine aw_region ?_
  refine reg_cons (guard_no rfl) (op_load_lp_agg (ps := eGType a3) rfl rfl rfl rfl rfl rfl Try_agg_27 rfl rfl) ?_
  obtain ⟨y7, h8, hF⟩ := bind_some hF
  refine reg_cons (guard_no rfl) (op_call 2 rfl (caps := []) (args := [.agg (eGType a3)]) (rs := [.p (.vs 2 (List.map eGOwner y7))]) rfl rfl rfl Try_cal_38 (kind_Owners_ok h8) rfl rfl rfl) ?_
  refine reg_cons (guard_no rfl) (op_len_vs (n := y7.length) rfl rfl (List.length_map ..) Try_slc_39 rfl rfl) ?_
  refine rmv ?_
  refine reg_nil ?_
  refine post_imp (s' := ⟨43, [(7, some (.lp 0 0)), (8, some (.lp 1 0)), (9, some (.pv (.fn y3.f y3.c))), (17, some (.pv (.vs 2 (List.map eGOwner y7)))), (18, some (.pv (.int .i64 (y7.length : Int)))), (19, some (.pv (.int .i64 0)))], [(0, some (.box 27 (bxv (eGType a3)))), (1, some (.box 27 (bxv (eGType zGType))))], 2, [], [], 0, []⟩) (imps [0, 1] ⟨by kernel_rfl, by kernel_rfl, by kernel_rfl, by kernel_rfl, by kernel_rfl, by kernel_rfl, trivial⟩ ⟨by kernel_rfl, by kernel_rfl, trivial⟩) ?_
  refine post_next ?_
  obtain ⟨x80, hF, hK81⟩ := bind_some hF
  refine aw_for ((((y7.length : Int) : Int) - (0)).toNat + 1) (fun s1 => s1 = ⟨43, [(7, some (.lp 0 0)), (8, some (.lp 1 0))], [(0, some (.box 27 (bxv (eGType x80)))), (1, some (.box 27 (bxv (eGType zGType))))], 2, [], [], 0, []⟩) ?_ ?_
  · refine rnd_loop (α := GType × Int) (fun q => ⟨43, [(7, some (.lp 0 0)), (8, some (.lp 1 0)), (9, some (.pv (.fn y3.f y3.c))), (17, some (.pv (.vs 2 (List.map eGOwner y7)))), (18, some (.pv (.int .i64 (y7.length : Int)))), (19, some (.pv (.int .i64 q.2)))], [(0, some (.box 27 (bxv (eGType q.1)))), (1, some (.box 27 (bxv (eGType zGType))))], 2, [], [], 0, []⟩) (fun k q => adapt_See_L1 y3 y7 k q.1 q.2 = some x80) (a3, 0) (imps [0, 1] ⟨by kernel_rfl, by kernel_rfl, by kernel_rfl, by kernel_rfl, by kernel_rfl, by kernel_rfl, trivial⟩ ⟨by kernel_rfl, by kernel_rfl, trivial⟩) hF (fun q h => by cases h) ?_
    clear hF
    rintro k ⟨x24, x25⟩ hF ih
    refine rnd_succ ?_
    refine aw_seq ?_
    refine aw_region ?_
    refine reg_cons (guard_no rfl) (op_int (k := .i64) (m := x25) (n := (y7.length : Int)) rfl rfl rfl rfl rfl rfl) ?_
    refine reg_nil ?_
    refine post_imp (s' := ⟨43, [(7, some (.lp 0 0)), (8, some (.lp 1 0)), (9, some (.pv (.fn y3.f y3.c))), (17, some (.pv (.vs 2 (List.map eGOwner y7)))), (18, some (.pv (.int .i64 (y7.length : Int)))), (19, some (.pv (.int .i64 x25))), (20, some (.pv (.bool (decide (x25 < (y7.length : Int))))))], [(0, some (.box 27 (bxv (eGType x24)))), (1, some (.box 27 (bxv (eGType zGType))))], 2, [], [], 0, []⟩) (imps [0, 1] ⟨by kernel_rfl, by kernel_rfl, by kernel_rfl, by kernel_rfl, by kernel_rfl, by kernel_rfl, by kernel_rfl, trivial⟩ ⟨by kernel_rfl, by kernel_rfl, trivial⟩) ?_
    refine post_next ?_
    refine aw_seq ?_
    rcases ite_some hF with ⟨hb53, hF⟩ | ⟨hb53, hF⟩
    · refine aw_cond_t rfl hb53 ?_
      refine aw_skip ?_
      refine post_next ?_
      refine aw_seq ?_
      obtain ⟨x75, hF, hK77⟩ := bind_some hF
      refine aw_cut (fun s1 => s1 = ⟨43, [(7, some (.lp 0 0)), (8, some (.lp 1 0)), (9, some (.pv (.fn y3.f y3.c))), (17, some (.pv (.vs 2 (List.map eGOwner y7)))), (18, some (.pv (.int .i64 (y7.length : Int)))), (19, some (.pv (.int .i64 x25)))], [(0, some (.box 27 (bxv (eGType x75)))), (1, some (.box 27 (bxv (eGType zGType))))], 2, [], [], 0, []⟩) ?_ ?_
      · refine aw_block ?_
        refine aw_seq ?_
        refine aw_region ?_
        refine rmv ?_
        obtain ⟨y56, h57, hF⟩ := bind_some hF
        refine reg_cons (guard_no rfl) (op_index_vs (k := .i64) rfl rfl rfl (idx_map eGOwner h57) Try_slc_39 rfl rfl) ?_
        refine reg_cons (guard_no rfl) (op_load_vp_agg (ps := eGOwner y56) rfl rfl rfl rfl Try_agg_24 rfl rfl) ?_
        refine reg_cons (guard_no rfl) (op_alloc 2 rfl (ps := (eGOwner zGOwner)) rfl Try_zer_24 (by exact ⟨rfl, rfl, trivial⟩) rfl rfl) ?_
        refine ras ?_
        refine reg_cons (guard_no rfl) (op_store_lp (n := 2) rfl rfl rfl rfl rfl (or_agg Try_agg_24) (by rw [Try_non_24]; rfl) rfl rfl rfl) ?_
        refine reg_nil ?_
        refine post_imp (s' := ⟨43, [(7, some (.lp 0 0)), (8, some (.lp 1 0)), (9, some (.pv (.fn y3.f y3.c))), (10, some (.pv (.int .i64 x25))), (11, some (.lp 2 0)), (17, some (.pv (.vs 2 (List.map eGOwner y7)))), (18, some (.pv (.int .i64 (y7.length : Int)))), (19, some (.pv (.int .i64 x25)))], [(0, some (.box 27 (bxv (eGType x24)))), (1, some (.box 27 (bxv (eGType zGType)))), (2, some (.box 24 (bxv (eGOwner y56))))], 3, [], [], 0, []⟩) (imps [0, 1, 2] ⟨by kernel_rfl, by kernel_rfl, by kernel_rfl, by kernel_rfl, by kernel_rfl, by kernel_rfl, by kernel_rfl, by kernel_rfl, trivial⟩ ⟨by kernel_rfl, by kernel_rfl, by kernel_rfl, trivial⟩) ?_
        refine post_next ?_
        refine aw_seq ?_
        refine aw_region ?_
        iterate 2 (refine rmv ?_)
        refine reg_cons (guard_no rfl) (op_load_lp_agg (ps := eGOwner y56) rfl rfl rfl rfl rfl rfl Try_agg_24 rfl rfl) ?_
        obtain ⟨y62, h63, hF⟩ := bind_some hF
        refine reg_cons (guard_no rfl) (op_call 3 rfl (caps := y3.c) (args := [.agg (eGOwner y56)]) (rs := [.p (.agg (eGOwner y62))]) rfl rfl rfl y3.b (y3.h y56 _ h63) rfl rfl rfl) ?_
        refine reg_cons (guard_no rfl) (op_field_lp rfl rfl Try_fld_27_3 rfl rfl) ?_
        obtain ⟨y64, h65, hF⟩ := bind_some hF
        refine reg_cons (guard_no rfl) (op_arr_lpN (l := (x24.fOwn).l) rfl rfl rfl Try_arr_25 rfl h65 rfl rfl) ?_
        refine reg_cons (guard_no rfl) (op_store_lpV (cells' := bxv (eGType ({ x24 with fOwn := (A4.set x24.fOwn (x25 : Int).toNat y62) } : GType))) (n := 2) rfl rfl rfl rfl rfl (or_agg Try_agg_24) (by rw [Try_non_24]; rfl) (by rcases idx_l4 h65 with e | e | e | e <;> rw [e] <;> exact Nat.le_of_ble_eq_true rfl) (by rcases idx_l4 h65 with e | e | e | e <;> rw [e] <;> rfl) rfl rfl) ?_
        refine reg_nil ?_
        refine post_imp (s' := ⟨43, [(7, some (.lp 0 0)), (8, some (.lp 1 0)), (9, some (.pv (.fn y3.f y3.c))), (10, some (.pv (.int .i64 x25))), (11, some (.lp 2 0)), (17, some (.pv (.vs 2 (List.map eGOwner y7)))), (18, some (.pv (.int .i64 (y7.length : Int)))), (19, some (.pv (.int .i64 x25)))], [(0, some (.box 27 (bxv (eGType ({ x24 with fOwn := (A4.set x24.fOwn (x25 : Int).toNat y62) } : GType))))), (1, some (.box 27 (bxv (eGType zGType)))), (2, some (.box 24 (bxv (eGOwner y56))))], 3, [], [], 0, []⟩) (imps [0, 1, 2] ⟨by kernel_rfl, by kernel_rfl, by kernel_rfl, by kernel_rfl, by kernel_rfl, by kernel_rfl, by kernel_rfl, by kernel_rfl, trivial⟩ ⟨by kernel_rfl, by kernel_rfl, by kernel_rfl, trivial⟩) ?_
        refine post_next ?_
        refine aw_seq ?_
        refine aw_region ?_
        refine rmv ?_
        refine reg_cons (guard_no rfl) (op_field_lp rfl rfl Try_fld_27_3 rfl rfl) ?_
        obtain ⟨y68, h69, hF⟩ := bind_some hF
        refine reg_cons (guard_no rfl) (op_arr_lpN (l := (({ x24 with fOwn := (A4.set x24.fOwn (x25 : Int).toNat y62) } : GType).fOwn).l) rfl rfl rfl Try_arr_25 rfl h69 rfl rfl) ?_
        refine reg_cons (guard_no rfl) (op_field_lp rfl rfl Try_fld_24_0 rfl rfl) ?_
        refine reg_cons (guard_no rfl) (op_load_lp (v := .pv (.int .i64 y68.fKind)) rfl rfl rfl (arr_cellN (j := 0) (l := (({ x24 with fOwn := (A4.set x24.fOwn (x25 : Int).toNat y62) } : GType).fOwn).l) (f := eGOwner) rfl (fun _ => rfl) rfl h69 rfl) Try_one_3 rfl rfl) ?_
        refine reg_cons (guard_no rfl) (op_int (k := .i64) (m := y68.fKind) (n := 8) rfl rfl rfl rfl rfl rfl) ?_
        refine reg_nil ?_
        refine post_imp (s' := ⟨43, [(7, some (.lp 0 0)), (8, some (.lp 1 0)), (9, some (.pv (.fn y3.f y3.c))), (10, some (.pv (.int .i64 x25))), (11, some (.lp 2 0)), (17, some (.pv (.vs 2 (List.map eGOwner y7)))), (18, some (.pv (.int .i64 (y7.length : Int)))), (19, some (.pv (.int .i64 x25))), (35, some (.pv (.bool (y68.fKind == 8))))], [(0, some (.box 27 (bxv (eGType ({ x24 with fOwn := (A4.set x24.fOwn (x25 : Int).toNat y62) } : GType))))), (1, some (.box 27 (bxv (eGType zGType)))), (2, some (.box 24 (bxv (eGOwner y56))))], 3, [], [], 0, []⟩) (imps [0, 1, 2] ⟨by kernel_rfl, by kernel_rfl, by kernel_rfl, by kernel_rfl, by kernel_rfl, by kernel_rfl, by kernel_rfl, by kernel_rfl, by kernel_rfl, trivial⟩ ⟨by kernel_rfl, by kernel_rfl, by kernel_rfl, trivial⟩) ?_
        refine post_next ?_
        rcases ite_some hF with ⟨hb70, hF⟩ | ⟨hb70, hF⟩
        · refine aw_cond_t rfl hb70 ?_
          refine aw_region ?_
          refine rmv ?_
          refine reg_cons (guard_no rfl) (op_load_lp_agg (ps := eGOwner y56) rfl rfl rfl rfl rfl rfl Try_agg_24 rfl rfl) ?_
          obtain ⟨y71, h72, hF⟩ := bind_some hF
          refine reg_cons (guard_no rfl) (op_call 3 rfl (caps := []) (args := [.agg (eGOwner y56)]) (rs := [.p (.agg (eGOwner y71))]) rfl rfl rfl Try_cal_45 (adapt_dark_ok h72) rfl rfl rfl) ?_
          refine reg_cons (guard_no rfl) (op_field_lp rfl rfl Try_fld_27_3 rfl rfl) ?_
          obtain ⟨y73, h74, hF⟩ := bind_some hF
          refine reg_cons (guard_no rfl) (op_arr_lpN (l := (({ x24 with fOwn := (A4.set x24.fOwn (x25 : Int).toNat y62) } : GType).fOwn).l) rfl rfl rfl Try_arr_25 rfl h74 rfl rfl) ?_
          refine reg_cons (guard_no rfl) (op_store_lpV (cells' := bxv (eGType ({ ({ x24 with fOwn := (A4.set x24.fOwn (x25 : Int).toNat y62) } : GType) with fOwn := (A4.set (({ x24 with fOwn := (A4.set x24.fOwn (x25 : Int).toNat y62) } : GType).fOwn) (x25 : Int).toNat y71) } : GType))) (n := 2) rfl rfl rfl rfl rfl (or_agg Try_agg_24) (by rw [Try_non_24]; rfl) (by rcases idx_l4 h74 with e | e | e | e <;> rw [e] <;> exact Nat.le_of_ble_eq_true rfl) (by rcases idx_l4 h74 with e | e | e | e <;> rw [e] <;> rfl) rfl rfl) ?_
          refine reg_nil ?_
          refine post_imp (s' := ⟨43, [(7, some (.lp 0 0)), (8, some (.lp 1 0)), (9, some (.pv (.fn y3.f y3.c))), (17, some (.pv (.vs 2 (List.map eGOwner y7)))), (18, some (.pv (.int .i64 (y7.length : Int)))), (19, some (.pv (.int .i64 x25)))], [(0, some (.box 27 (bxv (eGType ({ ({ x24 with fOwn := (A4.set x24.fOwn (x25 : Int).toNat y62) } : GType) with fOwn := (A4.set (({ x24 with fOwn := (A4.set x24.fOwn (x25 : Int).toNat y62) } : GType).fOwn) (x25 : Int).toNat y71) } : GType))))), (1, some (.box 27 (bxv (eGType zGType))))], 2, [], [], 0, []⟩) (imps [0, 1] ⟨by kernel_rfl, by kernel_rfl, by kernel_rfl, by kernel_rfl, by kernel_rfl, by kernel_rfl, trivial⟩ ⟨by kernel_rfl, by kernel_rfl, trivial⟩) ?_
          refine post_block_normal ?_
          cases hF
          exact post_cut _ rfl (imps [0, 1] ⟨by kernel_rfl, by kernel_rfl, by kernel_rfl, by kernel_rfl, by kernel_rfl, by kernel_rfl, trivial⟩ ⟨by kernel_rfl, by kernel_rfl, trivial⟩)
        refine aw_cond_f rfl hb70 ?_
        refine aw_skip ?_
        refine post_block_normal ?_
        cases hF
        exact post_cut _ rfl (imps [0, 1] ⟨by kernel_rfl, by kernel_rfl, by kernel_rfl, by kernel_rfl, by kernel_rfl, by kernel_rfl, trivial⟩ ⟨by kernel_rfl, by kernel_rfl, trivial⟩)
      rintro _ rfl
      have hF := hK77
      clear hK77
      refine post_next ?_
      refine aw_region ?_
      refine reg_cons (guard_no rfl) (op_int (k := .i64) (m := x25) (n := 1) rfl rfl rfl rfl rfl rfl) ?_
      refine rmv ?_
      refine reg_nil ?_
      refine post_round ?_
      exact rnd_back (ih (x75, w_i64 (x25 + 1)) hF) (imps [0, 1] ⟨by kernel_rfl, by kernel_rfl, by kernel_rfl, by kernel_rfl, by kernel_rfl, by kernel_rfl, trivial⟩ ⟨by kernel_rfl, by kernel_rfl, trivial⟩)
    refine aw_cond_f rfl hb53 ?_
    refine aw_exit ?_
    iterate 2 (refine post_then_exit ?_)
    obtain rfl := Option.some.inj hF
    exact post_lp_break _ rfl (imps [0, 1] ⟨by kernel_rfl, by kernel_rfl, trivial⟩ ⟨by kernel_rfl, by kernel_rfl, trivial⟩)
  rintro _ rfl
  have hF := hK81
  clear hK81
  refine post_next ?_
  refine aw_seq ?_
  refine aw_region ?_
  refine reg_cons (guard_no rfl) (op_load_lp_agg (ps := eGType x80) rfl rfl rfl rfl rfl rfl Try_agg_27 rfl rfl) ?_
  refine reg_cons (guard_no rfl) (op_store_lp (n := 11) rfl rfl rfl rfl rfl (or_agg Try_agg_27) (by rw [Try_non_27]; rfl) rfl rfl rfl) ?_
  refine reg_nil ?_
  refine post_imp (s' := ⟨43, [(8, some (.lp 0 0))], [(0, some (.box 27 (bxv (eGType x80))))], 1, [], [], 0, []⟩) (imps [1] ⟨by kernel_rfl, trivial⟩ ⟨by kernel_rfl, trivial⟩) ?_
  refine post_next ?_
  refine aw_ret ?_
  obtain rfl := Option.some.inj hF
  exact post_ret rfl rfl (.cons _ _ _ _ _ (.agg _ _ _ _ _ 11 _ _ rfl rfl Try_agg_27 rfl rfl rfl) (.p _) .nil) (.inl rfl)
theorem slices_IndexFunc_api_Owner_ok {a0 : List GOwner} {q1 : GOwner → Option Bool} {r : Int} {q1_f : Nat} {q1_c : List PV} (q1_b : callB Try.prog q1_f = true) (q1_h : ∀ (x0 : GOwner) (r : Bool), q1 x0 = some r → Abs.Fn Try.prog q1_f ([.agg (eGOwner x0)] ++ q1_c) [.p (.bool r)]) (hF : slices_IndexFunc_api_Owner a0 q1 = some r) : Abs.Fn Try.prog 73 [.vs 2 (List.map eGOwner a0), .fn q1_f q1_c] [.p (.int .i64 r)] := by
  unfold slices_IndexFunc_api_Owner at hF
  refine fn_of_body (n := 19) Try.func73 rfl rfl rfl ?_
  intro w O
  refine aw_seq ?_
  refine aw_region ?_
  refine ras ?_
  refine reg_nil ?_
  refine post_imp (s' := ⟨19, [(0, some (.pv (.vs 2 (List.map eGOwner a0)))), (1, some (.pv (.fn q1_f q1_c)))], [], 0, [], [], 0, []⟩) (imps [] ⟨by kernel_rfl, by kernel_rfl, trivial⟩ trivial) ?_
  refine post_next ?_
  iterate 2 (refine aw_seq ?_)
  refine aw_region ?_
  refine rmv ?_
  refine reg_cons (guard_no rfl) (op_len_vs (n := a0.length) rfl rfl (List.length_map ..) Try_slc_39 rfl rfl) ?_
  refine rmv ?_
  refine reg_nil ?_
  refine post_imp (s' := ⟨19, [(0, some (.pv (.vs 2 (List.map eGOwner a0)))), (1, some (.pv (.fn q1_f q1_c))), (7, some (.pv (.int .i64 (a0.length : Int)))), (8, some (.pv (.int .i64 0)))], [], 0, [], [], 0, []⟩) (imps [] ⟨by kernel_rfl, by kernel_rfl, by kernel_rfl, by kernel_rfl, trivial⟩ trivial) ?_
  refine post_next ?_
  obtain ⟨lr34, hF, hK35⟩ := bind_some hF
  refine aw_for ((((a0.length : Int) : Int) - (0)).toNat + 1) (fun s1 => ∃ q, lr34 = .next q ∧ s1 = ⟨19, [], [], 0, [], [], 0, []⟩) ?_ ?_
  · refine rnd_loop (α := Int) (fun q => ⟨19, [(0, some (.pv (.vs 2 (List.map eGOwner a0)))), (1, some (.pv (.fn q1_f q1_c))), (7, some (.pv (.int .i64 (a0.length : Int)))), (8, some (.pv (.int .i64 q)))], [], 0, [], [], 0, []⟩) (fun k q => slices_IndexFunc_api_Owner_L1 a0 q1 k q = some lr34) 0 (imps [] ⟨by kernel_rfl, by kernel_rfl, by kernel_rfl, by kernel_rfl, trivial⟩ trivial) hF (fun q h => by cases h) ?_
    clear hF
    rintro k x11 hF ih
    refine rnd_succ ?_
    refine aw_seq ?_
    refine aw_region ?_
    refine reg_cons (guard_no rfl) (op_int (k := .i64) (m := x11) (n := (a0.length : Int)) rfl rfl rfl rfl rfl rfl) ?_
    refine reg_nil ?_
    refine post_imp (s' := ⟨19, [(0, some (.pv (.vs 2 (List.map eGOwner a0)))), (1, some (.pv (.fn q1_f q1_c))), (7, some (.pv (.int .i64 (a0.length : Int)))), (8, some (.pv (.int .i64 x11))), (9, some (.pv (.bool (decide (x11 < (a0.length : Int))))))], [], 0, [], [], 0, []⟩) (imps [] ⟨by kernel_rfl, by kernel_rfl, by kernel_rfl, by kernel_rfl, by kernel_rfl, trivial⟩ trivial) ?_
    refine post_next ?_
    refine aw_seq ?_
    rcases ite_some hF with ⟨hb23, hF⟩ | ⟨hb23, hF⟩
    · refine aw_cond_t rfl hb23 ?_
      refine aw_skip ?_
      refine post_next ?_
      refine aw_seq ?_
      refine aw_block ?_
      refine aw_seq ?_
      refine aw_region ?_
      refine rmv ?_
      refine ras ?_
      refine reg_nil ?_
      refine post_imp (s' := ⟨19, [(0, some (.pv (.vs 2 (List.map eGOwner a0)))), (1, some (.pv (.fn q1_f q1_c))), (5, some (.pv (.int .i64 x11))), (7, some (.pv (.int .i64 (a0.length : Int)))), (8, some (.pv (.int .i64 x11)))], [], 0, [], [], 0, []⟩) (imps [] ⟨by kernel_rfl, by kernel_rfl, by kernel_rfl, by kernel_rfl, by kernel_rfl, trivial⟩ trivial) ?_
      refine post_next ?_
      refine aw_seq ?_
      refine aw_region ?_
      iterate 3 (refine rmv ?_)
      obtain ⟨y28, h29, hF⟩ := bind_some hF
      refine reg_cons (guard_no rfl) (op_index_vs (k := .i64) rfl rfl rfl (idx_map eGOwner h29) Try_slc_39 rfl rfl) ?_
      refine reg_cons (guard_no rfl) (op_load_vp_agg (ps := eGOwner y28) rfl rfl rfl rfl Try_agg_24 rfl rfl) ?_
      obtain ⟨y30, h31, hF⟩ := bind_some hF
      refine reg_cons (guard_no rfl) (op_call 0 rfl (caps := q1_c) (args := [.agg (eGOwner y28)]) (rs := [.p (.bool y30)]) rfl rfl rfl q1_b (q1_h y28 _ h31) rfl rfl rfl) ?_
      refine reg_nil ?_
      refine post_imp (s' := ⟨19, [(0, some (.pv (.vs 2 (List.map eGOwner a0)))), (1, some (.pv (.fn q1_f q1_c))), (5, some (.pv (.int .i64 x11))), (7, some (.pv (.int .i64 (a0.length : Int)))), (8, some (.pv (.int .i64 x11))), (16, some (.pv (.bool y30)))], [], 0, [], [], 0, []⟩) (imps [] ⟨by kernel_rfl, by kernel_rfl, by kernel_rfl, by kernel_rfl, by kernel_rfl, by kernel_rfl, trivial⟩ trivial) ?_
      refine post_next ?_
      rcases ite_some hF with ⟨hb32, hF⟩ | ⟨hb32, hF⟩
      · refine aw_cond_t rfl hb32 ?_
        refine aw_seq ?_
        refine aw_region ?_
        refine rmv ?_
        refine ras ?_
        refine reg_nil ?_
        refine post_imp (s' := ⟨19, [(4, some (.pv (.int .i64 x11)))], [], 0, [], [], 0, []⟩) (imps [] ⟨by kernel_rfl, trivial⟩ trivial) ?_
        refine post_next ?_
        refine aw_ret ?_
        refine post_block_ret ?_
        iterate 2 (refine post_then_ret ?_)
        refine post_lp_ret ?_
        obtain rfl := Option.some.inj hF
        have hF := elim_stop hK35
        refine post_then_ret ?_
        obtain rfl := Option.some.inj hF
        exact post_ret rfl rfl (.cons _ _ _ _ _ (.tmp _ _ rfl) (.p _) .nil) (.inl rfl)
      refine aw_cond_f rfl hb32 ?_
      refine aw_skip ?_
      refine post_block_normal ?_
      refine post_next ?_
      refine aw_region ?_
      refine reg_cons (guard_no rfl) (op_int (k := .i64) (m := x11) (n := 1) rfl rfl rfl rfl rfl rfl) ?_
      refine rmv ?_
      refine reg_nil ?_
      refine post_round ?_
      exact rnd_back (ih (w_i64 (x11 + 1)) hF) (imps [] ⟨by kernel_rfl, by kernel_rfl, by kernel_rfl, by kernel_rfl, trivial⟩ trivial)
    refine aw_cond_f rfl hb23 ?_
    refine aw_exit ?_
    iterate 2 (refine post_then_exit ?_)
    obtain rfl := Option.some.inj hF
    exact post_lp_break _ ⟨_, rfl, rfl⟩ (imps [] trivial trivial)
  rintro _ ⟨⟨⟩, rfl, rfl⟩
  have hF := elim_next hK35
  clear hK35
  refine post_next ?_
  refine aw_seq ?_
  refine aw_region ?_
  refine ras ?_
  refine reg_nil ?_
  refine post_imp (s' := ⟨19, [(4, some (.pv (.int .i64 (-1))))], [], 0, [], [], 0, []⟩) (imps [] ⟨by kernel_rfl, trivial⟩ trivial) ?_
  refine post_next ?_
  refine aw_ret ?_
  obtain rfl := Option.some.inj hF
  exact post_ret rfl rfl (.cons _ _ _ _ _ (.tmp _ _ rfl) (.p _) .nil) (.inl rfl)
theorem slices_ContainsFunc_api_Owner_ok {a0 : List GOwner} {q1 : GOwner → Option Bool} {r : Bool} {q1_f : Nat} {q1_c : List PV} (q1_b : callB Try.prog q1_f = true) (q1_h : ∀ (x0 : GOwner) (r : Bool), q1 x0 = some r → Abs.Fn Try.prog q1_f ([.agg (eGOwner x0)] ++ q1_c) [.p (.bool r)]) (hF : slices_ContainsFunc_api_Owner a0 q1 = some r) : Abs.Fn Try.prog 48 [.vs 2 (List.map eGOwner a0), .fn q1_f q1_c] [.p (.bool r)] := by
  unfold slices_ContainsFunc_api_Owner at hF
  refine fn_of_body (n := 9) Try.func48 rfl rfl rfl ?_
  intro w O
  refine aw_seq ?_
  refine aw_region ?_
  refine ras ?_
  refine reg_nil ?_
  refine post_imp (s' := ⟨9, [(0, some (.pv (.vs 2 (List.map eGOwner a0)))), (1, some (.pv (.fn q1_f q1_c)))], [], 0, [], [], 0, []⟩) (imps [] ⟨by kernel_rfl, by kernel_rfl, trivial⟩ trivial) ?_
  refine post_next ?_
  refine aw_seq ?_
  refine aw_region ?_
  iterate 2 (refine rmv ?_)
  obtain ⟨y1, h2, hF⟩ := bind_some hF
  refine reg_cons (guard_no rfl) (op_call 0 rfl (caps := []) (args := [.vs 2 (List.map eGOwner a0), .fn q1_f q1_c]) (rs := [.p (.int .i64 y1)]) rfl rfl rfl Try_cal_73 (slices_IndexFunc_api_Owner_ok (q1_b := q1_b) (q1_h := q1_h) h2) rfl rfl rfl) ?_
  refine reg_cons (guard_no rfl) (op_int (k := .i64) (m := y1) (n := 0) rfl rfl rfl rfl rfl rfl) ?_
  refine ras ?_
  refine reg_nil ?_
  refine post_imp (s' := ⟨9, [(4, some (.pv (.bool (decide (y1 ≥ 0)))))], [], 0, [], [], 0, []⟩) (imps [] ⟨by kernel_rfl, trivial⟩ trivial) ?_
  refine post_next ?_
  refine aw_ret ?_
  obtain rfl := Option.some.inj hF
  exact post_ret rfl rfl (.cons _ _ _ _ _ (.tmp _ _ rfl) (.p _) .nil) (.inl rfl)
theorem adapt_Hidden_1_ok {a0 : GOwner} {r : Bool} (hF : adapt_Hidden_1 a0 = some r) : Abs.Fn Try.prog 49 [.agg (eGOwner a0)] [.p (.bool r)] := by
  unfold adapt_Hidden_1 at hF
  refine fn_of_body (n := 6) Try.func49 rfl rfl rfl ?_
  intro w O
  refine aw_seq ?_
  refine aw_region ?_
  refine reg_cons (guard_no rfl) (op_box 0 rfl rfl rfl rfl rfl rfl) ?_
  refine ras ?_
  refine reg_nil ?_
  refine post_imp (s' := ⟨6, [(1, some (.lp 0 0))], [(0, some (.box 24 (bxv (eGOwner a0))))], 1, [], [], 0, []⟩) (imps [0] ⟨by kernel_rfl, trivial⟩ ⟨by kernel_rfl, trivial⟩) ?_
  refine post_next ?_
  refine aw_seq ?_
  refine aw_region ?_
  refine reg_cons (guard_no rfl) (op_field_lp rfl rfl Try_fld_24_0 rfl rfl) ?_
  refine reg_cons (guard_no rfl) (op_load_lp (v := .pv (.int .i64 a0.fKind)) rfl rfl rfl rfl Try_one_3 rfl rfl) ?_
  refine reg_cons (guard_no rfl) (op_int (k := .i64) (m := a0.fKind) (n := 8) rfl rfl rfl rfl rfl rfl) ?_
  refine ras ?_
  refine reg_nil ?_
  refine post_imp (s' := ⟨6, [(2, some (.pv (.bool (a0.fKind == 8))))], [], 0, [], [], 0, []⟩) (imps [] ⟨by kernel_rfl, trivial⟩ trivial) ?_
  refine post_next ?_
  refine aw_ret ?_
  obtain rfl := Option.some.inj hF
  exact post_ret rfl rfl (.cons _ _ _ _ _ (.tmp _ _ rfl) (.p _) .nil) (.inl rfl)
theorem adapt_Hidden_ok {a0 : GType} {r : Bool} (hF : adapt_Hidden a0 = some r) : Abs.Fn Try.prog 23 [.agg (eGType a0)] [.p (.bool r)] := by
  unfold adapt_Hidden at hF
  refine fn_of_body (n := 6) Try.func23 rfl rfl rfl ?_
  intro w O
  refine aw_seq ?_
  refine aw_region ?_
  refine reg_cons (guard_no rfl) (op_box 0 rfl rfl rfl rfl rfl rfl) ?_
  refine ras ?_
  refine reg_nil ?_
  refine post_imp (s' := ⟨6, [(1, some (.lp 0 0))], [(0, some (.box 27 (bxv (eGType a0))))], 1, [], [], 0, []⟩) (imps [0] ⟨by kernel_rfl, trivial⟩ ⟨by kernel_rfl, trivial⟩) ?_
  refine post_next ?_
  refine aw_seq ?_
  refine aw_region ?_
  refine reg_cons (guard_no rfl) (op_load_lp_agg (ps := eGType a0) rfl rfl rfl rfl rfl rfl Try_agg_27 rfl rfl) ?_
  obtain ⟨y1, h2, hF⟩ := bind_some hF
  refine reg_cons (guard_no rfl) (op_call 1 rfl (caps := []) (args := [.agg (eGType a0)]) (rs := [.p (.vs 2 (List.map eGOwner y1))]) rfl rfl rfl Try_cal_38 (kind_Owners_ok h2) rfl rfl rfl) ?_
  obtain ⟨y4, h5, hF⟩ := bind_some hF
  refine reg_cons (guard_no rfl) (op_call 1 rfl (caps := []) (args := [.vs 2 (List.map eGOwner y1), .fn 49 []]) (rs := [.p (.bool y4)]) rfl rfl rfl Try_cal_48 (slices_ContainsFunc_api_Owner_ok (q1_f := 49) (q1_c := []) (q1_b := Try_cal_49) (q1_h := fun _ r h => (adapt_Hidden_1_ok h)) h5) rfl rfl rfl) ?_
  refine ras ?_
  refine reg_nil ?_
  refine post_imp (s' := ⟨6, [(2, some (.pv (.bool y4)))], [], 0, [], [], 0, []⟩) (imps [] ⟨by kernel_rfl, trivial⟩ trivial) ?_
  refine post_next ?_
  refine aw_ret ?_
  obtain rfl := Option.some.inj hF
  exact post_ret rfl rfl (.cons _ _ _ _ _ (.tmp _ _ rfl) (.p _) .nil) (.inl rfl)
end Go.Proofs.Ytkfgkkbfipgklaa
