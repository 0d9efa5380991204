/- A part of the proof that the law HeapPut gives true for every input. -/
import Derived.Test.YtdffghiejjaomaaHeapPutT
import Derived.Test.YtdffghiejjaomaaHeapPutX
/- Each Go function computes its plain function. -/
namespace Go.Proofs.Ytdffghiejjaomaa
open Go.RowKit Go.Abs
set_option maxRecDepth 100000
theorem ref35_Great_ok {a0 : List GCell} {r : Bool} (hF : ref35_Great a0 = some r) : Abs.Fn Try.prog 14 [.vs 7 (List.map eGCell a0)] [.p (.bool r)] := by
  unfold ref35_Great at hF
  refine fn_of_body (n := 22) Try.func14 rfl rfl rfl ?_
  intro w O
  refine aw_seq ?_
  refine aw_region ?_
  refine reg_cons (guard_no rfl) (op_assign rfl rfl rfl rfl) ?_
  refine reg_nil ?_
  refine post_imp (s' := ⟨22, [(0, some (.pv (.vs 7 (List.map eGCell a0))))], [], 0, [], []⟩) (imp_sub [] rfl rfl (by decide) rfl rfl ⟨rfl, trivial⟩ trivial rfl nolent2) ?_
  refine post_next ?_
  refine aw_seq ?_
  refine aw_seq ?_
  refine aw_region ?_
  refine reg_cons (guard_no rfl) (op_assign rfl rfl rfl rfl) ?_
  refine reg_nil ?_
  refine post_imp (s' := ⟨22, [(0, some (.pv (.vs 7 (List.map eGCell a0)))), (3, some (.pv (.int .i64 0)))], [], 0, [], []⟩) (imp_sub [] rfl rfl (by decide) rfl rfl ⟨rfl, rfl, trivial⟩ trivial rfl nolent2) ?_
  refine post_next ?_
  obtain ⟨lr28, hF, hK29⟩ := bind_some hF
  refine aw_for ((((a0.length : Int)) - (0)).toNat + 1) (fun s1 => ∃ q, lr28 = .next q ∧ s1 = ⟨22, [], [], 0, [], []⟩) ?_ ?_
  · refine rnd_loop (α := Int) (fun q => ⟨22, [(0, some (.pv (.vs 7 (List.map eGCell a0)))), (3, some (.pv (.int .i64 q)))], [], 0, [], []⟩) (fun k q => ref35_Great_L1 a0 k q = some lr28) 0 (imp_sub [] rfl rfl (by decide) rfl rfl ⟨rfl, rfl, trivial⟩ trivial rfl nolent2) hF (fun q h => by cases h) ?_
    clear hF
    rintro k x9 hF ih
    refine rnd_succ ?_
    refine aw_seq ?_
    refine aw_seq ?_
    refine aw_region ?_
    refine reg_cons (guard_no rfl) (op_move rfl rfl rfl rfl) ?_
    refine reg_cons (guard_no rfl) (op_move rfl rfl rfl rfl) ?_
    refine reg_cons (guard_no rfl) (op_len_vs (n := a0.length) rfl rfl (List.length_map ..) Try_slc_22 rfl rfl) ?_
    refine reg_cons (guard_no rfl) (op_int (k := .i64) (m := x9) (n := (a0.length : Int)) rfl rfl rfl rfl rfl rfl) ?_
    refine reg_nil ?_
    refine post_imp (s' := ⟨22, [(0, some (.pv (.vs 7 (List.map eGCell a0)))), (3, some (.pv (.int .i64 x9))), (7, some (.pv (.bool (decide (x9 < (a0.length : Int))))))], [], 0, [], []⟩) (imp_sub [] rfl rfl (by decide) rfl rfl ⟨rfl, rfl, rfl, trivial⟩ trivial rfl nolent2) ?_
    refine post_next ?_
    rcases ite_some hF with ⟨hb19, hF⟩ | ⟨hb19, hF⟩
    · refine aw_cond_t rfl hb19 ?_
      refine aw_skip ?_
      refine post_next ?_
      refine aw_seq ?_
      refine aw_block ?_
      refine aw_seq ?_
      obtain ⟨x23, hF, hK25⟩ := bind_some hF
      refine aw_cut (fun s1 => s1 = ⟨22, [(0, some (.pv (.vs 7 (List.map eGCell a0)))), (3, some (.pv (.int .i64 x9))), (21, some (.pv (.bool x23)))], [], 0, [], []⟩) ?_ ?_
      · refine aw_region ?_
        refine reg_cons (guard_no rfl) (op_move rfl rfl rfl rfl) ?_
        refine reg_cons (guard_no rfl) (op_len_vs (n := a0.length) rfl rfl (List.length_map ..) Try_slc_22 rfl rfl) ?_
        refine reg_cons (guard_no rfl) (op_int (k := .i64) (m := (a0.length : Int)) (n := 200) rfl rfl rfl rfl rfl rfl) ?_
        refine reg_cons (guard_no rfl) (op_move rfl rfl rfl rfl) ?_
        rcases ite_some hF with ⟨hb20, hF⟩ | ⟨hb20, hF⟩
        · refine reg_off (guard_off rfl rfl rfl rfl hb20) rfl ?_
          refine reg_off (guard_off rfl rfl rfl rfl hb20) rfl ?_
          refine reg_off (guard_off rfl rfl rfl rfl hb20) rfl ?_
          refine reg_off (guard_off rfl rfl rfl rfl hb20) rfl ?_
          refine reg_off (guard_off rfl rfl rfl rfl hb20) rfl ?_
          refine reg_off (guard_off rfl rfl rfl rfl hb20) rfl ?_
          refine reg_off (guard_off rfl rfl rfl rfl hb20) rfl ?_
          refine reg_cons (guard_no rfl) (op_pick_t rfl rfl hb20 rfl rfl rfl) ?_
          refine reg_nil ?_
          cases hF
          exact post_cut _ rfl (imp_sub [] rfl rfl (by decide) rfl rfl ⟨rfl, rfl, rfl, trivial⟩ trivial rfl nolent2)
        · refine reg_cons (guard_on rfl rfl rfl rfl hb20) (op_move rfl rfl rfl rfl) ?_
          refine reg_cons (guard_on rfl rfl rfl rfl hb20) (op_move rfl rfl rfl rfl) ?_
          obtain ⟨y21, h22, hF⟩ := bind_some hF
          refine reg_cons (guard_on rfl rfl rfl rfl hb20) (op_index_vs (k := .i64) rfl rfl rfl (idx_map eGCell h22) Try_slc_22 rfl rfl) ?_
          refine reg_cons (guard_on rfl rfl rfl rfl hb20) (op_field_vp rfl rfl Try_fld_30_2 rfl rfl) ?_
          refine reg_cons (guard_on rfl rfl rfl rfl hb20) (op_load_vp (p := .vs 2 (List.map eGVal y21.fFields)) rfl rfl rfl Try_one_28 rfl rfl) ?_
          refine reg_cons (guard_on rfl rfl rfl rfl hb20) (op_len_vs (n := y21.fFields.length) rfl rfl (List.length_map ..) Try_slc_28 rfl rfl) ?_
          refine reg_cons (guard_on rfl rfl rfl rfl hb20) (op_int (k := .i64) (m := (y21.fFields.length : Int)) (n := 60) rfl rfl rfl rfl rfl rfl) ?_
          refine reg_cons (guard_no rfl) (op_pick_f rfl rfl hb20 rfl rfl rfl) ?_
          refine reg_nil ?_
          cases hF
          exact post_cut _ rfl (imp_sub [] rfl rfl (by decide) rfl rfl ⟨rfl, rfl, rfl, trivial⟩ trivial rfl nolent2)
      · rintro _ rfl
        have hF := hK25
        clear hK25
        refine post_next ?_
        rcases ite_some hF with ⟨hb26, hF⟩ | ⟨hb26, hF⟩
        · refine aw_cond_t rfl hb26 ?_
          refine aw_seq ?_
          refine aw_region ?_
          refine reg_cons (guard_no rfl) (op_assign rfl rfl rfl rfl) ?_
          refine reg_nil ?_
          refine post_imp (s' := ⟨22, [(2, some (.pv (.bool true)))], [], 0, [], []⟩) (imp_sub [] rfl rfl (by decide) rfl rfl ⟨rfl, trivial⟩ trivial rfl nolent2) ?_
          refine post_next ?_
          refine aw_ret ?_
          refine post_block_ret ?_
          refine post_then_ret ?_
          refine post_then_ret ?_
          refine post_lp_ret ?_
          obtain rfl := Option.some.inj hF
          have hF := elim_stop hK29
          refine post_then_ret ?_
          obtain rfl := Option.some.inj hF
          exact post_ret rfl rfl rfl (.cons _ _ _ _ _ (.tmp _ _ rfl) (.p _) .nil) (.inl rfl)
        · refine aw_cond_f rfl hb26 ?_
          refine aw_skip ?_
          refine post_block_normal ?_
          refine post_next ?_
          refine aw_region ?_
          refine reg_cons (guard_no rfl) (op_move rfl rfl rfl rfl) ?_
          refine reg_cons (guard_no rfl) (op_int (k := .i64) (m := x9) (n := 1) rfl rfl rfl rfl rfl rfl) ?_
          refine reg_cons (guard_no rfl) (op_assign rfl rfl rfl rfl) ?_
          refine reg_nil ?_
          refine post_round ?_
          exact rnd_back (ih (w_i64 (x9 + 1)) hF) (imp_sub [] rfl rfl (by decide) rfl rfl ⟨rfl, rfl, trivial⟩ trivial rfl nolent2)
    · refine aw_cond_f rfl hb19 ?_
      refine aw_exit ?_
      refine post_then_exit ?_
      refine post_then_exit ?_
      obtain rfl := Option.some.inj hF
      exact post_lp_break _ ⟨_, rfl, rfl⟩ (imp_sub [] rfl rfl (by decide) rfl rfl trivial trivial rfl nolent2)
  · rintro _ ⟨⟨⟩, rfl, rfl⟩
    have hF := elim_next hK29
    clear hK29
    refine post_next ?_
    refine aw_seq ?_
    refine aw_region ?_
    refine reg_cons (guard_no rfl) (op_assign rfl rfl rfl rfl) ?_
    refine reg_nil ?_
    refine post_imp (s' := ⟨22, [(2, some (.pv (.bool false)))], [], 0, [], []⟩) (imp_sub [] rfl rfl (by decide) rfl rfl ⟨rfl, trivial⟩ trivial rfl nolent2) ?_
    refine post_next ?_
    refine aw_ret ?_
    obtain rfl := Option.some.inj hF
    exact post_ret rfl rfl rfl (.cons _ _ _ _ _ (.tmp _ _ rfl) (.p _) .nil) (.inl rfl)
theorem heap_Ask_ok {a0 : List GCell} {a1 : Int} {r : Int} (hF : heap_Ask a0 a1 = some r) : Abs.Fn Try.prog 22 [.vs 7 (List.map eGCell a0), .int .i64 a1] [.p (.int .i64 r)] := by
  unfold heap_Ask at hF
  refine fn_of_body (n := 24) Try.func22 rfl rfl rfl ?_
  intro w O
  refine aw_seq ?_
  refine aw_region ?_
  refine reg_cons (guard_no rfl) (op_assign rfl rfl rfl rfl) ?_
  refine reg_nil ?_
  refine post_imp (s' := ⟨24, [(0, some (.pv (.vs 7 (List.map eGCell a0)))), (1, some (.pv (.int .i64 a1)))], [], 0, [], []⟩) (imp_sub [] rfl rfl (by decide) rfl rfl ⟨rfl, rfl, trivial⟩ trivial rfl nolent2) ?_
  refine post_next ?_
  refine aw_seq ?_
  refine aw_block ?_
  refine aw_seq ?_
  refine aw_region ?_
  refine reg_cons (guard_no rfl) (op_move rfl rfl rfl rfl) ?_
  refine reg_cons (guard_no rfl) (op_int (k := .i64) (m := a1) (n := 0) rfl rfl rfl rfl rfl rfl) ?_
  refine reg_cons (guard_no rfl) (op_assign rfl rfl rfl rfl) ?_
  refine reg_nil ?_
  refine post_imp (s' := ⟨24, [(0, some (.pv (.vs 7 (List.map eGCell a0)))), (1, some (.pv (.int .i64 a1))), (5, some (.pv (.bool (a1 == 0))))], [], 0, [], []⟩) (imp_sub [] rfl rfl (by decide) rfl rfl ⟨rfl, rfl, rfl, trivial⟩ trivial rfl nolent2) ?_
  refine post_next ?_
  rcases ite_some hF with ⟨hb1, hF⟩ | ⟨hb1, hF⟩
  · refine aw_cond_t rfl hb1 ?_
    refine aw_seq ?_
    refine aw_region ?_
    refine reg_cons (guard_no rfl) (op_assign rfl rfl rfl rfl) ?_
    refine reg_nil ?_
    refine post_imp (s' := ⟨24, [(4, some (.pv (.int .i64 2)))], [], 0, [], []⟩) (imp_sub [] rfl rfl (by decide) rfl rfl ⟨rfl, trivial⟩ trivial rfl nolent2) ?_
    refine post_next ?_
    refine aw_ret ?_
    refine post_block_ret ?_
    refine post_then_ret ?_
    obtain rfl := Option.some.inj hF
    exact post_ret rfl rfl rfl (.cons _ _ _ _ _ (.tmp _ _ rfl) (.p _) .nil) (.inl rfl)
  · refine aw_cond_f rfl hb1 ?_
    refine aw_seq ?_
    obtain ⟨x3, hF, hK5⟩ := bind_some hF
    refine aw_cut (fun s1 => s1 = ⟨24, [(0, some (.pv (.vs 7 (List.map eGCell a0)))), (1, some (.pv (.int .i64 a1))), (8, some (.pv (.bool x3)))], [], 0, [], []⟩) ?_ ?_
    · refine aw_region ?_
      refine reg_cons (guard_no rfl) (op_move rfl rfl rfl rfl) ?_
      refine reg_cons (guard_no rfl) (op_int (k := .i64) (m := a1) (n := 0) rfl rfl rfl rfl rfl rfl) ?_
      refine reg_cons (guard_no rfl) (op_move rfl rfl rfl rfl) ?_
      rcases ite_some hF with ⟨hb2, hF⟩ | ⟨hb2, hF⟩
      · refine reg_off (guard_off rfl rfl rfl rfl hb2) rfl ?_
        refine reg_off (guard_off rfl rfl rfl rfl hb2) rfl ?_
        refine reg_off (guard_off rfl rfl rfl rfl hb2) rfl ?_
        refine reg_off (guard_off rfl rfl rfl rfl hb2) rfl ?_
        refine reg_cons (guard_no rfl) (op_pick_t rfl rfl hb2 rfl rfl rfl) ?_
        refine reg_cons (guard_no rfl) (op_assign rfl rfl rfl rfl) ?_
        refine reg_nil ?_
        cases hF
        exact post_cut _ rfl (imp_sub [] rfl rfl (by decide) rfl rfl ⟨rfl, rfl, rfl, trivial⟩ trivial rfl nolent2)
      · refine reg_cons (guard_on rfl rfl rfl rfl hb2) (op_move rfl rfl rfl rfl) ?_
        refine reg_cons (guard_on rfl rfl rfl rfl hb2) (op_move rfl rfl rfl rfl) ?_
        refine reg_cons (guard_on rfl rfl rfl rfl hb2) (op_len_vs (n := a0.length) rfl rfl (List.length_map ..) Try_slc_22 rfl rfl) ?_
        refine reg_cons (guard_on rfl rfl rfl rfl hb2) (op_int (k := .i64) (m := a1) (n := (a0.length : Int)) rfl rfl rfl rfl rfl rfl) ?_
        refine reg_cons (guard_no rfl) (op_pick_f rfl rfl hb2 rfl rfl rfl) ?_
        refine reg_cons (guard_no rfl) (op_assign rfl rfl rfl rfl) ?_
        refine reg_nil ?_
        cases hF
        exact post_cut _ rfl (imp_sub [] rfl rfl (by decide) rfl rfl ⟨rfl, rfl, rfl, trivial⟩ trivial rfl nolent2)
    · rintro _ rfl
      have hF := hK5
      clear hK5
      refine post_next ?_
      rcases ite_some hF with ⟨hb6, hF⟩ | ⟨hb6, hF⟩
      · refine aw_cond_t rfl hb6 ?_
        refine aw_seq ?_
        refine aw_region ?_
        refine reg_cons (guard_no rfl) (op_assign rfl rfl rfl rfl) ?_
        refine reg_nil ?_
        refine post_imp (s' := ⟨24, [(4, some (.pv (.int .i64 10)))], [], 0, [], []⟩) (imp_sub [] rfl rfl (by decide) rfl rfl ⟨rfl, trivial⟩ trivial rfl nolent2) ?_
        refine post_next ?_
        refine aw_ret ?_
        refine post_block_ret ?_
        refine post_then_ret ?_
        obtain rfl := Option.some.inj hF
        exact post_ret rfl rfl rfl (.cons _ _ _ _ _ (.tmp _ _ rfl) (.p _) .nil) (.inl rfl)
      · refine aw_cond_f rfl hb6 ?_
        refine aw_seq ?_
        refine aw_region ?_
        refine reg_cons (guard_no rfl) (op_move rfl rfl rfl rfl) ?_
        refine reg_cons (guard_no rfl) (op_move rfl rfl rfl rfl) ?_
        refine reg_cons (guard_no rfl) (op_int (k := .i64) (m := a1) (n := 1) rfl rfl rfl rfl rfl rfl) ?_
        obtain ⟨y9, h10, hF⟩ := bind_some hF
        refine reg_cons (guard_no rfl) (op_index_vs (k := .i64) rfl rfl rfl (idx_map eGCell h10) Try_slc_22 rfl rfl) ?_
        refine reg_cons (guard_no rfl) (op_field_vp rfl rfl Try_fld_30_3 rfl rfl) ?_
        refine reg_cons (guard_no rfl) (op_load_vp (p := .bool y9.fDead) rfl rfl rfl Try_one_4 rfl rfl) ?_
        refine reg_cons (guard_no rfl) (op_assign rfl rfl rfl rfl) ?_
        refine reg_nil ?_
        refine post_imp (s' := ⟨24, [(17, some (.pv (.bool y9.fDead)))], [], 0, [], []⟩) (imp_sub [] rfl rfl (by decide) rfl rfl ⟨rfl, trivial⟩ trivial rfl nolent2) ?_
        refine post_next ?_
        rcases ite_some hF with ⟨hb11, hF⟩ | ⟨hb11, hF⟩
        · refine aw_cond_t rfl hb11 ?_
          refine aw_seq ?_
          refine aw_region ?_
          refine reg_cons (guard_no rfl) (op_assign rfl rfl rfl rfl) ?_
          refine reg_nil ?_
          refine post_imp (s' := ⟨24, [(4, some (.pv (.int .i64 7)))], [], 0, [], []⟩) (imp_sub [] rfl rfl (by decide) rfl rfl ⟨rfl, trivial⟩ trivial rfl nolent2) ?_
          refine post_next ?_
          refine aw_ret ?_
          refine post_block_ret ?_
          refine post_then_ret ?_
          obtain rfl := Option.some.inj hF
          exact post_ret rfl rfl rfl (.cons _ _ _ _ _ (.tmp _ _ rfl) (.p _) .nil) (.inl rfl)
        · refine aw_cond_f rfl hb11 ?_
          refine aw_skip ?_
          refine post_block_normal ?_
          refine post_next ?_
          refine aw_seq ?_
          refine aw_region ?_
          refine reg_cons (guard_no rfl) (op_assign rfl rfl rfl rfl) ?_
          refine reg_nil ?_
          refine post_imp (s' := ⟨24, [(4, some (.pv (.int .i64 0)))], [], 0, [], []⟩) (imp_sub [] rfl rfl (by decide) rfl rfl ⟨rfl, trivial⟩ trivial rfl nolent2) ?_
          refine post_next ?_
          refine aw_ret ?_
          obtain rfl := Option.some.inj hF
          exact post_ret rfl rfl rfl (.cons _ _ _ _ _ (.tmp _ _ rfl) (.p _) .nil) (.inl rfl)
theorem law35_awake_ok  {r : Bool} (hF : law35_awake = some r) : Abs.Fn Try.prog 15 [] [.p (.bool r)] := by
  unfold law35_awake at hF
  refine fn_of_body (n := 7) Try.func15 rfl rfl rfl ?_
  intro w O
  refine aw_seq ?_
  refine aw_region ?_
  refine reg_cons (guard_no rfl) (op_assign rfl rfl rfl rfl) ?_
  refine reg_nil ?_
  refine post_imp (s' := ⟨7, [], [], 0, [], []⟩) (imp_sub [] rfl rfl (by decide) rfl rfl trivial trivial rfl nolent2) ?_
  refine post_next ?_
  refine aw_seq ?_
  refine aw_region ?_
  obtain ⟨y1, h2, hF⟩ := bind_some hF
  refine reg_cons (guard_no rfl) (op_call 0 rfl (caps := []) (args := [.nils, .int .i64 0]) rfl rfl rfl Try_cal_22 (Fn.nils 0 7 rfl (heap_Ask_ok h2)) rfl rfl rfl) ?_
  refine reg_cons (guard_no rfl) (op_int (k := .i64) (m := y1) (n := 2) rfl rfl rfl rfl rfl rfl) ?_
  refine reg_cons (guard_no rfl) (op_move rfl rfl rfl rfl) ?_
  rcases ite_some hF with ⟨hb3, hF⟩ | ⟨hb3, hF⟩
  · obtain ⟨y4, h5, hF⟩ := bind_some hF
    refine reg_cons (guard_on rfl rfl rfl rfl hb3) (op_call 0 rfl (caps := []) (args := [.nils, .int .i64 1]) rfl rfl rfl Try_cal_22 (Fn.nils 0 7 rfl (heap_Ask_ok h5)) rfl rfl rfl) ?_
    refine reg_cons (guard_on rfl rfl rfl rfl hb3) (op_int (k := .i64) (m := y4) (n := 10) rfl rfl rfl rfl rfl rfl) ?_
    refine reg_cons (guard_no rfl) (op_pick_t rfl rfl hb3 rfl rfl rfl) ?_
    refine reg_cons (guard_no rfl) (op_assign rfl rfl rfl rfl) ?_
    refine reg_nil ?_
    refine post_imp (s' := ⟨7, [(0, some (.pv (.bool (y4 == 10))))], [], 0, [], []⟩) (imp_sub [] rfl rfl (by decide) rfl rfl ⟨rfl, trivial⟩ trivial rfl nolent2) ?_
    refine post_next ?_
    refine aw_ret ?_
    obtain rfl := Option.some.inj hF
    exact post_ret rfl rfl rfl (.cons _ _ _ _ _ (.tmp _ _ rfl) (.p _) .nil) (.inl rfl)
  · refine reg_off (guard_off rfl rfl rfl rfl hb3) rfl ?_
    refine reg_off (guard_off rfl rfl rfl rfl hb3) rfl ?_
    refine reg_cons (guard_no rfl) (op_pick_f rfl rfl hb3 rfl rfl rfl) ?_
    refine reg_cons (guard_no rfl) (op_assign rfl rfl rfl rfl) ?_
    refine reg_nil ?_
    refine post_imp (s' := ⟨7, [(0, some (.pv (.bool false)))], [], 0, [], []⟩) (imp_sub [] rfl rfl (by decide) rfl rfl ⟨rfl, trivial⟩ trivial rfl nolent2) ?_
    refine post_next ?_
    refine aw_ret ?_
    obtain rfl := Option.some.inj hF
    exact post_ret rfl rfl rfl (.cons _ _ _ _ _ (.tmp _ _ rfl) (.p _) .nil) (.inl rfl)
theorem heap_Get_ok {a0 : List GCell} {a1 : Int} {a2 : Int} {r : GVal × Int} (hF : heap_Get a0 a1 a2 = some r) : Abs.Fn Try.prog 16 [.vs 7 (List.map eGCell a0), .int .i64 a1, .int .i64 a2] [.p (.agg (eGVal r.1)), .p (.int .i64 r.2)] := by
  unfold heap_Get at hF
  refine fn_of_body (n := 36) Try.func16 rfl rfl rfl ?_
  intro w O
  refine aw_seq ?_
  refine aw_region ?_
  refine reg_cons (guard_no rfl) (op_alloc 0 rfl (ps := [.bool (({ fRef := false, fN := 0 } : GVal).fRef), .int .i64 (({ fRef := false, fN := 0 } : GVal).fN)]) rfl Try_zer_24 (by exact ⟨rfl, rfl, trivial⟩) rfl rfl) ?_
  refine reg_cons (guard_no rfl) (op_assign rfl rfl rfl rfl) ?_
  refine reg_nil ?_
  refine post_imp (s' := ⟨36, [(0, some (.pv (.vs 7 (List.map eGCell a0)))), (1, some (.pv (.int .i64 a1))), (2, some (.pv (.int .i64 a2))), (6, some (.lp 0 0))], [(0, some (.box 24 [.pv (.bool (({ fRef := false, fN := 0 } : GVal).fRef)), .pv (.int .i64 (({ fRef := false, fN := 0 } : GVal).fN))]))], 1, [], []⟩) (imp_sub [0] rfl rfl (by decide) rfl rfl ⟨rfl, rfl, rfl, rfl, trivial⟩ ⟨rfl, trivial⟩ rfl nolent2) ?_
  refine post_next ?_
  refine aw_seq ?_
  refine aw_seq ?_
  refine aw_region ?_
  refine reg_cons (guard_no rfl) (op_move rfl rfl rfl rfl) ?_
  refine reg_cons (guard_no rfl) (op_move rfl rfl rfl rfl) ?_
  obtain ⟨y3, h4, hF⟩ := bind_some hF
  refine reg_cons (guard_no rfl) (op_call 1 rfl (caps := []) (args := [.vs 7 (List.map eGCell a0), .int .i64 a1]) rfl rfl rfl Try_cal_22 (heap_Ask_ok h4) rfl rfl rfl) ?_
  refine reg_cons (guard_no rfl) (op_assign rfl rfl rfl rfl) ?_
  refine reg_nil ?_
  refine post_imp (s' := ⟨36, [(0, some (.pv (.vs 7 (List.map eGCell a0)))), (1, some (.pv (.int .i64 a1))), (2, some (.pv (.int .i64 a2))), (6, some (.lp 0 0)), (8, some (.pv (.int .i64 y3)))], [(0, some (.box 24 [.pv (.bool (({ fRef := false, fN := 0 } : GVal).fRef)), .pv (.int .i64 (({ fRef := false, fN := 0 } : GVal).fN))]))], 1, [], []⟩) (imp_sub [0] rfl rfl (by decide) rfl rfl ⟨rfl, rfl, rfl, rfl, rfl, trivial⟩ ⟨rfl, trivial⟩ rfl nolent2) ?_
  refine post_next ?_
  refine aw_seq ?_
  refine aw_region ?_
  refine reg_cons (guard_no rfl) (op_move rfl rfl rfl rfl) ?_
  refine reg_cons (guard_no rfl) (op_int (k := .i64) (m := y3) (n := 0) rfl rfl rfl rfl rfl rfl) ?_
  refine reg_nil ?_
  refine post_imp (s' := ⟨36, [(0, some (.pv (.vs 7 (List.map eGCell a0)))), (1, some (.pv (.int .i64 a1))), (2, some (.pv (.int .i64 a2))), (6, some (.lp 0 0)), (8, some (.pv (.int .i64 y3))), (14, some (.pv (.bool (y3 != 0))))], [(0, some (.box 24 [.pv (.bool (({ fRef := false, fN := 0 } : GVal).fRef)), .pv (.int .i64 (({ fRef := false, fN := 0 } : GVal).fN))]))], 1, [], []⟩) (imp_sub [0] rfl rfl (by decide) rfl rfl ⟨rfl, rfl, rfl, rfl, rfl, rfl, trivial⟩ ⟨rfl, trivial⟩ rfl nolent2) ?_
  refine post_next ?_
  rcases ite_some hF with ⟨hb5, hF⟩ | ⟨hb5, hF⟩
  · refine aw_cond_t rfl hb5 ?_
    refine aw_seq ?_
    refine aw_region ?_
    refine reg_cons (guard_no rfl) (op_build (zs := [.bool (({ fRef := false, fN := 0 } : GVal).fRef), .int .i64 (({ fRef := false, fN := 0 } : GVal).fN)]) (r := eGVal ({ fRef := false, fN := 0 } : GVal)) rfl Try_zer_24 (by exact ⟨rfl, rfl, trivial⟩) Try_plc_24 rfl rfl rfl rfl) ?_
    refine reg_cons (guard_no rfl) (op_move rfl rfl rfl rfl) ?_
    refine reg_cons (guard_no rfl) (op_store_lp (n := 2) rfl rfl rfl rfl rfl (or_agg Try_agg_24) (by rw [Try_non_24]; rfl) rfl rfl) ?_
    refine reg_cons (guard_no rfl) (op_assign rfl rfl rfl rfl) ?_
    refine reg_nil ?_
    refine post_imp (s' := ⟨36, [(6, some (.lp 0 0)), (7, some (.pv (.int .i64 y3)))], [(0, some (.box 24 [.pv (.bool (({ fRef := false, fN := 0 } : GVal).fRef)), .pv (.int .i64 (({ fRef := false, fN := 0 } : GVal).fN))]))], 1, [], []⟩) (imp_sub [0] rfl rfl (by decide) rfl rfl ⟨rfl, rfl, trivial⟩ ⟨rfl, trivial⟩ rfl nolent2) ?_
    refine post_next ?_
    refine aw_ret ?_
    refine post_then_ret ?_
    obtain rfl := Option.some.inj hF
    exact post_ret rfl rfl rfl (.cons _ _ _ _ _ (.agg _ _ _ _ _ 2 _ _ rfl rfl Try_agg_24 rfl rfl rfl) (.p _) (.cons _ _ _ _ _ (.tmp _ _ rfl) (.p _) .nil)) (.inl rfl)
  · refine aw_cond_f rfl hb5 ?_
    refine aw_skip ?_
    refine post_next ?_
    refine aw_seq ?_
    refine aw_region ?_
    refine reg_cons (guard_no rfl) (op_move rfl rfl rfl rfl) ?_
    refine reg_cons (guard_no rfl) (op_move rfl rfl rfl rfl) ?_
    refine reg_cons (guard_no rfl) (op_int (k := .i64) (m := a1) (n := 1) rfl rfl rfl rfl rfl rfl) ?_
    obtain ⟨y8, h9, hF⟩ := bind_some hF
    refine reg_cons (guard_no rfl) (op_index_vs (k := .i64) rfl rfl rfl (idx_map eGCell h9) Try_slc_22 rfl rfl) ?_
    refine reg_cons (guard_no rfl) (op_field_vp rfl rfl Try_fld_30_2 rfl rfl) ?_
    refine reg_cons (guard_no rfl) (op_load_vp (p := .vs 2 (List.map eGVal y8.fFields)) rfl rfl rfl Try_one_28 rfl rfl) ?_
    refine reg_cons (guard_no rfl) (op_assign rfl rfl rfl rfl) ?_
    refine reg_nil ?_
    refine post_imp (s' := ⟨36, [(2, some (.pv (.int .i64 a2))), (6, some (.lp 0 0)), (9, some (.pv (.vs 2 (List.map eGVal y8.fFields))))], [(0, some (.box 24 [.pv (.bool (({ fRef := false, fN := 0 } : GVal).fRef)), .pv (.int .i64 (({ fRef := false, fN := 0 } : GVal).fN))]))], 1, [], []⟩) (imp_sub [0] rfl rfl (by decide) rfl rfl ⟨rfl, rfl, rfl, trivial⟩ ⟨rfl, trivial⟩ rfl nolent2) ?_
    refine post_next ?_
    refine aw_seq ?_
    refine aw_seq ?_
    obtain ⟨x11, hF, hK13⟩ := bind_some hF
    refine aw_cut (fun s1 => s1 = ⟨36, [(2, some (.pv (.int .i64 a2))), (6, some (.lp 0 0)), (9, some (.pv (.vs 2 (List.map eGVal y8.fFields)))), (30, some (.pv (.bool x11)))], [(0, some (.box 24 [.pv (.bool (({ fRef := false, fN := 0 } : GVal).fRef)), .pv (.int .i64 (({ fRef := false, fN := 0 } : GVal).fN))]))], 1, [], []⟩) ?_ ?_
    · refine aw_region ?_
      refine reg_cons (guard_no rfl) (op_move rfl rfl rfl rfl) ?_
      refine reg_cons (guard_no rfl) (op_int (k := .i64) (m := a2) (n := 0) rfl rfl rfl rfl rfl rfl) ?_
      refine reg_cons (guard_no rfl) (op_move rfl rfl rfl rfl) ?_
      rcases ite_some hF with ⟨hb10, hF⟩ | ⟨hb10, hF⟩
      · refine reg_off (guard_off rfl rfl rfl rfl hb10) rfl ?_
        refine reg_off (guard_off rfl rfl rfl rfl hb10) rfl ?_
        refine reg_off (guard_off rfl rfl rfl rfl hb10) rfl ?_
        refine reg_off (guard_off rfl rfl rfl rfl hb10) rfl ?_
        refine reg_cons (guard_no rfl) (op_pick_t rfl rfl hb10 rfl rfl rfl) ?_
        refine reg_nil ?_
        cases hF
        exact post_cut _ rfl (imp_sub [0] rfl rfl (by decide) rfl rfl ⟨rfl, rfl, rfl, rfl, trivial⟩ ⟨rfl, trivial⟩ rfl nolent2)
      · refine reg_cons (guard_on rfl rfl rfl rfl hb10) (op_move rfl rfl rfl rfl) ?_
        refine reg_cons (guard_on rfl rfl rfl rfl hb10) (op_move rfl rfl rfl rfl) ?_
        refine reg_cons (guard_on rfl rfl rfl rfl hb10) (op_len_vs (n := y8.fFields.length) rfl rfl (List.length_map ..) Try_slc_28 rfl rfl) ?_
        refine reg_cons (guard_on rfl rfl rfl rfl hb10) (op_int (k := .i64) (m := a2) (n := (y8.fFields.length : Int)) rfl rfl rfl rfl rfl rfl) ?_
        refine reg_cons (guard_no rfl) (op_pick_f rfl rfl hb10 rfl rfl rfl) ?_
        refine reg_nil ?_
        cases hF
        exact post_cut _ rfl (imp_sub [0] rfl rfl (by decide) rfl rfl ⟨rfl, rfl, rfl, rfl, trivial⟩ ⟨rfl, trivial⟩ rfl nolent2)
    · rintro _ rfl
      have hF := hK13
      clear hK13
      refine post_next ?_
      rcases ite_some hF with ⟨hb14, hF⟩ | ⟨hb14, hF⟩
      · refine aw_cond_t rfl hb14 ?_
        refine aw_seq ?_
        refine aw_region ?_
        refine reg_cons (guard_no rfl) (op_build (zs := [.bool (({ fRef := false, fN := 0 } : GVal).fRef), .int .i64 (({ fRef := false, fN := 0 } : GVal).fN)]) (r := eGVal ({ fRef := false, fN := 0 } : GVal)) rfl Try_zer_24 (by exact ⟨rfl, rfl, trivial⟩) Try_plc_24 rfl rfl rfl rfl) ?_
        refine reg_cons (guard_no rfl) (op_store_lp (n := 2) rfl rfl rfl rfl rfl (or_agg Try_agg_24) (by rw [Try_non_24]; rfl) rfl rfl) ?_
        refine reg_cons (guard_no rfl) (op_assign rfl rfl rfl rfl) ?_
        refine reg_nil ?_
        refine post_imp (s' := ⟨36, [(6, some (.lp 0 0)), (7, some (.pv (.int .i64 8)))], [(0, some (.box 24 [.pv (.bool (({ fRef := false, fN := 0 } : GVal).fRef)), .pv (.int .i64 (({ fRef := false, fN := 0 } : GVal).fN))]))], 1, [], []⟩) (imp_sub [0] rfl rfl (by decide) rfl rfl ⟨rfl, rfl, trivial⟩ ⟨rfl, trivial⟩ rfl nolent2) ?_
        refine post_next ?_
        refine aw_ret ?_
        refine post_then_ret ?_
        obtain rfl := Option.some.inj hF
        exact post_ret rfl rfl rfl (.cons _ _ _ _ _ (.agg _ _ _ _ _ 2 _ _ rfl rfl Try_agg_24 rfl rfl rfl) (.p _) (.cons _ _ _ _ _ (.tmp _ _ rfl) (.p _) .nil)) (.inl rfl)
      · refine aw_cond_f rfl hb14 ?_
        refine aw_skip ?_
        refine post_next ?_
        refine aw_seq ?_
        refine aw_region ?_
        refine reg_cons (guard_no rfl) (op_move rfl rfl rfl rfl) ?_
        refine reg_cons (guard_no rfl) (op_move rfl rfl rfl rfl) ?_
        obtain ⟨y15, h16, hF⟩ := bind_some hF
        refine reg_cons (guard_no rfl) (op_index_vs (k := .i64) rfl rfl rfl (idx_map eGVal h16) Try_slc_28 rfl rfl) ?_
        refine reg_cons (guard_no rfl) (op_load_vp_agg (ps := eGVal y15) rfl rfl rfl rfl Try_agg_24 rfl rfl) ?_
        refine reg_cons (guard_no rfl) (op_store_lp (n := 2) rfl rfl rfl rfl rfl (or_agg Try_agg_24) (by rw [Try_non_24]; rfl) rfl rfl) ?_
        refine reg_cons (guard_no rfl) (op_assign rfl rfl rfl rfl) ?_
        refine reg_nil ?_
        refine post_imp (s' := ⟨36, [(6, some (.lp 0 0)), (7, some (.pv (.int .i64 0)))], [(0, some (.box 24 [.pv (.bool y15.fRef), .pv (.int .i64 y15.fN)]))], 1, [], []⟩) (imp_sub [0] rfl rfl (by decide) rfl rfl ⟨rfl, rfl, trivial⟩ ⟨rfl, trivial⟩ rfl nolent2) ?_
        refine post_next ?_
        refine aw_ret ?_
        obtain rfl := Option.some.inj hF
        exact post_ret rfl rfl rfl (.cons _ _ _ _ _ (.agg _ _ _ _ _ 2 _ _ rfl rfl Try_agg_24 rfl rfl rfl) (.p _) (.cons _ _ _ _ _ (.tmp _ _ rfl) (.p _) .nil)) (.inl rfl)
theorem heap_own_ok {a0 : List GCell} {r : (List GCell)} (hF : heap_own a0 = some r) : Abs.Fn Try.prog 59 [.vs 7 (List.map eGCell a0)] [.own 30 7 (List.map eGCell r)] := by
  unfold heap_own at hF
  refine fn_of_body (n := 14) Try.func59 rfl rfl rfl ?_
  intro w O
  refine aw_seq ?_
  refine aw_region ?_
  refine reg_cons (guard_no rfl) (op_assign rfl rfl rfl rfl) ?_
  refine reg_nil ?_
  refine post_imp (s' := ⟨14, [(0, some (.pv (.vs 7 (List.map eGCell a0))))], [], 0, [], []⟩) (imp_sub [] rfl rfl (by decide) rfl rfl ⟨rfl, trivial⟩ trivial rfl nolent2) ?_
  refine post_next ?_
  refine aw_seq ?_
  refine aw_region ?_
  refine reg_cons (guard_no rfl) (op_move rfl rfl rfl rfl) ?_
  refine reg_cons (guard_no rfl) (op_len_vs (n := a0.length) rfl rfl (List.length_map ..) Try_slc_22 rfl rfl) ?_
  refine reg_cons (guard_no rfl) (op_move rfl rfl rfl rfl) ?_
  refine reg_cons (guard_no rfl) (op_len_vs (n := a0.length) rfl rfl (List.length_map ..) Try_slc_22 rfl rfl) ?_
  refine reg_cons (guard_no rfl) (op_int (k := .i64) (m := (a0.length : Int)) (n := 1) rfl rfl rfl rfl rfl rfl) ?_
  obtain ⟨u3, h4, hF⟩ := bind_some hF
  refine reg_cons (guard_no rfl) (op_make 0 rfl (k := .i64) (k' := .i64) (n := (a0.length : Int)) (m := w_i64 ((a0.length : Int) + 1)) (zs := eGCell ({ fClass := [], fOwn := (⟨0, 0, 0, 0⟩ : A4 Int), fFields := [], fDead := false } : GCell)) rfl rfl rfl (mkOk_spec h4).1 (mkOk_spec h4).2.1 (mkOk_spec h4).2.2 Try_slc_22 Try_elm_30 rfl Try_zer_30 (by exact ⟨rfl, rfl, rfl, rfl, rfl, trivial, rfl, trivial⟩) rfl rfl (map_rep eGCell _ _) rfl rfl) ?_
  refine reg_cons (guard_no rfl) (op_assign rfl rfl rfl rfl) ?_
  refine reg_nil ?_
  refine post_imp (s' := ⟨14, [(0, some (.pv (.vs 7 (List.map eGCell a0)))), (3, some (.ls 0))], [(0, some (.row 30 7 (List.map eGCell (List.replicate ((a0.length : Int)).toNat ({ fClass := [], fOwn := (⟨0, 0, 0, 0⟩ : A4 Int), fFields := [], fDead := false } : GCell)))))], 1, [], []⟩) (imp_sub [0] rfl rfl (by decide) rfl rfl ⟨rfl, rfl, trivial⟩ ⟨rfl, trivial⟩ rfl nolent2) ?_
  refine post_next ?_
  refine aw_seq ?_
  refine aw_region ?_
  refine reg_cons (guard_no rfl) (op_move rfl rfl rfl rfl) ?_
  refine reg_cons (guard_no rfl) (op_move rfl rfl rfl rfl) ?_
  refine reg_cons (guard_no rfl) (op_copy rfl rfl rfl rfl Try_slc_22 (map_cp eGCell (List.replicate ((a0.length : Int)).toNat ({ fClass := [], fOwn := (⟨0, 0, 0, 0⟩ : A4 Int), fFields := [], fDead := false } : GCell)) a0) rfl rfl) ?_
  refine reg_nil ?_
  refine post_imp (s' := ⟨14, [(3, some (.ls 0))], [(0, some (.row 30 7 (List.map eGCell (a0.take (List.replicate ((a0.length : Int)).toNat ({ fClass := [], fOwn := (⟨0, 0, 0, 0⟩ : A4 Int), fFields := [], fDead := false } : GCell)).length ++ (List.replicate ((a0.length : Int)).toNat ({ fClass := [], fOwn := (⟨0, 0, 0, 0⟩ : A4 Int), fFields := [], fDead := false } : GCell)).drop a0.length))))], 1, [], []⟩) (imp_sub [0] rfl rfl (by decide) rfl rfl ⟨rfl, trivial⟩ ⟨rfl, trivial⟩ rfl nolent2) ?_
  refine post_next ?_
  refine aw_seq ?_
  refine aw_region ?_
  refine reg_cons (guard_no rfl) (op_move rfl rfl rfl rfl) ?_
  refine reg_cons (guard_no rfl) (op_assign rfl rfl rfl rfl) ?_
  refine reg_nil ?_
  refine post_imp (s' := ⟨14, [(2, some (.ls 0))], [(0, some (.row 30 7 (List.map eGCell (a0.take (List.replicate ((a0.length : Int)).toNat ({ fClass := [], fOwn := (⟨0, 0, 0, 0⟩ : A4 Int), fFields := [], fDead := false } : GCell)).length ++ (List.replicate ((a0.length : Int)).toNat ({ fClass := [], fOwn := (⟨0, 0, 0, 0⟩ : A4 Int), fFields := [], fDead := false } : GCell)).drop a0.length))))], 1, [], []⟩) (imp_sub [0] rfl rfl (by decide) rfl rfl ⟨rfl, trivial⟩ ⟨rfl, trivial⟩ rfl nolent2) ?_
  refine post_next ?_
  refine aw_ret ?_
  obtain rfl := Option.some.inj hF
  exact post_ret rfl rfl rfl (.cons _ _ _ _ _ (.tmp _ _ rfl) (.own _ _ _ _ rfl nolent3) .nil) (.inl rfl)
theorem slices_Clone_api_Val_ok {a0 : List GVal} {r : List GVal} (hF : slices_Clone_api_Val a0 = some r) : Abs.Fn Try.prog 60 [.vs 2 (List.map eGVal a0)] [.own 24 2 (List.map eGVal r)] := by
  unfold slices_Clone_api_Val at hF
  obtain ⟨u, h, hF⟩ := bind_some hF
  obtain rfl := Option.some.inj hF
  refine fn_of_body (n := 8) Try.func60 rfl rfl rfl ?_
  intro w O
  refine aw_seq ?_
  refine aw_region ?_
  refine reg_cons (guard_no rfl) (op_assign rfl rfl rfl rfl) ?_
  refine reg_nil ?_
  refine post_next ?_
  refine aw_seq ?_
  refine aw_seq ?_
  refine aw_region ?_
  refine reg_cons (guard_no rfl) (op_move rfl rfl rfl rfl) ?_
  refine op_eqNil rfl rfl rfl Try_slc_28 (guard_no rfl) rfl rfl ?_ ?_
  · intro hn
    refine reg_nil ?_
    refine post_next ?_
    refine aw_cond_t rfl rfl ?_
    refine aw_seq ?_
    refine aw_region ?_
    refine reg_cons (guard_no rfl) (op_assign rfl rfl rfl rfl) ?_
    refine reg_nil ?_
    refine post_next ?_
    refine aw_ret ?_
    refine post_then_ret ?_
    refine post_imp (imp_nil_own 2 24 2 0 rfl rfl) ?_
    rw [hn]
    exact post_ret rfl rfl rfl (.cons _ _ _ _ _ (.tmp _ _ rfl) (.own _ _ _ _ rfl nolent3) .nil) (.inl rfl)
  · refine reg_nil ?_
    refine post_next ?_
    refine aw_cond_f rfl rfl ?_
    refine aw_skip ?_
    refine post_next ?_
    refine aw_seq ?_
    refine aw_region ?_
    refine reg_cons (guard_no rfl) (op_litOwn 0 rfl (rows := List.map eGVal ([] : List GVal)) (zs := [.bool (({ fRef := false, fN := 0 } : GVal).fRef), .int .i64 (({ fRef := false, fN := 0 } : GVal).fN)]) rfl rfl Try_slc_28 Try_zer_24 (by exact ⟨rfl, rfl, trivial⟩) rfl rfl rfl rfl rfl rfl rfl rfl) ?_
    refine reg_cons (guard_no rfl) (op_move rfl rfl rfl rfl) ?_
    refine reg_cons (guard_no rfl) (op_append 1 rfl rfl rfl rfl rfl nolent3 Try_slc_28 Try_elm_24 Try_zer_24 rfl rfl rfl (room_map (f := eGVal) (g := eGVal) h) (List.map_append (f := eGVal) (l₁ := []) (l₂ := a0)).symm rfl rfl) ?_
    refine reg_cons (guard_no rfl) (op_assign rfl rfl rfl rfl) ?_
    refine reg_nil ?_
    refine post_next ?_
    refine aw_ret ?_
    exact post_ret rfl rfl rfl (.cons _ _ _ _ _ (.tmp _ _ rfl) (.own _ _ _ _ rfl nolent3) .nil) (.inl rfl)
theorem heap_Put_ok {a0 : List GCell} {a1 : Int} {a2 : Int} {a3 : GVal} {r : (List GCell) × Int} (hF : heap_Put a0 a1 a2 a3 = some r) : Abs.Fn Try.prog 18 [.vs 7 (List.map eGCell a0), .int .i64 a1, .int .i64 a2, .agg (eGVal a3)] [.own 30 7 (List.map eGCell r.1), .p (.int .i64 r.2)] := by
  unfold heap_Put at hF
  refine fn_of_body (n := 44) Try.func18 rfl rfl rfl ?_
  intro w O
  refine aw_seq ?_
  refine aw_region ?_
  refine reg_cons (guard_no rfl) (op_box 0 rfl rfl rfl rfl rfl rfl) ?_
  refine reg_cons (guard_no rfl) (op_assign rfl rfl rfl rfl) ?_
  refine reg_cons (guard_no rfl) (op_assign rfl rfl rfl rfl) ?_
  refine reg_nil ?_
  refine post_imp (s' := ⟨44, [(0, some (.pv (.vs 7 (List.map eGCell a0)))), (1, some (.pv (.int .i64 a1))), (2, some (.pv (.int .i64 a2))), (7, some (.lp 0 0))], [(0, some (.box 24 [.pv (.bool a3.fRef), .pv (.int .i64 a3.fN)]))], 1, [], []⟩) (imp_sub [0] rfl rfl (by decide) rfl rfl ⟨rfl, rfl, rfl, rfl, trivial⟩ ⟨rfl, trivial⟩ rfl nolent2) ?_
  refine post_next ?_
  refine aw_seq ?_
  refine aw_seq ?_
  refine aw_region ?_
  refine reg_cons (guard_no rfl) (op_move rfl rfl rfl rfl) ?_
  refine reg_cons (guard_no rfl) (op_move rfl rfl rfl rfl) ?_
  refine reg_cons (guard_no rfl) (op_move rfl rfl rfl rfl) ?_
  obtain ⟨y3, h4, hF⟩ := bind_some hF
  refine reg_cons (guard_no rfl) (op_call 1 rfl (caps := []) (args := [.vs 7 (List.map eGCell a0), .int .i64 a1, .int .i64 a2]) rfl rfl rfl Try_cal_16 (heap_Get_ok h4) rfl rfl rfl) ?_
  refine reg_cons (guard_no rfl) (op_move rfl rfl rfl rfl) ?_
  refine reg_cons (guard_no rfl) (op_extract rfl rfl rfl rfl rfl) ?_
  refine reg_cons (guard_no rfl) (op_extract rfl rfl rfl rfl rfl) ?_
  refine reg_cons (guard_no rfl) (op_alloc 1 rfl (ps := [.bool (({ fRef := false, fN := 0 } : GVal).fRef), .int .i64 (({ fRef := false, fN := 0 } : GVal).fN)]) rfl Try_zer_24 (by exact ⟨rfl, rfl, trivial⟩) rfl rfl) ?_
  refine reg_cons (guard_no rfl) (op_store_lp (n := 2) rfl rfl rfl rfl rfl (or_agg Try_agg_24) (by rw [Try_non_24]; rfl) rfl rfl) ?_
  refine reg_cons (guard_no rfl) (op_assign rfl rfl rfl rfl) ?_
  refine reg_nil ?_
  refine post_imp (s' := ⟨44, [(0, some (.pv (.vs 7 (List.map eGCell a0)))), (1, some (.pv (.int .i64 a1))), (2, some (.pv (.int .i64 a2))), (7, some (.lp 0 0)), (11, some (.pv (.int .i64 y3.2)))], [(0, some (.box 24 [.pv (.bool a3.fRef), .pv (.int .i64 a3.fN)]))], 1, [], []⟩) (imp_sub [0] rfl rfl (by decide) rfl rfl ⟨rfl, rfl, rfl, rfl, rfl, trivial⟩ ⟨rfl, trivial⟩ rfl nolent2) ?_
  refine post_next ?_
  refine aw_seq ?_
  refine aw_region ?_
  refine reg_cons (guard_no rfl) (op_move rfl rfl rfl rfl) ?_
  refine reg_cons (guard_no rfl) (op_int (k := .i64) (m := y3.2) (n := 0) rfl rfl rfl rfl rfl rfl) ?_
  refine reg_nil ?_
  refine post_imp (s' := ⟨44, [(0, some (.pv (.vs 7 (List.map eGCell a0)))), (1, some (.pv (.int .i64 a1))), (2, some (.pv (.int .i64 a2))), (7, some (.lp 0 0)), (11, some (.pv (.int .i64 y3.2))), (22, some (.pv (.bool (y3.2 != 0))))], [(0, some (.box 24 [.pv (.bool a3.fRef), .pv (.int .i64 a3.fN)]))], 1, [], []⟩) (imp_sub [0] rfl rfl (by decide) rfl rfl ⟨rfl, rfl, rfl, rfl, rfl, rfl, trivial⟩ ⟨rfl, trivial⟩ rfl nolent2) ?_
  refine post_next ?_
  rcases ite_some hF with ⟨hb5, hF⟩ | ⟨hb5, hF⟩
  · refine aw_cond_t rfl hb5 ?_
    refine aw_seq ?_
    refine aw_region ?_
    refine reg_cons (guard_no rfl) (op_move rfl rfl rfl rfl) ?_
    refine reg_cons (guard_no rfl) (op_assign rfl rfl rfl rfl) ?_
    refine reg_cons (guard_no rfl) (op_assign rfl rfl rfl rfl) ?_
    refine reg_nil ?_
    refine post_imp (s' := ⟨44, [(8, some (.pv .nils)), (9, some (.pv (.int .i64 y3.2)))], [], 0, [], []⟩) (imp_sub [] rfl rfl (by decide) rfl rfl ⟨rfl, rfl, trivial⟩ trivial rfl nolent2) ?_
    refine post_next ?_
    refine aw_ret ?_
    refine post_then_ret ?_
    refine post_imp (imp_nil_own 8 30 7 0 rfl rfl) ?_
    obtain rfl := Option.some.inj hF
    exact post_ret rfl rfl rfl (.cons _ _ _ _ _ (.tmp _ _ rfl) (.own _ _ _ _ rfl nolent3) (.cons _ _ _ _ _ (.tmp _ _ rfl) (.p _) .nil)) (.inl rfl)
  · refine aw_cond_f rfl hb5 ?_
    refine aw_skip ?_
    refine post_next ?_
    refine aw_seq ?_
    refine aw_region ?_
    refine reg_cons (guard_no rfl) (op_move rfl rfl rfl rfl) ?_
    obtain ⟨y8, h9, hF⟩ := bind_some hF
    refine reg_cons (guard_no rfl) (op_call 1 rfl (caps := []) (args := [.vs 7 (List.map eGCell a0)]) rfl rfl rfl Try_cal_59 (heap_own_ok h9) rfl rfl rfl) ?_
    refine reg_cons (guard_no rfl) (op_assign rfl rfl rfl rfl) ?_
    refine reg_nil ?_
    refine post_imp (s' := ⟨44, [(0, some (.pv (.vs 7 (List.map eGCell a0)))), (1, some (.pv (.int .i64 a1))), (2, some (.pv (.int .i64 a2))), (7, some (.lp 0 0)), (12, some (.ls 1))], [(0, some (.box 24 [.pv (.bool a3.fRef), .pv (.int .i64 a3.fN)])), (1, some (.row 30 7 (List.map eGCell y8)))], 2, [], []⟩) (imp_sub [0, 1] rfl rfl (by decide) rfl rfl ⟨rfl, rfl, rfl, rfl, rfl, trivial⟩ ⟨rfl, rfl, trivial⟩ rfl nolent2) ?_
    refine post_next ?_
    refine aw_seq ?_
    refine aw_region ?_
    refine reg_cons (guard_no rfl) (op_move rfl rfl rfl rfl) ?_
    refine reg_cons (guard_no rfl) (op_move rfl rfl rfl rfl) ?_
    refine reg_cons (guard_no rfl) (op_int (k := .i64) (m := a1) (n := 1) rfl rfl rfl rfl rfl rfl) ?_
    obtain ⟨y14, h15, hF⟩ := bind_some hF
    refine reg_cons (guard_no rfl) (op_index_vs (k := .i64) rfl rfl rfl (idx_map eGCell h15) Try_slc_22 rfl rfl) ?_
    refine reg_cons (guard_no rfl) (op_field_vp rfl rfl Try_fld_30_2 rfl rfl) ?_
    refine reg_cons (guard_no rfl) (op_load_vp (p := .vs 2 (List.map eGVal y14.fFields)) rfl rfl rfl Try_one_28 rfl rfl) ?_
    obtain ⟨y16, h17, hF⟩ := bind_some hF
    refine reg_cons (guard_no rfl) (op_call 2 rfl (caps := []) (args := [.vs 2 (List.map eGVal y14.fFields)]) rfl rfl rfl Try_cal_60 (slices_Clone_api_Val_ok h17) rfl rfl rfl) ?_
    refine reg_cons (guard_no rfl) (op_assign rfl rfl rfl rfl) ?_
    refine reg_nil ?_
    refine post_imp (s' := ⟨44, [(1, some (.pv (.int .i64 a1))), (2, some (.pv (.int .i64 a2))), (7, some (.lp 0 0)), (12, some (.ls 1)), (13, some (.ls 2))], [(0, some (.box 24 [.pv (.bool a3.fRef), .pv (.int .i64 a3.fN)])), (1, some (.row 30 7 (List.map eGCell y8))), (2, some (.row 24 2 (List.map eGVal y16)))], 3, [], []⟩) (imp_sub [0, 1, 2] rfl rfl (by decide) rfl rfl ⟨rfl, rfl, rfl, rfl, rfl, trivial⟩ ⟨rfl, rfl, rfl, trivial⟩ rfl nolent2) ?_
    refine post_next ?_
    refine aw_seq ?_
    refine aw_region ?_
    refine reg_cons (guard_no rfl) (op_move rfl rfl rfl rfl) ?_
    refine reg_cons (guard_no rfl) (op_move rfl rfl rfl rfl) ?_
    refine reg_cons (guard_no rfl) (op_load_lp_agg (ps := eGVal a3) rfl rfl rfl rfl rfl rfl Try_agg_24 rfl rfl) ?_
    obtain ⟨y20, h21, hF⟩ := bind_some hF
    refine reg_cons (guard_no rfl) (op_index_ls (k := .i64) rfl rfl rfl rfl (idx_map eGVal h21) Try_slc_28 rfl rfl) ?_
    refine reg_cons (guard_no rfl) (op_store_le (n := 2) rfl rfl rfl rfl rfl (map_get eGVal h21) (or_agg Try_agg_24) (by rw [Try_non_24]; rfl) rfl (map_set' eGVal y16 _ a3) rfl) ?_
    refine reg_nil ?_
    refine post_imp (s' := ⟨44, [(1, some (.pv (.int .i64 a1))), (12, some (.ls 0)), (13, some (.ls 1))], [(0, some (.row 30 7 (List.map eGCell y8))), (1, some (.row 24 2 (List.map eGVal (y16.set (a2).toNat a3))))], 2, [], []⟩) (imp_sub [1, 2] rfl rfl (by decide) rfl rfl ⟨rfl, rfl, rfl, trivial⟩ ⟨rfl, rfl, trivial⟩ rfl nolent2) ?_
    refine post_next ?_
    refine aw_seq ?_
    refine aw_region ?_
    refine reg_cons (guard_no rfl) (op_move rfl rfl rfl rfl) ?_
    refine reg_cons (guard_no rfl) (op_move rfl rfl rfl rfl) ?_
    refine reg_cons (guard_no rfl) (op_int (k := .i64) (m := a1) (n := 1) rfl rfl rfl rfl rfl rfl) ?_
    refine reg_cons (guard_no rfl) (op_move rfl rfl rfl rfl) ?_
    obtain ⟨y22, h23, hF⟩ := bind_some hF
    refine reg_cons (guard_no rfl) (op_index_ls (k := .i64) rfl rfl rfl rfl (idx_map eGCell h23) Try_slc_22 rfl rfl) ?_
    refine reg_cons (guard_no rfl) (op_field_le rfl rfl Try_fld_30_2 rfl rfl) ?_
    refine reg_imp (imp_freeze [(1, some (.row 24 2 (List.map eGVal (y16.set (a2).toNat a3))))] [(13, some (.pv (.vs 2 (List.map eGVal (y16.set (a2).toNat a3))))), (40, some (.pv (.vs 2 (List.map eGVal (y16.set (a2).toNat a3)))))] (FzH.spec ⟨rfl, trivial⟩) nolent ⟨⟨_, rfl, rfl⟩, ⟨_, rfl, rfl⟩, trivial⟩) ?_
    refine reg_cons (guard_no rfl) (op_store_le (n := 1) rfl rfl rfl rfl rfl (map_get eGCell h23) (or_one Try_one_28) (by rw [Try_one_28]; rfl) rfl (map_set' eGCell y8 _ ({ y22 with fFields := (y16.set (a2).toNat a3) })) rfl) ?_
    refine reg_nil ?_
    refine post_imp (s' := ⟨44, [(12, some (.ls 0))], [(0, some (.row 30 7 (List.map eGCell (y8.set (w_i64 (a1 - 1)).toNat ({ y22 with fFields := (y16.set (a2).toNat a3) })))))], 1, [], []⟩) (imp_sub [0] rfl rfl (by decide) rfl rfl ⟨rfl, trivial⟩ ⟨rfl, trivial⟩ rfl nolent2) ?_
    refine post_next ?_
    refine aw_seq ?_
    refine aw_region ?_
    refine reg_cons (guard_no rfl) (op_move rfl rfl rfl rfl) ?_
    refine reg_cons (guard_no rfl) (op_assign rfl rfl rfl rfl) ?_
    refine reg_cons (guard_no rfl) (op_assign rfl rfl rfl rfl) ?_
    refine reg_nil ?_
    refine post_imp (s' := ⟨44, [(8, some (.ls 0)), (9, some (.pv (.int .i64 0)))], [(0, some (.row 30 7 (List.map eGCell (y8.set (w_i64 (a1 - 1)).toNat ({ y22 with fFields := (y16.set (a2).toNat a3) })))))], 1, [], []⟩) (imp_sub [0] rfl rfl (by decide) rfl rfl ⟨rfl, rfl, trivial⟩ ⟨rfl, trivial⟩ rfl nolent2) ?_
    refine post_next ?_
    refine aw_ret ?_
    obtain rfl := Option.some.inj hF
    exact post_ret rfl rfl rfl (.cons _ _ _ _ _ (.tmp _ _ rfl) (.own _ _ _ _ rfl nolent3) (.cons _ _ _ _ _ (.tmp _ _ rfl) (.p _) .nil)) (.inl rfl)
theorem heap_New_ok {a0 : List GCell} {a1 : GCell} {r : (List GCell) × Int} (hF : heap_New a0 a1 = some r) : Abs.Fn Try.prog 20 [.vs 7 (List.map eGCell a0), .agg (eGCell a1)] [.own 30 7 (List.map eGCell r.1), .p (.int .i64 r.2)] := by
  unfold heap_New at hF
  refine fn_of_body (n := 19) Try.func20 rfl rfl rfl ?_
  intro w O
  refine aw_seq ?_
  refine aw_region ?_
  refine reg_cons (guard_no rfl) (op_box 0 rfl rfl rfl rfl rfl rfl) ?_
  refine reg_cons (guard_no rfl) (op_assign rfl rfl rfl rfl) ?_
  refine reg_cons (guard_no rfl) (op_assign rfl rfl rfl rfl) ?_
  refine reg_nil ?_
  refine post_imp (s' := ⟨19, [(0, some (.pv (.vs 7 (List.map eGCell a0)))), (3, some (.lp 0 0))], [(0, some (.box 30 [.pv (.str a1.fClass), .pv (.int .i64 a1.fOwn.a0), .pv (.int .i64 a1.fOwn.a1), .pv (.int .i64 a1.fOwn.a2), .pv (.int .i64 a1.fOwn.a3), .pv (.vs 2 (List.map eGVal a1.fFields)), .pv (.bool a1.fDead)]))], 1, [], []⟩) (imp_sub [0] rfl rfl (by decide) rfl rfl ⟨rfl, rfl, trivial⟩ ⟨rfl, trivial⟩ rfl nolent2) ?_
  refine post_next ?_
  refine aw_seq ?_
  refine aw_region ?_
  refine reg_cons (guard_no rfl) (op_field_lp rfl rfl Try_fld_30_2 rfl rfl) ?_
  refine reg_cons (guard_no rfl) (op_load_lp (v := .pv (.vs 2 (List.map eGVal a1.fFields))) rfl rfl rfl rfl Try_one_28 rfl rfl) ?_
  obtain ⟨y3, h4, hF⟩ := bind_some hF
  refine reg_cons (guard_no rfl) (op_call 1 rfl (caps := []) (args := [.vs 2 (List.map eGVal a1.fFields)]) rfl rfl rfl Try_cal_60 (slices_Clone_api_Val_ok h4) rfl rfl rfl) ?_
  refine reg_imp (imp_freeze [(1, some (.row 24 2 (List.map eGVal y3)))] [(8, some (.pv (.vs 2 (List.map eGVal y3))))] (FzH.spec ⟨rfl, trivial⟩) nolent ⟨⟨_, rfl, rfl⟩, trivial⟩) ?_
  refine reg_cons (guard_no rfl) (op_field_lp rfl rfl Try_fld_30_3 rfl rfl) ?_
  refine reg_cons (guard_no rfl) (op_store_lp (n := 1) rfl rfl rfl rfl rfl (or_one Try_one_4) (by rw [Try_one_4]; rfl) rfl rfl) ?_
  refine reg_cons (guard_no rfl) (op_field_lp rfl rfl Try_fld_30_2 rfl rfl) ?_
  refine reg_cons (guard_no rfl) (op_store_lp (n := 1) rfl rfl rfl rfl rfl (or_one Try_one_28) (by rw [Try_one_28]; rfl) rfl rfl) ?_
  refine reg_nil ?_
  refine post_imp (s' := ⟨19, [(0, some (.pv (.vs 7 (List.map eGCell a0)))), (3, some (.lp 0 0))], [(0, some (.box 30 [.pv (.str (({ { a1 with fDead := false } with fFields := y3 }).fClass)), .pv (.int .i64 ((({ { a1 with fDead := false } with fFields := y3 }).fOwn).a0)), .pv (.int .i64 ((({ { a1 with fDead := false } with fFields := y3 }).fOwn).a1)), .pv (.int .i64 ((({ { a1 with fDead := false } with fFields := y3 }).fOwn).a2)), .pv (.int .i64 ((({ { a1 with fDead := false } with fFields := y3 }).fOwn).a3)), .pv (.vs 2 (List.map eGVal (({ { a1 with fDead := false } with fFields := y3 }).fFields))), .pv (.bool (({ { a1 with fDead := false } with fFields := y3 }).fDead))]))], 1, [], []⟩) (imp_sub [0] rfl rfl (by decide) rfl rfl ⟨rfl, rfl, trivial⟩ ⟨rfl, trivial⟩ rfl nolent2) ?_
  refine post_next ?_
  refine aw_seq ?_
  obtain ⟨y5, h6, hF⟩ := bind_some hF
  obtain ⟨u7, h8, hF⟩ := bind_some hF
  refine aw_imp (imp_names 2) ?_
  refine aw_drawn ({ need := [(0, .pv (.vs 7 (List.map eGCell a0)))], dst := some 11, val := some (.pv (.vs 7 (List.map eGCell a0))) } :: { need := [(11, .pv (.vs 7 (List.map eGCell a0)))], names := [1], dst := some 12, val := some (.ls 1), upd := [(1, some (.row 30 7 (List.map eGCell y5)))] } :: { need := [(3, .lp 0 0)], hneed := [(0, .box 30 [.pv (.str (({ { a1 with fDead := false } with fFields := y3 }).fClass)), .pv (.int .i64 ((({ { a1 with fDead := false } with fFields := y3 }).fOwn).a0)), .pv (.int .i64 ((({ { a1 with fDead := false } with fFields := y3 }).fOwn).a1)), .pv (.int .i64 ((({ { a1 with fDead := false } with fFields := y3 }).fOwn).a2)), .pv (.int .i64 ((({ { a1 with fDead := false } with fFields := y3 }).fOwn).a3)), .pv (.vs 2 (List.map eGVal (({ { a1 with fDead := false } with fFields := y3 }).fFields))), .pv (.bool (({ { a1 with fDead := false } with fFields := y3 }).fDead))])], dst := some 13, val := some (.pv (.agg (eGCell ({ { a1 with fDead := false } with fFields := y3 })))) } :: { need := [(13, .pv (.agg (eGCell ({ { a1 with fDead := false } with fFields := y3 }))))], dst := some 14, val := some (.pv (.vs 7 (List.map eGCell [{ { a1 with fDead := false } with fFields := y3 }]))) } :: { need := [(12, .ls 1), (14, .pv (.vs 7 (List.map eGCell [{ { a1 with fDead := false } with fFields := y3 }])))], hneed := [(1, .row 30 7 (List.map eGCell y5))], names := [2], dst := some 15, val := some (.ls 2), upd := [(2, some (.row 30 7 (List.map eGCell (y5 ++ [{ { a1 with fDead := false } with fFields := y3 }])))), (1, none)] } :: { need := [(0, .pv (.vs 7 (List.map eGCell a0)))], dst := some 16, val := some (.pv (.vs 7 (List.map eGCell a0))) } :: { need := [(16, .pv (.vs 7 (List.map eGCell a0)))], dst := some 17, val := some (.pv (.int .i64 (a0.length : Int))) } :: { need := [(17, .pv (.int .i64 (a0.length : Int)))], dst := some 18, val := some (.pv (.int .i64 (w_i64 ((a0.length : Int) + 1)))) } :: { need := [(15, .ls 2)], dst := some 4, val := some (.ls 2) } :: { need := [(18, .pv (.int .i64 (w_i64 ((a0.length : Int) + 1))))], dst := some 5, val := some (.pv (.int .i64 (w_i64 ((a0.length : Int) + 1)))) } :: []) ⟨_, _, _⟩ Try_mixed rfl ⟨fun m h => step_on (guard_no rfl) (op_move rfl h.1.1 rfl rfl) rfl, fun m h => step_on (guard_no rfl) (op_call 1 (fresh_free h.2.2.1) (caps := []) (args := [.vs 7 (List.map eGCell a0)]) rfl rfl (evl_cons h.1.1 evl_nil) Try_cal_59 (heap_own_ok h6) rfl rfl rfl) rfl, fun m h => step_on (guard_no rfl) (op_load_lp_agg (ps := eGCell ({ { a1 with fDead := false } with fFields := y3 })) rfl h.1.1 h.2.1.1 rfl rfl rfl Try_agg_30 rfl rfl) rfl, fun m h => step_on (guard_no rfl) (op_lit (rows := List.map eGCell ([{ { a1 with fDead := false } with fFields := y3 }] : List GCell)) (zs := [.str (({ fClass := [], fOwn := (⟨0, 0, 0, 0⟩ : A4 Int), fFields := [], fDead := false } : GCell).fClass), .int .i64 ((({ fClass := [], fOwn := (⟨0, 0, 0, 0⟩ : A4 Int), fFields := [], fDead := false } : GCell).fOwn).a0), .int .i64 ((({ fClass := [], fOwn := (⟨0, 0, 0, 0⟩ : A4 Int), fFields := [], fDead := false } : GCell).fOwn).a1), .int .i64 ((({ fClass := [], fOwn := (⟨0, 0, 0, 0⟩ : A4 Int), fFields := [], fDead := false } : GCell).fOwn).a2), .int .i64 ((({ fClass := [], fOwn := (⟨0, 0, 0, 0⟩ : A4 Int), fFields := [], fDead := false } : GCell).fOwn).a3), .vs 2 (List.map eGVal (({ fClass := [], fOwn := (⟨0, 0, 0, 0⟩ : A4 Int), fFields := [], fDead := false } : GCell).fFields)), .bool (({ fClass := [], fOwn := (⟨0, 0, 0, 0⟩ : A4 Int), fFields := [], fDead := false } : GCell).fDead)]) rfl rfl Try_slc_22 Try_zer_30 (by exact ⟨rfl, rfl, rfl, rfl, rfl, trivial, rfl, trivial⟩) rfl rfl rfl (evs_cons h.1.1 evs_nil) rfl rfl rfl rfl) rfl, fun m h => step_on (guard_no rfl) (op_append 2 (fresh_free h.2.2.1) rfl h.1.1 h.2.1.1 h.1.2.1 nolent3 Try_slc_22 Try_elm_30 Try_zer_30 rfl rfl rfl (room_map (f := eGCell) (g := eGCell) h8) (List.map_append (f := eGCell) (l₁ := y5) (l₂ := [{ { a1 with fDead := false } with fFields := y3 }])).symm rfl rfl) rfl, fun m h => step_on (guard_no rfl) (op_move rfl h.1.1 rfl rfl) rfl, fun m h => step_on (guard_no rfl) (op_len_vs (n := a0.length) rfl h.1.1 (List.length_map ..) Try_slc_22 rfl rfl) rfl, fun m h => step_on (guard_no rfl) (op_int (k := .i64) (m := (a0.length : Int)) (n := 1) rfl h.1.1 rfl rfl rfl rfl) rfl, fun m h => step_on (guard_no rfl) (op_assign rfl h.1.1 rfl rfl) rfl, fun m h => step_on (guard_no rfl) (op_assign rfl h.1.1 rfl rfl) rfl, trivial⟩ ⟨⟨⟨rfl, trivial⟩, trivial, trivial⟩, ⟨⟨rfl, trivial⟩, trivial, ⟨rfl, trivial⟩⟩, ⟨⟨rfl, trivial⟩, ⟨rfl, trivial⟩, trivial⟩, ⟨⟨rfl, trivial⟩, trivial, trivial⟩, ⟨⟨rfl, rfl, trivial⟩, ⟨rfl, trivial⟩, ⟨rfl, trivial⟩⟩, ⟨⟨rfl, trivial⟩, trivial, trivial⟩, ⟨⟨rfl, trivial⟩, trivial, trivial⟩, ⟨⟨rfl, trivial⟩, trivial, trivial⟩, ⟨⟨rfl, trivial⟩, trivial, trivial⟩, ⟨⟨rfl, trivial⟩, trivial, trivial⟩, trivial⟩ (by kernel_rfl) ?_
  refine post_imp (s' := ⟨19, [(4, some (.ls 0)), (5, some (.pv (.int .i64 (w_i64 ((a0.length : Int) + 1)))))], [(0, some (.row 30 7 (List.map eGCell (y5 ++ [{ { a1 with fDead := false } with fFields := y3 }]))))], 1, [], []⟩) (imp_sub [2] rfl rfl (by decide) rfl rfl ⟨rfl, rfl, trivial⟩ ⟨rfl, trivial⟩ rfl nolent2) ?_
  refine post_next ?_
  refine aw_ret ?_
  obtain rfl := Option.some.inj hF
  exact post_ret rfl rfl rfl (.cons _ _ _ _ _ (.tmp _ _ rfl) (.own _ _ _ _ rfl nolent3) (.cons _ _ _ _ _ (.tmp _ _ rfl) (.p _) .nil)) (.inl rfl)
theorem ref35_Vals_ok {a0 : List GVal} {a1 : List GVal} {r : Bool} (hF : ref35_Vals a0 a1 = some r) : Abs.Fn Try.prog 52 [.vs 2 (List.map eGVal a0), .vs 2 (List.map eGVal a1)] [.p (.bool r)] := by
  unfold ref35_Vals at hF
  refine fn_of_body (n := 26) Try.func52 rfl rfl rfl ?_
  intro w O
  refine aw_seq ?_
  refine aw_region ?_
  refine reg_cons (guard_no rfl) (op_assign rfl rfl rfl rfl) ?_
  refine reg_nil ?_
  refine post_imp (s' := ⟨26, [(0, some (.pv (.vs 2 (List.map eGVal a0)))), (1, some (.pv (.vs 2 (List.map eGVal a1))))], [], 0, [], []⟩) (imp_sub [] rfl rfl (by decide) rfl rfl ⟨rfl, rfl, trivial⟩ trivial rfl nolent2) ?_
  refine post_next ?_
  refine aw_seq ?_
  refine aw_seq ?_
  refine aw_region ?_
  refine reg_cons (guard_no rfl) (op_move rfl rfl rfl rfl) ?_
  refine reg_cons (guard_no rfl) (op_len_vs (n := a0.length) rfl rfl (List.length_map ..) Try_slc_28 rfl rfl) ?_
  refine reg_cons (guard_no rfl) (op_move rfl rfl rfl rfl) ?_
  refine reg_cons (guard_no rfl) (op_len_vs (n := a1.length) rfl rfl (List.length_map ..) Try_slc_28 rfl rfl) ?_
  refine reg_cons (guard_no rfl) (op_int (k := .i64) (m := (a0.length : Int)) (n := (a1.length : Int)) rfl rfl rfl rfl rfl rfl) ?_
  refine reg_nil ?_
  refine post_imp (s' := ⟨26, [(0, some (.pv (.vs 2 (List.map eGVal a0)))), (1, some (.pv (.vs 2 (List.map eGVal a1)))), (10, some (.pv (.bool ((a0.length : Int) != (a1.length : Int)))))], [], 0, [], []⟩) (imp_sub [] rfl rfl (by decide) rfl rfl ⟨rfl, rfl, rfl, trivial⟩ trivial rfl nolent2) ?_
  refine post_next ?_
  rcases ite_some hF with ⟨hb1, hF⟩ | ⟨hb1, hF⟩
  · refine aw_cond_t rfl hb1 ?_
    refine aw_seq ?_
    refine aw_region ?_
    refine reg_cons (guard_no rfl) (op_assign rfl rfl rfl rfl) ?_
    refine reg_nil ?_
    refine post_imp (s' := ⟨26, [(4, some (.pv (.bool false)))], [], 0, [], []⟩) (imp_sub [] rfl rfl (by decide) rfl rfl ⟨rfl, trivial⟩ trivial rfl nolent2) ?_
    refine post_next ?_
    refine aw_ret ?_
    refine post_then_ret ?_
    obtain rfl := Option.some.inj hF
    exact post_ret rfl rfl rfl (.cons _ _ _ _ _ (.tmp _ _ rfl) (.p _) .nil) (.inl rfl)
  · refine aw_cond_f rfl hb1 ?_
    refine aw_skip ?_
    refine post_next ?_
    refine aw_seq ?_
    refine aw_seq ?_
    refine aw_region ?_
    refine reg_cons (guard_no rfl) (op_assign rfl rfl rfl rfl) ?_
    refine reg_nil ?_
    refine post_imp (s' := ⟨26, [(0, some (.pv (.vs 2 (List.map eGVal a0)))), (1, some (.pv (.vs 2 (List.map eGVal a1)))), (5, some (.pv (.int .i64 0)))], [], 0, [], []⟩) (imp_sub [] rfl rfl (by decide) rfl rfl ⟨rfl, rfl, rfl, trivial⟩ trivial rfl nolent2) ?_
    refine post_next ?_
    obtain ⟨lr35, hF, hK36⟩ := bind_some hF
    refine aw_for ((((a0.length : Int)) - (0)).toNat + 1) (fun s1 => ∃ q, lr35 = .next q ∧ s1 = ⟨26, [], [], 0, [], []⟩) ?_ ?_
    · refine rnd_loop (α := Int) (fun q => ⟨26, [(0, some (.pv (.vs 2 (List.map eGVal a0)))), (1, some (.pv (.vs 2 (List.map eGVal a1)))), (5, some (.pv (.int .i64 q)))], [], 0, [], []⟩) (fun k q => ref35_Vals_L1 a0 a1 k q = some lr35) 0 (imp_sub [] rfl rfl (by decide) rfl rfl ⟨rfl, rfl, rfl, trivial⟩ trivial rfl nolent2) hF (fun q h => by cases h) ?_
      clear hF
      rintro k x12 hF ih
      refine rnd_succ ?_
      refine aw_seq ?_
      refine aw_seq ?_
      refine aw_region ?_
      refine reg_cons (guard_no rfl) (op_move rfl rfl rfl rfl) ?_
      refine reg_cons (guard_no rfl) (op_move rfl rfl rfl rfl) ?_
      refine reg_cons (guard_no rfl) (op_len_vs (n := a0.length) rfl rfl (List.length_map ..) Try_slc_28 rfl rfl) ?_
      refine reg_cons (guard_no rfl) (op_int (k := .i64) (m := x12) (n := (a0.length : Int)) rfl rfl rfl rfl rfl rfl) ?_
      refine reg_nil ?_
      refine post_imp (s' := ⟨26, [(0, some (.pv (.vs 2 (List.map eGVal a0)))), (1, some (.pv (.vs 2 (List.map eGVal a1)))), (5, some (.pv (.int .i64 x12))), (14, some (.pv (.bool (decide (x12 < (a0.length : Int))))))], [], 0, [], []⟩) (imp_sub [] rfl rfl (by decide) rfl rfl ⟨rfl, rfl, rfl, rfl, trivial⟩ trivial rfl nolent2) ?_
      refine post_next ?_
      rcases ite_some hF with ⟨hb24, hF⟩ | ⟨hb24, hF⟩
      · refine aw_cond_t rfl hb24 ?_
        refine aw_skip ?_
        refine post_next ?_
        refine aw_seq ?_
        refine aw_block ?_
        refine aw_seq ?_
        obtain ⟨y29, h30, hF⟩ := bind_some hF
        obtain ⟨y31, h32, hF⟩ := bind_some hF
        refine aw_drawn ({ need := [(0, .pv (.vs 2 (List.map eGVal a0)))], dst := some 17, val := some (.pv (.vs 2 (List.map eGVal a0))) } :: { need := [(5, .pv (.int .i64 x12))], dst := some 18, val := some (.pv (.int .i64 x12)) } :: { need := [(17, .pv (.vs 2 (List.map eGVal a0))), (18, .pv (.int .i64 x12))], dst := some 19, val := some (.pv (.vp (eGVal y29))) } :: { need := [(19, .pv (.vp (eGVal y29)))], dst := some 20, val := some (.pv (.agg (eGVal y29))) } :: { need := [(1, .pv (.vs 2 (List.map eGVal a1)))], dst := some 21, val := some (.pv (.vs 2 (List.map eGVal a1))) } :: { need := [(5, .pv (.int .i64 x12))], dst := some 22, val := some (.pv (.int .i64 x12)) } :: { need := [(21, .pv (.vs 2 (List.map eGVal a1))), (22, .pv (.int .i64 x12))], dst := some 23, val := some (.pv (.vp (eGVal y31))) } :: { need := [(23, .pv (.vp (eGVal y31)))], dst := some 24, val := some (.pv (.agg (eGVal y31))) } :: { need := [(20, .pv (.agg (eGVal y29))), (24, .pv (.agg (eGVal y31)))], dst := some 25, val := some (.pv (.bool (!(bGVal y29 y31)))) } :: []) ⟨_, _, _⟩ Try_mixed rfl ⟨fun m h => step_on (guard_no rfl) (op_move rfl h.1.1 rfl rfl) rfl, fun m h => step_on (guard_no rfl) (op_move rfl h.1.1 rfl rfl) rfl, fun m h => step_on (guard_no rfl) (op_index_vs (k := .i64) rfl h.1.1 h.1.2.1 (idx_map eGVal h30) Try_slc_28 rfl rfl) rfl, fun m h => step_on (guard_no rfl) (op_load_vp_agg (ps := eGVal y29) rfl h.1.1 rfl rfl Try_agg_24 rfl rfl) rfl, fun m h => step_on (guard_no rfl) (op_move rfl h.1.1 rfl rfl) rfl, fun m h => step_on (guard_no rfl) (op_move rfl h.1.1 rfl rfl) rfl, fun m h => step_on (guard_no rfl) (op_index_vs (k := .i64) rfl h.1.1 h.1.2.1 (idx_map eGVal h32) Try_slc_28 rfl rfl) rfl, fun m h => step_on (guard_no rfl) (op_load_vp_agg (ps := eGVal y31) rfl h.1.1 rfl rfl Try_agg_24 rfl rfl) rfl, fun m h => step_on (guard_no rfl) (op_eqAgg_neq (r := bGVal y29 y31) rfl h.1.1 h.1.2.1 Try_eqt_24 rfl rfl rfl rfl rfl) rfl, trivial⟩ ⟨⟨⟨rfl, trivial⟩, trivial, trivial⟩, ⟨⟨rfl, trivial⟩, trivial, trivial⟩, ⟨⟨rfl, rfl, trivial⟩, trivial, trivial⟩, ⟨⟨rfl, trivial⟩, trivial, trivial⟩, ⟨⟨rfl, trivial⟩, trivial, trivial⟩, ⟨⟨rfl, trivial⟩, trivial, trivial⟩, ⟨⟨rfl, rfl, trivial⟩, trivial, trivial⟩, ⟨⟨rfl, trivial⟩, trivial, trivial⟩, ⟨⟨rfl, rfl, trivial⟩, trivial, trivial⟩, trivial⟩ (by kernel_rfl) ?_
        refine post_imp (s' := ⟨26, [(0, some (.pv (.vs 2 (List.map eGVal a0)))), (1, some (.pv (.vs 2 (List.map eGVal a1)))), (5, some (.pv (.int .i64 x12))), (25, some (.pv (.bool (!(bGVal y29 y31)))))], [], 0, [], []⟩) (imp_sub [] rfl rfl (by decide) rfl rfl ⟨rfl, rfl, rfl, rfl, trivial⟩ trivial rfl nolent2) ?_
        refine post_next ?_
        rcases ite_some hF with ⟨hb33, hF⟩ | ⟨hb33, hF⟩
        · refine aw_cond_t rfl hb33 ?_
          refine aw_seq ?_
          refine aw_region ?_
          refine reg_cons (guard_no rfl) (op_assign rfl rfl rfl rfl) ?_
          refine reg_nil ?_
          refine post_imp (s' := ⟨26, [(4, some (.pv (.bool false)))], [], 0, [], []⟩) (imp_sub [] rfl rfl (by decide) rfl rfl ⟨rfl, trivial⟩ trivial rfl nolent2) ?_
          refine post_next ?_
          refine aw_ret ?_
          refine post_block_ret ?_
          refine post_then_ret ?_
          refine post_then_ret ?_
          refine post_lp_ret ?_
          obtain rfl := Option.some.inj hF
          have hF := elim_stop hK36
          refine post_then_ret ?_
          obtain rfl := Option.some.inj hF
          exact post_ret rfl rfl rfl (.cons _ _ _ _ _ (.tmp _ _ rfl) (.p _) .nil) (.inl rfl)
        · refine aw_cond_f rfl hb33 ?_
          refine aw_skip ?_
          refine post_block_normal ?_
          refine post_next ?_
          refine aw_region ?_
          refine reg_cons (guard_no rfl) (op_move rfl rfl rfl rfl) ?_
          refine reg_cons (guard_no rfl) (op_int (k := .i64) (m := x12) (n := 1) rfl rfl rfl rfl rfl rfl) ?_
          refine reg_cons (guard_no rfl) (op_assign rfl rfl rfl rfl) ?_
          refine reg_nil ?_
          refine post_round ?_
          exact rnd_back (ih (w_i64 (x12 + 1)) hF) (imp_sub [] rfl rfl (by decide) rfl rfl ⟨rfl, rfl, rfl, trivial⟩ trivial rfl nolent2)
      · refine aw_cond_f rfl hb24 ?_
        refine aw_exit ?_
        refine post_then_exit ?_
        refine post_then_exit ?_
        obtain rfl := Option.some.inj hF
        exact post_lp_break _ ⟨_, rfl, rfl⟩ (imp_sub [] rfl rfl (by decide) rfl rfl trivial trivial rfl nolent2)
    · rintro _ ⟨⟨⟩, rfl, rfl⟩
      have hF := elim_next hK36
      clear hK36
      refine post_next ?_
      refine aw_seq ?_
      refine aw_region ?_
      refine reg_cons (guard_no rfl) (op_assign rfl rfl rfl rfl) ?_
      refine reg_nil ?_
      refine post_imp (s' := ⟨26, [(4, some (.pv (.bool true)))], [], 0, [], []⟩) (imp_sub [] rfl rfl (by decide) rfl rfl ⟨rfl, trivial⟩ trivial rfl nolent2) ?_
      refine post_next ?_
      refine aw_ret ?_
      obtain rfl := Option.some.inj hF
      exact post_ret rfl rfl rfl (.cons _ _ _ _ _ (.tmp _ _ rfl) (.p _) .nil) (.inl rfl)
theorem ref35_Same_ok {a0 : List GCell} {a1 : List GCell} {r : Bool} (hF : ref35_Same a0 a1 = some r) : Abs.Fn Try.prog 24 [.vs 7 (List.map eGCell a0), .vs 7 (List.map eGCell a1)] [.p (.bool r)] := by
  unfold ref35_Same at hF
  refine fn_of_body (n := 68) Try.func24 rfl rfl rfl ?_
  intro w O
  refine aw_seq ?_
  refine aw_region ?_
  refine reg_cons (guard_no rfl) (op_assign rfl rfl rfl rfl) ?_
  refine reg_nil ?_
  refine post_imp (s' := ⟨68, [(0, some (.pv (.vs 7 (List.map eGCell a0)))), (1, some (.pv (.vs 7 (List.map eGCell a1))))], [], 0, [], []⟩) (imp_sub [] rfl rfl (by decide) rfl rfl ⟨rfl, rfl, trivial⟩ trivial rfl nolent2) ?_
  refine post_next ?_
  refine aw_seq ?_
  refine aw_seq ?_
  refine aw_region ?_
  refine reg_cons (guard_no rfl) (op_move rfl rfl rfl rfl) ?_
  refine reg_cons (guard_no rfl) (op_len_vs (n := a0.length) rfl rfl (List.length_map ..) Try_slc_22 rfl rfl) ?_
  refine reg_cons (guard_no rfl) (op_move rfl rfl rfl rfl) ?_
  refine reg_cons (guard_no rfl) (op_len_vs (n := a1.length) rfl rfl (List.length_map ..) Try_slc_22 rfl rfl) ?_
  refine reg_cons (guard_no rfl) (op_int (k := .i64) (m := (a0.length : Int)) (n := (a1.length : Int)) rfl rfl rfl rfl rfl rfl) ?_
  refine reg_nil ?_
  refine post_imp (s' := ⟨68, [(0, some (.pv (.vs 7 (List.map eGCell a0)))), (1, some (.pv (.vs 7 (List.map eGCell a1)))), (10, some (.pv (.bool ((a0.length : Int) != (a1.length : Int)))))], [], 0, [], []⟩) (imp_sub [] rfl rfl (by decide) rfl rfl ⟨rfl, rfl, rfl, trivial⟩ trivial rfl nolent2) ?_
  refine post_next ?_
  rcases ite_some hF with ⟨hb1, hF⟩ | ⟨hb1, hF⟩
  · refine aw_cond_t rfl hb1 ?_
    refine aw_seq ?_
    refine aw_region ?_
    refine reg_cons (guard_no rfl) (op_assign rfl rfl rfl rfl) ?_
    refine reg_nil ?_
    refine post_imp (s' := ⟨68, [(4, some (.pv (.bool false)))], [], 0, [], []⟩) (imp_sub [] rfl rfl (by decide) rfl rfl ⟨rfl, trivial⟩ trivial rfl nolent2) ?_
    refine post_next ?_
    refine aw_ret ?_
    refine post_then_ret ?_
    obtain rfl := Option.some.inj hF
    exact post_ret rfl rfl rfl (.cons _ _ _ _ _ (.tmp _ _ rfl) (.p _) .nil) (.inl rfl)
  · refine aw_cond_f rfl hb1 ?_
    refine aw_skip ?_
    refine post_next ?_
    refine aw_seq ?_
    refine aw_seq ?_
    refine aw_region ?_
    refine reg_cons (guard_no rfl) (op_assign rfl rfl rfl rfl) ?_
    refine reg_nil ?_
    refine post_imp (s' := ⟨68, [(0, some (.pv (.vs 7 (List.map eGCell a0)))), (1, some (.pv (.vs 7 (List.map eGCell a1)))), (5, some (.pv (.int .i64 0)))], [], 0, [], []⟩) (imp_sub [] rfl rfl (by decide) rfl rfl ⟨rfl, rfl, rfl, trivial⟩ trivial rfl nolent2) ?_
    refine post_next ?_
    obtain ⟨lr95, hF, hK96⟩ := bind_some hF
    refine aw_for ((((a0.length : Int)) - (0)).toNat + 1) (fun s1 => ∃ q, lr95 = .next q ∧ s1 = ⟨68, [], [], 0, [], []⟩) ?_ ?_
    · refine rnd_loop (α := Int) (fun q => ⟨68, [(0, some (.pv (.vs 7 (List.map eGCell a0)))), (1, some (.pv (.vs 7 (List.map eGCell a1)))), (5, some (.pv (.int .i64 q)))], [], 0, [], []⟩) (fun k q => ref35_Same_L1 a0 a1 k q = some lr95) 0 (imp_sub [] rfl rfl (by decide) rfl rfl ⟨rfl, rfl, rfl, trivial⟩ trivial rfl nolent2) hF (fun q h => by cases h) ?_
      clear hF
      rintro k x32 hF ih
      refine rnd_succ ?_
      refine aw_seq ?_
      refine aw_seq ?_
      refine aw_region ?_
      refine reg_cons (guard_no rfl) (op_move rfl rfl rfl rfl) ?_
      refine reg_cons (guard_no rfl) (op_move rfl rfl rfl rfl) ?_
      refine reg_cons (guard_no rfl) (op_len_vs (n := a0.length) rfl rfl (List.length_map ..) Try_slc_22 rfl rfl) ?_
      refine reg_cons (guard_no rfl) (op_int (k := .i64) (m := x32) (n := (a0.length : Int)) rfl rfl rfl rfl rfl rfl) ?_
      refine reg_nil ?_
      refine post_imp (s' := ⟨68, [(0, some (.pv (.vs 7 (List.map eGCell a0)))), (1, some (.pv (.vs 7 (List.map eGCell a1)))), (5, some (.pv (.int .i64 x32))), (14, some (.pv (.bool (decide (x32 < (a0.length : Int))))))], [], 0, [], []⟩) (imp_sub [] rfl rfl (by decide) rfl rfl ⟨rfl, rfl, rfl, rfl, trivial⟩ trivial rfl nolent2) ?_
      refine post_next ?_
      rcases ite_some hF with ⟨hb64, hF⟩ | ⟨hb64, hF⟩
      · refine aw_cond_t rfl hb64 ?_
        refine aw_skip ?_
        refine post_next ?_
        refine aw_seq ?_
        refine aw_block ?_
        refine aw_seq ?_
        obtain ⟨x90, hF, hK92⟩ := bind_some hF
        refine aw_cut (fun s1 => s1 = ⟨68, [(0, some (.pv (.vs 7 (List.map eGCell a0)))), (1, some (.pv (.vs 7 (List.map eGCell a1)))), (5, some (.pv (.int .i64 x32))), (67, some (.pv (.bool x90)))], [], 0, [], []⟩) ?_ ?_
        · obtain ⟨y69, h70, hF⟩ := bind_some hF
          obtain ⟨y71, h72, hF⟩ := bind_some hF
          rcases ite_some hF with ⟨hb73, hF⟩ | ⟨hb73, hF⟩
          · refine aw_drawn ({ need := [(0, .pv (.vs 7 (List.map eGCell a0)))], dst := some 17, val := some (.pv (.vs 7 (List.map eGCell a0))) } :: { need := [(5, .pv (.int .i64 x32))], dst := some 18, val := some (.pv (.int .i64 x32)) } :: { need := [(17, .pv (.vs 7 (List.map eGCell a0))), (18, .pv (.int .i64 x32))], dst := some 19, val := some (.pv (.vp (eGCell y69))) } :: { need := [(19, .pv (.vp (eGCell y69)))], dst := some 20, val := some (.pv (.vp (List.drop 0 (eGCell y69)))) } :: { need := [(20, .pv (.vp (List.drop 0 (eGCell y69))))], dst := some 21, val := some (.pv (.str y69.fClass)) } :: { need := [(1, .pv (.vs 7 (List.map eGCell a1)))], dst := some 22, val := some (.pv (.vs 7 (List.map eGCell a1))) } :: { need := [(5, .pv (.int .i64 x32))], dst := some 23, val := some (.pv (.int .i64 x32)) } :: { need := [(22, .pv (.vs 7 (List.map eGCell a1))), (23, .pv (.int .i64 x32))], dst := some 24, val := some (.pv (.vp (eGCell y71))) } :: { need := [(24, .pv (.vp (eGCell y71)))], dst := some 25, val := some (.pv (.vp (List.drop 0 (eGCell y71)))) } :: { need := [(25, .pv (.vp (List.drop 0 (eGCell y71))))], dst := some 26, val := some (.pv (.str y71.fClass)) } :: { need := [(21, .pv (.str y69.fClass)), (26, .pv (.str y71.fClass))], dst := some 27, val := some (.pv (.bool (!(y69.fClass == y71.fClass)))) } :: { need := [(27, .pv (.bool (!(y69.fClass == y71.fClass))))], dst := some 28, val := some (.pv (.bool (!(y69.fClass == y71.fClass)))) } :: { need := [(28, .pv (.bool (!(y69.fClass == y71.fClass))))], dst := some 29, val := some (.tup []) } :: { need := [(28, .pv (.bool (!(y69.fClass == y71.fClass))))], dst := some 30, val := some (.tup []) } :: { need := [(28, .pv (.bool (!(y69.fClass == y71.fClass))))], dst := some 31, val := some (.tup []) } :: { need := [(28, .pv (.bool (!(y69.fClass == y71.fClass))))], dst := some 32, val := some (.tup []) } :: { need := [(28, .pv (.bool (!(y69.fClass == y71.fClass))))], dst := some 33, val := some (.tup []) } :: { need := [(28, .pv (.bool (!(y69.fClass == y71.fClass))))], dst := some 34, val := some (.tup []) } :: { need := [(28, .pv (.bool (!(y69.fClass == y71.fClass))))], dst := some 35, val := some (.tup []) } :: { need := [(28, .pv (.bool (!(y69.fClass == y71.fClass))))], dst := some 36, val := some (.tup []) } :: { need := [(28, .pv (.bool (!(y69.fClass == y71.fClass))))], dst := some 37, val := some (.tup []) } :: { need := [(28, .pv (.bool (!(y69.fClass == y71.fClass))))], dst := some 38, val := some (.tup []) } :: { need := [(28, .pv (.bool (!(y69.fClass == y71.fClass))))], dst := some 39, val := some (.tup []) } :: { need := [(28, .pv (.bool (!(y69.fClass == y71.fClass))))], dst := some 40, val := some (.pv (.bool true)) } :: { need := [(40, .pv (.bool true))], dst := some 41, val := some (.pv (.bool true)) } :: { need := [(41, .pv (.bool true))], dst := some 42, val := some (.tup []) } :: { need := [(41, .pv (.bool true))], dst := some 43, val := some (.tup []) } :: { need := [(41, .pv (.bool true))], dst := some 44, val := some (.tup []) } :: { need := [(41, .pv (.bool true))], dst := some 45, val := some (.tup []) } :: { need := [(41, .pv (.bool true))], dst := some 46, val := some (.tup []) } :: { need := [(41, .pv (.bool true))], dst := some 47, val := some (.tup []) } :: { need := [(41, .pv (.bool true))], dst := some 48, val := some (.tup []) } :: { need := [(41, .pv (.bool true))], dst := some 49, val := some (.tup []) } :: { need := [(41, .pv (.bool true))], dst := some 50, val := some (.tup []) } :: { need := [(41, .pv (.bool true))], dst := some 51, val := some (.tup []) } :: { need := [(41, .pv (.bool true))], dst := some 52, val := some (.tup []) } :: { need := [(41, .pv (.bool true))], dst := some 53, val := some (.pv (.bool true)) } :: { need := [(53, .pv (.bool true))], dst := some 54, val := some (.pv (.bool true)) } :: { need := [(54, .pv (.bool true))], dst := some 55, val := some (.tup []) } :: { need := [(54, .pv (.bool true))], dst := some 56, val := some (.tup []) } :: { need := [(54, .pv (.bool true))], dst := some 57, val := some (.tup []) } :: { need := [(54, .pv (.bool true))], dst := some 58, val := some (.tup []) } :: { need := [(54, .pv (.bool true))], dst := some 59, val := some (.tup []) } :: { need := [(54, .pv (.bool true))], dst := some 60, val := some (.tup []) } :: { need := [(54, .pv (.bool true))], dst := some 61, val := some (.tup []) } :: { need := [(54, .pv (.bool true))], dst := some 62, val := some (.tup []) } :: { need := [(54, .pv (.bool true))], dst := some 63, val := some (.tup []) } :: { need := [(54, .pv (.bool true))], dst := some 64, val := some (.tup []) } :: { need := [(54, .pv (.bool true))], dst := some 65, val := some (.tup []) } :: { need := [(54, .pv (.bool true))], dst := some 66, val := some (.tup []) } :: { need := [(54, .pv (.bool true))], dst := some 67, val := some (.pv (.bool true)) } :: []) ⟨_, _, _⟩ Try_mixed rfl ⟨fun m h => step_on (guard_no rfl) (op_move rfl h.1.1 rfl rfl) rfl, fun m h => step_on (guard_no rfl) (op_move rfl h.1.1 rfl rfl) rfl, fun m h => step_on (guard_no rfl) (op_index_vs (k := .i64) rfl h.1.1 h.1.2.1 (idx_map eGCell h70) Try_slc_22 rfl rfl) rfl, fun m h => step_on (guard_no rfl) (op_field_vp rfl h.1.1 Try_fld_30_0 rfl rfl) rfl, fun m h => step_on (guard_no rfl) (op_load_vp (p := .str y69.fClass) rfl h.1.1 rfl Try_one_9 rfl rfl) rfl, fun m h => step_on (guard_no rfl) (op_move rfl h.1.1 rfl rfl) rfl, fun m h => step_on (guard_no rfl) (op_move rfl h.1.1 rfl rfl) rfl, fun m h => step_on (guard_no rfl) (op_index_vs (k := .i64) rfl h.1.1 h.1.2.1 (idx_map eGCell h72) Try_slc_22 rfl rfl) rfl, fun m h => step_on (guard_no rfl) (op_field_vp rfl h.1.1 Try_fld_30_0 rfl rfl) rfl, fun m h => step_on (guard_no rfl) (op_load_vp (p := .str y71.fClass) rfl h.1.1 rfl Try_one_9 rfl rfl) rfl, fun m h => step_on (guard_no rfl) (op_str rfl h.1.1 h.1.2.1 rfl rfl rfl) rfl, fun m h => step_on (guard_no rfl) (op_move rfl h.1.1 rfl rfl) rfl, fun m h => step_off (guard_off rfl rfl rfl h.1.1 hb73) rfl, fun m h => step_off (guard_off rfl rfl rfl h.1.1 hb73) rfl, fun m h => step_off (guard_off rfl rfl rfl h.1.1 hb73) rfl, fun m h => step_off (guard_off rfl rfl rfl h.1.1 hb73) rfl, fun m h => step_off (guard_off rfl rfl rfl h.1.1 hb73) rfl, fun m h => step_off (guard_off rfl rfl rfl h.1.1 hb73) rfl, fun m h => step_off (guard_off rfl rfl rfl h.1.1 hb73) rfl, fun m h => step_off (guard_off rfl rfl rfl h.1.1 hb73) rfl, fun m h => step_off (guard_off rfl rfl rfl h.1.1 hb73) rfl, fun m h => step_off (guard_off rfl rfl rfl h.1.1 hb73) rfl, fun m h => step_off (guard_off rfl rfl rfl h.1.1 hb73) rfl, fun m h => step_on (guard_no rfl) (op_pick_t rfl h.1.1 hb73 rfl rfl rfl) rfl, fun m h => step_on (guard_no rfl) (op_move rfl h.1.1 rfl rfl) rfl, fun m h => step_off (guard_off rfl rfl rfl h.1.1 rfl) rfl, fun m h => step_off (guard_off rfl rfl rfl h.1.1 rfl) rfl, fun m h => step_off (guard_off rfl rfl rfl h.1.1 rfl) rfl, fun m h => step_off (guard_off rfl rfl rfl h.1.1 rfl) rfl, fun m h => step_off (guard_off rfl rfl rfl h.1.1 rfl) rfl, fun m h => step_off (guard_off rfl rfl rfl h.1.1 rfl) rfl, fun m h => step_off (guard_off rfl rfl rfl h.1.1 rfl) rfl, fun m h => step_off (guard_off rfl rfl rfl h.1.1 rfl) rfl, fun m h => step_off (guard_off rfl rfl rfl h.1.1 rfl) rfl, fun m h => step_off (guard_off rfl rfl rfl h.1.1 rfl) rfl, fun m h => step_off (guard_off rfl rfl rfl h.1.1 rfl) rfl, fun m h => step_on (guard_no rfl) (op_pick_t rfl h.1.1 rfl rfl rfl rfl) rfl, fun m h => step_on (guard_no rfl) (op_move rfl h.1.1 rfl rfl) rfl, fun m h => step_off (guard_off rfl rfl rfl h.1.1 rfl) rfl, fun m h => step_off (guard_off rfl rfl rfl h.1.1 rfl) rfl, fun m h => step_off (guard_off rfl rfl rfl h.1.1 rfl) rfl, fun m h => step_off (guard_off rfl rfl rfl h.1.1 rfl) rfl, fun m h => step_off (guard_off rfl rfl rfl h.1.1 rfl) rfl, fun m h => step_off (guard_off rfl rfl rfl h.1.1 rfl) rfl, fun m h => step_off (guard_off rfl rfl rfl h.1.1 rfl) rfl, fun m h => step_off (guard_off rfl rfl rfl h.1.1 rfl) rfl, fun m h => step_off (guard_off rfl rfl rfl h.1.1 rfl) rfl, fun m h => step_off (guard_off rfl rfl rfl h.1.1 rfl) rfl, fun m h => step_off (guard_off rfl rfl rfl h.1.1 rfl) rfl, fun m h => step_off (guard_off rfl rfl rfl h.1.1 rfl) rfl, fun m h => step_on (guard_no rfl) (op_pick_t rfl h.1.1 rfl rfl rfl rfl) rfl, trivial⟩ ⟨⟨⟨rfl, trivial⟩, trivial, trivial⟩, ⟨⟨rfl, trivial⟩, trivial, trivial⟩, ⟨⟨rfl, rfl, trivial⟩, trivial, trivial⟩, ⟨⟨rfl, trivial⟩, trivial, trivial⟩, ⟨⟨rfl, trivial⟩, trivial, trivial⟩, ⟨⟨rfl, trivial⟩, trivial, trivial⟩, ⟨⟨rfl, trivial⟩, trivial, trivial⟩, ⟨⟨rfl, rfl, trivial⟩, trivial, trivial⟩, ⟨⟨rfl, trivial⟩, trivial, trivial⟩, ⟨⟨rfl, trivial⟩, trivial, trivial⟩, ⟨⟨rfl, rfl, trivial⟩, trivial, trivial⟩, ⟨⟨rfl, trivial⟩, trivial, trivial⟩, ⟨⟨rfl, trivial⟩, trivial, trivial⟩, ⟨⟨rfl, trivial⟩, trivial, trivial⟩, ⟨⟨rfl, trivial⟩, trivial, trivial⟩, ⟨⟨rfl, trivial⟩, trivial, trivial⟩, ⟨⟨rfl, trivial⟩, trivial, trivial⟩, ⟨⟨rfl, trivial⟩, trivial, trivial⟩, ⟨⟨rfl, trivial⟩, trivial, trivial⟩, ⟨⟨rfl, trivial⟩, trivial, trivial⟩, ⟨⟨rfl, trivial⟩, trivial, trivial⟩, ⟨⟨rfl, trivial⟩, trivial, trivial⟩, ⟨⟨rfl, trivial⟩, trivial, trivial⟩, ⟨⟨rfl, trivial⟩, trivial, trivial⟩, ⟨⟨rfl, trivial⟩, trivial, trivial⟩, ⟨⟨rfl, trivial⟩, trivial, trivial⟩, ⟨⟨rfl, trivial⟩, trivial, trivial⟩, ⟨⟨rfl, trivial⟩, trivial, trivial⟩, ⟨⟨rfl, trivial⟩, trivial, trivial⟩, ⟨⟨rfl, trivial⟩, trivial, trivial⟩, ⟨⟨rfl, trivial⟩, trivial, trivial⟩, ⟨⟨rfl, trivial⟩, trivial, trivial⟩, ⟨⟨rfl, trivial⟩, trivial, trivial⟩, ⟨⟨rfl, trivial⟩, trivial, trivial⟩, ⟨⟨rfl, trivial⟩, trivial, trivial⟩, ⟨⟨rfl, trivial⟩, trivial, trivial⟩, ⟨⟨rfl, trivial⟩, trivial, trivial⟩, ⟨⟨rfl, trivial⟩, trivial, trivial⟩, ⟨⟨rfl, trivial⟩, trivial, trivial⟩, ⟨⟨rfl, trivial⟩, trivial, trivial⟩, ⟨⟨rfl, trivial⟩, trivial, trivial⟩, ⟨⟨rfl, trivial⟩, trivial, trivial⟩, ⟨⟨rfl, trivial⟩, trivial, trivial⟩, ⟨⟨rfl, trivial⟩, trivial, trivial⟩, ⟨⟨rfl, trivial⟩, trivial, trivial⟩, ⟨⟨rfl, trivial⟩, trivial, trivial⟩, ⟨⟨rfl, trivial⟩, trivial, trivial⟩, ⟨⟨rfl, trivial⟩, trivial, trivial⟩, ⟨⟨rfl, trivial⟩, trivial, trivial⟩, ⟨⟨rfl, trivial⟩, trivial, trivial⟩, ⟨⟨rfl, trivial⟩, trivial, trivial⟩, trivial⟩ (by kernel_rfl) ?_
            refine post_imp (s' := ⟨68, [(0, some (.pv (.vs 7 (List.map eGCell a0)))), (1, some (.pv (.vs 7 (List.map eGCell a1)))), (5, some (.pv (.int .i64 x32))), (67, some (.pv (.bool true)))], [], 0, [], []⟩) (imp_sub [] rfl rfl (by decide) rfl rfl ⟨rfl, rfl, rfl, rfl, trivial⟩ trivial rfl nolent2) ?_
            cases hF
            exact post_cut _ rfl (imp_sub [] rfl rfl (by decide) rfl rfl ⟨rfl, rfl, rfl, rfl, trivial⟩ trivial rfl nolent2)
          · obtain ⟨y74, h75, hF⟩ := bind_some hF
            obtain ⟨y76, h77, hF⟩ := bind_some hF
            rcases ite_some hF with ⟨hb78, hF⟩ | ⟨hb78, hF⟩
            · refine aw_drawn ({ need := [(0, .pv (.vs 7 (List.map eGCell a0)))], dst := some 17, val := some (.pv (.vs 7 (List.map eGCell a0))) } :: { need := [(5, .pv (.int .i64 x32))], dst := some 18, val := some (.pv (.int .i64 x32)) } :: { need := [(17, .pv (.vs 7 (List.map eGCell a0))), (18, .pv (.int .i64 x32))], dst := some 19, val := some (.pv (.vp (eGCell y69))) } :: { need := [(19, .pv (.vp (eGCell y69)))], dst := some 20, val := some (.pv (.vp (List.drop 0 (eGCell y69)))) } :: { need := [(20, .pv (.vp (List.drop 0 (eGCell y69))))], dst := some 21, val := some (.pv (.str y69.fClass)) } :: { need := [(1, .pv (.vs 7 (List.map eGCell a1)))], dst := some 22, val := some (.pv (.vs 7 (List.map eGCell a1))) } :: { need := [(5, .pv (.int .i64 x32))], dst := some 23, val := some (.pv (.int .i64 x32)) } :: { need := [(22, .pv (.vs 7 (List.map eGCell a1))), (23, .pv (.int .i64 x32))], dst := some 24, val := some (.pv (.vp (eGCell y71))) } :: { need := [(24, .pv (.vp (eGCell y71)))], dst := some 25, val := some (.pv (.vp (List.drop 0 (eGCell y71)))) } :: { need := [(25, .pv (.vp (List.drop 0 (eGCell y71))))], dst := some 26, val := some (.pv (.str y71.fClass)) } :: { need := [(21, .pv (.str y69.fClass)), (26, .pv (.str y71.fClass))], dst := some 27, val := some (.pv (.bool (!(y69.fClass == y71.fClass)))) } :: { need := [(27, .pv (.bool (!(y69.fClass == y71.fClass))))], dst := some 28, val := some (.pv (.bool (!(y69.fClass == y71.fClass)))) } :: { need := [(28, .pv (.bool (!(y69.fClass == y71.fClass)))), (0, .pv (.vs 7 (List.map eGCell a0)))], dst := some 29, val := some (.pv (.vs 7 (List.map eGCell a0))) } :: { need := [(28, .pv (.bool (!(y69.fClass == y71.fClass)))), (5, .pv (.int .i64 x32))], dst := some 30, val := some (.pv (.int .i64 x32)) } :: { need := [(28, .pv (.bool (!(y69.fClass == y71.fClass)))), (29, .pv (.vs 7 (List.map eGCell a0))), (30, .pv (.int .i64 x32))], dst := some 31, val := some (.pv (.vp (eGCell y74))) } :: { need := [(28, .pv (.bool (!(y69.fClass == y71.fClass)))), (31, .pv (.vp (eGCell y74)))], dst := some 32, val := some (.pv (.vp (List.drop 1 (eGCell y74)))) } :: { need := [(28, .pv (.bool (!(y69.fClass == y71.fClass)))), (32, .pv (.vp (List.drop 1 (eGCell y74))))], dst := some 33, val := some (.pv (.agg ((eA4 eI) y74.fOwn))) } :: { need := [(28, .pv (.bool (!(y69.fClass == y71.fClass)))), (1, .pv (.vs 7 (List.map eGCell a1)))], dst := some 34, val := some (.pv (.vs 7 (List.map eGCell a1))) } :: { need := [(28, .pv (.bool (!(y69.fClass == y71.fClass)))), (5, .pv (.int .i64 x32))], dst := some 35, val := some (.pv (.int .i64 x32)) } :: { need := [(28, .pv (.bool (!(y69.fClass == y71.fClass)))), (34, .pv (.vs 7 (List.map eGCell a1))), (35, .pv (.int .i64 x32))], dst := some 36, val := some (.pv (.vp (eGCell y76))) } :: { need := [(28, .pv (.bool (!(y69.fClass == y71.fClass)))), (36, .pv (.vp (eGCell y76)))], dst := some 37, val := some (.pv (.vp (List.drop 1 (eGCell y76)))) } :: { need := [(28, .pv (.bool (!(y69.fClass == y71.fClass)))), (37, .pv (.vp (List.drop 1 (eGCell y76))))], dst := some 38, val := some (.pv (.agg ((eA4 eI) y76.fOwn))) } :: { need := [(28, .pv (.bool (!(y69.fClass == y71.fClass)))), (33, .pv (.agg ((eA4 eI) y74.fOwn))), (38, .pv (.agg ((eA4 eI) y76.fOwn)))], dst := some 39, val := some (.pv (.bool (!(bA4Int y74.fOwn y76.fOwn)))) } :: { need := [(28, .pv (.bool (!(y69.fClass == y71.fClass)))), (39, .pv (.bool (!(bA4Int y74.fOwn y76.fOwn))))], dst := some 40, val := some (.pv (.bool (!(bA4Int y74.fOwn y76.fOwn)))) } :: { need := [(40, .pv (.bool (!(bA4Int y74.fOwn y76.fOwn))))], dst := some 41, val := some (.pv (.bool (!(bA4Int y74.fOwn y76.fOwn)))) } :: { need := [(41, .pv (.bool (!(bA4Int y74.fOwn y76.fOwn))))], dst := some 42, val := some (.tup []) } :: { need := [(41, .pv (.bool (!(bA4Int y74.fOwn y76.fOwn))))], dst := some 43, val := some (.tup []) } :: { need := [(41, .pv (.bool (!(bA4Int y74.fOwn y76.fOwn))))], dst := some 44, val := some (.tup []) } :: { need := [(41, .pv (.bool (!(bA4Int y74.fOwn y76.fOwn))))], dst := some 45, val := some (.tup []) } :: { need := [(41, .pv (.bool (!(bA4Int y74.fOwn y76.fOwn))))], dst := some 46, val := some (.tup []) } :: { need := [(41, .pv (.bool (!(bA4Int y74.fOwn y76.fOwn))))], dst := some 47, val := some (.tup []) } :: { need := [(41, .pv (.bool (!(bA4Int y74.fOwn y76.fOwn))))], dst := some 48, val := some (.tup []) } :: { need := [(41, .pv (.bool (!(bA4Int y74.fOwn y76.fOwn))))], dst := some 49, val := some (.tup []) } :: { need := [(41, .pv (.bool (!(bA4Int y74.fOwn y76.fOwn))))], dst := some 50, val := some (.tup []) } :: { need := [(41, .pv (.bool (!(bA4Int y74.fOwn y76.fOwn))))], dst := some 51, val := some (.tup []) } :: { need := [(41, .pv (.bool (!(bA4Int y74.fOwn y76.fOwn))))], dst := some 52, val := some (.tup []) } :: { need := [(41, .pv (.bool (!(bA4Int y74.fOwn y76.fOwn))))], dst := some 53, val := some (.pv (.bool true)) } :: { need := [(53, .pv (.bool true))], dst := some 54, val := some (.pv (.bool true)) } :: { need := [(54, .pv (.bool true))], dst := some 55, val := some (.tup []) } :: { need := [(54, .pv (.bool true))], dst := some 56, val := some (.tup []) } :: { need := [(54, .pv (.bool true))], dst := some 57, val := some (.tup []) } :: { need := [(54, .pv (.bool true))], dst := some 58, val := some (.tup []) } :: { need := [(54, .pv (.bool true))], dst := some 59, val := some (.tup []) } :: { need := [(54, .pv (.bool true))], dst := some 60, val := some (.tup []) } :: { need := [(54, .pv (.bool true))], dst := some 61, val := some (.tup []) } :: { need := [(54, .pv (.bool true))], dst := some 62, val := some (.tup []) } :: { need := [(54, .pv (.bool true))], dst := some 63, val := some (.tup []) } :: { need := [(54, .pv (.bool true))], dst := some 64, val := some (.tup []) } :: { need := [(54, .pv (.bool true))], dst := some 65, val := some (.tup []) } :: { need := [(54, .pv (.bool true))], dst := some 66, val := some (.tup []) } :: { need := [(54, .pv (.bool true))], dst := some 67, val := some (.pv (.bool true)) } :: []) ⟨_, _, _⟩ Try_mixed rfl ⟨fun m h => step_on (guard_no rfl) (op_move rfl h.1.1 rfl rfl) rfl, fun m h => step_on (guard_no rfl) (op_move rfl h.1.1 rfl rfl) rfl, fun m h => step_on (guard_no rfl) (op_index_vs (k := .i64) rfl h.1.1 h.1.2.1 (idx_map eGCell h70) Try_slc_22 rfl rfl) rfl, fun m h => step_on (guard_no rfl) (op_field_vp rfl h.1.1 Try_fld_30_0 rfl rfl) rfl, fun m h => step_on (guard_no rfl) (op_load_vp (p := .str y69.fClass) rfl h.1.1 rfl Try_one_9 rfl rfl) rfl, fun m h => step_on (guard_no rfl) (op_move rfl h.1.1 rfl rfl) rfl, fun m h => step_on (guard_no rfl) (op_move rfl h.1.1 rfl rfl) rfl, fun m h => step_on (guard_no rfl) (op_index_vs (k := .i64) rfl h.1.1 h.1.2.1 (idx_map eGCell h72) Try_slc_22 rfl rfl) rfl, fun m h => step_on (guard_no rfl) (op_field_vp rfl h.1.1 Try_fld_30_0 rfl rfl) rfl, fun m h => step_on (guard_no rfl) (op_load_vp (p := .str y71.fClass) rfl h.1.1 rfl Try_one_9 rfl rfl) rfl, fun m h => step_on (guard_no rfl) (op_str rfl h.1.1 h.1.2.1 rfl rfl rfl) rfl, fun m h => step_on (guard_no rfl) (op_move rfl h.1.1 rfl rfl) rfl, fun m h => step_on (guard_on rfl rfl rfl h.1.1 hb73) (op_move rfl h.1.2.1 rfl rfl) rfl, fun m h => step_on (guard_on rfl rfl rfl h.1.1 hb73) (op_move rfl h.1.2.1 rfl rfl) rfl, fun m h => step_on (guard_on rfl rfl rfl h.1.1 hb73) (op_index_vs (k := .i64) rfl h.1.2.1 h.1.2.2.1 (idx_map eGCell h75) Try_slc_22 rfl rfl) rfl, fun m h => step_on (guard_on rfl rfl rfl h.1.1 hb73) (op_field_vp rfl h.1.2.1 Try_fld_30_1 rfl rfl) rfl, fun m h => step_on (guard_on rfl rfl rfl h.1.1 hb73) (op_load_vp_agg (ps := (eA4 eI) y74.fOwn) rfl h.1.2.1 rfl rfl Try_agg_27 rfl rfl) rfl, fun m h => step_on (guard_on rfl rfl rfl h.1.1 hb73) (op_move rfl h.1.2.1 rfl rfl) rfl, fun m h => step_on (guard_on rfl rfl rfl h.1.1 hb73) (op_move rfl h.1.2.1 rfl rfl) rfl, fun m h => step_on (guard_on rfl rfl rfl h.1.1 hb73) (op_index_vs (k := .i64) rfl h.1.2.1 h.1.2.2.1 (idx_map eGCell h77) Try_slc_22 rfl rfl) rfl, fun m h => step_on (guard_on rfl rfl rfl h.1.1 hb73) (op_field_vp rfl h.1.2.1 Try_fld_30_1 rfl rfl) rfl, fun m h => step_on (guard_on rfl rfl rfl h.1.1 hb73) (op_load_vp_agg (ps := (eA4 eI) y76.fOwn) rfl h.1.2.1 rfl rfl Try_agg_27 rfl rfl) rfl, fun m h => step_on (guard_on rfl rfl rfl h.1.1 hb73) (op_eqAgg_neq (r := bA4Int y74.fOwn y76.fOwn) rfl h.1.2.1 h.1.2.2.1 Try_eqt_27 rfl rfl rfl rfl rfl) rfl, fun m h => step_on (guard_no rfl) (op_pick_f rfl h.1.1 hb73 h.1.2.1 rfl rfl) rfl, fun m h => step_on (guard_no rfl) (op_move rfl h.1.1 rfl rfl) rfl, fun m h => step_off (guard_off rfl rfl rfl h.1.1 hb78) rfl, fun m h => step_off (guard_off rfl rfl rfl h.1.1 hb78) rfl, fun m h => step_off (guard_off rfl rfl rfl h.1.1 hb78) rfl, fun m h => step_off (guard_off rfl rfl rfl h.1.1 hb78) rfl, fun m h => step_off (guard_off rfl rfl rfl h.1.1 hb78) rfl, fun m h => step_off (guard_off rfl rfl rfl h.1.1 hb78) rfl, fun m h => step_off (guard_off rfl rfl rfl h.1.1 hb78) rfl, fun m h => step_off (guard_off rfl rfl rfl h.1.1 hb78) rfl, fun m h => step_off (guard_off rfl rfl rfl h.1.1 hb78) rfl, fun m h => step_off (guard_off rfl rfl rfl h.1.1 hb78) rfl, fun m h => step_off (guard_off rfl rfl rfl h.1.1 hb78) rfl, fun m h => step_on (guard_no rfl) (op_pick_t rfl h.1.1 hb78 rfl rfl rfl) rfl, fun m h => step_on (guard_no rfl) (op_move rfl h.1.1 rfl rfl) rfl, fun m h => step_off (guard_off rfl rfl rfl h.1.1 rfl) rfl, fun m h => step_off (guard_off rfl rfl rfl h.1.1 rfl) rfl, fun m h => step_off (guard_off rfl rfl rfl h.1.1 rfl) rfl, fun m h => step_off (guard_off rfl rfl rfl h.1.1 rfl) rfl, fun m h => step_off (guard_off rfl rfl rfl h.1.1 rfl) rfl, fun m h => step_off (guard_off rfl rfl rfl h.1.1 rfl) rfl, fun m h => step_off (guard_off rfl rfl rfl h.1.1 rfl) rfl, fun m h => step_off (guard_off rfl rfl rfl h.1.1 rfl) rfl, fun m h => step_off (guard_off rfl rfl rfl h.1.1 rfl) rfl, fun m h => step_off (guard_off rfl rfl rfl h.1.1 rfl) rfl, fun m h => step_off (guard_off rfl rfl rfl h.1.1 rfl) rfl, fun m h => step_off (guard_off rfl rfl rfl h.1.1 rfl) rfl, fun m h => step_on (guard_no rfl) (op_pick_t rfl h.1.1 rfl rfl rfl rfl) rfl, trivial⟩ ⟨⟨⟨rfl, trivial⟩, trivial, trivial⟩, ⟨⟨rfl, trivial⟩, trivial, trivial⟩, ⟨⟨rfl, rfl, trivial⟩, trivial, trivial⟩, ⟨⟨rfl, trivial⟩, trivial, trivial⟩, ⟨⟨rfl, trivial⟩, trivial, trivial⟩, ⟨⟨rfl, trivial⟩, trivial, trivial⟩, ⟨⟨rfl, trivial⟩, trivial, trivial⟩, ⟨⟨rfl, rfl, trivial⟩, trivial, trivial⟩, ⟨⟨rfl, trivial⟩, trivial, trivial⟩, ⟨⟨rfl, trivial⟩, trivial, trivial⟩, ⟨⟨rfl, rfl, trivial⟩, trivial, trivial⟩, ⟨⟨rfl, trivial⟩, trivial, trivial⟩, ⟨⟨rfl, rfl, trivial⟩, trivial, trivial⟩, ⟨⟨rfl, rfl, trivial⟩, trivial, trivial⟩, ⟨⟨rfl, rfl, rfl, trivial⟩, trivial, trivial⟩, ⟨⟨rfl, rfl, trivial⟩, trivial, trivial⟩, ⟨⟨rfl, rfl, trivial⟩, trivial, trivial⟩, ⟨⟨rfl, rfl, trivial⟩, trivial, trivial⟩, ⟨⟨rfl, rfl, trivial⟩, trivial, trivial⟩, ⟨⟨rfl, rfl, rfl, trivial⟩, trivial, trivial⟩, ⟨⟨rfl, rfl, trivial⟩, trivial, trivial⟩, ⟨⟨rfl, rfl, trivial⟩, trivial, trivial⟩, ⟨⟨rfl, rfl, rfl, trivial⟩, trivial, trivial⟩, ⟨⟨rfl, rfl, trivial⟩, trivial, trivial⟩, ⟨⟨rfl, trivial⟩, trivial, trivial⟩, ⟨⟨rfl, trivial⟩, trivial, trivial⟩, ⟨⟨rfl, trivial⟩, trivial, trivial⟩, ⟨⟨rfl, trivial⟩, trivial, trivial⟩, ⟨⟨rfl, trivial⟩, trivial, trivial⟩, ⟨⟨rfl, trivial⟩, trivial, trivial⟩, ⟨⟨rfl, trivial⟩, trivial, trivial⟩, ⟨⟨rfl, trivial⟩, trivial, trivial⟩, ⟨⟨rfl, trivial⟩, trivial, trivial⟩, ⟨⟨rfl, trivial⟩, trivial, trivial⟩, ⟨⟨rfl, trivial⟩, trivial, trivial⟩, ⟨⟨rfl, trivial⟩, trivial, trivial⟩, ⟨⟨rfl, trivial⟩, trivial, trivial⟩, ⟨⟨rfl, trivial⟩, trivial, trivial⟩, ⟨⟨rfl, trivial⟩, trivial, trivial⟩, ⟨⟨rfl, trivial⟩, trivial, trivial⟩, ⟨⟨rfl, trivial⟩, trivial, trivial⟩, ⟨⟨rfl, trivial⟩, trivial, trivial⟩, ⟨⟨rfl, trivial⟩, trivial, trivial⟩, ⟨⟨rfl, trivial⟩, trivial, trivial⟩, ⟨⟨rfl, trivial⟩, trivial, trivial⟩, ⟨⟨rfl, trivial⟩, trivial, trivial⟩, ⟨⟨rfl, trivial⟩, trivial, trivial⟩, ⟨⟨rfl, trivial⟩, trivial, trivial⟩, ⟨⟨rfl, trivial⟩, trivial, trivial⟩, ⟨⟨rfl, trivial⟩, trivial, trivial⟩, ⟨⟨rfl, trivial⟩, trivial, trivial⟩, trivial⟩ (by kernel_rfl) ?_
              refine post_imp (s' := ⟨68, [(0, some (.pv (.vs 7 (List.map eGCell a0)))), (1, some (.pv (.vs 7 (List.map eGCell a1)))), (5, some (.pv (.int .i64 x32))), (67, some (.pv (.bool true)))], [], 0, [], []⟩) (imp_sub [] rfl rfl (by decide) rfl rfl ⟨rfl, rfl, rfl, rfl, trivial⟩ trivial rfl nolent2) ?_
              cases hF
              exact post_cut _ rfl (imp_sub [] rfl rfl (by decide) rfl rfl ⟨rfl, rfl, rfl, rfl, trivial⟩ trivial rfl nolent2)
            · obtain ⟨y79, h80, hF⟩ := bind_some hF
              obtain ⟨y81, h82, hF⟩ := bind_some hF
              rcases ite_some hF with ⟨hb83, hF⟩ | ⟨hb83, hF⟩
              · refine aw_drawn ({ need := [(0, .pv (.vs 7 (List.map eGCell a0)))], dst := some 17, val := some (.pv (.vs 7 (List.map eGCell a0))) } :: { need := [(5, .pv (.int .i64 x32))], dst := some 18, val := some (.pv (.int .i64 x32)) } :: { need := [(17, .pv (.vs 7 (List.map eGCell a0))), (18, .pv (.int .i64 x32))], dst := some 19, val := some (.pv (.vp (eGCell y69))) } :: { need := [(19, .pv (.vp (eGCell y69)))], dst := some 20, val := some (.pv (.vp (List.drop 0 (eGCell y69)))) } :: { need := [(20, .pv (.vp (List.drop 0 (eGCell y69))))], dst := some 21, val := some (.pv (.str y69.fClass)) } :: { need := [(1, .pv (.vs 7 (List.map eGCell a1)))], dst := some 22, val := some (.pv (.vs 7 (List.map eGCell a1))) } :: { need := [(5, .pv (.int .i64 x32))], dst := some 23, val := some (.pv (.int .i64 x32)) } :: { need := [(22, .pv (.vs 7 (List.map eGCell a1))), (23, .pv (.int .i64 x32))], dst := some 24, val := some (.pv (.vp (eGCell y71))) } :: { need := [(24, .pv (.vp (eGCell y71)))], dst := some 25, val := some (.pv (.vp (List.drop 0 (eGCell y71)))) } :: { need := [(25, .pv (.vp (List.drop 0 (eGCell y71))))], dst := some 26, val := some (.pv (.str y71.fClass)) } :: { need := [(21, .pv (.str y69.fClass)), (26, .pv (.str y71.fClass))], dst := some 27, val := some (.pv (.bool (!(y69.fClass == y71.fClass)))) } :: { need := [(27, .pv (.bool (!(y69.fClass == y71.fClass))))], dst := some 28, val := some (.pv (.bool (!(y69.fClass == y71.fClass)))) } :: { need := [(28, .pv (.bool (!(y69.fClass == y71.fClass)))), (0, .pv (.vs 7 (List.map eGCell a0)))], dst := some 29, val := some (.pv (.vs 7 (List.map eGCell a0))) } :: { need := [(28, .pv (.bool (!(y69.fClass == y71.fClass)))), (5, .pv (.int .i64 x32))], dst := some 30, val := some (.pv (.int .i64 x32)) } :: { need := [(28, .pv (.bool (!(y69.fClass == y71.fClass)))), (29, .pv (.vs 7 (List.map eGCell a0))), (30, .pv (.int .i64 x32))], dst := some 31, val := some (.pv (.vp (eGCell y74))) } :: { need := [(28, .pv (.bool (!(y69.fClass == y71.fClass)))), (31, .pv (.vp (eGCell y74)))], dst := some 32, val := some (.pv (.vp (List.drop 1 (eGCell y74)))) } :: { need := [(28, .pv (.bool (!(y69.fClass == y71.fClass)))), (32, .pv (.vp (List.drop 1 (eGCell y74))))], dst := some 33, val := some (.pv (.agg ((eA4 eI) y74.fOwn))) } :: { need := [(28, .pv (.bool (!(y69.fClass == y71.fClass)))), (1, .pv (.vs 7 (List.map eGCell a1)))], dst := some 34, val := some (.pv (.vs 7 (List.map eGCell a1))) } :: { need := [(28, .pv (.bool (!(y69.fClass == y71.fClass)))), (5, .pv (.int .i64 x32))], dst := some 35, val := some (.pv (.int .i64 x32)) } :: { need := [(28, .pv (.bool (!(y69.fClass == y71.fClass)))), (34, .pv (.vs 7 (List.map eGCell a1))), (35, .pv (.int .i64 x32))], dst := some 36, val := some (.pv (.vp (eGCell y76))) } :: { need := [(28, .pv (.bool (!(y69.fClass == y71.fClass)))), (36, .pv (.vp (eGCell y76)))], dst := some 37, val := some (.pv (.vp (List.drop 1 (eGCell y76)))) } :: { need := [(28, .pv (.bool (!(y69.fClass == y71.fClass)))), (37, .pv (.vp (List.drop 1 (eGCell y76))))], dst := some 38, val := some (.pv (.agg ((eA4 eI) y76.fOwn))) } :: { need := [(28, .pv (.bool (!(y69.fClass == y71.fClass)))), (33, .pv (.agg ((eA4 eI) y74.fOwn))), (38, .pv (.agg ((eA4 eI) y76.fOwn)))], dst := some 39, val := some (.pv (.bool (!(bA4Int y74.fOwn y76.fOwn)))) } :: { need := [(28, .pv (.bool (!(y69.fClass == y71.fClass)))), (39, .pv (.bool (!(bA4Int y74.fOwn y76.fOwn))))], dst := some 40, val := some (.pv (.bool (!(bA4Int y74.fOwn y76.fOwn)))) } :: { need := [(40, .pv (.bool (!(bA4Int y74.fOwn y76.fOwn))))], dst := some 41, val := some (.pv (.bool (!(bA4Int y74.fOwn y76.fOwn)))) } :: { need := [(41, .pv (.bool (!(bA4Int y74.fOwn y76.fOwn)))), (0, .pv (.vs 7 (List.map eGCell a0)))], dst := some 42, val := some (.pv (.vs 7 (List.map eGCell a0))) } :: { need := [(41, .pv (.bool (!(bA4Int y74.fOwn y76.fOwn)))), (5, .pv (.int .i64 x32))], dst := some 43, val := some (.pv (.int .i64 x32)) } :: { need := [(41, .pv (.bool (!(bA4Int y74.fOwn y76.fOwn)))), (42, .pv (.vs 7 (List.map eGCell a0))), (43, .pv (.int .i64 x32))], dst := some 44, val := some (.pv (.vp (eGCell y79))) } :: { need := [(41, .pv (.bool (!(bA4Int y74.fOwn y76.fOwn)))), (44, .pv (.vp (eGCell y79)))], dst := some 45, val := some (.pv (.vp (List.drop 6 (eGCell y79)))) } :: { need := [(41, .pv (.bool (!(bA4Int y74.fOwn y76.fOwn)))), (45, .pv (.vp (List.drop 6 (eGCell y79))))], dst := some 46, val := some (.pv (.bool y79.fDead)) } :: { need := [(41, .pv (.bool (!(bA4Int y74.fOwn y76.fOwn)))), (1, .pv (.vs 7 (List.map eGCell a1)))], dst := some 47, val := some (.pv (.vs 7 (List.map eGCell a1))) } :: { need := [(41, .pv (.bool (!(bA4Int y74.fOwn y76.fOwn)))), (5, .pv (.int .i64 x32))], dst := some 48, val := some (.pv (.int .i64 x32)) } :: { need := [(41, .pv (.bool (!(bA4Int y74.fOwn y76.fOwn)))), (47, .pv (.vs 7 (List.map eGCell a1))), (48, .pv (.int .i64 x32))], dst := some 49, val := some (.pv (.vp (eGCell y81))) } :: { need := [(41, .pv (.bool (!(bA4Int y74.fOwn y76.fOwn)))), (49, .pv (.vp (eGCell y81)))], dst := some 50, val := some (.pv (.vp (List.drop 6 (eGCell y81)))) } :: { need := [(41, .pv (.bool (!(bA4Int y74.fOwn y76.fOwn)))), (50, .pv (.vp (List.drop 6 (eGCell y81))))], dst := some 51, val := some (.pv (.bool y81.fDead)) } :: { need := [(41, .pv (.bool (!(bA4Int y74.fOwn y76.fOwn)))), (46, .pv (.bool y79.fDead)), (51, .pv (.bool y81.fDead))], dst := some 52, val := some (.pv (.bool (!(y79.fDead == y81.fDead)))) } :: { need := [(41, .pv (.bool (!(bA4Int y74.fOwn y76.fOwn)))), (52, .pv (.bool (!(y79.fDead == y81.fDead))))], dst := some 53, val := some (.pv (.bool (!(y79.fDead == y81.fDead)))) } :: { need := [(53, .pv (.bool (!(y79.fDead == y81.fDead))))], dst := some 54, val := some (.pv (.bool (!(y79.fDead == y81.fDead)))) } :: { need := [(54, .pv (.bool (!(y79.fDead == y81.fDead))))], dst := some 55, val := some (.tup []) } :: { need := [(54, .pv (.bool (!(y79.fDead == y81.fDead))))], dst := some 56, val := some (.tup []) } :: { need := [(54, .pv (.bool (!(y79.fDead == y81.fDead))))], dst := some 57, val := some (.tup []) } :: { need := [(54, .pv (.bool (!(y79.fDead == y81.fDead))))], dst := some 58, val := some (.tup []) } :: { need := [(54, .pv (.bool (!(y79.fDead == y81.fDead))))], dst := some 59, val := some (.tup []) } :: { need := [(54, .pv (.bool (!(y79.fDead == y81.fDead))))], dst := some 60, val := some (.tup []) } :: { need := [(54, .pv (.bool (!(y79.fDead == y81.fDead))))], dst := some 61, val := some (.tup []) } :: { need := [(54, .pv (.bool (!(y79.fDead == y81.fDead))))], dst := some 62, val := some (.tup []) } :: { need := [(54, .pv (.bool (!(y79.fDead == y81.fDead))))], dst := some 63, val := some (.tup []) } :: { need := [(54, .pv (.bool (!(y79.fDead == y81.fDead))))], dst := some 64, val := some (.tup []) } :: { need := [(54, .pv (.bool (!(y79.fDead == y81.fDead))))], dst := some 65, val := some (.tup []) } :: { need := [(54, .pv (.bool (!(y79.fDead == y81.fDead))))], dst := some 66, val := some (.tup []) } :: { need := [(54, .pv (.bool (!(y79.fDead == y81.fDead))))], dst := some 67, val := some (.pv (.bool true)) } :: []) ⟨_, _, _⟩ Try_mixed rfl ⟨fun m h => step_on (guard_no rfl) (op_move rfl h.1.1 rfl rfl) rfl, fun m h => step_on (guard_no rfl) (op_move rfl h.1.1 rfl rfl) rfl, fun m h => step_on (guard_no rfl) (op_index_vs (k := .i64) rfl h.1.1 h.1.2.1 (idx_map eGCell h70) Try_slc_22 rfl rfl) rfl, fun m h => step_on (guard_no rfl) (op_field_vp rfl h.1.1 Try_fld_30_0 rfl rfl) rfl, fun m h => step_on (guard_no rfl) (op_load_vp (p := .str y69.fClass) rfl h.1.1 rfl Try_one_9 rfl rfl) rfl, fun m h => step_on (guard_no rfl) (op_move rfl h.1.1 rfl rfl) rfl, fun m h => step_on (guard_no rfl) (op_move rfl h.1.1 rfl rfl) rfl, fun m h => step_on (guard_no rfl) (op_index_vs (k := .i64) rfl h.1.1 h.1.2.1 (idx_map eGCell h72) Try_slc_22 rfl rfl) rfl, fun m h => step_on (guard_no rfl) (op_field_vp rfl h.1.1 Try_fld_30_0 rfl rfl) rfl, fun m h => step_on (guard_no rfl) (op_load_vp (p := .str y71.fClass) rfl h.1.1 rfl Try_one_9 rfl rfl) rfl, fun m h => step_on (guard_no rfl) (op_str rfl h.1.1 h.1.2.1 rfl rfl rfl) rfl, fun m h => step_on (guard_no rfl) (op_move rfl h.1.1 rfl rfl) rfl, fun m h => step_on (guard_on rfl rfl rfl h.1.1 hb73) (op_move rfl h.1.2.1 rfl rfl) rfl, fun m h => step_on (guard_on rfl rfl rfl h.1.1 hb73) (op_move rfl h.1.2.1 rfl rfl) rfl, fun m h => step_on (guard_on rfl rfl rfl h.1.1 hb73) (op_index_vs (k := .i64) rfl h.1.2.1 h.1.2.2.1 (idx_map eGCell h75) Try_slc_22 rfl rfl) rfl, fun m h => step_on (guard_on rfl rfl rfl h.1.1 hb73) (op_field_vp rfl h.1.2.1 Try_fld_30_1 rfl rfl) rfl, fun m h => step_on (guard_on rfl rfl rfl h.1.1 hb73) (op_load_vp_agg (ps := (eA4 eI) y74.fOwn) rfl h.1.2.1 rfl rfl Try_agg_27 rfl rfl) rfl, fun m h => step_on (guard_on rfl rfl rfl h.1.1 hb73) (op_move rfl h.1.2.1 rfl rfl) rfl, fun m h => step_on (guard_on rfl rfl rfl h.1.1 hb73) (op_move rfl h.1.2.1 rfl rfl) rfl, fun m h => step_on (guard_on rfl rfl rfl h.1.1 hb73) (op_index_vs (k := .i64) rfl h.1.2.1 h.1.2.2.1 (idx_map eGCell h77) Try_slc_22 rfl rfl) rfl, fun m h => step_on (guard_on rfl rfl rfl h.1.1 hb73) (op_field_vp rfl h.1.2.1 Try_fld_30_1 rfl rfl) rfl, fun m h => step_on (guard_on rfl rfl rfl h.1.1 hb73) (op_load_vp_agg (ps := (eA4 eI) y76.fOwn) rfl h.1.2.1 rfl rfl Try_agg_27 rfl rfl) rfl, fun m h => step_on (guard_on rfl rfl rfl h.1.1 hb73) (op_eqAgg_neq (r := bA4Int y74.fOwn y76.fOwn) rfl h.1.2.1 h.1.2.2.1 Try_eqt_27 rfl rfl rfl rfl rfl) rfl, fun m h => step_on (guard_no rfl) (op_pick_f rfl h.1.1 hb73 h.1.2.1 rfl rfl) rfl, fun m h => step_on (guard_no rfl) (op_move rfl h.1.1 rfl rfl) rfl, fun m h => step_on (guard_on rfl rfl rfl h.1.1 hb78) (op_move rfl h.1.2.1 rfl rfl) rfl, fun m h => step_on (guard_on rfl rfl rfl h.1.1 hb78) (op_move rfl h.1.2.1 rfl rfl) rfl, fun m h => step_on (guard_on rfl rfl rfl h.1.1 hb78) (op_index_vs (k := .i64) rfl h.1.2.1 h.1.2.2.1 (idx_map eGCell h80) Try_slc_22 rfl rfl) rfl, fun m h => step_on (guard_on rfl rfl rfl h.1.1 hb78) (op_field_vp rfl h.1.2.1 Try_fld_30_3 rfl rfl) rfl, fun m h => step_on (guard_on rfl rfl rfl h.1.1 hb78) (op_load_vp (p := .bool y79.fDead) rfl h.1.2.1 rfl Try_one_4 rfl rfl) rfl, fun m h => step_on (guard_on rfl rfl rfl h.1.1 hb78) (op_move rfl h.1.2.1 rfl rfl) rfl, fun m h => step_on (guard_on rfl rfl rfl h.1.1 hb78) (op_move rfl h.1.2.1 rfl rfl) rfl, fun m h => step_on (guard_on rfl rfl rfl h.1.1 hb78) (op_index_vs (k := .i64) rfl h.1.2.1 h.1.2.2.1 (idx_map eGCell h82) Try_slc_22 rfl rfl) rfl, fun m h => step_on (guard_on rfl rfl rfl h.1.1 hb78) (op_field_vp rfl h.1.2.1 Try_fld_30_3 rfl rfl) rfl, fun m h => step_on (guard_on rfl rfl rfl h.1.1 hb78) (op_load_vp (p := .bool y81.fDead) rfl h.1.2.1 rfl Try_one_4 rfl rfl) rfl, fun m h => step_on (guard_on rfl rfl rfl h.1.1 hb78) (op_eqBool_neq rfl h.1.2.1 h.1.2.2.1 Try_und_4 rfl rfl) rfl, fun m h => step_on (guard_no rfl) (op_pick_f rfl h.1.1 hb78 h.1.2.1 rfl rfl) rfl, fun m h => step_on (guard_no rfl) (op_move rfl h.1.1 rfl rfl) rfl, fun m h => step_off (guard_off rfl rfl rfl h.1.1 hb83) rfl, fun m h => step_off (guard_off rfl rfl rfl h.1.1 hb83) rfl, fun m h => step_off (guard_off rfl rfl rfl h.1.1 hb83) rfl, fun m h => step_off (guard_off rfl rfl rfl h.1.1 hb83) rfl, fun m h => step_off (guard_off rfl rfl rfl h.1.1 hb83) rfl, fun m h => step_off (guard_off rfl rfl rfl h.1.1 hb83) rfl, fun m h => step_off (guard_off rfl rfl rfl h.1.1 hb83) rfl, fun m h => step_off (guard_off rfl rfl rfl h.1.1 hb83) rfl, fun m h => step_off (guard_off rfl rfl rfl h.1.1 hb83) rfl, fun m h => step_off (guard_off rfl rfl rfl h.1.1 hb83) rfl, fun m h => step_off (guard_off rfl rfl rfl h.1.1 hb83) rfl, fun m h => step_off (guard_off rfl rfl rfl h.1.1 hb83) rfl, fun m h => step_on (guard_no rfl) (op_pick_t rfl h.1.1 hb83 rfl rfl rfl) rfl, trivial⟩ ⟨⟨⟨rfl, trivial⟩, trivial, trivial⟩, ⟨⟨rfl, trivial⟩, trivial, trivial⟩, ⟨⟨rfl, rfl, trivial⟩, trivial, trivial⟩, ⟨⟨rfl, trivial⟩, trivial, trivial⟩, ⟨⟨rfl, trivial⟩, trivial, trivial⟩, ⟨⟨rfl, trivial⟩, trivial, trivial⟩, ⟨⟨rfl, trivial⟩, trivial, trivial⟩, ⟨⟨rfl, rfl, trivial⟩, trivial, trivial⟩, ⟨⟨rfl, trivial⟩, trivial, trivial⟩, ⟨⟨rfl, trivial⟩, trivial, trivial⟩, ⟨⟨rfl, rfl, trivial⟩, trivial, trivial⟩, ⟨⟨rfl, trivial⟩, trivial, trivial⟩, ⟨⟨rfl, rfl, trivial⟩, trivial, trivial⟩, ⟨⟨rfl, rfl, trivial⟩, trivial, trivial⟩, ⟨⟨rfl, rfl, rfl, trivial⟩, trivial, trivial⟩, ⟨⟨rfl, rfl, trivial⟩, trivial, trivial⟩, ⟨⟨rfl, rfl, trivial⟩, trivial, trivial⟩, ⟨⟨rfl, rfl, trivial⟩, trivial, trivial⟩, ⟨⟨rfl, rfl, trivial⟩, trivial, trivial⟩, ⟨⟨rfl, rfl, rfl, trivial⟩, trivial, trivial⟩, ⟨⟨rfl, rfl, trivial⟩, trivial, trivial⟩, ⟨⟨rfl, rfl, trivial⟩, trivial, trivial⟩, ⟨⟨rfl, rfl, rfl, trivial⟩, trivial, trivial⟩, ⟨⟨rfl, rfl, trivial⟩, trivial, trivial⟩, ⟨⟨rfl, trivial⟩, trivial, trivial⟩, ⟨⟨rfl, rfl, trivial⟩, trivial, trivial⟩, ⟨⟨rfl, rfl, trivial⟩, trivial, trivial⟩, ⟨⟨rfl, rfl, rfl, trivial⟩, trivial, trivial⟩, ⟨⟨rfl, rfl, trivial⟩, trivial, trivial⟩, ⟨⟨rfl, rfl, trivial⟩, trivial, trivial⟩, ⟨⟨rfl, rfl, trivial⟩, trivial, trivial⟩, ⟨⟨rfl, rfl, trivial⟩, trivial, trivial⟩, ⟨⟨rfl, rfl, rfl, trivial⟩, trivial, trivial⟩, ⟨⟨rfl, rfl, trivial⟩, trivial, trivial⟩, ⟨⟨rfl, rfl, trivial⟩, trivial, trivial⟩, ⟨⟨rfl, rfl, rfl, trivial⟩, trivial, trivial⟩, ⟨⟨rfl, rfl, trivial⟩, trivial, trivial⟩, ⟨⟨rfl, trivial⟩, trivial, trivial⟩, ⟨⟨rfl, trivial⟩, trivial, trivial⟩, ⟨⟨rfl, trivial⟩, trivial, trivial⟩, ⟨⟨rfl, trivial⟩, trivial, trivial⟩, ⟨⟨rfl, trivial⟩, trivial, trivial⟩, ⟨⟨rfl, trivial⟩, trivial, trivial⟩, ⟨⟨rfl, trivial⟩, trivial, trivial⟩, ⟨⟨rfl, trivial⟩, trivial, trivial⟩, ⟨⟨rfl, trivial⟩, trivial, trivial⟩, ⟨⟨rfl, trivial⟩, trivial, trivial⟩, ⟨⟨rfl, trivial⟩, trivial, trivial⟩, ⟨⟨rfl, trivial⟩, trivial, trivial⟩, ⟨⟨rfl, trivial⟩, trivial, trivial⟩, ⟨⟨rfl, trivial⟩, trivial, trivial⟩, trivial⟩ (by kernel_rfl) ?_
                refine post_imp (s' := ⟨68, [(0, some (.pv (.vs 7 (List.map eGCell a0)))), (1, some (.pv (.vs 7 (List.map eGCell a1)))), (5, some (.pv (.int .i64 x32))), (67, some (.pv (.bool true)))], [], 0, [], []⟩) (imp_sub [] rfl rfl (by decide) rfl rfl ⟨rfl, rfl, rfl, rfl, trivial⟩ trivial rfl nolent2) ?_
                cases hF
                exact post_cut _ rfl (imp_sub [] rfl rfl (by decide) rfl rfl ⟨rfl, rfl, rfl, rfl, trivial⟩ trivial rfl nolent2)
              · obtain ⟨y84, h85, hF⟩ := bind_some hF
                obtain ⟨y86, h87, hF⟩ := bind_some hF
                obtain ⟨y88, h89, hF⟩ := bind_some hF
                refine aw_drawn ({ need := [(0, .pv (.vs 7 (List.map eGCell a0)))], dst := some 17, val := some (.pv (.vs 7 (List.map eGCell a0))) } :: { need := [(5, .pv (.int .i64 x32))], dst := some 18, val := some (.pv (.int .i64 x32)) } :: { need := [(17, .pv (.vs 7 (List.map eGCell a0))), (18, .pv (.int .i64 x32))], dst := some 19, val := some (.pv (.vp (eGCell y69))) } :: { need := [(19, .pv (.vp (eGCell y69)))], dst := some 20, val := some (.pv (.vp (List.drop 0 (eGCell y69)))) } :: { need := [(20, .pv (.vp (List.drop 0 (eGCell y69))))], dst := some 21, val := some (.pv (.str y69.fClass)) } :: { need := [(1, .pv (.vs 7 (List.map eGCell a1)))], dst := some 22, val := some (.pv (.vs 7 (List.map eGCell a1))) } :: { need := [(5, .pv (.int .i64 x32))], dst := some 23, val := some (.pv (.int .i64 x32)) } :: { need := [(22, .pv (.vs 7 (List.map eGCell a1))), (23, .pv (.int .i64 x32))], dst := some 24, val := some (.pv (.vp (eGCell y71))) } :: { need := [(24, .pv (.vp (eGCell y71)))], dst := some 25, val := some (.pv (.vp (List.drop 0 (eGCell y71)))) } :: { need := [(25, .pv (.vp (List.drop 0 (eGCell y71))))], dst := some 26, val := some (.pv (.str y71.fClass)) } :: { need := [(21, .pv (.str y69.fClass)), (26, .pv (.str y71.fClass))], dst := some 27, val := some (.pv (.bool (!(y69.fClass == y71.fClass)))) } :: { need := [(27, .pv (.bool (!(y69.fClass == y71.fClass))))], dst := some 28, val := some (.pv (.bool (!(y69.fClass == y71.fClass)))) } :: { need := [(28, .pv (.bool (!(y69.fClass == y71.fClass)))), (0, .pv (.vs 7 (List.map eGCell a0)))], dst := some 29, val := some (.pv (.vs 7 (List.map eGCell a0))) } :: { need := [(28, .pv (.bool (!(y69.fClass == y71.fClass)))), (5, .pv (.int .i64 x32))], dst := some 30, val := some (.pv (.int .i64 x32)) } :: { need := [(28, .pv (.bool (!(y69.fClass == y71.fClass)))), (29, .pv (.vs 7 (List.map eGCell a0))), (30, .pv (.int .i64 x32))], dst := some 31, val := some (.pv (.vp (eGCell y74))) } :: { need := [(28, .pv (.bool (!(y69.fClass == y71.fClass)))), (31, .pv (.vp (eGCell y74)))], dst := some 32, val := some (.pv (.vp (List.drop 1 (eGCell y74)))) } :: { need := [(28, .pv (.bool (!(y69.fClass == y71.fClass)))), (32, .pv (.vp (List.drop 1 (eGCell y74))))], dst := some 33, val := some (.pv (.agg ((eA4 eI) y74.fOwn))) } :: { need := [(28, .pv (.bool (!(y69.fClass == y71.fClass)))), (1, .pv (.vs 7 (List.map eGCell a1)))], dst := some 34, val := some (.pv (.vs 7 (List.map eGCell a1))) } :: { need := [(28, .pv (.bool (!(y69.fClass == y71.fClass)))), (5, .pv (.int .i64 x32))], dst := some 35, val := some (.pv (.int .i64 x32)) } :: { need := [(28, .pv (.bool (!(y69.fClass == y71.fClass)))), (34, .pv (.vs 7 (List.map eGCell a1))), (35, .pv (.int .i64 x32))], dst := some 36, val := some (.pv (.vp (eGCell y76))) } :: { need := [(28, .pv (.bool (!(y69.fClass == y71.fClass)))), (36, .pv (.vp (eGCell y76)))], dst := some 37, val := some (.pv (.vp (List.drop 1 (eGCell y76)))) } :: { need := [(28, .pv (.bool (!(y69.fClass == y71.fClass)))), (37, .pv (.vp (List.drop 1 (eGCell y76))))], dst := some 38, val := some (.pv (.agg ((eA4 eI) y76.fOwn))) } :: { need := [(28, .pv (.bool (!(y69.fClass == y71.fClass)))), (33, .pv (.agg ((eA4 eI) y74.fOwn))), (38, .pv (.agg ((eA4 eI) y76.fOwn)))], dst := some 39, val := some (.pv (.bool (!(bA4Int y74.fOwn y76.fOwn)))) } :: { need := [(28, .pv (.bool (!(y69.fClass == y71.fClass)))), (39, .pv (.bool (!(bA4Int y74.fOwn y76.fOwn))))], dst := some 40, val := some (.pv (.bool (!(bA4Int y74.fOwn y76.fOwn)))) } :: { need := [(40, .pv (.bool (!(bA4Int y74.fOwn y76.fOwn))))], dst := some 41, val := some (.pv (.bool (!(bA4Int y74.fOwn y76.fOwn)))) } :: { need := [(41, .pv (.bool (!(bA4Int y74.fOwn y76.fOwn)))), (0, .pv (.vs 7 (List.map eGCell a0)))], dst := some 42, val := some (.pv (.vs 7 (List.map eGCell a0))) } :: { need := [(41, .pv (.bool (!(bA4Int y74.fOwn y76.fOwn)))), (5, .pv (.int .i64 x32))], dst := some 43, val := some (.pv (.int .i64 x32)) } :: { need := [(41, .pv (.bool (!(bA4Int y74.fOwn y76.fOwn)))), (42, .pv (.vs 7 (List.map eGCell a0))), (43, .pv (.int .i64 x32))], dst := some 44, val := some (.pv (.vp (eGCell y79))) } :: { need := [(41, .pv (.bool (!(bA4Int y74.fOwn y76.fOwn)))), (44, .pv (.vp (eGCell y79)))], dst := some 45, val := some (.pv (.vp (List.drop 6 (eGCell y79)))) } :: { need := [(41, .pv (.bool (!(bA4Int y74.fOwn y76.fOwn)))), (45, .pv (.vp (List.drop 6 (eGCell y79))))], dst := some 46, val := some (.pv (.bool y79.fDead)) } :: { need := [(41, .pv (.bool (!(bA4Int y74.fOwn y76.fOwn)))), (1, .pv (.vs 7 (List.map eGCell a1)))], dst := some 47, val := some (.pv (.vs 7 (List.map eGCell a1))) } :: { need := [(41, .pv (.bool (!(bA4Int y74.fOwn y76.fOwn)))), (5, .pv (.int .i64 x32))], dst := some 48, val := some (.pv (.int .i64 x32)) } :: { need := [(41, .pv (.bool (!(bA4Int y74.fOwn y76.fOwn)))), (47, .pv (.vs 7 (List.map eGCell a1))), (48, .pv (.int .i64 x32))], dst := some 49, val := some (.pv (.vp (eGCell y81))) } :: { need := [(41, .pv (.bool (!(bA4Int y74.fOwn y76.fOwn)))), (49, .pv (.vp (eGCell y81)))], dst := some 50, val := some (.pv (.vp (List.drop 6 (eGCell y81)))) } :: { need := [(41, .pv (.bool (!(bA4Int y74.fOwn y76.fOwn)))), (50, .pv (.vp (List.drop 6 (eGCell y81))))], dst := some 51, val := some (.pv (.bool y81.fDead)) } :: { need := [(41, .pv (.bool (!(bA4Int y74.fOwn y76.fOwn)))), (46, .pv (.bool y79.fDead)), (51, .pv (.bool y81.fDead))], dst := some 52, val := some (.pv (.bool (!(y79.fDead == y81.fDead)))) } :: { need := [(41, .pv (.bool (!(bA4Int y74.fOwn y76.fOwn)))), (52, .pv (.bool (!(y79.fDead == y81.fDead))))], dst := some 53, val := some (.pv (.bool (!(y79.fDead == y81.fDead)))) } :: { need := [(53, .pv (.bool (!(y79.fDead == y81.fDead))))], dst := some 54, val := some (.pv (.bool (!(y79.fDead == y81.fDead)))) } :: { need := [(54, .pv (.bool (!(y79.fDead == y81.fDead)))), (0, .pv (.vs 7 (List.map eGCell a0)))], dst := some 55, val := some (.pv (.vs 7 (List.map eGCell a0))) } :: { need := [(54, .pv (.bool (!(y79.fDead == y81.fDead)))), (5, .pv (.int .i64 x32))], dst := some 56, val := some (.pv (.int .i64 x32)) } :: { need := [(54, .pv (.bool (!(y79.fDead == y81.fDead)))), (55, .pv (.vs 7 (List.map eGCell a0))), (56, .pv (.int .i64 x32))], dst := some 57, val := some (.pv (.vp (eGCell y84))) } :: { need := [(54, .pv (.bool (!(y79.fDead == y81.fDead)))), (57, .pv (.vp (eGCell y84)))], dst := some 58, val := some (.pv (.vp (List.drop 5 (eGCell y84)))) } :: { need := [(54, .pv (.bool (!(y79.fDead == y81.fDead)))), (58, .pv (.vp (List.drop 5 (eGCell y84))))], dst := some 59, val := some (.pv (.vs 2 (List.map eGVal y84.fFields))) } :: { need := [(54, .pv (.bool (!(y79.fDead == y81.fDead)))), (1, .pv (.vs 7 (List.map eGCell a1)))], dst := some 60, val := some (.pv (.vs 7 (List.map eGCell a1))) } :: { need := [(54, .pv (.bool (!(y79.fDead == y81.fDead)))), (5, .pv (.int .i64 x32))], dst := some 61, val := some (.pv (.int .i64 x32)) } :: { need := [(54, .pv (.bool (!(y79.fDead == y81.fDead)))), (60, .pv (.vs 7 (List.map eGCell a1))), (61, .pv (.int .i64 x32))], dst := some 62, val := some (.pv (.vp (eGCell y86))) } :: { need := [(54, .pv (.bool (!(y79.fDead == y81.fDead)))), (62, .pv (.vp (eGCell y86)))], dst := some 63, val := some (.pv (.vp (List.drop 5 (eGCell y86)))) } :: { need := [(54, .pv (.bool (!(y79.fDead == y81.fDead)))), (63, .pv (.vp (List.drop 5 (eGCell y86))))], dst := some 64, val := some (.pv (.vs 2 (List.map eGVal y86.fFields))) } :: { need := [(54, .pv (.bool (!(y79.fDead == y81.fDead)))), (64, .pv (.vs 2 (List.map eGVal y86.fFields))), (59, .pv (.vs 2 (List.map eGVal y84.fFields)))], dst := some 65, val := some (.pv (.bool y88)) } :: { need := [(54, .pv (.bool (!(y79.fDead == y81.fDead)))), (65, .pv (.bool y88))], dst := some 66, val := some (.pv (.bool (!y88))) } :: { need := [(54, .pv (.bool (!(y79.fDead == y81.fDead)))), (66, .pv (.bool (!y88)))], dst := some 67, val := some (.pv (.bool (!y88))) } :: []) ⟨_, _, _⟩ Try_mixed rfl ⟨fun m h => step_on (guard_no rfl) (op_move rfl h.1.1 rfl rfl) rfl, fun m h => step_on (guard_no rfl) (op_move rfl h.1.1 rfl rfl) rfl, fun m h => step_on (guard_no rfl) (op_index_vs (k := .i64) rfl h.1.1 h.1.2.1 (idx_map eGCell h70) Try_slc_22 rfl rfl) rfl, fun m h => step_on (guard_no rfl) (op_field_vp rfl h.1.1 Try_fld_30_0 rfl rfl) rfl, fun m h => step_on (guard_no rfl) (op_load_vp (p := .str y69.fClass) rfl h.1.1 rfl Try_one_9 rfl rfl) rfl, fun m h => step_on (guard_no rfl) (op_move rfl h.1.1 rfl rfl) rfl, fun m h => step_on (guard_no rfl) (op_move rfl h.1.1 rfl rfl) rfl, fun m h => step_on (guard_no rfl) (op_index_vs (k := .i64) rfl h.1.1 h.1.2.1 (idx_map eGCell h72) Try_slc_22 rfl rfl) rfl, fun m h => step_on (guard_no rfl) (op_field_vp rfl h.1.1 Try_fld_30_0 rfl rfl) rfl, fun m h => step_on (guard_no rfl) (op_load_vp (p := .str y71.fClass) rfl h.1.1 rfl Try_one_9 rfl rfl) rfl, fun m h => step_on (guard_no rfl) (op_str rfl h.1.1 h.1.2.1 rfl rfl rfl) rfl, fun m h => step_on (guard_no rfl) (op_move rfl h.1.1 rfl rfl) rfl, fun m h => step_on (guard_on rfl rfl rfl h.1.1 hb73) (op_move rfl h.1.2.1 rfl rfl) rfl, fun m h => step_on (guard_on rfl rfl rfl h.1.1 hb73) (op_move rfl h.1.2.1 rfl rfl) rfl, fun m h => step_on (guard_on rfl rfl rfl h.1.1 hb73) (op_index_vs (k := .i64) rfl h.1.2.1 h.1.2.2.1 (idx_map eGCell h75) Try_slc_22 rfl rfl) rfl, fun m h => step_on (guard_on rfl rfl rfl h.1.1 hb73) (op_field_vp rfl h.1.2.1 Try_fld_30_1 rfl rfl) rfl, fun m h => step_on (guard_on rfl rfl rfl h.1.1 hb73) (op_load_vp_agg (ps := (eA4 eI) y74.fOwn) rfl h.1.2.1 rfl rfl Try_agg_27 rfl rfl) rfl, fun m h => step_on (guard_on rfl rfl rfl h.1.1 hb73) (op_move rfl h.1.2.1 rfl rfl) rfl, fun m h => step_on (guard_on rfl rfl rfl h.1.1 hb73) (op_move rfl h.1.2.1 rfl rfl) rfl, fun m h => step_on (guard_on rfl rfl rfl h.1.1 hb73) (op_index_vs (k := .i64) rfl h.1.2.1 h.1.2.2.1 (idx_map eGCell h77) Try_slc_22 rfl rfl) rfl, fun m h => step_on (guard_on rfl rfl rfl h.1.1 hb73) (op_field_vp rfl h.1.2.1 Try_fld_30_1 rfl rfl) rfl, fun m h => step_on (guard_on rfl rfl rfl h.1.1 hb73) (op_load_vp_agg (ps := (eA4 eI) y76.fOwn) rfl h.1.2.1 rfl rfl Try_agg_27 rfl rfl) rfl, fun m h => step_on (guard_on rfl rfl rfl h.1.1 hb73) (op_eqAgg_neq (r := bA4Int y74.fOwn y76.fOwn) rfl h.1.2.1 h.1.2.2.1 Try_eqt_27 rfl rfl rfl rfl rfl) rfl, fun m h => step_on (guard_no rfl) (op_pick_f rfl h.1.1 hb73 h.1.2.1 rfl rfl) rfl, fun m h => step_on (guard_no rfl) (op_move rfl h.1.1 rfl rfl) rfl, fun m h => step_on (guard_on rfl rfl rfl h.1.1 hb78) (op_move rfl h.1.2.1 rfl rfl) rfl, fun m h => step_on (guard_on rfl rfl rfl h.1.1 hb78) (op_move rfl h.1.2.1 rfl rfl) rfl, fun m h => step_on (guard_on rfl rfl rfl h.1.1 hb78) (op_index_vs (k := .i64) rfl h.1.2.1 h.1.2.2.1 (idx_map eGCell h80) Try_slc_22 rfl rfl) rfl, fun m h => step_on (guard_on rfl rfl rfl h.1.1 hb78) (op_field_vp rfl h.1.2.1 Try_fld_30_3 rfl rfl) rfl, fun m h => step_on (guard_on rfl rfl rfl h.1.1 hb78) (op_load_vp (p := .bool y79.fDead) rfl h.1.2.1 rfl Try_one_4 rfl rfl) rfl, fun m h => step_on (guard_on rfl rfl rfl h.1.1 hb78) (op_move rfl h.1.2.1 rfl rfl) rfl, fun m h => step_on (guard_on rfl rfl rfl h.1.1 hb78) (op_move rfl h.1.2.1 rfl rfl) rfl, fun m h => step_on (guard_on rfl rfl rfl h.1.1 hb78) (op_index_vs (k := .i64) rfl h.1.2.1 h.1.2.2.1 (idx_map eGCell h82) Try_slc_22 rfl rfl) rfl, fun m h => step_on (guard_on rfl rfl rfl h.1.1 hb78) (op_field_vp rfl h.1.2.1 Try_fld_30_3 rfl rfl) rfl, fun m h => step_on (guard_on rfl rfl rfl h.1.1 hb78) (op_load_vp (p := .bool y81.fDead) rfl h.1.2.1 rfl Try_one_4 rfl rfl) rfl, fun m h => step_on (guard_on rfl rfl rfl h.1.1 hb78) (op_eqBool_neq rfl h.1.2.1 h.1.2.2.1 Try_und_4 rfl rfl) rfl, fun m h => step_on (guard_no rfl) (op_pick_f rfl h.1.1 hb78 h.1.2.1 rfl rfl) rfl, fun m h => step_on (guard_no rfl) (op_move rfl h.1.1 rfl rfl) rfl, fun m h => step_on (guard_on rfl rfl rfl h.1.1 hb83) (op_move rfl h.1.2.1 rfl rfl) rfl, fun m h => step_on (guard_on rfl rfl rfl h.1.1 hb83) (op_move rfl h.1.2.1 rfl rfl) rfl, fun m h => step_on (guard_on rfl rfl rfl h.1.1 hb83) (op_index_vs (k := .i64) rfl h.1.2.1 h.1.2.2.1 (idx_map eGCell h85) Try_slc_22 rfl rfl) rfl, fun m h => step_on (guard_on rfl rfl rfl h.1.1 hb83) (op_field_vp rfl h.1.2.1 Try_fld_30_2 rfl rfl) rfl, fun m h => step_on (guard_on rfl rfl rfl h.1.1 hb83) (op_load_vp (p := .vs 2 (List.map eGVal y84.fFields)) rfl h.1.2.1 rfl Try_one_28 rfl rfl) rfl, fun m h => step_on (guard_on rfl rfl rfl h.1.1 hb83) (op_move rfl h.1.2.1 rfl rfl) rfl, fun m h => step_on (guard_on rfl rfl rfl h.1.1 hb83) (op_move rfl h.1.2.1 rfl rfl) rfl, fun m h => step_on (guard_on rfl rfl rfl h.1.1 hb83) (op_index_vs (k := .i64) rfl h.1.2.1 h.1.2.2.1 (idx_map eGCell h87) Try_slc_22 rfl rfl) rfl, fun m h => step_on (guard_on rfl rfl rfl h.1.1 hb83) (op_field_vp rfl h.1.2.1 Try_fld_30_2 rfl rfl) rfl, fun m h => step_on (guard_on rfl rfl rfl h.1.1 hb83) (op_load_vp (p := .vs 2 (List.map eGVal y86.fFields)) rfl h.1.2.1 rfl Try_one_28 rfl rfl) rfl, fun m h => step_on (guard_on rfl rfl rfl h.1.1 hb83) (op_call 0 rfl (caps := []) (args := [.vs 2 (List.map eGVal y84.fFields), .vs 2 (List.map eGVal y86.fFields)]) rfl rfl (evl_cons h.1.2.2.1 (evl_cons h.1.2.1 evl_nil)) Try_cal_52 (ref35_Vals_ok h89) rfl rfl rfl) rfl, fun m h => step_on (guard_on rfl rfl rfl h.1.1 hb83) (op_not rfl h.1.2.1 rfl rfl) rfl, fun m h => step_on (guard_no rfl) (op_pick_f rfl h.1.1 hb83 h.1.2.1 rfl rfl) rfl, trivial⟩ ⟨⟨⟨rfl, trivial⟩, trivial, trivial⟩, ⟨⟨rfl, trivial⟩, trivial, trivial⟩, ⟨⟨rfl, rfl, trivial⟩, trivial, trivial⟩, ⟨⟨rfl, trivial⟩, trivial, trivial⟩, ⟨⟨rfl, trivial⟩, trivial, trivial⟩, ⟨⟨rfl, trivial⟩, trivial, trivial⟩, ⟨⟨rfl, trivial⟩, trivial, trivial⟩, ⟨⟨rfl, rfl, trivial⟩, trivial, trivial⟩, ⟨⟨rfl, trivial⟩, trivial, trivial⟩, ⟨⟨rfl, trivial⟩, trivial, trivial⟩, ⟨⟨rfl, rfl, trivial⟩, trivial, trivial⟩, ⟨⟨rfl, trivial⟩, trivial, trivial⟩, ⟨⟨rfl, rfl, trivial⟩, trivial, trivial⟩, ⟨⟨rfl, rfl, trivial⟩, trivial, trivial⟩, ⟨⟨rfl, rfl, rfl, trivial⟩, trivial, trivial⟩, ⟨⟨rfl, rfl, trivial⟩, trivial, trivial⟩, ⟨⟨rfl, rfl, trivial⟩, trivial, trivial⟩, ⟨⟨rfl, rfl, trivial⟩, trivial, trivial⟩, ⟨⟨rfl, rfl, trivial⟩, trivial, trivial⟩, ⟨⟨rfl, rfl, rfl, trivial⟩, trivial, trivial⟩, ⟨⟨rfl, rfl, trivial⟩, trivial, trivial⟩, ⟨⟨rfl, rfl, trivial⟩, trivial, trivial⟩, ⟨⟨rfl, rfl, rfl, trivial⟩, trivial, trivial⟩, ⟨⟨rfl, rfl, trivial⟩, trivial, trivial⟩, ⟨⟨rfl, trivial⟩, trivial, trivial⟩, ⟨⟨rfl, rfl, trivial⟩, trivial, trivial⟩, ⟨⟨rfl, rfl, trivial⟩, trivial, trivial⟩, ⟨⟨rfl, rfl, rfl, trivial⟩, trivial, trivial⟩, ⟨⟨rfl, rfl, trivial⟩, trivial, trivial⟩, ⟨⟨rfl, rfl, trivial⟩, trivial, trivial⟩, ⟨⟨rfl, rfl, trivial⟩, trivial, trivial⟩, ⟨⟨rfl, rfl, trivial⟩, trivial, trivial⟩, ⟨⟨rfl, rfl, rfl, trivial⟩, trivial, trivial⟩, ⟨⟨rfl, rfl, trivial⟩, trivial, trivial⟩, ⟨⟨rfl, rfl, trivial⟩, trivial, trivial⟩, ⟨⟨rfl, rfl, rfl, trivial⟩, trivial, trivial⟩, ⟨⟨rfl, rfl, trivial⟩, trivial, trivial⟩, ⟨⟨rfl, trivial⟩, trivial, trivial⟩, ⟨⟨rfl, rfl, trivial⟩, trivial, trivial⟩, ⟨⟨rfl, rfl, trivial⟩, trivial, trivial⟩, ⟨⟨rfl, rfl, rfl, trivial⟩, trivial, trivial⟩, ⟨⟨rfl, rfl, trivial⟩, trivial, trivial⟩, ⟨⟨rfl, rfl, trivial⟩, trivial, trivial⟩, ⟨⟨rfl, rfl, trivial⟩, trivial, trivial⟩, ⟨⟨rfl, rfl, trivial⟩, trivial, trivial⟩, ⟨⟨rfl, rfl, rfl, trivial⟩, trivial, trivial⟩, ⟨⟨rfl, rfl, trivial⟩, trivial, trivial⟩, ⟨⟨rfl, rfl, trivial⟩, trivial, trivial⟩, ⟨⟨rfl, rfl, rfl, trivial⟩, trivial, trivial⟩, ⟨⟨rfl, rfl, trivial⟩, trivial, trivial⟩, ⟨⟨rfl, rfl, trivial⟩, trivial, trivial⟩, trivial⟩ (by kernel_rfl) ?_
                refine post_imp (s' := ⟨68, [(0, some (.pv (.vs 7 (List.map eGCell a0)))), (1, some (.pv (.vs 7 (List.map eGCell a1)))), (5, some (.pv (.int .i64 x32))), (67, some (.pv (.bool (!y88))))], [], 0, [], []⟩) (imp_sub [] rfl rfl (by decide) rfl rfl ⟨rfl, rfl, rfl, rfl, trivial⟩ trivial rfl nolent2) ?_
                cases hF
                exact post_cut _ rfl (imp_sub [] rfl rfl (by decide) rfl rfl ⟨rfl, rfl, rfl, rfl, trivial⟩ trivial rfl nolent2)
        · rintro _ rfl
          have hF := hK92
          clear hK92
          refine post_next ?_
          rcases ite_some hF with ⟨hb93, hF⟩ | ⟨hb93, hF⟩
          · refine aw_cond_t rfl hb93 ?_
            refine aw_seq ?_
            refine aw_region ?_
            refine reg_cons (guard_no rfl) (op_assign rfl rfl rfl rfl) ?_
            refine reg_nil ?_
            refine post_imp (s' := ⟨68, [(4, some (.pv (.bool false)))], [], 0, [], []⟩) (imp_sub [] rfl rfl (by decide) rfl rfl ⟨rfl, trivial⟩ trivial rfl nolent2) ?_
            refine post_next ?_
            refine aw_ret ?_
            refine post_block_ret ?_
            refine post_then_ret ?_
            refine post_then_ret ?_
            refine post_lp_ret ?_
            obtain rfl := Option.some.inj hF
            have hF := elim_stop hK96
            refine post_then_ret ?_
            obtain rfl := Option.some.inj hF
            exact post_ret rfl rfl rfl (.cons _ _ _ _ _ (.tmp _ _ rfl) (.p _) .nil) (.inl rfl)
          · refine aw_cond_f rfl hb93 ?_
            refine aw_skip ?_
            refine post_block_normal ?_
            refine post_next ?_
            refine aw_region ?_
            refine reg_cons (guard_no rfl) (op_move rfl rfl rfl rfl) ?_
            refine reg_cons (guard_no rfl) (op_int (k := .i64) (m := x32) (n := 1) rfl rfl rfl rfl rfl rfl) ?_
            refine reg_cons (guard_no rfl) (op_assign rfl rfl rfl rfl) ?_
            refine reg_nil ?_
            refine post_round ?_
            exact rnd_back (ih (w_i64 (x32 + 1)) hF) (imp_sub [] rfl rfl (by decide) rfl rfl ⟨rfl, rfl, rfl, trivial⟩ trivial rfl nolent2)
      · refine aw_cond_f rfl hb64 ?_
        refine aw_exit ?_
        refine post_then_exit ?_
        refine post_then_exit ?_
        obtain rfl := Option.some.inj hF
        exact post_lp_break _ ⟨_, rfl, rfl⟩ (imp_sub [] rfl rfl (by decide) rfl rfl trivial trivial rfl nolent2)
    · rintro _ ⟨⟨⟩, rfl, rfl⟩
      have hF := elim_next hK96
      clear hK96
      refine post_next ?_
      refine aw_seq ?_
      refine aw_region ?_
      refine reg_cons (guard_no rfl) (op_assign rfl rfl rfl rfl) ?_
      refine reg_nil ?_
      refine post_imp (s' := ⟨68, [(4, some (.pv (.bool true)))], [], 0, [], []⟩) (imp_sub [] rfl rfl (by decide) rfl rfl ⟨rfl, trivial⟩ trivial rfl nolent2) ?_
      refine post_next ?_
      refine aw_ret ?_
      obtain rfl := Option.some.inj hF
      exact post_ret rfl rfl rfl (.cons _ _ _ _ _ (.tmp _ _ rfl) (.p _) .nil) (.inl rfl)
theorem heap_Live_ok {a0 : List GCell} {r : (List Int)} (hF : heap_Live a0 = some r) : Abs.Fn Try.prog 37 [.vs 7 (List.map eGCell a0)] [.own 3 1 (List.map eI r)] := by
  unfold heap_Live at hF
  refine fn_of_body (n := 23) Try.func37 rfl rfl rfl ?_
  intro w O
  refine aw_seq ?_
  refine aw_region ?_
  refine reg_cons (guard_no rfl) (op_assign rfl rfl rfl rfl) ?_
  refine reg_nil ?_
  refine post_imp (s' := ⟨23, [(0, some (.pv (.vs 7 (List.map eGCell a0))))], [], 0, [], []⟩) (imp_sub [] rfl rfl (by decide) rfl rfl ⟨rfl, trivial⟩ trivial rfl nolent2) ?_
  refine post_next ?_
  refine aw_seq ?_
  refine aw_region ?_
  refine reg_cons (guard_no rfl) (op_assign rfl rfl rfl rfl) ?_
  refine reg_imp (imp_nil_own 3 3 1 0 rfl rfl) ?_
  refine reg_nil ?_
  refine post_imp (s' := ⟨23, [(0, some (.pv (.vs 7 (List.map eGCell a0)))), (3, some (.ls 0))], [(0, some (.row 3 1 (List.map eI [])))], 1, [], []⟩) (imp_sub [0] rfl rfl (by decide) rfl rfl ⟨rfl, rfl, trivial⟩ ⟨rfl, trivial⟩ rfl nolent2) ?_
  refine post_next ?_
  refine aw_seq ?_
  refine aw_seq ?_
  refine aw_region ?_
  refine reg_cons (guard_no rfl) (op_move rfl rfl rfl rfl) ?_
  refine reg_cons (guard_no rfl) (op_len_vs (n := a0.length) rfl rfl (List.length_map ..) Try_slc_22 rfl rfl) ?_
  refine reg_cons (guard_no rfl) (op_move rfl rfl rfl rfl) ?_
  refine reg_nil ?_
  refine post_imp (s' := ⟨23, [(3, some (.ls 0)), (6, some (.pv (.vs 7 (List.map eGCell a0)))), (7, some (.pv (.int .i64 (a0.length : Int)))), (8, some (.pv (.int .i64 0)))], [(0, some (.row 3 1 (List.map eI [])))], 1, [], []⟩) (imp_sub [0] rfl rfl (by decide) rfl rfl ⟨rfl, rfl, rfl, rfl, trivial⟩ ⟨rfl, trivial⟩ rfl nolent2) ?_
  refine post_next ?_
  obtain ⟨x40, hF, hK41⟩ := bind_some hF
  refine aw_for ((((a0.length : Int)) - (0)).toNat + 1) (fun s1 => s1 = ⟨23, [(3, some (.ls 0))], [(0, some (.row 3 1 (List.map eI x40)))], 1, [], []⟩) ?_ ?_
  · refine rnd_loop (α := (List Int) × Int) (fun q => ⟨23, [(3, some (.ls 0)), (6, some (.pv (.vs 7 (List.map eGCell a0)))), (7, some (.pv (.int .i64 (a0.length : Int)))), (8, some (.pv (.int .i64 q.2)))], [(0, some (.row 3 1 (List.map eI q.1)))], 1, [], []⟩) (fun k q => heap_Live_L1 a0 k q.1 q.2 = some x40) ([], 0) (imp_sub [0] rfl rfl (by decide) rfl rfl ⟨rfl, rfl, rfl, rfl, trivial⟩ ⟨rfl, trivial⟩ rfl nolent2) hF (fun q h => by cases h) ?_
    clear hF
    rintro k ⟨x12, x13⟩ hF ih
    refine rnd_succ ?_
    refine aw_seq ?_
    refine aw_region ?_
    refine reg_cons (guard_no rfl) (op_int (k := .i64) (m := x13) (n := (a0.length : Int)) rfl rfl rfl rfl rfl rfl) ?_
    refine reg_nil ?_
    refine post_imp (s' := ⟨23, [(3, some (.ls 0)), (6, some (.pv (.vs 7 (List.map eGCell a0)))), (7, some (.pv (.int .i64 (a0.length : Int)))), (8, some (.pv (.int .i64 x13))), (9, some (.pv (.bool (decide (x13 < (a0.length : Int))))))], [(0, some (.row 3 1 (List.map eI x12)))], 1, [], []⟩) (imp_sub [0] rfl rfl (by decide) rfl rfl ⟨rfl, rfl, rfl, rfl, rfl, trivial⟩ ⟨rfl, trivial⟩ rfl nolent2) ?_
    refine post_next ?_
    refine aw_seq ?_
    rcases ite_some hF with ⟨hb27, hF⟩ | ⟨hb27, hF⟩
    · refine aw_cond_t rfl hb27 ?_
      refine aw_skip ?_
      refine post_next ?_
      refine aw_seq ?_
      obtain ⟨x35, hF, hK37⟩ := bind_some hF
      refine aw_cut (fun s1 => s1 = ⟨23, [(3, some (.ls 0)), (6, some (.pv (.vs 7 (List.map eGCell a0)))), (7, some (.pv (.int .i64 (a0.length : Int)))), (8, some (.pv (.int .i64 x13)))], [(0, some (.row 3 1 (List.map eI x35)))], 1, [], []⟩) ?_ ?_
      · refine aw_block ?_
        refine aw_seq ?_
        refine aw_region ?_
        refine reg_cons (guard_no rfl) (op_move rfl rfl rfl rfl) ?_
        obtain ⟨y30, h31, hF⟩ := bind_some hF
        refine reg_cons (guard_no rfl) (op_index_vs (k := .i64) rfl rfl rfl (idx_map eGCell h31) Try_slc_22 rfl rfl) ?_
        refine reg_cons (guard_no rfl) (op_load_vp_agg (ps := eGCell y30) rfl rfl rfl rfl Try_agg_30 rfl rfl) ?_
        refine reg_cons (guard_no rfl) (op_alloc 1 rfl (ps := [.str (({ fClass := [], fOwn := (⟨0, 0, 0, 0⟩ : A4 Int), fFields := [], fDead := false } : GCell).fClass), .int .i64 ((({ fClass := [], fOwn := (⟨0, 0, 0, 0⟩ : A4 Int), fFields := [], fDead := false } : GCell).fOwn).a0), .int .i64 ((({ fClass := [], fOwn := (⟨0, 0, 0, 0⟩ : A4 Int), fFields := [], fDead := false } : GCell).fOwn).a1), .int .i64 ((({ fClass := [], fOwn := (⟨0, 0, 0, 0⟩ : A4 Int), fFields := [], fDead := false } : GCell).fOwn).a2), .int .i64 ((({ fClass := [], fOwn := (⟨0, 0, 0, 0⟩ : A4 Int), fFields := [], fDead := false } : GCell).fOwn).a3), .vs 2 (List.map eGVal (({ fClass := [], fOwn := (⟨0, 0, 0, 0⟩ : A4 Int), fFields := [], fDead := false } : GCell).fFields)), .bool (({ fClass := [], fOwn := (⟨0, 0, 0, 0⟩ : A4 Int), fFields := [], fDead := false } : GCell).fDead)]) rfl Try_zer_30 (by exact ⟨rfl, rfl, rfl, rfl, rfl, trivial, rfl, trivial⟩) rfl rfl) ?_
        refine reg_cons (guard_no rfl) (op_assign rfl rfl rfl rfl) ?_
        refine reg_cons (guard_no rfl) (op_store_lp (n := 7) rfl rfl rfl rfl rfl (or_agg Try_agg_30) (by rw [Try_non_30]; rfl) rfl rfl) ?_
        refine reg_nil ?_
        refine post_imp (s' := ⟨23, [(3, some (.ls 0)), (4, some (.pv (.int .i64 x13))), (5, some (.lp 1 0)), (6, some (.pv (.vs 7 (List.map eGCell a0)))), (7, some (.pv (.int .i64 (a0.length : Int)))), (8, some (.pv (.int .i64 x13)))], [(0, some (.row 3 1 (List.map eI x12))), (1, some (.box 30 [.pv (.str y30.fClass), .pv (.int .i64 y30.fOwn.a0), .pv (.int .i64 y30.fOwn.a1), .pv (.int .i64 y30.fOwn.a2), .pv (.int .i64 y30.fOwn.a3), .pv (.vs 2 (List.map eGVal y30.fFields)), .pv (.bool y30.fDead)]))], 2, [], []⟩) (imp_sub [0, 1] rfl rfl (by decide) rfl rfl ⟨rfl, rfl, rfl, rfl, rfl, rfl, trivial⟩ ⟨rfl, rfl, trivial⟩ rfl nolent2) ?_
        refine post_next ?_
        refine aw_seq ?_
        refine aw_region ?_
        refine reg_cons (guard_no rfl) (op_field_lp rfl rfl Try_fld_30_3 rfl rfl) ?_
        refine reg_cons (guard_no rfl) (op_load_lp (v := .pv (.bool y30.fDead)) rfl rfl rfl rfl Try_one_4 rfl rfl) ?_
        refine reg_cons (guard_no rfl) (op_not rfl rfl rfl rfl) ?_
        refine reg_nil ?_
        refine post_imp (s' := ⟨23, [(3, some (.ls 0)), (4, some (.pv (.int .i64 x13))), (6, some (.pv (.vs 7 (List.map eGCell a0)))), (7, some (.pv (.int .i64 (a0.length : Int)))), (8, some (.pv (.int .i64 x13))), (15, some (.pv (.bool (!y30.fDead))))], [(0, some (.row 3 1 (List.map eI x12)))], 1, [], []⟩) (imp_sub [0] rfl rfl (by decide) rfl rfl ⟨rfl, rfl, rfl, rfl, rfl, rfl, trivial⟩ ⟨rfl, trivial⟩ rfl nolent2) ?_
        refine post_next ?_
        rcases ite_some hF with ⟨hb32, hF⟩ | ⟨hb32, hF⟩
        · refine aw_cond_t rfl hb32 ?_
          refine aw_region ?_
          refine reg_cons (guard_no rfl) (op_move rfl rfl rfl rfl) ?_
          refine reg_cons (guard_no rfl) (op_move rfl rfl rfl rfl) ?_
          refine reg_cons (guard_no rfl) (op_int (k := .i64) (m := x13) (n := 1) rfl rfl rfl rfl rfl rfl) ?_
          refine reg_cons (guard_no rfl) (op_lit (rows := List.map eI ([w_i64 (x13 + 1)] : List Int)) (zs := [.int .i64 0]) rfl rfl Try_slc_50 Try_zer_3 (by exact ⟨rfl, trivial⟩) rfl rfl rfl rfl rfl rfl rfl rfl) ?_
          obtain ⟨u33, h34, hF⟩ := bind_some hF
          refine reg_cons (guard_no rfl) (op_append 1 rfl rfl rfl rfl rfl nolent3 Try_slc_50 Try_elm_3 Try_zer_3 rfl rfl rfl (room_map (f := eI) (g := eI) h34) (List.map_append (f := eI) (l₁ := x12) (l₂ := [w_i64 (x13 + 1)])).symm rfl rfl) ?_
          refine reg_cons (guard_no rfl) (op_assign rfl rfl rfl rfl) ?_
          refine reg_nil ?_
          refine post_imp (s' := ⟨23, [(3, some (.ls 0)), (6, some (.pv (.vs 7 (List.map eGCell a0)))), (7, some (.pv (.int .i64 (a0.length : Int)))), (8, some (.pv (.int .i64 x13)))], [(0, some (.row 3 1 (List.map eI (x12 ++ [w_i64 (x13 + 1)]))))], 1, [], []⟩) (imp_sub [1] rfl rfl (by decide) rfl rfl ⟨rfl, rfl, rfl, rfl, trivial⟩ ⟨rfl, trivial⟩ rfl nolent2) ?_
          refine post_block_normal ?_
          cases hF
          exact post_cut _ rfl (imp_sub [0] rfl rfl (by decide) rfl rfl ⟨rfl, rfl, rfl, rfl, trivial⟩ ⟨rfl, trivial⟩ rfl nolent2)
        · refine aw_cond_f rfl hb32 ?_
          refine aw_skip ?_
          refine post_block_normal ?_
          cases hF
          exact post_cut _ rfl (imp_sub [0] rfl rfl (by decide) rfl rfl ⟨rfl, rfl, rfl, rfl, trivial⟩ ⟨rfl, trivial⟩ rfl nolent2)
      · rintro _ rfl
        have hF := hK37
        clear hK37
        refine post_next ?_
        refine aw_region ?_
        refine reg_cons (guard_no rfl) (op_int (k := .i64) (m := x13) (n := 1) rfl rfl rfl rfl rfl rfl) ?_
        refine reg_cons (guard_no rfl) (op_move rfl rfl rfl rfl) ?_
        refine reg_nil ?_
        refine post_round ?_
        exact rnd_back (ih (x35, w_i64 (x13 + 1)) hF) (imp_sub [0] rfl rfl (by decide) rfl rfl ⟨rfl, rfl, rfl, rfl, trivial⟩ ⟨rfl, trivial⟩ rfl nolent2)
    · refine aw_cond_f rfl hb27 ?_
      refine aw_exit ?_
      refine post_then_exit ?_
      refine post_then_exit ?_
      obtain rfl := Option.some.inj hF
      exact post_lp_break _ rfl (imp_sub [0] rfl rfl (by decide) rfl rfl ⟨rfl, trivial⟩ ⟨rfl, trivial⟩ rfl nolent2)
  · rintro _ rfl
    have hF := hK41
    clear hK41
    refine post_next ?_
    refine aw_seq ?_
    refine aw_region ?_
    refine reg_cons (guard_no rfl) (op_move rfl rfl rfl rfl) ?_
    refine reg_cons (guard_no rfl) (op_assign rfl rfl rfl rfl) ?_
    refine reg_nil ?_
    refine post_imp (s' := ⟨23, [(2, some (.ls 0))], [(0, some (.row 3 1 (List.map eI x40)))], 1, [], []⟩) (imp_sub [0] rfl rfl (by decide) rfl rfl ⟨rfl, trivial⟩ ⟨rfl, trivial⟩ rfl nolent2) ?_
    refine post_next ?_
    refine aw_ret ?_
    obtain rfl := Option.some.inj hF
    exact post_ret rfl rfl rfl (.cons _ _ _ _ _ (.tmp _ _ rfl) (.own _ _ _ _ rfl nolent3) .nil) (.inl rfl)
theorem law35_HeapPut_ok {a0 : List GCell} {a1 : A2 GSlot_law35} {a2 : GCell} {r : Bool} (hF : law35_HeapPut a0 a1 a2 = some r) : Abs.Fn Try.prog 6 [.vs 7 (List.map eGCell a0), .agg ((eA2 eGSlot_law35) a1), .agg (eGCell a2)] [.p (.bool r)] := by
  unfold law35_HeapPut at hF
  refine fn_of_body (n := 177) Try.func6 rfl rfl rfl ?_
  intro w O
  refine aw_seq ?_
  refine aw_region ?_
  refine reg_cons (guard_no rfl) (op_box 0 rfl rfl rfl rfl rfl rfl) ?_
  refine reg_cons (guard_no rfl) (op_box 1 rfl rfl rfl rfl rfl rfl) ?_
  refine reg_cons (guard_no rfl) (op_assign rfl rfl rfl rfl) ?_
  refine reg_nil ?_
  refine post_imp (s' := ⟨177, [(0, some (.pv (.vs 7 (List.map eGCell a0)))), (4, some (.lp 0 0)), (5, some (.lp 1 0))], [(0, some (.box 57 [.pv (.int .i64 a1.a0.fAt), .pv (.int .i64 a1.a0.fI), .pv (.bool a1.a0.fV.fRef), .pv (.int .i64 a1.a0.fV.fN), .pv (.int .i64 a1.a1.fAt), .pv (.int .i64 a1.a1.fI), .pv (.bool a1.a1.fV.fRef), .pv (.int .i64 a1.a1.fV.fN)])), (1, some (.box 30 [.pv (.str a2.fClass), .pv (.int .i64 a2.fOwn.a0), .pv (.int .i64 a2.fOwn.a1), .pv (.int .i64 a2.fOwn.a2), .pv (.int .i64 a2.fOwn.a3), .pv (.vs 2 (List.map eGVal a2.fFields)), .pv (.bool a2.fDead)]))], 2, [], []⟩) (imp_sub [0, 1] rfl rfl (by decide) rfl rfl ⟨rfl, rfl, rfl, trivial⟩ ⟨rfl, rfl, trivial⟩ rfl nolent2) ?_
  refine post_next ?_
  refine aw_seq ?_
  refine aw_seq ?_
  obtain ⟨x6, hF, hK8⟩ := bind_some hF
  refine aw_cut (fun s1 => s1 = ⟨177, [(0, some (.pv (.vs 7 (List.map eGCell a0)))), (4, some (.lp 0 0)), (5, some (.lp 1 0)), (27, some (.pv (.bool x6)))], [(0, some (.box 57 [.pv (.int .i64 a1.a0.fAt), .pv (.int .i64 a1.a0.fI), .pv (.bool a1.a0.fV.fRef), .pv (.int .i64 a1.a0.fV.fN), .pv (.int .i64 a1.a1.fAt), .pv (.int .i64 a1.a1.fI), .pv (.bool a1.a1.fV.fRef), .pv (.int .i64 a1.a1.fV.fN)])), (1, some (.box 30 [.pv (.str a2.fClass), .pv (.int .i64 a2.fOwn.a0), .pv (.int .i64 a2.fOwn.a1), .pv (.int .i64 a2.fOwn.a2), .pv (.int .i64 a2.fOwn.a3), .pv (.vs 2 (List.map eGVal a2.fFields)), .pv (.bool a2.fDead)]))], 2, [], []⟩) ?_ ?_
  · refine aw_region ?_
    refine reg_cons (guard_no rfl) (op_move rfl rfl rfl rfl) ?_
    obtain ⟨y3, h4, hF⟩ := bind_some hF
    refine reg_cons (guard_no rfl) (op_call 2 rfl (caps := []) (args := [.vs 7 (List.map eGCell a0)]) rfl rfl rfl Try_cal_14 (ref35_Great_ok h4) rfl rfl rfl) ?_
    refine reg_cons (guard_no rfl) (op_move rfl rfl rfl rfl) ?_
    rcases ite_some hF with ⟨hb5, hF⟩ | ⟨hb5, hF⟩
    · refine reg_off (guard_off rfl rfl rfl rfl hb5) rfl ?_
      refine reg_off (guard_off rfl rfl rfl rfl hb5) rfl ?_
      refine reg_off (guard_off rfl rfl rfl rfl hb5) rfl ?_
      refine reg_off (guard_off rfl rfl rfl rfl hb5) rfl ?_
      refine reg_cons (guard_no rfl) (op_pick_t rfl rfl hb5 rfl rfl rfl) ?_
      refine reg_nil ?_
      cases hF
      exact post_cut _ rfl (imp_sub [0, 1] rfl rfl (by decide) rfl rfl ⟨rfl, rfl, rfl, rfl, trivial⟩ ⟨rfl, rfl, trivial⟩ rfl nolent2)
    · refine reg_cons (guard_on rfl rfl rfl rfl hb5) (op_field_lp rfl rfl Try_fld_30_2 rfl rfl) ?_
      refine reg_cons (guard_on rfl rfl rfl rfl hb5) (op_load_lp (v := .pv (.vs 2 (List.map eGVal a2.fFields))) rfl rfl rfl rfl Try_one_28 rfl rfl) ?_
      refine reg_cons (guard_on rfl rfl rfl rfl hb5) (op_len_vs (n := a2.fFields.length) rfl rfl (List.length_map ..) Try_slc_28 rfl rfl) ?_
      refine reg_cons (guard_on rfl rfl rfl rfl hb5) (op_int (k := .i64) (m := (a2.fFields.length : Int)) (n := 60) rfl rfl rfl rfl rfl rfl) ?_
      refine reg_cons (guard_no rfl) (op_pick_f rfl rfl hb5 rfl rfl rfl) ?_
      refine reg_nil ?_
      cases hF
      exact post_cut _ rfl (imp_sub [0, 1] rfl rfl (by decide) rfl rfl ⟨rfl, rfl, rfl, rfl, trivial⟩ ⟨rfl, rfl, trivial⟩ rfl nolent2)
  · rintro _ rfl
    have hF := hK8
    clear hK8
    refine post_next ?_
    rcases ite_some hF with ⟨hb9, hF⟩ | ⟨hb9, hF⟩
    · refine aw_cond_t rfl hb9 ?_
      refine aw_seq ?_
      refine aw_region ?_
      obtain ⟨y10, h11, hF⟩ := bind_some hF
      refine reg_cons (guard_no rfl) (op_call 2 rfl (caps := []) (args := []) rfl rfl rfl Try_cal_15 (law35_awake_ok h11) rfl rfl rfl) ?_
      refine reg_cons (guard_no rfl) (op_assign rfl rfl rfl rfl) ?_
      refine reg_nil ?_
      refine post_imp (s' := ⟨177, [(6, some (.pv (.bool y10)))], [], 0, [], []⟩) (imp_sub [] rfl rfl (by decide) rfl rfl ⟨rfl, trivial⟩ trivial rfl nolent2) ?_
      refine post_next ?_
      refine aw_ret ?_
      refine post_then_ret ?_
      obtain rfl := Option.some.inj hF
      exact post_ret rfl rfl rfl (.cons _ _ _ _ _ (.tmp _ _ rfl) (.p _) .nil) (.inl rfl)
    · refine aw_cond_f rfl hb9 ?_
      refine aw_skip ?_
      refine post_next ?_
      refine aw_seq ?_
      refine aw_region ?_
      refine reg_cons (guard_no rfl) (op_assign rfl rfl rfl rfl) ?_
      refine reg_imp (imp_nil_own 7 30 7 2 rfl rfl) ?_
      refine reg_nil ?_
      refine post_imp (s' := ⟨177, [(0, some (.pv (.vs 7 (List.map eGCell a0)))), (4, some (.lp 0 0)), (5, some (.lp 1 0)), (7, some (.ls 2))], [(0, some (.box 57 [.pv (.int .i64 a1.a0.fAt), .pv (.int .i64 a1.a0.fI), .pv (.bool a1.a0.fV.fRef), .pv (.int .i64 a1.a0.fV.fN), .pv (.int .i64 a1.a1.fAt), .pv (.int .i64 a1.a1.fI), .pv (.bool a1.a1.fV.fRef), .pv (.int .i64 a1.a1.fV.fN)])), (1, some (.box 30 [.pv (.str a2.fClass), .pv (.int .i64 a2.fOwn.a0), .pv (.int .i64 a2.fOwn.a1), .pv (.int .i64 a2.fOwn.a2), .pv (.int .i64 a2.fOwn.a3), .pv (.vs 2 (List.map eGVal a2.fFields)), .pv (.bool a2.fDead)])), (2, some (.row 30 7 (List.map eGCell [])))], 3, [], []⟩) (imp_sub [0, 1, 2] rfl rfl (by decide) rfl rfl ⟨rfl, rfl, rfl, rfl, trivial⟩ ⟨rfl, rfl, rfl, trivial⟩ rfl nolent2) ?_
      refine post_next ?_
      refine aw_seq ?_
      refine aw_seq ?_
      refine aw_region ?_
      refine reg_cons (guard_no rfl) (op_assign rfl rfl rfl rfl) ?_
      refine reg_nil ?_
      refine post_imp (s' := ⟨177, [(0, some (.pv (.vs 7 (List.map eGCell a0)))), (4, some (.lp 0 0)), (5, some (.lp 1 0)), (7, some (.ls 2)), (8, some (.pv (.int .i64 0)))], [(0, some (.box 57 [.pv (.int .i64 a1.a0.fAt), .pv (.int .i64 a1.a0.fI), .pv (.bool a1.a0.fV.fRef), .pv (.int .i64 a1.a0.fV.fN), .pv (.int .i64 a1.a1.fAt), .pv (.int .i64 a1.a1.fI), .pv (.bool a1.a1.fV.fRef), .pv (.int .i64 a1.a1.fV.fN)])), (1, some (.box 30 [.pv (.str a2.fClass), .pv (.int .i64 a2.fOwn.a0), .pv (.int .i64 a2.fOwn.a1), .pv (.int .i64 a2.fOwn.a2), .pv (.int .i64 a2.fOwn.a3), .pv (.vs 2 (List.map eGVal a2.fFields)), .pv (.bool a2.fDead)])), (2, some (.row 30 7 (List.map eGCell [])))], 3, [], []⟩) (imp_sub [0, 1, 2] rfl rfl (by decide) rfl rfl ⟨rfl, rfl, rfl, rfl, rfl, trivial⟩ ⟨rfl, rfl, rfl, trivial⟩ rfl nolent2) ?_
      refine post_next ?_
      obtain ⟨x57, hF, hK58⟩ := bind_some hF
      refine aw_for ((((a0.length : Int)) - (0)).toNat + 1) (fun s1 => s1 = ⟨177, [(0, some (.pv (.vs 7 (List.map eGCell a0)))), (4, some (.lp 0 0)), (5, some (.lp 1 0)), (7, some (.ls 2))], [(0, some (.box 57 [.pv (.int .i64 a1.a0.fAt), .pv (.int .i64 a1.a0.fI), .pv (.bool a1.a0.fV.fRef), .pv (.int .i64 a1.a0.fV.fN), .pv (.int .i64 a1.a1.fAt), .pv (.int .i64 a1.a1.fI), .pv (.bool a1.a1.fV.fRef), .pv (.int .i64 a1.a1.fV.fN)])), (1, some (.box 30 [.pv (.str a2.fClass), .pv (.int .i64 a2.fOwn.a0), .pv (.int .i64 a2.fOwn.a1), .pv (.int .i64 a2.fOwn.a2), .pv (.int .i64 a2.fOwn.a3), .pv (.vs 2 (List.map eGVal a2.fFields)), .pv (.bool a2.fDead)])), (2, some (.row 30 7 (List.map eGCell x57)))], 3, [], []⟩) ?_ ?_
      · refine rnd_loop (α := (List GCell) × Int) (fun q => ⟨177, [(0, some (.pv (.vs 7 (List.map eGCell a0)))), (4, some (.lp 0 0)), (5, some (.lp 1 0)), (7, some (.ls 2)), (8, some (.pv (.int .i64 q.2)))], [(0, some (.box 57 [.pv (.int .i64 a1.a0.fAt), .pv (.int .i64 a1.a0.fI), .pv (.bool a1.a0.fV.fRef), .pv (.int .i64 a1.a0.fV.fN), .pv (.int .i64 a1.a1.fAt), .pv (.int .i64 a1.a1.fI), .pv (.bool a1.a1.fV.fRef), .pv (.int .i64 a1.a1.fV.fN)])), (1, some (.box 30 [.pv (.str a2.fClass), .pv (.int .i64 a2.fOwn.a0), .pv (.int .i64 a2.fOwn.a1), .pv (.int .i64 a2.fOwn.a2), .pv (.int .i64 a2.fOwn.a3), .pv (.vs 2 (List.map eGVal a2.fFields)), .pv (.bool a2.fDead)])), (2, some (.row 30 7 (List.map eGCell q.1)))], 3, [], []⟩) (fun k q => law35_HeapPut_L1 a0 k q.1 q.2 = some x57) ([], 0) (imp_sub [0, 1, 2] rfl rfl (by decide) rfl rfl ⟨rfl, rfl, rfl, rfl, rfl, trivial⟩ ⟨rfl, rfl, rfl, trivial⟩ rfl nolent2) hF (fun q h => by cases h) ?_
        clear hF
        rintro k ⟨x25, x26⟩ hF ih
        refine rnd_succ ?_
        refine aw_seq ?_
        refine aw_seq ?_
        refine aw_region ?_
        refine reg_cons (guard_no rfl) (op_move rfl rfl rfl rfl) ?_
        refine reg_cons (guard_no rfl) (op_move rfl rfl rfl rfl) ?_
        refine reg_cons (guard_no rfl) (op_len_vs (n := a0.length) rfl rfl (List.length_map ..) Try_slc_22 rfl rfl) ?_
        refine reg_cons (guard_no rfl) (op_int (k := .i64) (m := x26) (n := (a0.length : Int)) rfl rfl rfl rfl rfl rfl) ?_
        refine reg_nil ?_
        refine post_imp (s' := ⟨177, [(0, some (.pv (.vs 7 (List.map eGCell a0)))), (4, some (.lp 0 0)), (5, some (.lp 1 0)), (7, some (.ls 2)), (8, some (.pv (.int .i64 x26))), (32, some (.pv (.bool (decide (x26 < (a0.length : Int))))))], [(0, some (.box 57 [.pv (.int .i64 a1.a0.fAt), .pv (.int .i64 a1.a0.fI), .pv (.bool a1.a0.fV.fRef), .pv (.int .i64 a1.a0.fV.fN), .pv (.int .i64 a1.a1.fAt), .pv (.int .i64 a1.a1.fI), .pv (.bool a1.a1.fV.fRef), .pv (.int .i64 a1.a1.fV.fN)])), (1, some (.box 30 [.pv (.str a2.fClass), .pv (.int .i64 a2.fOwn.a0), .pv (.int .i64 a2.fOwn.a1), .pv (.int .i64 a2.fOwn.a2), .pv (.int .i64 a2.fOwn.a3), .pv (.vs 2 (List.map eGVal a2.fFields)), .pv (.bool a2.fDead)])), (2, some (.row 30 7 (List.map eGCell x25)))], 3, [], []⟩) (imp_sub [0, 1, 2] rfl rfl (by decide) rfl rfl ⟨rfl, rfl, rfl, rfl, rfl, rfl, trivial⟩ ⟨rfl, rfl, rfl, trivial⟩ rfl nolent2) ?_
        refine post_next ?_
        rcases ite_some hF with ⟨hb42, hF⟩ | ⟨hb42, hF⟩
        · refine aw_cond_t rfl hb42 ?_
          refine aw_skip ?_
          refine post_next ?_
          refine aw_seq ?_
          refine aw_block ?_
          refine aw_seq ?_
          refine aw_region ?_
          refine reg_cons (guard_no rfl) (op_move rfl rfl rfl rfl) ?_
          refine reg_cons (guard_no rfl) (op_move rfl rfl rfl rfl) ?_
          obtain ⟨y45, h46, hF⟩ := bind_some hF
          refine reg_cons (guard_no rfl) (op_index_vs (k := .i64) rfl rfl rfl (idx_map eGCell h46) Try_slc_22 rfl rfl) ?_
          refine reg_cons (guard_no rfl) (op_load_vp_agg (ps := eGCell y45) rfl rfl rfl rfl Try_agg_30 rfl rfl) ?_
          refine reg_cons (guard_no rfl) (op_alloc 3 rfl (ps := [.str (({ fClass := [], fOwn := (⟨0, 0, 0, 0⟩ : A4 Int), fFields := [], fDead := false } : GCell).fClass), .int .i64 ((({ fClass := [], fOwn := (⟨0, 0, 0, 0⟩ : A4 Int), fFields := [], fDead := false } : GCell).fOwn).a0), .int .i64 ((({ fClass := [], fOwn := (⟨0, 0, 0, 0⟩ : A4 Int), fFields := [], fDead := false } : GCell).fOwn).a1), .int .i64 ((({ fClass := [], fOwn := (⟨0, 0, 0, 0⟩ : A4 Int), fFields := [], fDead := false } : GCell).fOwn).a2), .int .i64 ((({ fClass := [], fOwn := (⟨0, 0, 0, 0⟩ : A4 Int), fFields := [], fDead := false } : GCell).fOwn).a3), .vs 2 (List.map eGVal (({ fClass := [], fOwn := (⟨0, 0, 0, 0⟩ : A4 Int), fFields := [], fDead := false } : GCell).fFields)), .bool (({ fClass := [], fOwn := (⟨0, 0, 0, 0⟩ : A4 Int), fFields := [], fDead := false } : GCell).fDead)]) rfl Try_zer_30 (by exact ⟨rfl, rfl, rfl, rfl, rfl, trivial, rfl, trivial⟩) rfl rfl) ?_
          refine reg_cons (guard_no rfl) (op_store_lp (n := 7) rfl rfl rfl rfl rfl (or_agg Try_agg_30) (by rw [Try_non_30]; rfl) rfl rfl) ?_
          refine reg_nil ?_
          refine post_imp (s' := ⟨177, [(0, some (.pv (.vs 7 (List.map eGCell a0)))), (4, some (.lp 0 0)), (5, some (.lp 1 0)), (7, some (.ls 2)), (8, some (.pv (.int .i64 x26))), (9, some (.lp 3 0))], [(0, some (.box 57 [.pv (.int .i64 a1.a0.fAt), .pv (.int .i64 a1.a0.fI), .pv (.bool a1.a0.fV.fRef), .pv (.int .i64 a1.a0.fV.fN), .pv (.int .i64 a1.a1.fAt), .pv (.int .i64 a1.a1.fI), .pv (.bool a1.a1.fV.fRef), .pv (.int .i64 a1.a1.fV.fN)])), (1, some (.box 30 [.pv (.str a2.fClass), .pv (.int .i64 a2.fOwn.a0), .pv (.int .i64 a2.fOwn.a1), .pv (.int .i64 a2.fOwn.a2), .pv (.int .i64 a2.fOwn.a3), .pv (.vs 2 (List.map eGVal a2.fFields)), .pv (.bool a2.fDead)])), (2, some (.row 30 7 (List.map eGCell x25))), (3, some (.box 30 [.pv (.str y45.fClass), .pv (.int .i64 y45.fOwn.a0), .pv (.int .i64 y45.fOwn.a1), .pv (.int .i64 y45.fOwn.a2), .pv (.int .i64 y45.fOwn.a3), .pv (.vs 2 (List.map eGVal y45.fFields)), .pv (.bool y45.fDead)]))], 4, [], []⟩) (imp_sub [0, 1, 2, 3] rfl rfl (by decide) rfl rfl ⟨rfl, rfl, rfl, rfl, rfl, rfl, trivial⟩ ⟨rfl, rfl, rfl, rfl, trivial⟩ rfl nolent2) ?_
          refine post_next ?_
          refine aw_seq ?_
          refine aw_region ?_
          refine reg_cons (guard_no rfl) (op_litOwn 4 rfl (rows := List.map eGVal ([] : List GVal)) (zs := [.bool (({ fRef := false, fN := 0 } : GVal).fRef), .int .i64 (({ fRef := false, fN := 0 } : GVal).fN)]) rfl rfl Try_slc_28 Try_zer_24 (by exact ⟨rfl, rfl, trivial⟩) rfl rfl rfl rfl rfl rfl rfl rfl) ?_
          refine reg_cons (guard_no rfl) (op_field_lp rfl rfl Try_fld_30_2 rfl rfl) ?_
          refine reg_cons (guard_no rfl) (op_load_lp (v := .pv (.vs 2 (List.map eGVal y45.fFields))) rfl rfl rfl rfl Try_one_28 rfl rfl) ?_
          obtain ⟨u49, h50, hF⟩ := bind_some hF
          refine reg_cons (guard_no rfl) (op_append 5 rfl rfl rfl rfl rfl nolent3 Try_slc_28 Try_elm_24 Try_zer_24 rfl rfl rfl (room_map (f := eGVal) (g := eGVal) h50) (List.map_append (f := eGVal) (l₁ := ([] : List GVal)) (l₂ := y45.fFields)).symm rfl rfl) ?_
          refine reg_cons (guard_no rfl) (op_field_lp rfl rfl Try_fld_30_2 rfl rfl) ?_
          refine reg_imp (imp_freeze [(5, some (.row 24 2 (List.map eGVal (([] : List GVal) ++ y45.fFields))))] [(42, some (.pv (.vs 2 (List.map eGVal (([] : List GVal) ++ y45.fFields)))))] (FzH.spec ⟨rfl, trivial⟩) nolent ⟨⟨_, rfl, rfl⟩, trivial⟩) ?_
          refine reg_cons (guard_no rfl) (op_store_lp (n := 1) rfl rfl rfl rfl rfl (or_one Try_one_28) (by rw [Try_one_28]; rfl) rfl rfl) ?_
          refine reg_nil ?_
          refine post_imp (s' := ⟨177, [(0, some (.pv (.vs 7 (List.map eGCell a0)))), (4, some (.lp 0 0)), (5, some (.lp 1 0)), (7, some (.ls 2)), (8, some (.pv (.int .i64 x26))), (9, some (.lp 3 0))], [(0, some (.box 57 [.pv (.int .i64 a1.a0.fAt), .pv (.int .i64 a1.a0.fI), .pv (.bool a1.a0.fV.fRef), .pv (.int .i64 a1.a0.fV.fN), .pv (.int .i64 a1.a1.fAt), .pv (.int .i64 a1.a1.fI), .pv (.bool a1.a1.fV.fRef), .pv (.int .i64 a1.a1.fV.fN)])), (1, some (.box 30 [.pv (.str a2.fClass), .pv (.int .i64 a2.fOwn.a0), .pv (.int .i64 a2.fOwn.a1), .pv (.int .i64 a2.fOwn.a2), .pv (.int .i64 a2.fOwn.a3), .pv (.vs 2 (List.map eGVal a2.fFields)), .pv (.bool a2.fDead)])), (2, some (.row 30 7 (List.map eGCell x25))), (3, some (.box 30 [.pv (.str (({ y45 with fFields := (([] : List GVal) ++ y45.fFields) }).fClass)), .pv (.int .i64 ((({ y45 with fFields := (([] : List GVal) ++ y45.fFields) }).fOwn).a0)), .pv (.int .i64 ((({ y45 with fFields := (([] : List GVal) ++ y45.fFields) }).fOwn).a1)), .pv (.int .i64 ((({ y45 with fFields := (([] : List GVal) ++ y45.fFields) }).fOwn).a2)), .pv (.int .i64 ((({ y45 with fFields := (([] : List GVal) ++ y45.fFields) }).fOwn).a3)), .pv (.vs 2 (List.map eGVal (({ y45 with fFields := (([] : List GVal) ++ y45.fFields) }).fFields))), .pv (.bool (({ y45 with fFields := (([] : List GVal) ++ y45.fFields) }).fDead))]))], 4, [], []⟩) (imp_sub [0, 1, 2, 3] rfl rfl (by decide) rfl rfl ⟨rfl, rfl, rfl, rfl, rfl, rfl, trivial⟩ ⟨rfl, rfl, rfl, rfl, trivial⟩ rfl nolent2) ?_
          refine post_next ?_
          refine aw_region ?_
          refine reg_cons (guard_no rfl) (op_move rfl rfl rfl rfl) ?_
          refine reg_cons (guard_no rfl) (op_load_lp_agg (ps := eGCell ({ y45 with fFields := (([] : List GVal) ++ y45.fFields) })) rfl rfl rfl rfl rfl rfl Try_agg_30 rfl rfl) ?_
          refine reg_cons (guard_no rfl) (op_lit (rows := List.map eGCell ([{ y45 with fFields := (([] : List GVal) ++ y45.fFields) }] : List GCell)) (zs := [.str (({ fClass := [], fOwn := (⟨0, 0, 0, 0⟩ : A4 Int), fFields := [], fDead := false } : GCell).fClass), .int .i64 ((({ fClass := [], fOwn := (⟨0, 0, 0, 0⟩ : A4 Int), fFields := [], fDead := false } : GCell).fOwn).a0), .int .i64 ((({ fClass := [], fOwn := (⟨0, 0, 0, 0⟩ : A4 Int), fFields := [], fDead := false } : GCell).fOwn).a1), .int .i64 ((({ fClass := [], fOwn := (⟨0, 0, 0, 0⟩ : A4 Int), fFields := [], fDead := false } : GCell).fOwn).a2), .int .i64 ((({ fClass := [], fOwn := (⟨0, 0, 0, 0⟩ : A4 Int), fFields := [], fDead := false } : GCell).fOwn).a3), .vs 2 (List.map eGVal (({ fClass := [], fOwn := (⟨0, 0, 0, 0⟩ : A4 Int), fFields := [], fDead := false } : GCell).fFields)), .bool (({ fClass := [], fOwn := (⟨0, 0, 0, 0⟩ : A4 Int), fFields := [], fDead := false } : GCell).fDead)]) rfl rfl Try_slc_22 Try_zer_30 (by exact ⟨rfl, rfl, rfl, rfl, rfl, trivial, rfl, trivial⟩) rfl rfl rfl rfl rfl rfl rfl rfl) ?_
          obtain ⟨u53, h54, hF⟩ := bind_some hF
          refine reg_cons (guard_no rfl) (op_append 4 rfl rfl rfl rfl rfl nolent3 Try_slc_22 Try_elm_30 Try_zer_30 rfl rfl rfl (room_map (f := eGCell) (g := eGCell) h54) (List.map_append (f := eGCell) (l₁ := x25) (l₂ := [{ y45 with fFields := (([] : List GVal) ++ y45.fFields) }])).symm rfl rfl) ?_
          refine reg_cons (guard_no rfl) (op_assign rfl rfl rfl rfl) ?_
          refine reg_nil ?_
          refine post_imp (s' := ⟨177, [(0, some (.pv (.vs 7 (List.map eGCell a0)))), (4, some (.lp 0 0)), (5, some (.lp 1 0)), (7, some (.ls 2)), (8, some (.pv (.int .i64 x26)))], [(0, some (.box 57 [.pv (.int .i64 a1.a0.fAt), .pv (.int .i64 a1.a0.fI), .pv (.bool a1.a0.fV.fRef), .pv (.int .i64 a1.a0.fV.fN), .pv (.int .i64 a1.a1.fAt), .pv (.int .i64 a1.a1.fI), .pv (.bool a1.a1.fV.fRef), .pv (.int .i64 a1.a1.fV.fN)])), (1, some (.box 30 [.pv (.str a2.fClass), .pv (.int .i64 a2.fOwn.a0), .pv (.int .i64 a2.fOwn.a1), .pv (.int .i64 a2.fOwn.a2), .pv (.int .i64 a2.fOwn.a3), .pv (.vs 2 (List.map eGVal a2.fFields)), .pv (.bool a2.fDead)])), (2, some (.row 30 7 (List.map eGCell (x25 ++ [{ y45 with fFields := (([] : List GVal) ++ y45.fFields) }]))))], 3, [], []⟩) (imp_sub [0, 1, 4] rfl rfl (by decide) rfl rfl ⟨rfl, rfl, rfl, rfl, rfl, trivial⟩ ⟨rfl, rfl, rfl, trivial⟩ rfl nolent2) ?_
          refine post_block_normal ?_
          refine post_next ?_
          refine aw_region ?_
          refine reg_cons (guard_no rfl) (op_move rfl rfl rfl rfl) ?_
          refine reg_cons (guard_no rfl) (op_int (k := .i64) (m := x26) (n := 1) rfl rfl rfl rfl rfl rfl) ?_
          refine reg_cons (guard_no rfl) (op_assign rfl rfl rfl rfl) ?_
          refine reg_nil ?_
          refine post_round ?_
          exact rnd_back (ih ((x25 ++ [{ y45 with fFields := (([] : List GVal) ++ y45.fFields) }]), w_i64 (x26 + 1)) hF) (imp_sub [0, 1, 2] rfl rfl (by decide) rfl rfl ⟨rfl, rfl, rfl, rfl, rfl, trivial⟩ ⟨rfl, rfl, rfl, trivial⟩ rfl nolent2)
        · refine aw_cond_f rfl hb42 ?_
          refine aw_exit ?_
          refine post_then_exit ?_
          refine post_then_exit ?_
          obtain rfl := Option.some.inj hF
          exact post_lp_break _ rfl (imp_sub [0, 1, 2] rfl rfl (by decide) rfl rfl ⟨rfl, rfl, rfl, rfl, trivial⟩ ⟨rfl, rfl, rfl, trivial⟩ rfl nolent2)
      · rintro _ rfl
        have hF := hK58
        clear hK58
        refine post_next ?_
        refine aw_seq ?_
        refine aw_imp (imp_names 2) ?_
        refine aw_drawn ({ need := [(4, .lp 0 0)], dst := some 48, val := some (.lp 0 0) } :: { need := [(48, .lp 0 0)], hneed := [(0, .box 57 [.pv (.int .i64 a1.a0.fAt), .pv (.int .i64 a1.a0.fI), .pv (.bool a1.a0.fV.fRef), .pv (.int .i64 a1.a0.fV.fN), .pv (.int .i64 a1.a1.fAt), .pv (.int .i64 a1.a1.fI), .pv (.bool a1.a1.fV.fRef), .pv (.int .i64 a1.a1.fV.fN)])], dst := some 49, val := some (.pv (.agg (eGSlot_law35 a1.a0))) } :: { need := [(4, .lp 0 0)], dst := some 50, val := some (.lp 0 4) } :: { need := [(50, .lp 0 4)], hneed := [(0, .box 57 [.pv (.int .i64 a1.a0.fAt), .pv (.int .i64 a1.a0.fI), .pv (.bool a1.a0.fV.fRef), .pv (.int .i64 a1.a0.fV.fN), .pv (.int .i64 a1.a1.fAt), .pv (.int .i64 a1.a1.fI), .pv (.bool a1.a1.fV.fRef), .pv (.int .i64 a1.a1.fV.fN)])], dst := some 51, val := some (.pv (.agg (eGSlot_law35 a1.a1))) } :: { names := [3], dst := some 10, val := some (.lp 3 0), upd := [(3, some (.box 26 [.pv (.int .i64 (({ fAt := 0, fI := 0, fV := ({ fRef := false, fN := 0 } : GVal) } : GSlot_law35).fAt)), .pv (.int .i64 (({ fAt := 0, fI := 0, fV := ({ fRef := false, fN := 0 } : GVal) } : GSlot_law35).fI)), .pv (.bool ((({ fAt := 0, fI := 0, fV := ({ fRef := false, fN := 0 } : GVal) } : GSlot_law35).fV).fRef)), .pv (.int .i64 ((({ fAt := 0, fI := 0, fV := ({ fRef := false, fN := 0 } : GVal) } : GSlot_law35).fV).fN))]))] } :: { names := [4], dst := some 11, val := some (.lp 4 0), upd := [(4, some (.box 26 [.pv (.int .i64 (({ fAt := 0, fI := 0, fV := ({ fRef := false, fN := 0 } : GVal) } : GSlot_law35).fAt)), .pv (.int .i64 (({ fAt := 0, fI := 0, fV := ({ fRef := false, fN := 0 } : GVal) } : GSlot_law35).fI)), .pv (.bool ((({ fAt := 0, fI := 0, fV := ({ fRef := false, fN := 0 } : GVal) } : GSlot_law35).fV).fRef)), .pv (.int .i64 ((({ fAt := 0, fI := 0, fV := ({ fRef := false, fN := 0 } : GVal) } : GSlot_law35).fV).fN))]))] } :: { need := [(10, .lp 3 0), (49, .pv (.agg (eGSlot_law35 a1.a0)))], hneed := [(3, .box 26 [.pv (.int .i64 (({ fAt := 0, fI := 0, fV := ({ fRef := false, fN := 0 } : GVal) } : GSlot_law35).fAt)), .pv (.int .i64 (({ fAt := 0, fI := 0, fV := ({ fRef := false, fN := 0 } : GVal) } : GSlot_law35).fI)), .pv (.bool ((({ fAt := 0, fI := 0, fV := ({ fRef := false, fN := 0 } : GVal) } : GSlot_law35).fV).fRef)), .pv (.int .i64 ((({ fAt := 0, fI := 0, fV := ({ fRef := false, fN := 0 } : GVal) } : GSlot_law35).fV).fN))])], upd := [(3, some (.box 26 [.pv (.int .i64 a1.a0.fAt), .pv (.int .i64 a1.a0.fI), .pv (.bool a1.a0.fV.fRef), .pv (.int .i64 a1.a0.fV.fN)]))] } :: { need := [(11, .lp 4 0), (51, .pv (.agg (eGSlot_law35 a1.a1)))], hneed := [(4, .box 26 [.pv (.int .i64 (({ fAt := 0, fI := 0, fV := ({ fRef := false, fN := 0 } : GVal) } : GSlot_law35).fAt)), .pv (.int .i64 (({ fAt := 0, fI := 0, fV := ({ fRef := false, fN := 0 } : GVal) } : GSlot_law35).fI)), .pv (.bool ((({ fAt := 0, fI := 0, fV := ({ fRef := false, fN := 0 } : GVal) } : GSlot_law35).fV).fRef)), .pv (.int .i64 ((({ fAt := 0, fI := 0, fV := ({ fRef := false, fN := 0 } : GVal) } : GSlot_law35).fV).fN))])], upd := [(4, some (.box 26 [.pv (.int .i64 a1.a1.fAt), .pv (.int .i64 a1.a1.fI), .pv (.bool a1.a1.fV.fRef), .pv (.int .i64 a1.a1.fV.fN)]))] } :: []) ⟨_, _, _⟩ Try_mixed rfl ⟨fun m h => step_on (guard_no rfl) (op_arr_lp (k := .i64) (m := 0) (n := 2) rfl h.1.1 rfl Try_arr_57 rfl rfl rfl rfl) rfl, fun m h => step_on (guard_no rfl) (op_load_lp_agg (ps := eGSlot_law35 a1.a0) rfl h.1.1 h.2.1.1 rfl rfl rfl Try_agg_26 rfl rfl) rfl, fun m h => step_on (guard_no rfl) (op_arr_lp (k := .i64) (m := 1) (n := 2) rfl h.1.1 rfl Try_arr_57 rfl rfl rfl rfl) rfl, fun m h => step_on (guard_no rfl) (op_load_lp_agg (ps := eGSlot_law35 a1.a1) rfl h.1.1 h.2.1.1 rfl rfl rfl Try_agg_26 rfl rfl) rfl, fun m h => step_on (guard_no rfl) (op_alloc 3 (fresh_free h.2.2.1) (ps := [.int .i64 (({ fAt := 0, fI := 0, fV := ({ fRef := false, fN := 0 } : GVal) } : GSlot_law35).fAt), .int .i64 (({ fAt := 0, fI := 0, fV := ({ fRef := false, fN := 0 } : GVal) } : GSlot_law35).fI), .bool ((({ fAt := 0, fI := 0, fV := ({ fRef := false, fN := 0 } : GVal) } : GSlot_law35).fV).fRef), .int .i64 ((({ fAt := 0, fI := 0, fV := ({ fRef := false, fN := 0 } : GVal) } : GSlot_law35).fV).fN)]) rfl Try_zer_26 (by exact ⟨rfl, rfl, rfl, rfl, trivial⟩) rfl rfl) rfl, fun m h => step_on (guard_no rfl) (op_alloc 4 (fresh_free h.2.2.1) (ps := [.int .i64 (({ fAt := 0, fI := 0, fV := ({ fRef := false, fN := 0 } : GVal) } : GSlot_law35).fAt), .int .i64 (({ fAt := 0, fI := 0, fV := ({ fRef := false, fN := 0 } : GVal) } : GSlot_law35).fI), .bool ((({ fAt := 0, fI := 0, fV := ({ fRef := false, fN := 0 } : GVal) } : GSlot_law35).fV).fRef), .int .i64 ((({ fAt := 0, fI := 0, fV := ({ fRef := false, fN := 0 } : GVal) } : GSlot_law35).fV).fN)]) rfl Try_zer_26 (by exact ⟨rfl, rfl, rfl, rfl, trivial⟩) rfl rfl) rfl, fun m h => step_on (guard_no rfl) (op_store_lp (n := 4) rfl h.1.1 h.1.2.1 rfl h.2.1.1 (or_agg Try_agg_26) (by rw [Try_non_26]; rfl) rfl rfl) rfl, fun m h => step_on (guard_no rfl) (op_store_lp (n := 4) rfl h.1.1 h.1.2.1 rfl h.2.1.1 (or_agg Try_agg_26) (by rw [Try_non_26]; rfl) rfl rfl) rfl, trivial⟩ ⟨⟨⟨rfl, trivial⟩, trivial, trivial⟩, ⟨⟨rfl, trivial⟩, ⟨rfl, trivial⟩, trivial⟩, ⟨⟨rfl, trivial⟩, trivial, trivial⟩, ⟨⟨rfl, trivial⟩, ⟨rfl, trivial⟩, trivial⟩, ⟨trivial, trivial, ⟨rfl, trivial⟩⟩, ⟨trivial, trivial, ⟨rfl, trivial⟩⟩, ⟨⟨rfl, rfl, trivial⟩, ⟨rfl, trivial⟩, trivial⟩, ⟨⟨rfl, rfl, trivial⟩, ⟨rfl, trivial⟩, trivial⟩, trivial⟩ (by kernel_rfl) ?_
        refine post_imp (s' := ⟨177, [(0, some (.pv (.vs 7 (List.map eGCell a0)))), (5, some (.lp 0 0)), (7, some (.ls 1)), (10, some (.lp 2 0)), (11, some (.lp 3 0))], [(0, some (.box 30 [.pv (.str a2.fClass), .pv (.int .i64 a2.fOwn.a0), .pv (.int .i64 a2.fOwn.a1), .pv (.int .i64 a2.fOwn.a2), .pv (.int .i64 a2.fOwn.a3), .pv (.vs 2 (List.map eGVal a2.fFields)), .pv (.bool a2.fDead)])), (1, some (.row 30 7 (List.map eGCell x57))), (2, some (.box 26 [.pv (.int .i64 a1.a0.fAt), .pv (.int .i64 a1.a0.fI), .pv (.bool a1.a0.fV.fRef), .pv (.int .i64 a1.a0.fV.fN)])), (3, some (.box 26 [.pv (.int .i64 a1.a1.fAt), .pv (.int .i64 a1.a1.fI), .pv (.bool a1.a1.fV.fRef), .pv (.int .i64 a1.a1.fV.fN)]))], 4, [], []⟩) (imp_sub [1, 2, 3, 4] rfl rfl (by decide) rfl rfl ⟨rfl, rfl, rfl, rfl, rfl, trivial⟩ ⟨rfl, rfl, rfl, rfl, trivial⟩ rfl nolent2) ?_
        refine post_next ?_
        refine aw_seq ?_
        refine aw_region ?_
        refine reg_cons (guard_no rfl) (op_move rfl rfl rfl rfl) ?_
        refine reg_cons (guard_no rfl) (op_field_lp rfl rfl Try_fld_26_0 rfl rfl) ?_
        refine reg_cons (guard_no rfl) (op_load_lp (v := .pv (.int .i64 a1.a1.fAt)) rfl rfl rfl rfl Try_one_3 rfl rfl) ?_
        refine reg_cons (guard_no rfl) (op_field_lp rfl rfl Try_fld_26_1 rfl rfl) ?_
        refine reg_cons (guard_no rfl) (op_load_lp (v := .pv (.int .i64 a1.a1.fI)) rfl rfl rfl rfl Try_one_3 rfl rfl) ?_
        obtain ⟨y61, h62, hF⟩ := bind_some hF
        refine reg_cons (guard_no rfl) (op_call 4 rfl (caps := []) (args := [.vs 7 (List.map eGCell a0), .int .i64 a1.a1.fAt, .int .i64 a1.a1.fI]) rfl rfl rfl Try_cal_16 (heap_Get_ok h62) rfl rfl rfl) ?_
        refine reg_cons (guard_no rfl) (op_move rfl rfl rfl rfl) ?_
        refine reg_cons (guard_no rfl) (op_extract rfl rfl rfl rfl rfl) ?_
        refine reg_cons (guard_no rfl) (op_extract rfl rfl rfl rfl rfl) ?_
        refine reg_cons (guard_no rfl) (op_alloc 4 rfl (ps := [.bool (({ fRef := false, fN := 0 } : GVal).fRef), .int .i64 (({ fRef := false, fN := 0 } : GVal).fN)]) rfl Try_zer_24 (by exact ⟨rfl, rfl, trivial⟩) rfl rfl) ?_
        refine reg_cons (guard_no rfl) (op_store_lp (n := 2) rfl rfl rfl rfl rfl (or_agg Try_agg_24) (by rw [Try_non_24]; rfl) rfl rfl) ?_
        refine reg_cons (guard_no rfl) (op_assign rfl rfl rfl rfl) ?_
        refine reg_nil ?_
        refine post_imp (s' := ⟨177, [(0, some (.pv (.vs 7 (List.map eGCell a0)))), (5, some (.lp 0 0)), (7, some (.ls 1)), (10, some (.lp 2 0)), (11, some (.lp 3 0)), (12, some (.lp 4 0)), (13, some (.pv (.int .i64 y61.2)))], [(0, some (.box 30 [.pv (.str a2.fClass), .pv (.int .i64 a2.fOwn.a0), .pv (.int .i64 a2.fOwn.a1), .pv (.int .i64 a2.fOwn.a2), .pv (.int .i64 a2.fOwn.a3), .pv (.vs 2 (List.map eGVal a2.fFields)), .pv (.bool a2.fDead)])), (1, some (.row 30 7 (List.map eGCell x57))), (2, some (.box 26 [.pv (.int .i64 a1.a0.fAt), .pv (.int .i64 a1.a0.fI), .pv (.bool a1.a0.fV.fRef), .pv (.int .i64 a1.a0.fV.fN)])), (3, some (.box 26 [.pv (.int .i64 a1.a1.fAt), .pv (.int .i64 a1.a1.fI), .pv (.bool a1.a1.fV.fRef), .pv (.int .i64 a1.a1.fV.fN)])), (4, some (.box 24 [.pv (.bool y61.1.fRef), .pv (.int .i64 y61.1.fN)]))], 5, [], []⟩) (imp_sub [0, 1, 2, 3, 4] rfl rfl (by decide) rfl rfl ⟨rfl, rfl, rfl, rfl, rfl, rfl, rfl, trivial⟩ ⟨rfl, rfl, rfl, rfl, rfl, trivial⟩ rfl nolent2) ?_
        refine post_next ?_
        refine aw_seq ?_
        refine aw_region ?_
        refine reg_cons (guard_no rfl) (op_move rfl rfl rfl rfl) ?_
        refine reg_cons (guard_no rfl) (op_field_lp rfl rfl Try_fld_26_0 rfl rfl) ?_
        refine reg_cons (guard_no rfl) (op_load_lp (v := .pv (.int .i64 a1.a0.fAt)) rfl rfl rfl rfl Try_one_3 rfl rfl) ?_
        refine reg_cons (guard_no rfl) (op_field_lp rfl rfl Try_fld_26_1 rfl rfl) ?_
        refine reg_cons (guard_no rfl) (op_load_lp (v := .pv (.int .i64 a1.a0.fI)) rfl rfl rfl rfl Try_one_3 rfl rfl) ?_
        refine reg_cons (guard_no rfl) (op_field_lp rfl rfl Try_fld_26_2 rfl rfl) ?_
        refine reg_cons (guard_no rfl) (op_load_lp_agg (ps := eGVal a1.a0.fV) rfl rfl rfl rfl rfl rfl Try_agg_24 rfl rfl) ?_
        obtain ⟨y65, h66, hF⟩ := bind_some hF
        refine reg_cons (guard_no rfl) (op_call 5 rfl (caps := []) (args := [.vs 7 (List.map eGCell a0), .int .i64 a1.a0.fAt, .int .i64 a1.a0.fI, .agg (eGVal a1.a0.fV)]) rfl rfl rfl Try_cal_18 (heap_Put_ok h66) rfl rfl rfl) ?_
        refine reg_imp (imp_freeze [(5, some (.row 30 7 (List.map eGCell y65.1)))] [(69, some (.tup [.pv (.vs 7 (List.map eGCell y65.1)), .pv (.int .i64 y65.2)]))] (FzH.spec ⟨rfl, trivial⟩) nolent ⟨⟨_, rfl, ⟨rfl, rfl, trivial⟩⟩, trivial⟩) ?_
        refine reg_cons (guard_no rfl) (op_move rfl rfl rfl rfl) ?_
        refine reg_cons (guard_no rfl) (op_extract rfl rfl rfl rfl rfl) ?_
        refine reg_cons (guard_no rfl) (op_extract rfl rfl rfl rfl rfl) ?_
        refine reg_cons (guard_no rfl) (op_assign rfl rfl rfl rfl) ?_
        refine reg_cons (guard_no rfl) (op_assign rfl rfl rfl rfl) ?_
        refine reg_nil ?_
        refine post_imp (s' := ⟨177, [(0, some (.pv (.vs 7 (List.map eGCell a0)))), (5, some (.lp 0 0)), (7, some (.ls 1)), (10, some (.lp 2 0)), (11, some (.lp 3 0)), (12, some (.lp 4 0)), (13, some (.pv (.int .i64 y61.2))), (14, some (.pv (.vs 7 (List.map eGCell y65.1)))), (15, some (.pv (.int .i64 y65.2)))], [(0, some (.box 30 [.pv (.str a2.fClass), .pv (.int .i64 a2.fOwn.a0), .pv (.int .i64 a2.fOwn.a1), .pv (.int .i64 a2.fOwn.a2), .pv (.int .i64 a2.fOwn.a3), .pv (.vs 2 (List.map eGVal a2.fFields)), .pv (.bool a2.fDead)])), (1, some (.row 30 7 (List.map eGCell x57))), (2, some (.box 26 [.pv (.int .i64 a1.a0.fAt), .pv (.int .i64 a1.a0.fI), .pv (.bool a1.a0.fV.fRef), .pv (.int .i64 a1.a0.fV.fN)])), (3, some (.box 26 [.pv (.int .i64 a1.a1.fAt), .pv (.int .i64 a1.a1.fI), .pv (.bool a1.a1.fV.fRef), .pv (.int .i64 a1.a1.fV.fN)])), (4, some (.box 24 [.pv (.bool y61.1.fRef), .pv (.int .i64 y61.1.fN)]))], 5, [], []⟩) (imp_sub [0, 1, 2, 3, 4] rfl rfl (by decide) rfl rfl ⟨rfl, rfl, rfl, rfl, rfl, rfl, rfl, rfl, rfl, trivial⟩ ⟨rfl, rfl, rfl, rfl, rfl, trivial⟩ rfl nolent2) ?_
        refine post_next ?_
        refine aw_seq ?_
        refine aw_region ?_
        refine reg_cons (guard_no rfl) (op_move rfl rfl rfl rfl) ?_
        refine reg_cons (guard_no rfl) (op_load_lp_agg (ps := eGCell a2) rfl rfl rfl rfl rfl rfl Try_agg_30 rfl rfl) ?_
        obtain ⟨y69, h70, hF⟩ := bind_some hF
        refine reg_cons (guard_no rfl) (op_call 5 rfl (caps := []) (args := [.vs 7 (List.map eGCell a0), .agg (eGCell a2)]) rfl rfl rfl Try_cal_20 (heap_New_ok h70) rfl rfl rfl) ?_
        refine reg_imp (imp_freeze [(5, some (.row 30 7 (List.map eGCell y69.1)))] [(75, some (.tup [.pv (.vs 7 (List.map eGCell y69.1)), .pv (.int .i64 y69.2)]))] (FzH.spec ⟨rfl, trivial⟩) nolent ⟨⟨_, rfl, ⟨rfl, rfl, trivial⟩⟩, trivial⟩) ?_
        refine reg_cons (guard_no rfl) (op_move rfl rfl rfl rfl) ?_
        refine reg_cons (guard_no rfl) (op_extract rfl rfl rfl rfl rfl) ?_
        refine reg_cons (guard_no rfl) (op_extract rfl rfl rfl rfl rfl) ?_
        refine reg_cons (guard_no rfl) (op_assign rfl rfl rfl rfl) ?_
        refine reg_cons (guard_no rfl) (op_assign rfl rfl rfl rfl) ?_
        refine reg_nil ?_
        refine post_imp (s' := ⟨177, [(0, some (.pv (.vs 7 (List.map eGCell a0)))), (7, some (.ls 0)), (10, some (.lp 1 0)), (11, some (.lp 2 0)), (12, some (.lp 3 0)), (13, some (.pv (.int .i64 y61.2))), (14, some (.pv (.vs 7 (List.map eGCell y65.1)))), (15, some (.pv (.int .i64 y65.2))), (16, some (.pv (.vs 7 (List.map eGCell y69.1)))), (17, some (.pv (.int .i64 y69.2)))], [(0, some (.row 30 7 (List.map eGCell x57))), (1, some (.box 26 [.pv (.int .i64 a1.a0.fAt), .pv (.int .i64 a1.a0.fI), .pv (.bool a1.a0.fV.fRef), .pv (.int .i64 a1.a0.fV.fN)])), (2, some (.box 26 [.pv (.int .i64 a1.a1.fAt), .pv (.int .i64 a1.a1.fI), .pv (.bool a1.a1.fV.fRef), .pv (.int .i64 a1.a1.fV.fN)])), (3, some (.box 24 [.pv (.bool y61.1.fRef), .pv (.int .i64 y61.1.fN)]))], 4, [], []⟩) (imp_sub [1, 2, 3, 4] rfl rfl (by decide) rfl rfl ⟨rfl, rfl, rfl, rfl, rfl, rfl, rfl, rfl, rfl, rfl, trivial⟩ ⟨rfl, rfl, rfl, rfl, trivial⟩ rfl nolent2) ?_
        refine post_next ?_
        refine aw_seq ?_
        refine aw_seq ?_
        obtain ⟨x85, hF, hK87⟩ := bind_some hF
        refine aw_cut (fun s1 => s1 = ⟨177, [(0, some (.pv (.vs 7 (List.map eGCell a0)))), (10, some (.lp 0 0)), (11, some (.lp 1 0)), (12, some (.lp 2 0)), (13, some (.pv (.int .i64 y61.2))), (14, some (.pv (.vs 7 (List.map eGCell y65.1)))), (15, some (.pv (.int .i64 y65.2))), (109, some (.pv (.bool x85)))], [(0, some (.box 26 [.pv (.int .i64 a1.a0.fAt), .pv (.int .i64 a1.a0.fI), .pv (.bool a1.a0.fV.fRef), .pv (.int .i64 a1.a0.fV.fN)])), (1, some (.box 26 [.pv (.int .i64 a1.a1.fAt), .pv (.int .i64 a1.a1.fI), .pv (.bool a1.a1.fV.fRef), .pv (.int .i64 a1.a1.fV.fN)])), (2, some (.box 24 [.pv (.bool y61.1.fRef), .pv (.int .i64 y61.1.fN)]))], 3, [], []⟩) ?_ ?_
        · refine aw_region ?_
          refine reg_cons (guard_no rfl) (op_move rfl rfl rfl rfl) ?_
          refine reg_cons (guard_no rfl) (op_move rfl rfl rfl rfl) ?_
          obtain ⟨y73, h74, hF⟩ := bind_some hF
          refine reg_cons (guard_no rfl) (op_callB 4 rfl (caps := []) (args := [.vs 7 (List.map eGCell a0), .vs 7 (List.map eGCell x57)]) [(0, some (.row 30 7 (List.map eGCell x57)))] rfl rfl rfl (FzH.spec ⟨rfl, trivial⟩) rfl rfl Try_cal_24 (ref35_Same_ok h74) rfl rfl rfl) ?_
          refine reg_cons (guard_no rfl) (op_not rfl rfl rfl rfl) ?_
          refine reg_cons (guard_no rfl) (op_move rfl rfl rfl rfl) ?_
          rcases ite_some hF with ⟨hb75, hF⟩ | ⟨hb75, hF⟩
          · refine reg_off (guard_off rfl rfl rfl rfl hb75) rfl ?_
            refine reg_off (guard_off rfl rfl rfl rfl hb75) rfl ?_
            refine reg_off (guard_off rfl rfl rfl rfl hb75) rfl ?_
            refine reg_off (guard_off rfl rfl rfl rfl hb75) rfl ?_
            refine reg_off (guard_off rfl rfl rfl rfl hb75) rfl ?_
            refine reg_cons (guard_no rfl) (op_pick_t rfl rfl hb75 rfl rfl rfl) ?_
            refine reg_cons (guard_no rfl) (op_move rfl rfl rfl rfl) ?_
            refine reg_off (guard_off rfl rfl rfl rfl rfl) rfl ?_
            refine reg_off (guard_off rfl rfl rfl rfl rfl) rfl ?_
            refine reg_off (guard_off rfl rfl rfl rfl rfl) rfl ?_
            refine reg_off (guard_off rfl rfl rfl rfl rfl) rfl ?_
            refine reg_cons (guard_no rfl) (op_pick_t rfl rfl rfl rfl rfl rfl) ?_
            refine reg_cons (guard_no rfl) (op_move rfl rfl rfl rfl) ?_
            refine reg_off (guard_off rfl rfl rfl rfl rfl) rfl ?_
            refine reg_off (guard_off rfl rfl rfl rfl rfl) rfl ?_
            refine reg_off (guard_off rfl rfl rfl rfl rfl) rfl ?_
            refine reg_off (guard_off rfl rfl rfl rfl rfl) rfl ?_
            refine reg_off (guard_off rfl rfl rfl rfl rfl) rfl ?_
            refine reg_off (guard_off rfl rfl rfl rfl rfl) rfl ?_
            refine reg_off (guard_off rfl rfl rfl rfl rfl) rfl ?_
            refine reg_cons (guard_no rfl) (op_pick_t rfl rfl rfl rfl rfl rfl) ?_
            refine reg_cons (guard_no rfl) (op_move rfl rfl rfl rfl) ?_
            refine reg_off (guard_off rfl rfl rfl rfl rfl) rfl ?_
            refine reg_off (guard_off rfl rfl rfl rfl rfl) rfl ?_
            refine reg_off (guard_off rfl rfl rfl rfl rfl) rfl ?_
            refine reg_off (guard_off rfl rfl rfl rfl rfl) rfl ?_
            refine reg_cons (guard_no rfl) (op_pick_t rfl rfl rfl rfl rfl rfl) ?_
            refine reg_nil ?_
            cases hF
            exact post_cut _ rfl (imp_sub [1, 2, 3] rfl rfl (by decide) rfl rfl ⟨rfl, rfl, rfl, rfl, rfl, rfl, rfl, rfl, trivial⟩ ⟨rfl, rfl, rfl, trivial⟩ rfl nolent2)
          · refine reg_cons (guard_on rfl rfl rfl rfl hb75) (op_move rfl rfl rfl rfl) ?_
            refine reg_cons (guard_on rfl rfl rfl rfl hb75) (op_move rfl rfl rfl rfl) ?_
            refine reg_cons (guard_on rfl rfl rfl rfl hb75) (op_len_vs (n := a0.length) rfl rfl (List.length_map ..) Try_slc_22 rfl rfl) ?_
            refine reg_cons (guard_on rfl rfl rfl rfl hb75) (op_int (k := .i64) (m := (a0.length : Int)) (n := 1) rfl rfl rfl rfl rfl rfl) ?_
            refine reg_cons (guard_on rfl rfl rfl rfl hb75) (op_int (k := .i64) (m := y69.2) (n := w_i64 ((a0.length : Int) + 1)) rfl rfl rfl rfl rfl rfl) ?_
            refine reg_cons (guard_no rfl) (op_pick_f rfl rfl hb75 rfl rfl rfl) ?_
            refine reg_cons (guard_no rfl) (op_move rfl rfl rfl rfl) ?_
            rcases ite_some hF with ⟨hb76, hF⟩ | ⟨hb76, hF⟩
            · refine reg_off (guard_off rfl rfl rfl rfl hb76) rfl ?_
              refine reg_off (guard_off rfl rfl rfl rfl hb76) rfl ?_
              refine reg_off (guard_off rfl rfl rfl rfl hb76) rfl ?_
              refine reg_off (guard_off rfl rfl rfl rfl hb76) rfl ?_
              refine reg_cons (guard_no rfl) (op_pick_t rfl rfl hb76 rfl rfl rfl) ?_
              refine reg_cons (guard_no rfl) (op_move rfl rfl rfl rfl) ?_
              refine reg_off (guard_off rfl rfl rfl rfl rfl) rfl ?_
              refine reg_off (guard_off rfl rfl rfl rfl rfl) rfl ?_
              refine reg_off (guard_off rfl rfl rfl rfl rfl) rfl ?_
              refine reg_off (guard_off rfl rfl rfl rfl rfl) rfl ?_
              refine reg_off (guard_off rfl rfl rfl rfl rfl) rfl ?_
              refine reg_off (guard_off rfl rfl rfl rfl rfl) rfl ?_
              refine reg_off (guard_off rfl rfl rfl rfl rfl) rfl ?_
              refine reg_cons (guard_no rfl) (op_pick_t rfl rfl rfl rfl rfl rfl) ?_
              refine reg_cons (guard_no rfl) (op_move rfl rfl rfl rfl) ?_
              refine reg_off (guard_off rfl rfl rfl rfl rfl) rfl ?_
              refine reg_off (guard_off rfl rfl rfl rfl rfl) rfl ?_
              refine reg_off (guard_off rfl rfl rfl rfl rfl) rfl ?_
              refine reg_off (guard_off rfl rfl rfl rfl rfl) rfl ?_
              refine reg_cons (guard_no rfl) (op_pick_t rfl rfl rfl rfl rfl rfl) ?_
              refine reg_nil ?_
              cases hF
              exact post_cut _ rfl (imp_sub [1, 2, 3] rfl rfl (by decide) rfl rfl ⟨rfl, rfl, rfl, rfl, rfl, rfl, rfl, rfl, trivial⟩ ⟨rfl, rfl, rfl, trivial⟩ rfl nolent2)
            · refine reg_cons (guard_on rfl rfl rfl rfl hb76) (op_move rfl rfl rfl rfl) ?_
              refine reg_cons (guard_on rfl rfl rfl rfl hb76) (op_len_vs (n := y69.1.length) rfl rfl (List.length_map ..) Try_slc_22 rfl rfl) ?_
              refine reg_cons (guard_on rfl rfl rfl rfl hb76) (op_move rfl rfl rfl rfl) ?_
              refine reg_cons (guard_on rfl rfl rfl rfl hb76) (op_int (k := .i64) (m := (y69.1.length : Int)) (n := y69.2) rfl rfl rfl rfl rfl rfl) ?_
              refine reg_cons (guard_no rfl) (op_pick_f rfl rfl hb76 rfl rfl rfl) ?_
              refine reg_cons (guard_no rfl) (op_move rfl rfl rfl rfl) ?_
              rcases ite_some hF with ⟨hb77, hF⟩ | ⟨hb77, hF⟩
              · refine reg_off (guard_off rfl rfl rfl rfl hb77) rfl ?_
                refine reg_off (guard_off rfl rfl rfl rfl hb77) rfl ?_
                refine reg_off (guard_off rfl rfl rfl rfl hb77) rfl ?_
                refine reg_off (guard_off rfl rfl rfl rfl hb77) rfl ?_
                refine reg_off (guard_off rfl rfl rfl rfl hb77) rfl ?_
                refine reg_off (guard_off rfl rfl rfl rfl hb77) rfl ?_
                refine reg_off (guard_off rfl rfl rfl rfl hb77) rfl ?_
                refine reg_cons (guard_no rfl) (op_pick_t rfl rfl hb77 rfl rfl rfl) ?_
                refine reg_cons (guard_no rfl) (op_move rfl rfl rfl rfl) ?_
                refine reg_off (guard_off rfl rfl rfl rfl rfl) rfl ?_
                refine reg_off (guard_off rfl rfl rfl rfl rfl) rfl ?_
                refine reg_off (guard_off rfl rfl rfl rfl rfl) rfl ?_
                refine reg_off (guard_off rfl rfl rfl rfl rfl) rfl ?_
                refine reg_cons (guard_no rfl) (op_pick_t rfl rfl rfl rfl rfl rfl) ?_
                refine reg_nil ?_
                cases hF
                exact post_cut _ rfl (imp_sub [1, 2, 3] rfl rfl (by decide) rfl rfl ⟨rfl, rfl, rfl, rfl, rfl, rfl, rfl, rfl, trivial⟩ ⟨rfl, rfl, rfl, trivial⟩ rfl nolent2)
              · refine reg_cons (guard_on rfl rfl rfl rfl hb77) (op_move rfl rfl rfl rfl) ?_
                refine reg_cons (guard_on rfl rfl rfl rfl hb77) (op_move rfl rfl rfl rfl) ?_
                refine reg_cons (guard_on rfl rfl rfl rfl hb77) (op_len_vs (n := a0.length) rfl rfl (List.length_map ..) Try_slc_22 rfl rfl) ?_
                obtain ⟨y78, h79, hF⟩ := bind_some hF
                refine reg_cons (guard_on rfl rfl rfl rfl hb77) (op_slice_vs (nl := none) (nh := (some (a0.length : Int))) (nm := none) rfl rfl rfl rfl rfl (.inl rfl) Try_slc_22 (cut_map (nl := none) (nh := (some (a0.length : Int))) eGCell h79) rfl rfl) ?_
                refine reg_cons (guard_on rfl rfl rfl rfl hb77) (op_move rfl rfl rfl rfl) ?_
                obtain ⟨y80, h81, hF⟩ := bind_some hF
                refine reg_cons (guard_on rfl rfl rfl rfl hb77) (op_call 4 rfl (caps := []) (args := [.vs 7 (List.map eGCell y78), .vs 7 (List.map eGCell a0)]) rfl rfl rfl Try_cal_24 (ref35_Same_ok h81) rfl rfl rfl) ?_
                refine reg_cons (guard_on rfl rfl rfl rfl hb77) (op_not rfl rfl rfl rfl) ?_
                refine reg_cons (guard_no rfl) (op_pick_f rfl rfl hb77 rfl rfl rfl) ?_
                refine reg_cons (guard_no rfl) (op_move rfl rfl rfl rfl) ?_
                rcases ite_some hF with ⟨hb82, hF⟩ | ⟨hb82, hF⟩
                · refine reg_off (guard_off rfl rfl rfl rfl hb82) rfl ?_
                  refine reg_off (guard_off rfl rfl rfl rfl hb82) rfl ?_
                  refine reg_off (guard_off rfl rfl rfl rfl hb82) rfl ?_
                  refine reg_off (guard_off rfl rfl rfl rfl hb82) rfl ?_
                  refine reg_cons (guard_no rfl) (op_pick_t rfl rfl hb82 rfl rfl rfl) ?_
                  refine reg_nil ?_
                  cases hF
                  exact post_cut _ rfl (imp_sub [1, 2, 3] rfl rfl (by decide) rfl rfl ⟨rfl, rfl, rfl, rfl, rfl, rfl, rfl, rfl, trivial⟩ ⟨rfl, rfl, rfl, trivial⟩ rfl nolent2)
                · refine reg_cons (guard_on rfl rfl rfl rfl hb82) (op_move rfl rfl rfl rfl) ?_
                  refine reg_cons (guard_on rfl rfl rfl rfl hb82) (op_move rfl rfl rfl rfl) ?_
                  obtain ⟨y83, h84, hF⟩ := bind_some hF
                  refine reg_cons (guard_on rfl rfl rfl rfl hb82) (op_call 4 rfl (caps := []) (args := [.vs 7 (List.map eGCell y69.1), .int .i64 y69.2]) rfl rfl rfl Try_cal_22 (heap_Ask_ok h84) rfl rfl rfl) ?_
                  refine reg_cons (guard_on rfl rfl rfl rfl hb82) (op_int (k := .i64) (m := y83) (n := 0) rfl rfl rfl rfl rfl rfl) ?_
                  refine reg_cons (guard_no rfl) (op_pick_f rfl rfl hb82 rfl rfl rfl) ?_
                  refine reg_nil ?_
                  cases hF
                  exact post_cut _ rfl (imp_sub [1, 2, 3] rfl rfl (by decide) rfl rfl ⟨rfl, rfl, rfl, rfl, rfl, rfl, rfl, rfl, trivial⟩ ⟨rfl, rfl, rfl, trivial⟩ rfl nolent2)
        · rintro _ rfl
          have hF := hK87
          clear hK87
          refine post_next ?_
          rcases ite_some hF with ⟨hb88, hF⟩ | ⟨hb88, hF⟩
          · refine aw_cond_t rfl hb88 ?_
            refine aw_seq ?_
            refine aw_region ?_
            refine reg_cons (guard_no rfl) (op_assign rfl rfl rfl rfl) ?_
            refine reg_nil ?_
            refine post_imp (s' := ⟨177, [(6, some (.pv (.bool false)))], [], 0, [], []⟩) (imp_sub [] rfl rfl (by decide) rfl rfl ⟨rfl, trivial⟩ trivial rfl nolent2) ?_
            refine post_next ?_
            refine aw_ret ?_
            refine post_then_ret ?_
            obtain rfl := Option.some.inj hF
            exact post_ret rfl rfl rfl (.cons _ _ _ _ _ (.tmp _ _ rfl) (.p _) .nil) (.inl rfl)
          · refine aw_cond_f rfl hb88 ?_
            refine aw_skip ?_
            refine post_next ?_
            refine aw_seq ?_
            refine aw_seq ?_
            refine aw_region ?_
            refine reg_cons (guard_no rfl) (op_move rfl rfl rfl rfl) ?_
            refine reg_cons (guard_no rfl) (op_int (k := .i64) (m := y65.2) (n := 0) rfl rfl rfl rfl rfl rfl) ?_
            refine reg_nil ?_
            refine post_imp (s' := ⟨177, [(0, some (.pv (.vs 7 (List.map eGCell a0)))), (10, some (.lp 0 0)), (11, some (.lp 1 0)), (12, some (.lp 2 0)), (13, some (.pv (.int .i64 y61.2))), (14, some (.pv (.vs 7 (List.map eGCell y65.1)))), (111, some (.pv (.bool (y65.2 != 0))))], [(0, some (.box 26 [.pv (.int .i64 a1.a0.fAt), .pv (.int .i64 a1.a0.fI), .pv (.bool a1.a0.fV.fRef), .pv (.int .i64 a1.a0.fV.fN)])), (1, some (.box 26 [.pv (.int .i64 a1.a1.fAt), .pv (.int .i64 a1.a1.fI), .pv (.bool a1.a1.fV.fRef), .pv (.int .i64 a1.a1.fV.fN)])), (2, some (.box 24 [.pv (.bool y61.1.fRef), .pv (.int .i64 y61.1.fN)]))], 3, [], []⟩) (imp_sub [0, 1, 2] rfl rfl (by decide) rfl rfl ⟨rfl, rfl, rfl, rfl, rfl, rfl, rfl, trivial⟩ ⟨rfl, rfl, rfl, trivial⟩ rfl nolent2) ?_
            refine post_next ?_
            rcases ite_some hF with ⟨hb89, hF⟩ | ⟨hb89, hF⟩
            · refine aw_cond_t rfl hb89 ?_
              refine aw_seq ?_
              refine aw_region ?_
              refine reg_cons (guard_no rfl) (op_move rfl rfl rfl rfl) ?_
              refine reg_cons (guard_no rfl) (op_len_vs (n := y65.1.length) rfl rfl (List.length_map ..) Try_slc_22 rfl rfl) ?_
              refine reg_cons (guard_no rfl) (op_int (k := .i64) (m := (y65.1.length : Int)) (n := 0) rfl rfl rfl rfl rfl rfl) ?_
              refine reg_cons (guard_no rfl) (op_move rfl rfl rfl rfl) ?_
              rcases ite_some hF with ⟨hb90, hF⟩ | ⟨hb90, hF⟩
              · obtain ⟨y91, h92, hF⟩ := bind_some hF
                refine reg_cons (guard_on rfl rfl rfl rfl hb90) (op_call 3 rfl (caps := []) (args := []) rfl rfl rfl Try_cal_15 (law35_awake_ok h92) rfl rfl rfl) ?_
                refine reg_cons (guard_no rfl) (op_pick_t rfl rfl hb90 rfl rfl rfl) ?_
                refine reg_cons (guard_no rfl) (op_assign rfl rfl rfl rfl) ?_
                refine reg_nil ?_
                refine post_imp (s' := ⟨177, [(6, some (.pv (.bool y91)))], [], 0, [], []⟩) (imp_sub [] rfl rfl (by decide) rfl rfl ⟨rfl, trivial⟩ trivial rfl nolent2) ?_
                refine post_next ?_
                refine aw_ret ?_
                refine post_then_ret ?_
                obtain rfl := Option.some.inj hF
                exact post_ret rfl rfl rfl (.cons _ _ _ _ _ (.tmp _ _ rfl) (.p _) .nil) (.inl rfl)
              · refine reg_off (guard_off rfl rfl rfl rfl hb90) rfl ?_
                refine reg_cons (guard_no rfl) (op_pick_f rfl rfl hb90 rfl rfl rfl) ?_
                refine reg_cons (guard_no rfl) (op_assign rfl rfl rfl rfl) ?_
                refine reg_nil ?_
                refine post_imp (s' := ⟨177, [(6, some (.pv (.bool false)))], [], 0, [], []⟩) (imp_sub [] rfl rfl (by decide) rfl rfl ⟨rfl, trivial⟩ trivial rfl nolent2) ?_
                refine post_next ?_
                refine aw_ret ?_
                refine post_then_ret ?_
                obtain rfl := Option.some.inj hF
                exact post_ret rfl rfl rfl (.cons _ _ _ _ _ (.tmp _ _ rfl) (.p _) .nil) (.inl rfl)
            · refine aw_cond_f rfl hb89 ?_
              refine aw_skip ?_
              refine post_next ?_
              refine aw_seq ?_
              refine aw_region ?_
              refine reg_cons (guard_no rfl) (op_move rfl rfl rfl rfl) ?_
              refine reg_cons (guard_no rfl) (op_field_lp rfl rfl Try_fld_26_0 rfl rfl) ?_
              refine reg_cons (guard_no rfl) (op_load_lp (v := .pv (.int .i64 a1.a1.fAt)) rfl rfl rfl rfl Try_one_3 rfl rfl) ?_
              refine reg_cons (guard_no rfl) (op_field_lp rfl rfl Try_fld_26_1 rfl rfl) ?_
              refine reg_cons (guard_no rfl) (op_load_lp (v := .pv (.int .i64 a1.a1.fI)) rfl rfl rfl rfl Try_one_3 rfl rfl) ?_
              obtain ⟨y95, h96, hF⟩ := bind_some hF
              refine reg_cons (guard_no rfl) (op_call 3 rfl (caps := []) (args := [.vs 7 (List.map eGCell y65.1), .int .i64 a1.a1.fAt, .int .i64 a1.a1.fI]) rfl rfl rfl Try_cal_16 (heap_Get_ok h96) rfl rfl rfl) ?_
              refine reg_cons (guard_no rfl) (op_move rfl rfl rfl rfl) ?_
              refine reg_cons (guard_no rfl) (op_extract rfl rfl rfl rfl rfl) ?_
              refine reg_cons (guard_no rfl) (op_extract rfl rfl rfl rfl rfl) ?_
              refine reg_cons (guard_no rfl) (op_alloc 3 rfl (ps := [.bool (({ fRef := false, fN := 0 } : GVal).fRef), .int .i64 (({ fRef := false, fN := 0 } : GVal).fN)]) rfl Try_zer_24 (by exact ⟨rfl, rfl, trivial⟩) rfl rfl) ?_
              refine reg_cons (guard_no rfl) (op_store_lp (n := 2) rfl rfl rfl rfl rfl (or_agg Try_agg_24) (by rw [Try_non_24]; rfl) rfl rfl) ?_
              refine reg_cons (guard_no rfl) (op_assign rfl rfl rfl rfl) ?_
              refine reg_nil ?_
              refine post_imp (s' := ⟨177, [(0, some (.pv (.vs 7 (List.map eGCell a0)))), (10, some (.lp 0 0)), (11, some (.lp 1 0)), (12, some (.lp 2 0)), (13, some (.pv (.int .i64 y61.2))), (14, some (.pv (.vs 7 (List.map eGCell y65.1)))), (18, some (.lp 3 0)), (19, some (.pv (.int .i64 y95.2)))], [(0, some (.box 26 [.pv (.int .i64 a1.a0.fAt), .pv (.int .i64 a1.a0.fI), .pv (.bool a1.a0.fV.fRef), .pv (.int .i64 a1.a0.fV.fN)])), (1, some (.box 26 [.pv (.int .i64 a1.a1.fAt), .pv (.int .i64 a1.a1.fI), .pv (.bool a1.a1.fV.fRef), .pv (.int .i64 a1.a1.fV.fN)])), (2, some (.box 24 [.pv (.bool y61.1.fRef), .pv (.int .i64 y61.1.fN)])), (3, some (.box 24 [.pv (.bool y95.1.fRef), .pv (.int .i64 y95.1.fN)]))], 4, [], []⟩) (imp_sub [0, 1, 2, 3] rfl rfl (by decide) rfl rfl ⟨rfl, rfl, rfl, rfl, rfl, rfl, rfl, rfl, trivial⟩ ⟨rfl, rfl, rfl, rfl, trivial⟩ rfl nolent2) ?_
              refine post_next ?_
              refine aw_seq ?_
              refine aw_seq ?_
              obtain ⟨x98, hF, hK100⟩ := bind_some hF
              refine aw_cut (fun s1 => s1 = ⟨177, [(0, some (.pv (.vs 7 (List.map eGCell a0)))), (10, some (.lp 0 0)), (12, some (.lp 1 0)), (13, some (.pv (.int .i64 y61.2))), (14, some (.pv (.vs 7 (List.map eGCell y65.1)))), (18, some (.lp 2 0)), (19, some (.pv (.int .i64 y95.2))), (138, some (.pv (.bool x98)))], [(0, some (.box 26 [.pv (.int .i64 a1.a0.fAt), .pv (.int .i64 a1.a0.fI), .pv (.bool a1.a0.fV.fRef), .pv (.int .i64 a1.a0.fV.fN)])), (1, some (.box 24 [.pv (.bool y61.1.fRef), .pv (.int .i64 y61.1.fN)])), (2, some (.box 24 [.pv (.bool y95.1.fRef), .pv (.int .i64 y95.1.fN)]))], 3, [], []⟩) ?_ ?_
              · refine aw_region ?_
                refine reg_cons (guard_no rfl) (op_field_lp rfl rfl Try_fld_26_0 rfl rfl) ?_
                refine reg_cons (guard_no rfl) (op_load_lp (v := .pv (.int .i64 a1.a0.fAt)) rfl rfl rfl rfl Try_one_3 rfl rfl) ?_
                refine reg_cons (guard_no rfl) (op_field_lp rfl rfl Try_fld_26_0 rfl rfl) ?_
                refine reg_cons (guard_no rfl) (op_load_lp (v := .pv (.int .i64 a1.a1.fAt)) rfl rfl rfl rfl Try_one_3 rfl rfl) ?_
                refine reg_cons (guard_no rfl) (op_int (k := .i64) (m := a1.a0.fAt) (n := a1.a1.fAt) rfl rfl rfl rfl rfl rfl) ?_
                refine reg_cons (guard_no rfl) (op_move rfl rfl rfl rfl) ?_
                rcases ite_some hF with ⟨hb97, hF⟩ | ⟨hb97, hF⟩
                · refine reg_cons (guard_on rfl rfl rfl rfl hb97) (op_field_lp rfl rfl Try_fld_26_1 rfl rfl) ?_
                  refine reg_cons (guard_on rfl rfl rfl rfl hb97) (op_load_lp (v := .pv (.int .i64 a1.a0.fI)) rfl rfl rfl rfl Try_one_3 rfl rfl) ?_
                  refine reg_cons (guard_on rfl rfl rfl rfl hb97) (op_field_lp rfl rfl Try_fld_26_1 rfl rfl) ?_
                  refine reg_cons (guard_on rfl rfl rfl rfl hb97) (op_load_lp (v := .pv (.int .i64 a1.a1.fI)) rfl rfl rfl rfl Try_one_3 rfl rfl) ?_
                  refine reg_cons (guard_on rfl rfl rfl rfl hb97) (op_int (k := .i64) (m := a1.a0.fI) (n := a1.a1.fI) rfl rfl rfl rfl rfl rfl) ?_
                  refine reg_cons (guard_no rfl) (op_pick_t rfl rfl hb97 rfl rfl rfl) ?_
                  refine reg_nil ?_
                  cases hF
                  exact post_cut _ rfl (imp_sub [0, 2, 3] rfl rfl (by decide) rfl rfl ⟨rfl, rfl, rfl, rfl, rfl, rfl, rfl, rfl, trivial⟩ ⟨rfl, rfl, rfl, trivial⟩ rfl nolent2)
                · refine reg_off (guard_off rfl rfl rfl rfl hb97) rfl ?_
                  refine reg_off (guard_off rfl rfl rfl rfl hb97) rfl ?_
                  refine reg_off (guard_off rfl rfl rfl rfl hb97) rfl ?_
                  refine reg_off (guard_off rfl rfl rfl rfl hb97) rfl ?_
                  refine reg_off (guard_off rfl rfl rfl rfl hb97) rfl ?_
                  refine reg_cons (guard_no rfl) (op_pick_f rfl rfl hb97 rfl rfl rfl) ?_
                  refine reg_nil ?_
                  cases hF
                  exact post_cut _ rfl (imp_sub [0, 2, 3] rfl rfl (by decide) rfl rfl ⟨rfl, rfl, rfl, rfl, rfl, rfl, rfl, rfl, trivial⟩ ⟨rfl, rfl, rfl, trivial⟩ rfl nolent2)
              · rintro _ rfl
                have hF := hK100
                clear hK100
                refine post_next ?_
                rcases ite_some hF with ⟨hb101, hF⟩ | ⟨hb101, hF⟩
                · refine aw_cond_t rfl hb101 ?_
                  refine aw_seq ?_
                  refine aw_region ?_
                  refine reg_cons (guard_no rfl) (op_load_lp_agg (ps := eGVal y95.1) rfl rfl rfl rfl rfl rfl Try_agg_24 rfl rfl) ?_
                  refine reg_cons (guard_no rfl) (op_field_lp rfl rfl Try_fld_26_2 rfl rfl) ?_
                  refine reg_cons (guard_no rfl) (op_load_lp_agg (ps := eGVal a1.a0.fV) rfl rfl rfl rfl rfl rfl Try_agg_24 rfl rfl) ?_
                  refine reg_cons (guard_no rfl) (op_eqAgg_eql (r := bGVal y95.1 a1.a0.fV) rfl rfl rfl Try_eqt_24 rfl rfl rfl rfl rfl) ?_
                  refine reg_cons (guard_no rfl) (op_move rfl rfl rfl rfl) ?_
                  rcases ite_some hF with ⟨hb102, hF⟩ | ⟨hb102, hF⟩
                  · refine reg_cons (guard_on rfl rfl rfl rfl hb102) (op_move rfl rfl rfl rfl) ?_
                    refine reg_cons (guard_on rfl rfl rfl rfl hb102) (op_int (k := .i64) (m := y95.2) (n := 0) rfl rfl rfl rfl rfl rfl) ?_
                    refine reg_cons (guard_no rfl) (op_pick_t rfl rfl hb102 rfl rfl rfl) ?_
                    refine reg_cons (guard_no rfl) (op_move rfl rfl rfl rfl) ?_
                    rcases ite_some hF with ⟨hb103, hF⟩ | ⟨hb103, hF⟩
                    · refine reg_cons (guard_on rfl rfl rfl rfl hb103) (op_move rfl rfl rfl rfl) ?_
                      obtain ⟨y104, h105, hF⟩ := bind_some hF
                      refine reg_cons (guard_on rfl rfl rfl rfl hb103) (op_call 3 rfl (caps := []) (args := [.vs 7 (List.map eGCell y65.1)]) rfl rfl rfl Try_cal_37 (heap_Live_ok h105) rfl rfl rfl) ?_
                      refine reg_imp (imp_freeze [(3, some (.row 3 1 (List.map eI y104)))] [(149, some (.pv (.vs 1 (List.map eI y104))))] (FzH.spec ⟨rfl, trivial⟩) nolent ⟨⟨_, rfl, rfl⟩, trivial⟩) ?_
                      refine reg_cons (guard_on rfl rfl rfl rfl hb103) (op_len_vs (n := y104.length) rfl rfl (List.length_map ..) Try_slc_50 rfl rfl) ?_
                      refine reg_cons (guard_on rfl rfl rfl rfl hb103) (op_move rfl rfl rfl rfl) ?_
                      obtain ⟨y106, h107, hF⟩ := bind_some hF
                      refine reg_cons (guard_on rfl rfl rfl rfl hb103) (op_call 4 rfl (caps := []) (args := [.vs 7 (List.map eGCell a0)]) rfl rfl rfl Try_cal_37 (heap_Live_ok h107) rfl rfl rfl) ?_
                      refine reg_imp (imp_freeze [(4, some (.row 3 1 (List.map eI y106)))] [(152, some (.pv (.vs 1 (List.map eI y106))))] (FzH.spec ⟨rfl, trivial⟩) nolent ⟨⟨_, rfl, rfl⟩, trivial⟩) ?_
                      refine reg_cons (guard_on rfl rfl rfl rfl hb103) (op_len_vs (n := y106.length) rfl rfl (List.length_map ..) Try_slc_50 rfl rfl) ?_
                      refine reg_cons (guard_on rfl rfl rfl rfl hb103) (op_int (k := .i64) (m := (y104.length : Int)) (n := (y106.length : Int)) rfl rfl rfl rfl rfl rfl) ?_
                      refine reg_cons (guard_no rfl) (op_pick_t rfl rfl hb103 rfl rfl rfl) ?_
                      refine reg_cons (guard_no rfl) (op_move rfl rfl rfl rfl) ?_
                      rcases ite_some hF with ⟨hb108, hF⟩ | ⟨hb108, hF⟩
                      · obtain ⟨y109, h110, hF⟩ := bind_some hF
                        refine reg_cons (guard_on rfl rfl rfl rfl hb108) (op_call 5 rfl (caps := []) (args := []) rfl rfl rfl Try_cal_15 (law35_awake_ok h110) rfl rfl rfl) ?_
                        refine reg_cons (guard_no rfl) (op_pick_t rfl rfl hb108 rfl rfl rfl) ?_
                        refine reg_cons (guard_no rfl) (op_assign rfl rfl rfl rfl) ?_
                        refine reg_nil ?_
                        refine post_imp (s' := ⟨177, [(6, some (.pv (.bool y109)))], [], 0, [], []⟩) (imp_sub [] rfl rfl (by decide) rfl rfl ⟨rfl, trivial⟩ trivial rfl nolent2) ?_
                        refine post_next ?_
                        refine aw_ret ?_
                        refine post_then_ret ?_
                        obtain rfl := Option.some.inj hF
                        exact post_ret rfl rfl rfl (.cons _ _ _ _ _ (.tmp _ _ rfl) (.p _) .nil) (.inl rfl)
                      · refine reg_off (guard_off rfl rfl rfl rfl hb108) rfl ?_
                        refine reg_cons (guard_no rfl) (op_pick_f rfl rfl hb108 rfl rfl rfl) ?_
                        refine reg_cons (guard_no rfl) (op_assign rfl rfl rfl rfl) ?_
                        refine reg_nil ?_
                        refine post_imp (s' := ⟨177, [(6, some (.pv (.bool false)))], [], 0, [], []⟩) (imp_sub [] rfl rfl (by decide) rfl rfl ⟨rfl, trivial⟩ trivial rfl nolent2) ?_
                        refine post_next ?_
                        refine aw_ret ?_
                        refine post_then_ret ?_
                        obtain rfl := Option.some.inj hF
                        exact post_ret rfl rfl rfl (.cons _ _ _ _ _ (.tmp _ _ rfl) (.p _) .nil) (.inl rfl)
                    · refine reg_off (guard_off rfl rfl rfl rfl hb103) rfl ?_
                      refine reg_off (guard_off rfl rfl rfl rfl hb103) rfl ?_
                      refine reg_off (guard_off rfl rfl rfl rfl hb103) rfl ?_
                      refine reg_off (guard_off rfl rfl rfl rfl hb103) rfl ?_
                      refine reg_off (guard_off rfl rfl rfl rfl hb103) rfl ?_
                      refine reg_off (guard_off rfl rfl rfl rfl hb103) rfl ?_
                      refine reg_off (guard_off rfl rfl rfl rfl hb103) rfl ?_
                      refine reg_cons (guard_no rfl) (op_pick_f rfl rfl hb103 rfl rfl rfl) ?_
                      refine reg_cons (guard_no rfl) (op_move rfl rfl rfl rfl) ?_
                      refine reg_off (guard_off rfl rfl rfl rfl rfl) rfl ?_
                      refine reg_cons (guard_no rfl) (op_pick_f rfl rfl rfl rfl rfl rfl) ?_
                      refine reg_cons (guard_no rfl) (op_assign rfl rfl rfl rfl) ?_
                      refine reg_nil ?_
                      refine post_imp (s' := ⟨177, [(6, some (.pv (.bool false)))], [], 0, [], []⟩) (imp_sub [] rfl rfl (by decide) rfl rfl ⟨rfl, trivial⟩ trivial rfl nolent2) ?_
                      refine post_next ?_
                      refine aw_ret ?_
                      refine post_then_ret ?_
                      obtain rfl := Option.some.inj hF
                      exact post_ret rfl rfl rfl (.cons _ _ _ _ _ (.tmp _ _ rfl) (.p _) .nil) (.inl rfl)
                  · refine reg_off (guard_off rfl rfl rfl rfl hb102) rfl ?_
                    refine reg_off (guard_off rfl rfl rfl rfl hb102) rfl ?_
                    refine reg_cons (guard_no rfl) (op_pick_f rfl rfl hb102 rfl rfl rfl) ?_
                    refine reg_cons (guard_no rfl) (op_move rfl rfl rfl rfl) ?_
                    refine reg_off (guard_off rfl rfl rfl rfl rfl) rfl ?_
                    refine reg_off (guard_off rfl rfl rfl rfl rfl) rfl ?_
                    refine reg_off (guard_off rfl rfl rfl rfl rfl) rfl ?_
                    refine reg_off (guard_off rfl rfl rfl rfl rfl) rfl ?_
                    refine reg_off (guard_off rfl rfl rfl rfl rfl) rfl ?_
                    refine reg_off (guard_off rfl rfl rfl rfl rfl) rfl ?_
                    refine reg_off (guard_off rfl rfl rfl rfl rfl) rfl ?_
                    refine reg_cons (guard_no rfl) (op_pick_f rfl rfl rfl rfl rfl rfl) ?_
                    refine reg_cons (guard_no rfl) (op_move rfl rfl rfl rfl) ?_
                    refine reg_off (guard_off rfl rfl rfl rfl rfl) rfl ?_
                    refine reg_cons (guard_no rfl) (op_pick_f rfl rfl rfl rfl rfl rfl) ?_
                    refine reg_cons (guard_no rfl) (op_assign rfl rfl rfl rfl) ?_
                    refine reg_nil ?_
                    refine post_imp (s' := ⟨177, [(6, some (.pv (.bool false)))], [], 0, [], []⟩) (imp_sub [] rfl rfl (by decide) rfl rfl ⟨rfl, trivial⟩ trivial rfl nolent2) ?_
                    refine post_next ?_
                    refine aw_ret ?_
                    refine post_then_ret ?_
                    obtain rfl := Option.some.inj hF
                    exact post_ret rfl rfl rfl (.cons _ _ _ _ _ (.tmp _ _ rfl) (.p _) .nil) (.inl rfl)
                · refine aw_cond_f rfl hb101 ?_
                  refine aw_skip ?_
                  refine post_next ?_
                  refine aw_seq ?_
                  refine aw_region ?_
                  refine reg_cons (guard_no rfl) (op_load_lp_agg (ps := eGVal y95.1) rfl rfl rfl rfl rfl rfl Try_agg_24 rfl rfl) ?_
                  refine reg_cons (guard_no rfl) (op_load_lp_agg (ps := eGVal y61.1) rfl rfl rfl rfl rfl rfl Try_agg_24 rfl rfl) ?_
                  refine reg_cons (guard_no rfl) (op_eqAgg_eql (r := bGVal y95.1 y61.1) rfl rfl rfl Try_eqt_24 rfl rfl rfl rfl rfl) ?_
                  refine reg_cons (guard_no rfl) (op_move rfl rfl rfl rfl) ?_
                  rcases ite_some hF with ⟨hb111, hF⟩ | ⟨hb111, hF⟩
                  · refine reg_cons (guard_on rfl rfl rfl rfl hb111) (op_move rfl rfl rfl rfl) ?_
                    refine reg_cons (guard_on rfl rfl rfl rfl hb111) (op_move rfl rfl rfl rfl) ?_
                    refine reg_cons (guard_on rfl rfl rfl rfl hb111) (op_int (k := .i64) (m := y95.2) (n := y61.2) rfl rfl rfl rfl rfl rfl) ?_
                    refine reg_cons (guard_no rfl) (op_pick_t rfl rfl hb111 rfl rfl rfl) ?_
                    refine reg_cons (guard_no rfl) (op_move rfl rfl rfl rfl) ?_
                    rcases ite_some hF with ⟨hb112, hF⟩ | ⟨hb112, hF⟩
                    · refine reg_cons (guard_on rfl rfl rfl rfl hb112) (op_move rfl rfl rfl rfl) ?_
                      refine reg_cons (guard_on rfl rfl rfl rfl hb112) (op_len_vs (n := y65.1.length) rfl rfl (List.length_map ..) Try_slc_22 rfl rfl) ?_
                      refine reg_cons (guard_on rfl rfl rfl rfl hb112) (op_move rfl rfl rfl rfl) ?_
                      refine reg_cons (guard_on rfl rfl rfl rfl hb112) (op_len_vs (n := a0.length) rfl rfl (List.length_map ..) Try_slc_22 rfl rfl) ?_
                      refine reg_cons (guard_on rfl rfl rfl rfl hb112) (op_int (k := .i64) (m := (y65.1.length : Int)) (n := (a0.length : Int)) rfl rfl rfl rfl rfl rfl) ?_
                      refine reg_cons (guard_no rfl) (op_pick_t rfl rfl hb112 rfl rfl rfl) ?_
                      refine reg_cons (guard_no rfl) (op_move rfl rfl rfl rfl) ?_
                      rcases ite_some hF with ⟨hb113, hF⟩ | ⟨hb113, hF⟩
                      · obtain ⟨y114, h115, hF⟩ := bind_some hF
                        refine reg_cons (guard_on rfl rfl rfl rfl hb113) (op_call 3 rfl (caps := []) (args := []) rfl rfl rfl Try_cal_15 (law35_awake_ok h115) rfl rfl rfl) ?_
                        refine reg_cons (guard_no rfl) (op_pick_t rfl rfl hb113 rfl rfl rfl) ?_
                        refine reg_cons (guard_no rfl) (op_assign rfl rfl rfl rfl) ?_
                        refine reg_nil ?_
                        refine post_imp (s' := ⟨177, [(6, some (.pv (.bool y114)))], [], 0, [], []⟩) (imp_sub [] rfl rfl (by decide) rfl rfl ⟨rfl, trivial⟩ trivial rfl nolent2) ?_
                        refine post_next ?_
                        refine aw_ret ?_
                        obtain rfl := Option.some.inj hF
                        exact post_ret rfl rfl rfl (.cons _ _ _ _ _ (.tmp _ _ rfl) (.p _) .nil) (.inl rfl)
                      · refine reg_off (guard_off rfl rfl rfl rfl hb113) rfl ?_
                        refine reg_cons (guard_no rfl) (op_pick_f rfl rfl hb113 rfl rfl rfl) ?_
                        refine reg_cons (guard_no rfl) (op_assign rfl rfl rfl rfl) ?_
                        refine reg_nil ?_
                        refine post_imp (s' := ⟨177, [(6, some (.pv (.bool false)))], [], 0, [], []⟩) (imp_sub [] rfl rfl (by decide) rfl rfl ⟨rfl, trivial⟩ trivial rfl nolent2) ?_
                        refine post_next ?_
                        refine aw_ret ?_
                        obtain rfl := Option.some.inj hF
                        exact post_ret rfl rfl rfl (.cons _ _ _ _ _ (.tmp _ _ rfl) (.p _) .nil) (.inl rfl)
                    · refine reg_off (guard_off rfl rfl rfl rfl hb112) rfl ?_
                      refine reg_off (guard_off rfl rfl rfl rfl hb112) rfl ?_
                      refine reg_off (guard_off rfl rfl rfl rfl hb112) rfl ?_
                      refine reg_off (guard_off rfl rfl rfl rfl hb112) rfl ?_
                      refine reg_off (guard_off rfl rfl rfl rfl hb112) rfl ?_
                      refine reg_cons (guard_no rfl) (op_pick_f rfl rfl hb112 rfl rfl rfl) ?_
                      refine reg_cons (guard_no rfl) (op_move rfl rfl rfl rfl) ?_
                      refine reg_off (guard_off rfl rfl rfl rfl rfl) rfl ?_
                      refine reg_cons (guard_no rfl) (op_pick_f rfl rfl rfl rfl rfl rfl) ?_
                      refine reg_cons (guard_no rfl) (op_assign rfl rfl rfl rfl) ?_
                      refine reg_nil ?_
                      refine post_imp (s' := ⟨177, [(6, some (.pv (.bool false)))], [], 0, [], []⟩) (imp_sub [] rfl rfl (by decide) rfl rfl ⟨rfl, trivial⟩ trivial rfl nolent2) ?_
                      refine post_next ?_
                      refine aw_ret ?_
                      obtain rfl := Option.some.inj hF
                      exact post_ret rfl rfl rfl (.cons _ _ _ _ _ (.tmp _ _ rfl) (.p _) .nil) (.inl rfl)
                  · refine reg_off (guard_off rfl rfl rfl rfl hb111) rfl ?_
                    refine reg_off (guard_off rfl rfl rfl rfl hb111) rfl ?_
                    refine reg_off (guard_off rfl rfl rfl rfl hb111) rfl ?_
                    refine reg_cons (guard_no rfl) (op_pick_f rfl rfl hb111 rfl rfl rfl) ?_
                    refine reg_cons (guard_no rfl) (op_move rfl rfl rfl rfl) ?_
                    refine reg_off (guard_off rfl rfl rfl rfl rfl) rfl ?_
                    refine reg_off (guard_off rfl rfl rfl rfl rfl) rfl ?_
                    refine reg_off (guard_off rfl rfl rfl rfl rfl) rfl ?_
                    refine reg_off (guard_off rfl rfl rfl rfl rfl) rfl ?_
                    refine reg_off (guard_off rfl rfl rfl rfl rfl) rfl ?_
                    refine reg_cons (guard_no rfl) (op_pick_f rfl rfl rfl rfl rfl rfl) ?_
                    refine reg_cons (guard_no rfl) (op_move rfl rfl rfl rfl) ?_
                    refine reg_off (guard_off rfl rfl rfl rfl rfl) rfl ?_
                    refine reg_cons (guard_no rfl) (op_pick_f rfl rfl rfl rfl rfl rfl) ?_
                    refine reg_cons (guard_no rfl) (op_assign rfl rfl rfl rfl) ?_
                    refine reg_nil ?_
                    refine post_imp (s' := ⟨177, [(6, some (.pv (.bool false)))], [], 0, [], []⟩) (imp_sub [] rfl rfl (by decide) rfl rfl ⟨rfl, trivial⟩ trivial rfl nolent2) ?_
                    refine post_next ?_
                    refine aw_ret ?_
                    obtain rfl := Option.some.inj hF
                    exact post_ret rfl rfl rfl (.cons _ _ _ _ _ (.tmp _ _ rfl) (.p _) .nil) (.inl rfl)
theorem ref35_Ask_ok {a0 : List GCell} {a1 : Int} {r : Int} (hF : ref35_Ask a0 a1 = some r) : Abs.Fn Try.prog 23 [.vs 7 (List.map eGCell a0), .int .i64 a1] [.p (.int .i64 r)] := by
  unfold ref35_Ask at hF
  refine fn_of_body (n := 21) Try.func23 rfl rfl rfl ?_
  intro w O
  refine aw_seq ?_
  refine aw_region ?_
  refine reg_cons (guard_no rfl) (op_assign rfl rfl rfl rfl) ?_
  refine reg_nil ?_
  refine post_imp (s' := ⟨21, [(0, some (.pv (.vs 7 (List.map eGCell a0)))), (1, some (.pv (.int .i64 a1)))], [], 0, [], []⟩) (imp_sub [] rfl rfl (by decide) rfl rfl ⟨rfl, rfl, trivial⟩ trivial rfl nolent2) ?_
  refine post_next ?_
  refine aw_seq ?_
  refine aw_seq ?_
  refine aw_region ?_
  refine reg_cons (guard_no rfl) (op_move rfl rfl rfl rfl) ?_
  refine reg_cons (guard_no rfl) (op_int (k := .i64) (m := a1) (n := 0) rfl rfl rfl rfl rfl rfl) ?_
  refine reg_nil ?_
  refine post_imp (s' := ⟨21, [(0, some (.pv (.vs 7 (List.map eGCell a0)))), (1, some (.pv (.int .i64 a1))), (6, some (.pv (.bool (a1 == 0))))], [], 0, [], []⟩) (imp_sub [] rfl rfl (by decide) rfl rfl ⟨rfl, rfl, rfl, trivial⟩ trivial rfl nolent2) ?_
  refine post_next ?_
  rcases ite_some hF with ⟨hb1, hF⟩ | ⟨hb1, hF⟩
  · refine aw_cond_t rfl hb1 ?_
    refine aw_seq ?_
    refine aw_region ?_
    refine reg_cons (guard_no rfl) (op_assign rfl rfl rfl rfl) ?_
    refine reg_nil ?_
    refine post_imp (s' := ⟨21, [(4, some (.pv (.int .i64 2)))], [], 0, [], []⟩) (imp_sub [] rfl rfl (by decide) rfl rfl ⟨rfl, trivial⟩ trivial rfl nolent2) ?_
    refine post_next ?_
    refine aw_ret ?_
    refine post_then_ret ?_
    obtain rfl := Option.some.inj hF
    exact post_ret rfl rfl rfl (.cons _ _ _ _ _ (.tmp _ _ rfl) (.p _) .nil) (.inl rfl)
  · refine aw_cond_f rfl hb1 ?_
    refine aw_skip ?_
    refine post_next ?_
    refine aw_seq ?_
    refine aw_seq ?_
    obtain ⟨x3, hF, hK5⟩ := bind_some hF
    refine aw_cut (fun s1 => s1 = ⟨21, [(0, some (.pv (.vs 7 (List.map eGCell a0)))), (1, some (.pv (.int .i64 a1))), (14, some (.pv (.bool x3)))], [], 0, [], []⟩) ?_ ?_
    · refine aw_region ?_
      refine reg_cons (guard_no rfl) (op_move rfl rfl rfl rfl) ?_
      refine reg_cons (guard_no rfl) (op_int (k := .i64) (m := a1) (n := 1) rfl rfl rfl rfl rfl rfl) ?_
      refine reg_cons (guard_no rfl) (op_move rfl rfl rfl rfl) ?_
      rcases ite_some hF with ⟨hb2, hF⟩ | ⟨hb2, hF⟩
      · refine reg_off (guard_off rfl rfl rfl rfl hb2) rfl ?_
        refine reg_off (guard_off rfl rfl rfl rfl hb2) rfl ?_
        refine reg_off (guard_off rfl rfl rfl rfl hb2) rfl ?_
        refine reg_off (guard_off rfl rfl rfl rfl hb2) rfl ?_
        refine reg_cons (guard_no rfl) (op_pick_t rfl rfl hb2 rfl rfl rfl) ?_
        refine reg_nil ?_
        cases hF
        exact post_cut _ rfl (imp_sub [] rfl rfl (by decide) rfl rfl ⟨rfl, rfl, rfl, trivial⟩ trivial rfl nolent2)
      · refine reg_cons (guard_on rfl rfl rfl rfl hb2) (op_move rfl rfl rfl rfl) ?_
        refine reg_cons (guard_on rfl rfl rfl rfl hb2) (op_move rfl rfl rfl rfl) ?_
        refine reg_cons (guard_on rfl rfl rfl rfl hb2) (op_len_vs (n := a0.length) rfl rfl (List.length_map ..) Try_slc_22 rfl rfl) ?_
        refine reg_cons (guard_on rfl rfl rfl rfl hb2) (op_int (k := .i64) (m := a1) (n := (a0.length : Int)) rfl rfl rfl rfl rfl rfl) ?_
        refine reg_cons (guard_no rfl) (op_pick_f rfl rfl hb2 rfl rfl rfl) ?_
        refine reg_nil ?_
        cases hF
        exact post_cut _ rfl (imp_sub [] rfl rfl (by decide) rfl rfl ⟨rfl, rfl, rfl, trivial⟩ trivial rfl nolent2)
    · rintro _ rfl
      have hF := hK5
      clear hK5
      refine post_next ?_
      rcases ite_some hF with ⟨hb6, hF⟩ | ⟨hb6, hF⟩
      · refine aw_cond_t rfl hb6 ?_
        refine aw_seq ?_
        refine aw_region ?_
        refine reg_cons (guard_no rfl) (op_assign rfl rfl rfl rfl) ?_
        refine reg_nil ?_
        refine post_imp (s' := ⟨21, [(4, some (.pv (.int .i64 10)))], [], 0, [], []⟩) (imp_sub [] rfl rfl (by decide) rfl rfl ⟨rfl, trivial⟩ trivial rfl nolent2) ?_
        refine post_next ?_
        refine aw_ret ?_
        refine post_then_ret ?_
        obtain rfl := Option.some.inj hF
        exact post_ret rfl rfl rfl (.cons _ _ _ _ _ (.tmp _ _ rfl) (.p _) .nil) (.inl rfl)
      · refine aw_cond_f rfl hb6 ?_
        refine aw_skip ?_
        refine post_next ?_
        refine aw_seq ?_
        refine aw_seq ?_
        refine aw_region ?_
        refine reg_cons (guard_no rfl) (op_move rfl rfl rfl rfl) ?_
        refine reg_cons (guard_no rfl) (op_move rfl rfl rfl rfl) ?_
        refine reg_cons (guard_no rfl) (op_int (k := .i64) (m := a1) (n := 1) rfl rfl rfl rfl rfl rfl) ?_
        obtain ⟨y9, h10, hF⟩ := bind_some hF
        refine reg_cons (guard_no rfl) (op_index_vs (k := .i64) rfl rfl rfl (idx_map eGCell h10) Try_slc_22 rfl rfl) ?_
        refine reg_cons (guard_no rfl) (op_field_vp rfl rfl Try_fld_30_3 rfl rfl) ?_
        refine reg_cons (guard_no rfl) (op_load_vp (p := .bool y9.fDead) rfl rfl rfl Try_one_4 rfl rfl) ?_
        refine reg_nil ?_
        refine post_imp (s' := ⟨21, [(20, some (.pv (.bool y9.fDead)))], [], 0, [], []⟩) (imp_sub [] rfl rfl (by decide) rfl rfl ⟨rfl, trivial⟩ trivial rfl nolent2) ?_
        refine post_next ?_
        rcases ite_some hF with ⟨hb11, hF⟩ | ⟨hb11, hF⟩
        · refine aw_cond_t rfl hb11 ?_
          refine aw_seq ?_
          refine aw_region ?_
          refine reg_cons (guard_no rfl) (op_assign rfl rfl rfl rfl) ?_
          refine reg_nil ?_
          refine post_imp (s' := ⟨21, [(4, some (.pv (.int .i64 7)))], [], 0, [], []⟩) (imp_sub [] rfl rfl (by decide) rfl rfl ⟨rfl, trivial⟩ trivial rfl nolent2) ?_
          refine post_next ?_
          refine aw_ret ?_
          refine post_then_ret ?_
          obtain rfl := Option.some.inj hF
          exact post_ret rfl rfl rfl (.cons _ _ _ _ _ (.tmp _ _ rfl) (.p _) .nil) (.inl rfl)
        · refine aw_cond_f rfl hb11 ?_
          refine aw_skip ?_
          refine post_next ?_
          refine aw_seq ?_
          refine aw_region ?_
          refine reg_cons (guard_no rfl) (op_assign rfl rfl rfl rfl) ?_
          refine reg_nil ?_
          refine post_imp (s' := ⟨21, [(4, some (.pv (.int .i64 0)))], [], 0, [], []⟩) (imp_sub [] rfl rfl (by decide) rfl rfl ⟨rfl, trivial⟩ trivial rfl nolent2) ?_
          refine post_next ?_
          refine aw_ret ?_
          obtain rfl := Option.some.inj hF
          exact post_ret rfl rfl rfl (.cons _ _ _ _ _ (.tmp _ _ rfl) (.p _) .nil) (.inl rfl)
theorem ref35_Get_ok {a0 : List GCell} {a1 : Int} {a2 : Int} {r : GVal × Int} (hF : ref35_Get a0 a1 a2 = some r) : Abs.Fn Try.prog 17 [.vs 7 (List.map eGCell a0), .int .i64 a1, .int .i64 a2] [.p (.agg (eGVal r.1)), .p (.int .i64 r.2)] := by
  unfold ref35_Get at hF
  refine fn_of_body (n := 39) Try.func17 rfl rfl rfl ?_
  intro w O
  refine aw_seq ?_
  refine aw_region ?_
  refine reg_cons (guard_no rfl) (op_alloc 0 rfl (ps := [.bool (({ fRef := false, fN := 0 } : GVal).fRef), .int .i64 (({ fRef := false, fN := 0 } : GVal).fN)]) rfl Try_zer_24 (by exact ⟨rfl, rfl, trivial⟩) rfl rfl) ?_
  refine reg_cons (guard_no rfl) (op_assign rfl rfl rfl rfl) ?_
  refine reg_nil ?_
  refine post_imp (s' := ⟨39, [(0, some (.pv (.vs 7 (List.map eGCell a0)))), (1, some (.pv (.int .i64 a1))), (2, some (.pv (.int .i64 a2))), (6, some (.lp 0 0))], [(0, some (.box 24 [.pv (.bool (({ fRef := false, fN := 0 } : GVal).fRef)), .pv (.int .i64 (({ fRef := false, fN := 0 } : GVal).fN))]))], 1, [], []⟩) (imp_sub [0] rfl rfl (by decide) rfl rfl ⟨rfl, rfl, rfl, rfl, trivial⟩ ⟨rfl, trivial⟩ rfl nolent2) ?_
  refine post_next ?_
  refine aw_seq ?_
  refine aw_region ?_
  refine reg_cons (guard_no rfl) (op_move rfl rfl rfl rfl) ?_
  refine reg_cons (guard_no rfl) (op_move rfl rfl rfl rfl) ?_
  obtain ⟨y3, h4, hF⟩ := bind_some hF
  refine reg_cons (guard_no rfl) (op_call 1 rfl (caps := []) (args := [.vs 7 (List.map eGCell a0), .int .i64 a1]) rfl rfl rfl Try_cal_23 (ref35_Ask_ok h4) rfl rfl rfl) ?_
  refine reg_cons (guard_no rfl) (op_assign rfl rfl rfl rfl) ?_
  refine reg_nil ?_
  refine post_imp (s' := ⟨39, [(0, some (.pv (.vs 7 (List.map eGCell a0)))), (1, some (.pv (.int .i64 a1))), (2, some (.pv (.int .i64 a2))), (6, some (.lp 0 0)), (8, some (.pv (.int .i64 y3)))], [(0, some (.box 24 [.pv (.bool (({ fRef := false, fN := 0 } : GVal).fRef)), .pv (.int .i64 (({ fRef := false, fN := 0 } : GVal).fN))]))], 1, [], []⟩) (imp_sub [0] rfl rfl (by decide) rfl rfl ⟨rfl, rfl, rfl, rfl, rfl, trivial⟩ ⟨rfl, trivial⟩ rfl nolent2) ?_
  refine post_next ?_
  refine aw_seq ?_
  refine aw_seq ?_
  refine aw_region ?_
  refine reg_cons (guard_no rfl) (op_move rfl rfl rfl rfl) ?_
  refine reg_cons (guard_no rfl) (op_int (k := .i64) (m := y3) (n := 0) rfl rfl rfl rfl rfl rfl) ?_
  refine reg_nil ?_
  refine post_imp (s' := ⟨39, [(0, some (.pv (.vs 7 (List.map eGCell a0)))), (1, some (.pv (.int .i64 a1))), (2, some (.pv (.int .i64 a2))), (6, some (.lp 0 0)), (8, some (.pv (.int .i64 y3))), (13, some (.pv (.bool (y3 != 0))))], [(0, some (.box 24 [.pv (.bool (({ fRef := false, fN := 0 } : GVal).fRef)), .pv (.int .i64 (({ fRef := false, fN := 0 } : GVal).fN))]))], 1, [], []⟩) (imp_sub [0] rfl rfl (by decide) rfl rfl ⟨rfl, rfl, rfl, rfl, rfl, rfl, trivial⟩ ⟨rfl, trivial⟩ rfl nolent2) ?_
  refine post_next ?_
  rcases ite_some hF with ⟨hb5, hF⟩ | ⟨hb5, hF⟩
  · refine aw_cond_t rfl hb5 ?_
    refine aw_seq ?_
    refine aw_region ?_
    refine reg_cons (guard_no rfl) (op_build (zs := [.bool (({ fRef := false, fN := 0 } : GVal).fRef), .int .i64 (({ fRef := false, fN := 0 } : GVal).fN)]) (r := eGVal ({ fRef := false, fN := 0 } : GVal)) rfl Try_zer_24 (by exact ⟨rfl, rfl, trivial⟩) Try_plc_24 rfl rfl rfl rfl) ?_
    refine reg_cons (guard_no rfl) (op_move rfl rfl rfl rfl) ?_
    refine reg_cons (guard_no rfl) (op_store_lp (n := 2) rfl rfl rfl rfl rfl (or_agg Try_agg_24) (by rw [Try_non_24]; rfl) rfl rfl) ?_
    refine reg_cons (guard_no rfl) (op_assign rfl rfl rfl rfl) ?_
    refine reg_nil ?_
    refine post_imp (s' := ⟨39, [(6, some (.lp 0 0)), (7, some (.pv (.int .i64 y3)))], [(0, some (.box 24 [.pv (.bool (({ fRef := false, fN := 0 } : GVal).fRef)), .pv (.int .i64 (({ fRef := false, fN := 0 } : GVal).fN))]))], 1, [], []⟩) (imp_sub [0] rfl rfl (by decide) rfl rfl ⟨rfl, rfl, trivial⟩ ⟨rfl, trivial⟩ rfl nolent2) ?_
    refine post_next ?_
    refine aw_ret ?_
    refine post_then_ret ?_
    obtain rfl := Option.some.inj hF
    exact post_ret rfl rfl rfl (.cons _ _ _ _ _ (.agg _ _ _ _ _ 2 _ _ rfl rfl Try_agg_24 rfl rfl rfl) (.p _) (.cons _ _ _ _ _ (.tmp _ _ rfl) (.p _) .nil)) (.inl rfl)
  · refine aw_cond_f rfl hb5 ?_
    refine aw_skip ?_
    refine post_next ?_
    refine aw_seq ?_
    refine aw_seq ?_
    obtain ⟨x9, hF, hK11⟩ := bind_some hF
    refine aw_cut (fun s1 => s1 = ⟨39, [(0, some (.pv (.vs 7 (List.map eGCell a0)))), (1, some (.pv (.int .i64 a1))), (2, some (.pv (.int .i64 a2))), (6, some (.lp 0 0)), (28, some (.pv (.bool x9)))], [(0, some (.box 24 [.pv (.bool (({ fRef := false, fN := 0 } : GVal).fRef)), .pv (.int .i64 (({ fRef := false, fN := 0 } : GVal).fN))]))], 1, [], []⟩) ?_ ?_
    · refine aw_region ?_
      refine reg_cons (guard_no rfl) (op_move rfl rfl rfl rfl) ?_
      refine reg_cons (guard_no rfl) (op_int (k := .i64) (m := a2) (n := 0) rfl rfl rfl rfl rfl rfl) ?_
      refine reg_cons (guard_no rfl) (op_move rfl rfl rfl rfl) ?_
      rcases ite_some hF with ⟨hb6, hF⟩ | ⟨hb6, hF⟩
      · refine reg_off (guard_off rfl rfl rfl rfl hb6) rfl ?_
        refine reg_off (guard_off rfl rfl rfl rfl hb6) rfl ?_
        refine reg_off (guard_off rfl rfl rfl rfl hb6) rfl ?_
        refine reg_off (guard_off rfl rfl rfl rfl hb6) rfl ?_
        refine reg_off (guard_off rfl rfl rfl rfl hb6) rfl ?_
        refine reg_off (guard_off rfl rfl rfl rfl hb6) rfl ?_
        refine reg_off (guard_off rfl rfl rfl rfl hb6) rfl ?_
        refine reg_off (guard_off rfl rfl rfl rfl hb6) rfl ?_
        refine reg_off (guard_off rfl rfl rfl rfl hb6) rfl ?_
        refine reg_cons (guard_no rfl) (op_pick_t rfl rfl hb6 rfl rfl rfl) ?_
        refine reg_nil ?_
        cases hF
        exact post_cut _ rfl (imp_sub [0] rfl rfl (by decide) rfl rfl ⟨rfl, rfl, rfl, rfl, rfl, trivial⟩ ⟨rfl, trivial⟩ rfl nolent2)
      · refine reg_cons (guard_on rfl rfl rfl rfl hb6) (op_move rfl rfl rfl rfl) ?_
        refine reg_cons (guard_on rfl rfl rfl rfl hb6) (op_move rfl rfl rfl rfl) ?_
        refine reg_cons (guard_on rfl rfl rfl rfl hb6) (op_move rfl rfl rfl rfl) ?_
        refine reg_cons (guard_on rfl rfl rfl rfl hb6) (op_int (k := .i64) (m := a1) (n := 1) rfl rfl rfl rfl rfl rfl) ?_
        obtain ⟨y7, h8, hF⟩ := bind_some hF
        refine reg_cons (guard_on rfl rfl rfl rfl hb6) (op_index_vs (k := .i64) rfl rfl rfl (idx_map eGCell h8) Try_slc_22 rfl rfl) ?_
        refine reg_cons (guard_on rfl rfl rfl rfl hb6) (op_field_vp rfl rfl Try_fld_30_2 rfl rfl) ?_
        refine reg_cons (guard_on rfl rfl rfl rfl hb6) (op_load_vp (p := .vs 2 (List.map eGVal y7.fFields)) rfl rfl rfl Try_one_28 rfl rfl) ?_
        refine reg_cons (guard_on rfl rfl rfl rfl hb6) (op_len_vs (n := y7.fFields.length) rfl rfl (List.length_map ..) Try_slc_28 rfl rfl) ?_
        refine reg_cons (guard_on rfl rfl rfl rfl hb6) (op_int (k := .i64) (m := a2) (n := (y7.fFields.length : Int)) rfl rfl rfl rfl rfl rfl) ?_
        refine reg_cons (guard_no rfl) (op_pick_f rfl rfl hb6 rfl rfl rfl) ?_
        refine reg_nil ?_
        cases hF
        exact post_cut _ rfl (imp_sub [0] rfl rfl (by decide) rfl rfl ⟨rfl, rfl, rfl, rfl, rfl, trivial⟩ ⟨rfl, trivial⟩ rfl nolent2)
    · rintro _ rfl
      have hF := hK11
      clear hK11
      refine post_next ?_
      rcases ite_some hF with ⟨hb12, hF⟩ | ⟨hb12, hF⟩
      · refine aw_cond_t rfl hb12 ?_
        refine aw_seq ?_
        refine aw_region ?_
        refine reg_cons (guard_no rfl) (op_build (zs := [.bool (({ fRef := false, fN := 0 } : GVal).fRef), .int .i64 (({ fRef := false, fN := 0 } : GVal).fN)]) (r := eGVal ({ fRef := false, fN := 0 } : GVal)) rfl Try_zer_24 (by exact ⟨rfl, rfl, trivial⟩) Try_plc_24 rfl rfl rfl rfl) ?_
        refine reg_cons (guard_no rfl) (op_store_lp (n := 2) rfl rfl rfl rfl rfl (or_agg Try_agg_24) (by rw [Try_non_24]; rfl) rfl rfl) ?_
        refine reg_cons (guard_no rfl) (op_assign rfl rfl rfl rfl) ?_
        refine reg_nil ?_
        refine post_imp (s' := ⟨39, [(6, some (.lp 0 0)), (7, some (.pv (.int .i64 8)))], [(0, some (.box 24 [.pv (.bool (({ fRef := false, fN := 0 } : GVal).fRef)), .pv (.int .i64 (({ fRef := false, fN := 0 } : GVal).fN))]))], 1, [], []⟩) (imp_sub [0] rfl rfl (by decide) rfl rfl ⟨rfl, rfl, trivial⟩ ⟨rfl, trivial⟩ rfl nolent2) ?_
        refine post_next ?_
        refine aw_ret ?_
        refine post_then_ret ?_
        obtain rfl := Option.some.inj hF
        exact post_ret rfl rfl rfl (.cons _ _ _ _ _ (.agg _ _ _ _ _ 2 _ _ rfl rfl Try_agg_24 rfl rfl rfl) (.p _) (.cons _ _ _ _ _ (.tmp _ _ rfl) (.p _) .nil)) (.inl rfl)
      · refine aw_cond_f rfl hb12 ?_
        refine aw_skip ?_
        refine post_next ?_
        refine aw_seq ?_
        refine aw_region ?_
        refine reg_cons (guard_no rfl) (op_move rfl rfl rfl rfl) ?_
        refine reg_cons (guard_no rfl) (op_move rfl rfl rfl rfl) ?_
        refine reg_cons (guard_no rfl) (op_int (k := .i64) (m := a1) (n := 1) rfl rfl rfl rfl rfl rfl) ?_
        obtain ⟨y13, h14, hF⟩ := bind_some hF
        refine reg_cons (guard_no rfl) (op_index_vs (k := .i64) rfl rfl rfl (idx_map eGCell h14) Try_slc_22 rfl rfl) ?_
        refine reg_cons (guard_no rfl) (op_field_vp rfl rfl Try_fld_30_2 rfl rfl) ?_
        refine reg_cons (guard_no rfl) (op_load_vp (p := .vs 2 (List.map eGVal y13.fFields)) rfl rfl rfl Try_one_28 rfl rfl) ?_
        refine reg_cons (guard_no rfl) (op_move rfl rfl rfl rfl) ?_
        obtain ⟨y15, h16, hF⟩ := bind_some hF
        refine reg_cons (guard_no rfl) (op_index_vs (k := .i64) rfl rfl rfl (idx_map eGVal h16) Try_slc_28 rfl rfl) ?_
        refine reg_cons (guard_no rfl) (op_load_vp_agg (ps := eGVal y15) rfl rfl rfl rfl Try_agg_24 rfl rfl) ?_
        refine reg_cons (guard_no rfl) (op_store_lp (n := 2) rfl rfl rfl rfl rfl (or_agg Try_agg_24) (by rw [Try_non_24]; rfl) rfl rfl) ?_
        refine reg_cons (guard_no rfl) (op_assign rfl rfl rfl rfl) ?_
        refine reg_nil ?_
        refine post_imp (s' := ⟨39, [(6, some (.lp 0 0)), (7, some (.pv (.int .i64 0)))], [(0, some (.box 24 [.pv (.bool y15.fRef), .pv (.int .i64 y15.fN)]))], 1, [], []⟩) (imp_sub [0] rfl rfl (by decide) rfl rfl ⟨rfl, rfl, trivial⟩ ⟨rfl, trivial⟩ rfl nolent2) ?_
        refine post_next ?_
        refine aw_ret ?_
        obtain rfl := Option.some.inj hF
        exact post_ret rfl rfl rfl (.cons _ _ _ _ _ (.agg _ _ _ _ _ 2 _ _ rfl rfl Try_agg_24 rfl rfl rfl) (.p _) (.cons _ _ _ _ _ (.tmp _ _ rfl) (.p _) .nil)) (.inl rfl)
theorem ref35_Put_ok {a0 : List GCell} {a1 : Int} {a2 : Int} {a3 : GVal} {r : (List GCell) × Int} (hF : ref35_Put a0 a1 a2 a3 = some r) : Abs.Fn Try.prog 19 [.vs 7 (List.map eGCell a0), .int .i64 a1, .int .i64 a2, .agg (eGVal a3)] [.own 30 7 (List.map eGCell r.1), .p (.int .i64 r.2)] := by
  unfold ref35_Put at hF
  refine fn_of_body (n := 48) Try.func19 rfl rfl rfl ?_
  intro w O
  refine aw_seq ?_
  refine aw_region ?_
  refine reg_cons (guard_no rfl) (op_box 0 rfl rfl rfl rfl rfl rfl) ?_
  refine reg_cons (guard_no rfl) (op_assign rfl rfl rfl rfl) ?_
  refine reg_cons (guard_no rfl) (op_assign rfl rfl rfl rfl) ?_
  refine reg_nil ?_
  refine post_imp (s' := ⟨48, [(0, some (.pv (.vs 7 (List.map eGCell a0)))), (1, some (.pv (.int .i64 a1))), (2, some (.pv (.int .i64 a2))), (7, some (.lp 0 0))], [(0, some (.box 24 [.pv (.bool a3.fRef), .pv (.int .i64 a3.fN)]))], 1, [], []⟩) (imp_sub [0] rfl rfl (by decide) rfl rfl ⟨rfl, rfl, rfl, rfl, trivial⟩ ⟨rfl, trivial⟩ rfl nolent2) ?_
  refine post_next ?_
  refine aw_seq ?_
  refine aw_region ?_
  refine reg_cons (guard_no rfl) (op_move rfl rfl rfl rfl) ?_
  refine reg_cons (guard_no rfl) (op_move rfl rfl rfl rfl) ?_
  refine reg_cons (guard_no rfl) (op_move rfl rfl rfl rfl) ?_
  obtain ⟨y3, h4, hF⟩ := bind_some hF
  refine reg_cons (guard_no rfl) (op_call 1 rfl (caps := []) (args := [.vs 7 (List.map eGCell a0), .int .i64 a1, .int .i64 a2]) rfl rfl rfl Try_cal_17 (ref35_Get_ok h4) rfl rfl rfl) ?_
  refine reg_cons (guard_no rfl) (op_move rfl rfl rfl rfl) ?_
  refine reg_cons (guard_no rfl) (op_extract rfl rfl rfl rfl rfl) ?_
  refine reg_cons (guard_no rfl) (op_extract rfl rfl rfl rfl rfl) ?_
  refine reg_cons (guard_no rfl) (op_alloc 1 rfl (ps := [.bool (({ fRef := false, fN := 0 } : GVal).fRef), .int .i64 (({ fRef := false, fN := 0 } : GVal).fN)]) rfl Try_zer_24 (by exact ⟨rfl, rfl, trivial⟩) rfl rfl) ?_
  refine reg_cons (guard_no rfl) (op_store_lp (n := 2) rfl rfl rfl rfl rfl (or_agg Try_agg_24) (by rw [Try_non_24]; rfl) rfl rfl) ?_
  refine reg_cons (guard_no rfl) (op_assign rfl rfl rfl rfl) ?_
  refine reg_nil ?_
  refine post_imp (s' := ⟨48, [(0, some (.pv (.vs 7 (List.map eGCell a0)))), (1, some (.pv (.int .i64 a1))), (2, some (.pv (.int .i64 a2))), (7, some (.lp 0 0)), (11, some (.pv (.int .i64 y3.2)))], [(0, some (.box 24 [.pv (.bool a3.fRef), .pv (.int .i64 a3.fN)]))], 1, [], []⟩) (imp_sub [0] rfl rfl (by decide) rfl rfl ⟨rfl, rfl, rfl, rfl, rfl, trivial⟩ ⟨rfl, trivial⟩ rfl nolent2) ?_
  refine post_next ?_
  refine aw_seq ?_
  refine aw_seq ?_
  refine aw_region ?_
  refine reg_cons (guard_no rfl) (op_move rfl rfl rfl rfl) ?_
  refine reg_cons (guard_no rfl) (op_int (k := .i64) (m := y3.2) (n := 0) rfl rfl rfl rfl rfl rfl) ?_
  refine reg_nil ?_
  refine post_imp (s' := ⟨48, [(0, some (.pv (.vs 7 (List.map eGCell a0)))), (1, some (.pv (.int .i64 a1))), (2, some (.pv (.int .i64 a2))), (7, some (.lp 0 0)), (11, some (.pv (.int .i64 y3.2))), (22, some (.pv (.bool (y3.2 != 0))))], [(0, some (.box 24 [.pv (.bool a3.fRef), .pv (.int .i64 a3.fN)]))], 1, [], []⟩) (imp_sub [0] rfl rfl (by decide) rfl rfl ⟨rfl, rfl, rfl, rfl, rfl, rfl, trivial⟩ ⟨rfl, trivial⟩ rfl nolent2) ?_
  refine post_next ?_
  rcases ite_some hF with ⟨hb5, hF⟩ | ⟨hb5, hF⟩
  · refine aw_cond_t rfl hb5 ?_
    refine aw_seq ?_
    refine aw_region ?_
    refine reg_cons (guard_no rfl) (op_move rfl rfl rfl rfl) ?_
    refine reg_cons (guard_no rfl) (op_assign rfl rfl rfl rfl) ?_
    refine reg_cons (guard_no rfl) (op_assign rfl rfl rfl rfl) ?_
    refine reg_nil ?_
    refine post_imp (s' := ⟨48, [(8, some (.pv .nils)), (9, some (.pv (.int .i64 y3.2)))], [], 0, [], []⟩) (imp_sub [] rfl rfl (by decide) rfl rfl ⟨rfl, rfl, trivial⟩ trivial rfl nolent2) ?_
    refine post_next ?_
    refine aw_ret ?_
    refine post_then_ret ?_
    refine post_imp (imp_nil_own 8 30 7 0 rfl rfl) ?_
    obtain rfl := Option.some.inj hF
    exact post_ret rfl rfl rfl (.cons _ _ _ _ _ (.tmp _ _ rfl) (.own _ _ _ _ rfl nolent3) (.cons _ _ _ _ _ (.tmp _ _ rfl) (.p _) .nil)) (.inl rfl)
  · refine aw_cond_f rfl hb5 ?_
    refine aw_skip ?_
    refine post_next ?_
    refine aw_seq ?_
    refine aw_region ?_
    refine reg_cons (guard_no rfl) (op_litOwn 1 rfl (rows := List.map eGCell ([] : List GCell)) (zs := [.str (({ fClass := [], fOwn := (⟨0, 0, 0, 0⟩ : A4 Int), fFields := [], fDead := false } : GCell).fClass), .int .i64 ((({ fClass := [], fOwn := (⟨0, 0, 0, 0⟩ : A4 Int), fFields := [], fDead := false } : GCell).fOwn).a0), .int .i64 ((({ fClass := [], fOwn := (⟨0, 0, 0, 0⟩ : A4 Int), fFields := [], fDead := false } : GCell).fOwn).a1), .int .i64 ((({ fClass := [], fOwn := (⟨0, 0, 0, 0⟩ : A4 Int), fFields := [], fDead := false } : GCell).fOwn).a2), .int .i64 ((({ fClass := [], fOwn := (⟨0, 0, 0, 0⟩ : A4 Int), fFields := [], fDead := false } : GCell).fOwn).a3), .vs 2 (List.map eGVal (({ fClass := [], fOwn := (⟨0, 0, 0, 0⟩ : A4 Int), fFields := [], fDead := false } : GCell).fFields)), .bool (({ fClass := [], fOwn := (⟨0, 0, 0, 0⟩ : A4 Int), fFields := [], fDead := false } : GCell).fDead)]) rfl rfl Try_slc_22 Try_zer_30 (by exact ⟨rfl, rfl, rfl, rfl, rfl, trivial, rfl, trivial⟩) rfl rfl rfl rfl rfl rfl rfl rfl) ?_
    refine reg_cons (guard_no rfl) (op_move rfl rfl rfl rfl) ?_
    obtain ⟨u8, h9, hF⟩ := bind_some hF
    refine reg_cons (guard_no rfl) (op_append 2 rfl rfl rfl rfl rfl nolent3 Try_slc_22 Try_elm_30 Try_zer_30 rfl rfl rfl (room_map (f := eGCell) (g := eGCell) h9) (List.map_append (f := eGCell) (l₁ := ([] : List GCell)) (l₂ := a0)).symm rfl rfl) ?_
    refine reg_cons (guard_no rfl) (op_assign rfl rfl rfl rfl) ?_
    refine reg_nil ?_
    refine post_imp (s' := ⟨48, [(1, some (.pv (.int .i64 a1))), (2, some (.pv (.int .i64 a2))), (7, some (.lp 0 0)), (12, some (.ls 1))], [(0, some (.box 24 [.pv (.bool a3.fRef), .pv (.int .i64 a3.fN)])), (1, some (.row 30 7 (List.map eGCell (([] : List GCell) ++ a0))))], 2, [], []⟩) (imp_sub [0, 2] rfl rfl (by decide) rfl rfl ⟨rfl, rfl, rfl, rfl, trivial⟩ ⟨rfl, rfl, trivial⟩ rfl nolent2) ?_
    refine post_next ?_
    refine aw_seq ?_
    refine aw_region ?_
    refine reg_cons (guard_no rfl) (op_move rfl rfl rfl rfl) ?_
    refine reg_cons (guard_no rfl) (op_move rfl rfl rfl rfl) ?_
    refine reg_cons (guard_no rfl) (op_int (k := .i64) (m := a1) (n := 1) rfl rfl rfl rfl rfl rfl) ?_
    obtain ⟨y12, h13, hF⟩ := bind_some hF
    refine reg_cons (guard_no rfl) (op_index_ls (k := .i64) rfl rfl rfl rfl (idx_map eGCell h13) Try_slc_22 rfl rfl) ?_
    refine reg_cons (guard_no rfl) (op_load_le_agg (ps := eGCell y12) rfl rfl rfl (map_get eGCell h13) rfl rfl Try_agg_30 rfl rfl) ?_
    refine reg_cons (guard_no rfl) (op_alloc 2 rfl (ps := [.str (({ fClass := [], fOwn := (⟨0, 0, 0, 0⟩ : A4 Int), fFields := [], fDead := false } : GCell).fClass), .int .i64 ((({ fClass := [], fOwn := (⟨0, 0, 0, 0⟩ : A4 Int), fFields := [], fDead := false } : GCell).fOwn).a0), .int .i64 ((({ fClass := [], fOwn := (⟨0, 0, 0, 0⟩ : A4 Int), fFields := [], fDead := false } : GCell).fOwn).a1), .int .i64 ((({ fClass := [], fOwn := (⟨0, 0, 0, 0⟩ : A4 Int), fFields := [], fDead := false } : GCell).fOwn).a2), .int .i64 ((({ fClass := [], fOwn := (⟨0, 0, 0, 0⟩ : A4 Int), fFields := [], fDead := false } : GCell).fOwn).a3), .vs 2 (List.map eGVal (({ fClass := [], fOwn := (⟨0, 0, 0, 0⟩ : A4 Int), fFields := [], fDead := false } : GCell).fFields)), .bool (({ fClass := [], fOwn := (⟨0, 0, 0, 0⟩ : A4 Int), fFields := [], fDead := false } : GCell).fDead)]) rfl Try_zer_30 (by exact ⟨rfl, rfl, rfl, rfl, rfl, trivial, rfl, trivial⟩) rfl rfl) ?_
    refine reg_cons (guard_no rfl) (op_store_lp (n := 7) rfl rfl rfl rfl rfl (or_agg Try_agg_30) (by rw [Try_non_30]; rfl) rfl rfl) ?_
    refine reg_nil ?_
    refine post_imp (s' := ⟨48, [(1, some (.pv (.int .i64 a1))), (2, some (.pv (.int .i64 a2))), (7, some (.lp 0 0)), (12, some (.ls 1)), (13, some (.lp 2 0))], [(0, some (.box 24 [.pv (.bool a3.fRef), .pv (.int .i64 a3.fN)])), (1, some (.row 30 7 (List.map eGCell (([] : List GCell) ++ a0)))), (2, some (.box 30 [.pv (.str y12.fClass), .pv (.int .i64 y12.fOwn.a0), .pv (.int .i64 y12.fOwn.a1), .pv (.int .i64 y12.fOwn.a2), .pv (.int .i64 y12.fOwn.a3), .pv (.vs 2 (List.map eGVal y12.fFields)), .pv (.bool y12.fDead)]))], 3, [], []⟩) (imp_sub [0, 1, 2] rfl rfl (by decide) rfl rfl ⟨rfl, rfl, rfl, rfl, rfl, trivial⟩ ⟨rfl, rfl, rfl, trivial⟩ rfl nolent2) ?_
    refine post_next ?_
    refine aw_seq ?_
    refine aw_region ?_
    refine reg_cons (guard_no rfl) (op_litOwn 3 rfl (rows := List.map eGVal ([] : List GVal)) (zs := [.bool (({ fRef := false, fN := 0 } : GVal).fRef), .int .i64 (({ fRef := false, fN := 0 } : GVal).fN)]) rfl rfl Try_slc_28 Try_zer_24 (by exact ⟨rfl, rfl, trivial⟩) rfl rfl rfl rfl rfl rfl rfl rfl) ?_
    refine reg_cons (guard_no rfl) (op_field_lp rfl rfl Try_fld_30_2 rfl rfl) ?_
    refine reg_cons (guard_no rfl) (op_load_lp (v := .pv (.vs 2 (List.map eGVal y12.fFields))) rfl rfl rfl rfl Try_one_28 rfl rfl) ?_
    obtain ⟨u16, h17, hF⟩ := bind_some hF
    refine reg_cons (guard_no rfl) (op_append 4 rfl rfl rfl rfl rfl nolent3 Try_slc_28 Try_elm_24 Try_zer_24 rfl rfl rfl (room_map (f := eGVal) (g := eGVal) h17) (List.map_append (f := eGVal) (l₁ := ([] : List GVal)) (l₂ := y12.fFields)).symm rfl rfl) ?_
    refine reg_cons (guard_no rfl) (op_field_lp rfl rfl Try_fld_30_2 rfl rfl) ?_
    refine reg_cons (guard_no rfl) (op_store_lp (n := 1) rfl rfl rfl rfl rfl (or_one Try_one_28) (by rw [Try_one_28]; rfl) rfl rfl) ?_
    refine reg_nil ?_
    refine post_imp (s' := ⟨48, [(1, some (.pv (.int .i64 a1))), (2, some (.pv (.int .i64 a2))), (7, some (.lp 0 0)), (12, some (.ls 1)), (13, some (.lp 2 0))], [(0, some (.box 24 [.pv (.bool a3.fRef), .pv (.int .i64 a3.fN)])), (1, some (.row 30 7 (List.map eGCell (([] : List GCell) ++ a0)))), (2, some (.box 30 [.pv (.str y12.fClass), .pv (.int .i64 y12.fOwn.a0), .pv (.int .i64 y12.fOwn.a1), .pv (.int .i64 y12.fOwn.a2), .pv (.int .i64 y12.fOwn.a3), .ls 3, .pv (.bool y12.fDead)])), (3, some (.row 24 2 (List.map eGVal (([] : List GVal) ++ y12.fFields))))], 4, [], []⟩) (imp_sub [0, 1, 2, 4] rfl rfl (by decide) rfl rfl ⟨rfl, rfl, rfl, rfl, rfl, trivial⟩ ⟨rfl, rfl, rfl, rfl, trivial⟩ rfl nolent2) ?_
    refine post_next ?_
    refine aw_seq ?_
    refine aw_region ?_
    refine reg_cons (guard_no rfl) (op_field_lp rfl rfl Try_fld_30_2 rfl rfl) ?_
    refine reg_cons (guard_no rfl) (op_load_lp (v := .ls 3) rfl rfl rfl rfl Try_one_28 rfl rfl) ?_
    refine reg_cons (guard_no rfl) (op_move rfl rfl rfl rfl) ?_
    refine reg_cons (guard_no rfl) (op_load_lp_agg (ps := eGVal a3) rfl rfl rfl rfl rfl rfl Try_agg_24 rfl rfl) ?_
    obtain ⟨y20, h21, hF⟩ := bind_some hF
    refine reg_cons (guard_no rfl) (op_index_ls (k := .i64) rfl rfl rfl rfl (idx_map eGVal h21) Try_slc_28 rfl rfl) ?_
    refine reg_cons (guard_no rfl) (op_store_le (n := 2) rfl rfl rfl rfl rfl (map_get eGVal h21) (or_agg Try_agg_24) (by rw [Try_non_24]; rfl) rfl (map_set' eGVal (([] : List GVal) ++ y12.fFields) _ a3) rfl) ?_
    refine reg_nil ?_
    refine post_imp (s' := ⟨48, [(1, some (.pv (.int .i64 a1))), (12, some (.ls 0)), (13, some (.lp 1 0))], [(0, some (.row 30 7 (List.map eGCell (([] : List GCell) ++ a0)))), (1, some (.box 30 [.pv (.str y12.fClass), .pv (.int .i64 y12.fOwn.a0), .pv (.int .i64 y12.fOwn.a1), .pv (.int .i64 y12.fOwn.a2), .pv (.int .i64 y12.fOwn.a3), .ls 2, .pv (.bool y12.fDead)])), (2, some (.row 24 2 (List.map eGVal ((([] : List GVal) ++ y12.fFields).set (a2).toNat a3))))], 3, [], []⟩) (imp_sub [1, 2, 3] rfl rfl (by decide) rfl rfl ⟨rfl, rfl, rfl, trivial⟩ ⟨rfl, rfl, rfl, trivial⟩ rfl nolent2) ?_
    refine post_next ?_
    refine aw_seq ?_
    refine aw_region ?_
    refine reg_cons (guard_no rfl) (op_move rfl rfl rfl rfl) ?_
    refine reg_cons (guard_no rfl) (op_move rfl rfl rfl rfl) ?_
    refine reg_cons (guard_no rfl) (op_int (k := .i64) (m := a1) (n := 1) rfl rfl rfl rfl rfl rfl) ?_
    refine reg_imp (imp_freeze_in [(2, some (.row 24 2 (List.map eGVal ((([] : List GVal) ++ y12.fFields).set (a2).toNat a3))))] [] 1 5 2 (FzH.spec ⟨rfl, trivial⟩) nolent trivial rfl rfl rfl) ?_
    refine reg_cons (guard_no rfl) (op_load_lp_agg (ps := eGCell ({ fClass := y12.fClass, fOwn := (⟨y12.fOwn.a0, y12.fOwn.a1, y12.fOwn.a2, y12.fOwn.a3⟩ : A4 Int), fFields := ((([] : List GVal) ++ y12.fFields).set (a2).toNat a3), fDead := y12.fDead } : GCell)) rfl rfl rfl rfl rfl rfl Try_agg_30 rfl rfl) ?_
    obtain ⟨y22, h23, hF⟩ := bind_some hF
    refine reg_cons (guard_no rfl) (op_index_ls (k := .i64) rfl rfl rfl rfl (idx_map eGCell h23) Try_slc_22 rfl rfl) ?_
    refine reg_cons (guard_no rfl) (op_store_le (n := 7) rfl rfl rfl rfl rfl (map_get eGCell h23) (or_agg Try_agg_30) (by rw [Try_non_30]; rfl) rfl (map_set' eGCell (([] : List GCell) ++ a0) _ ({ fClass := y12.fClass, fOwn := (⟨y12.fOwn.a0, y12.fOwn.a1, y12.fOwn.a2, y12.fOwn.a3⟩ : A4 Int), fFields := ((([] : List GVal) ++ y12.fFields).set (a2).toNat a3), fDead := y12.fDead } : GCell)) rfl) ?_
    refine reg_nil ?_
    refine post_imp (s' := ⟨48, [(12, some (.ls 0))], [(0, some (.row 30 7 (List.map eGCell ((([] : List GCell) ++ a0).set (w_i64 (a1 - 1)).toNat ({ fClass := y12.fClass, fOwn := (⟨y12.fOwn.a0, y12.fOwn.a1, y12.fOwn.a2, y12.fOwn.a3⟩ : A4 Int), fFields := ((([] : List GVal) ++ y12.fFields).set (a2).toNat a3), fDead := y12.fDead } : GCell)))))], 1, [], []⟩) (imp_sub [0] rfl rfl (by decide) rfl rfl ⟨rfl, trivial⟩ ⟨rfl, trivial⟩ rfl nolent2) ?_
    refine post_next ?_
    refine aw_seq ?_
    refine aw_region ?_
    refine reg_cons (guard_no rfl) (op_move rfl rfl rfl rfl) ?_
    refine reg_cons (guard_no rfl) (op_assign rfl rfl rfl rfl) ?_
    refine reg_cons (guard_no rfl) (op_assign rfl rfl rfl rfl) ?_
    refine reg_nil ?_
    refine post_imp (s' := ⟨48, [(8, some (.ls 0)), (9, some (.pv (.int .i64 0)))], [(0, some (.row 30 7 (List.map eGCell ((([] : List GCell) ++ a0).set (w_i64 (a1 - 1)).toNat ({ fClass := y12.fClass, fOwn := (⟨y12.fOwn.a0, y12.fOwn.a1, y12.fOwn.a2, y12.fOwn.a3⟩ : A4 Int), fFields := ((([] : List GVal) ++ y12.fFields).set (a2).toNat a3), fDead := y12.fDead } : GCell)))))], 1, [], []⟩) (imp_sub [0] rfl rfl (by decide) rfl rfl ⟨rfl, rfl, trivial⟩ ⟨rfl, trivial⟩ rfl nolent2) ?_
    refine post_next ?_
    refine aw_ret ?_
    obtain rfl := Option.some.inj hF
    exact post_ret rfl rfl rfl (.cons _ _ _ _ _ (.tmp _ _ rfl) (.own _ _ _ _ rfl nolent3) (.cons _ _ _ _ _ (.tmp _ _ rfl) (.p _) .nil)) (.inl rfl)
end Go.Proofs.Ytdffghiejjaomaa
