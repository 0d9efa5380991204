/- A part of the proof that the law FieldFind gives true for every input. -/
import Derived.Test.YtpbbeljmmabeeaaFieldFindT
import Derived.Test.YtpbbeljmmabeeaaFieldFindX
import Derived.Test.YtpbbeljmmabeeaaFieldFindI
/- Each Go function computes its plain function. -/
namespace Go.Proofs.Ytpbbeljmmabeeaa
open Go.RowKit Go.Abs
set_option maxRecDepth 100000
theorem law16_great_ok {a0 : List GClass} {r : Bool} (hF : law16_great a0 = some r) : Abs.Fn Try.prog 48 [.vs 7 (List.map eGClass a0)] [.p (.bool r)] := by
  unfold law16_great at hF
  refine fn_of_body (n := 20) Try.func48 rfl rfl rfl ?_
  intro w O
  refine aw_seq ?_
  refine aw_region ?_
  refine reg_cons (guard_no rfl) (op_assign rfl rfl rfl rfl) ?_
  refine reg_nil ?_
  refine post_imp (s' := ⟨20, [(0, some (.pv (.vs 7 (List.map eGClass a0))))], [], 0, [], [], 0, []⟩) (imp_sub [] rfl (by decide) rfl rfl ⟨by kernel_rfl, trivial⟩ trivial rfl rfl rfl) ?_
  refine post_next ?_
  refine aw_seq ?_
  refine aw_seq ?_
  refine aw_region ?_
  refine reg_cons (guard_no rfl) (op_assign rfl rfl rfl rfl) ?_
  refine reg_nil ?_
  refine post_imp (s' := ⟨20, [(0, some (.pv (.vs 7 (List.map eGClass a0)))), (3, some (.pv (.int .i64 0)))], [], 0, [], [], 0, []⟩) (imp_sub [] rfl (by decide) rfl rfl ⟨by kernel_rfl, by kernel_rfl, trivial⟩ trivial rfl rfl rfl) ?_
  refine post_next ?_
  obtain ⟨lr22, hF, hK23⟩ := bind_some hF
  refine aw_for ((((a0.length : Int) : Int) - (0)).toNat + 1) (fun s1 => ∃ q, lr22 = .next q ∧ s1 = ⟨20, [(0, some (.pv (.vs 7 (List.map eGClass a0))))], [], 0, [], [], 0, []⟩) ?_ ?_
  · refine rnd_loop (α := Int) (fun q => ⟨20, [(0, some (.pv (.vs 7 (List.map eGClass a0)))), (3, some (.pv (.int .i64 q)))], [], 0, [], [], 0, []⟩) (fun k q => law16_great_L1 a0 k q = some lr22) 0 (imp_sub [] rfl (by decide) rfl rfl ⟨by kernel_rfl, by kernel_rfl, trivial⟩ trivial rfl rfl rfl) hF (fun q h => by cases h) ?_
    clear hF
    rintro k x7 hF ih
    refine rnd_succ ?_
    refine aw_seq ?_
    refine aw_seq ?_
    refine aw_region ?_
    refine reg_cons (guard_no rfl) (op_move rfl rfl rfl rfl) ?_
    refine reg_cons (guard_no rfl) (op_move rfl rfl rfl rfl) ?_
    refine reg_cons (guard_no rfl) (op_len_vs (n := a0.length) rfl rfl (List.length_map ..) Try_slc_45 rfl rfl) ?_
    refine reg_cons (guard_no rfl) (op_int (k := .i64) (m := x7) (n := (a0.length : Int)) rfl rfl rfl rfl rfl rfl) ?_
    refine reg_nil ?_
    refine post_imp (s' := ⟨20, [(0, some (.pv (.vs 7 (List.map eGClass a0)))), (3, some (.pv (.int .i64 x7))), (7, some (.pv (.bool (decide (x7 < (a0.length : Int))))))], [], 0, [], [], 0, []⟩) (imp_sub [] rfl (by decide) rfl rfl ⟨by kernel_rfl, by kernel_rfl, by kernel_rfl, trivial⟩ trivial rfl rfl rfl) ?_
    refine post_next ?_
    rcases ite_some hF with ⟨hb15, hF⟩ | ⟨hb15, hF⟩
    · refine aw_cond_t rfl hb15 ?_
      refine aw_skip ?_
      refine post_next ?_
      refine aw_seq ?_
      refine aw_block ?_
      refine aw_seq ?_
      refine aw_region ?_
      refine reg_cons (guard_no rfl) (op_move rfl rfl rfl rfl) ?_
      refine reg_cons (guard_no rfl) (op_move rfl rfl rfl rfl) ?_
      obtain ⟨y18, h19, hF⟩ := bind_some hF
      refine reg_cons (guard_no rfl) (op_index_vs (k := .i64) rfl rfl rfl (idx_map eGClass h19) Try_slc_45 rfl rfl) ?_
      refine reg_cons (guard_no rfl) (op_field_vp rfl rfl Try_fld_94_4 rfl rfl) ?_
      refine reg_cons (guard_no rfl) (op_load_vp (p := .vs 13 (List.map eGVar y18.fFields)) rfl rfl rfl Try_one_91 rfl rfl) ?_
      refine reg_cons (guard_no rfl) (op_len_vs (n := y18.fFields.length) rfl rfl (List.length_map ..) Try_slc_91 rfl rfl) ?_
      refine reg_cons (guard_no rfl) (op_int (k := .i64) (m := (y18.fFields.length : Int)) (n := 40) rfl rfl rfl rfl rfl rfl) ?_
      refine reg_nil ?_
      refine post_imp (s' := ⟨20, [(0, some (.pv (.vs 7 (List.map eGClass a0)))), (3, some (.pv (.int .i64 x7))), (16, some (.pv (.bool (decide ((y18.fFields.length : Int) > 40)))))], [], 0, [], [], 0, []⟩) (imp_sub [] rfl (by decide) rfl rfl ⟨by kernel_rfl, by kernel_rfl, by kernel_rfl, trivial⟩ trivial rfl rfl rfl) ?_
      refine post_next ?_
      rcases ite_some hF with ⟨hb20, hF⟩ | ⟨hb20, hF⟩
      · refine aw_cond_t rfl hb20 ?_
        refine aw_seq ?_
        refine aw_region ?_
        refine reg_cons (guard_no rfl) (op_assign rfl rfl rfl rfl) ?_
        refine reg_nil ?_
        refine post_imp (s' := ⟨20, [(2, some (.pv (.bool true)))], [], 0, [], [], 0, []⟩) (imp_sub [] rfl (by decide) rfl rfl ⟨by kernel_rfl, trivial⟩ trivial rfl rfl rfl) ?_
        refine post_next ?_
        refine aw_ret ?_
        refine post_block_ret ?_
        refine post_then_ret ?_
        refine post_then_ret ?_
        refine post_lp_ret ?_
        obtain rfl := Option.some.inj hF
        have hF := elim_stop hK23
        refine post_then_ret ?_
        obtain rfl := Option.some.inj hF
        exact post_ret rfl rfl (.cons _ _ _ _ _ (.tmp _ _ rfl) (.p _) .nil) (.inl rfl)
      · refine aw_cond_f rfl hb20 ?_
        refine aw_skip ?_
        refine post_block_normal ?_
        refine post_next ?_
        refine aw_region ?_
        refine reg_cons (guard_no rfl) (op_move rfl rfl rfl rfl) ?_
        refine reg_cons (guard_no rfl) (op_int (k := .i64) (m := x7) (n := 1) rfl rfl rfl rfl rfl rfl) ?_
        refine reg_cons (guard_no rfl) (op_assign rfl rfl rfl rfl) ?_
        refine reg_nil ?_
        refine post_round ?_
        exact rnd_back (ih (w_i64 (x7 + 1)) hF) (imp_sub [] rfl (by decide) rfl rfl ⟨by kernel_rfl, by kernel_rfl, trivial⟩ trivial rfl rfl rfl)
    · refine aw_cond_f rfl hb15 ?_
      refine aw_exit ?_
      refine post_then_exit ?_
      refine post_then_exit ?_
      obtain rfl := Option.some.inj hF
      exact post_lp_break _ ⟨_, rfl, rfl⟩ (imp_sub [] rfl (by decide) rfl rfl ⟨by kernel_rfl, trivial⟩ trivial rfl rfl rfl)
  · rintro _ ⟨⟨⟩, rfl, rfl⟩
    have hF := elim_next hK23
    clear hK23
    refine post_next ?_
    refine aw_seq ?_
    refine aw_region ?_
    refine reg_cons (guard_no rfl) (op_move rfl rfl rfl rfl) ?_
    refine reg_cons (guard_no rfl) (op_len_vs (n := a0.length) rfl rfl (List.length_map ..) Try_slc_45 rfl rfl) ?_
    refine reg_cons (guard_no rfl) (op_int (k := .i64) (m := (a0.length : Int)) (n := 30) rfl rfl rfl rfl rfl rfl) ?_
    refine reg_cons (guard_no rfl) (op_assign rfl rfl rfl rfl) ?_
    refine reg_nil ?_
    refine post_imp (s' := ⟨20, [(2, some (.pv (.bool (decide ((a0.length : Int) > 30)))))], [], 0, [], [], 0, []⟩) (imp_sub [] rfl (by decide) rfl rfl ⟨by kernel_rfl, trivial⟩ trivial rfl rfl rfl) ?_
    refine post_next ?_
    refine aw_ret ?_
    obtain rfl := Option.some.inj hF
    exact post_ret rfl rfl (.cons _ _ _ _ _ (.tmp _ _ rfl) (.p _) .nil) (.inl rfl)
theorem above_up_ok {a0 : List GClass} {a1 : List UInt8} {r : (List GClass) × (List UInt8)} (hF : above_up a0 a1 = some r) : Abs.Fn Try.prog 67 [.vs 7 (List.map eGClass a0), .str a1] [.clo 81 [.vp ((eL 7 eGClass) r.1)] 9 [.str r.2] []] := by
  unfold above_up at hF
  refine fn_of_body (n := 6) Try.func67 rfl rfl rfl ?_
  intro w O
  refine aw_seq ?_
  refine aw_region ?_
  refine reg_cons (guard_no rfl) (op_box 0 rfl rfl rfl rfl rfl rfl) ?_
  refine reg_cons (guard_no rfl) (op_box 1 rfl rfl rfl rfl rfl rfl) ?_
  refine reg_cons (guard_no rfl) (op_assign rfl rfl rfl rfl) ?_
  refine reg_nil ?_
  refine post_imp (s' := ⟨6, [(2, some (.lp 0 0)), (3, some (.lp 1 0))], [(0, some (.box 45 [.pv (.vs 7 (List.map eGClass a0))])), (1, some (.box 9 [.pv (.str a1)]))], 2, [], [], 0, []⟩) (imp_sub [0, 1] rfl (by decide) rfl rfl ⟨by kernel_rfl, by kernel_rfl, trivial⟩ ⟨by kernel_rfl, by kernel_rfl, trivial⟩ rfl rfl rfl) ?_
  refine post_next ?_
  refine aw_seq ?_
  refine aw_region ?_
  refine reg_cons (guard_no rfl) (op_makeFunc rfl rfl rfl rfl) ?_
  refine reg_cons (guard_no rfl) (op_assign rfl rfl rfl rfl) ?_
  refine reg_nil ?_
  refine post_imp (s' := ⟨6, [(4, some (.fn 81 [.lp 0 0, .lp 1 0]))], [(0, some (.box 45 [.pv (.vs 7 (List.map eGClass a0))])), (1, some (.box 9 [.pv (.str a1)]))], 2, [], [], 0, []⟩) (imp_sub [0, 1] rfl (by decide) rfl rfl ⟨by kernel_rfl, trivial⟩ ⟨by kernel_rfl, by kernel_rfl, trivial⟩ rfl rfl rfl) ?_
  refine post_next ?_
  refine aw_ret ?_
  refine post_imp (imp_freeze_cap 4 0 [.pv (.vp ((eL 7 eGClass) a0)), .lp 1 0] rfl rfl rfl rfl ⟨.inr ⟨rfl, rfl⟩, .inl rfl, trivial⟩) ?_
  obtain rfl := Option.some.inj hF
  exact post_ret rfl rfl (.cons _ _ _ _ _ (.tmp _ _ rfl) (.clo 81 [.vp ((eL 7 eGClass) a0)] [] 1 9 [.str a1] rfl nolent3) .nil) (.inl rfl)
theorem slices_IndexFunc_api_Class_ok {a0 : List GClass} {q1 : GClass → Option Bool} {r : Int} {q1_f : Nat} {q1_c : List PV} (q1_b : callB Try.prog q1_f = true) (q1_h : ∀ (x0 : GClass) (r : Bool), q1 x0 = some r → Abs.Fn Try.prog q1_f ([.agg (eGClass x0)] ++ q1_c) [.p (.bool r)]) (hF : slices_IndexFunc_api_Class a0 q1 = some r) : Abs.Fn Try.prog 83 [.vs 7 (List.map eGClass a0), .fn q1_f q1_c] [.p (.int .i64 r)] := by
  unfold slices_IndexFunc_api_Class at hF
  refine fn_of_body (n := 19) Try.func83 rfl rfl rfl ?_
  intro w O
  refine aw_seq ?_
  refine aw_region ?_
  refine reg_cons (guard_no rfl) (op_assign rfl rfl rfl rfl) ?_
  refine reg_nil ?_
  refine post_imp (s' := ⟨19, [(0, some (.pv (.vs 7 (List.map eGClass a0)))), (1, some (.pv (.fn q1_f q1_c)))], [], 0, [], [], 0, []⟩) (imp_sub [] rfl (by decide) rfl rfl ⟨by kernel_rfl, by kernel_rfl, trivial⟩ trivial rfl rfl rfl) ?_
  refine post_next ?_
  refine aw_seq ?_
  refine aw_seq ?_
  refine aw_region ?_
  refine reg_cons (guard_no rfl) (op_move rfl rfl rfl rfl) ?_
  refine reg_cons (guard_no rfl) (op_len_vs (n := a0.length) rfl rfl (List.length_map ..) Try_slc_45 rfl rfl) ?_
  refine reg_cons (guard_no rfl) (op_move rfl rfl rfl rfl) ?_
  refine reg_nil ?_
  refine post_imp (s' := ⟨19, [(0, some (.pv (.vs 7 (List.map eGClass a0)))), (1, some (.pv (.fn q1_f q1_c))), (7, some (.pv (.int .i64 (a0.length : Int)))), (8, some (.pv (.int .i64 0)))], [], 0, [], [], 0, []⟩) (imp_sub [] rfl (by decide) rfl rfl ⟨by kernel_rfl, by kernel_rfl, by kernel_rfl, by kernel_rfl, trivial⟩ trivial rfl rfl rfl) ?_
  refine post_next ?_
  obtain ⟨lr34, hF, hK35⟩ := bind_some hF
  refine aw_for ((((a0.length : Int) : Int) - (0)).toNat + 1) (fun s1 => ∃ q, lr34 = .next q ∧ s1 = ⟨19, [], [], 0, [], [], 0, []⟩) ?_ ?_
  · refine rnd_loop (α := Int) (fun q => ⟨19, [(0, some (.pv (.vs 7 (List.map eGClass a0)))), (1, some (.pv (.fn q1_f q1_c))), (7, some (.pv (.int .i64 (a0.length : Int)))), (8, some (.pv (.int .i64 q)))], [], 0, [], [], 0, []⟩) (fun k q => slices_IndexFunc_api_Class_L1 a0 q1 k q = some lr34) 0 (imp_sub [] rfl (by decide) rfl rfl ⟨by kernel_rfl, by kernel_rfl, by kernel_rfl, by kernel_rfl, trivial⟩ trivial rfl rfl rfl) hF (fun q h => by cases h) ?_
    clear hF
    rintro k x11 hF ih
    refine rnd_succ ?_
    refine aw_seq ?_
    refine aw_region ?_
    refine reg_cons (guard_no rfl) (op_int (k := .i64) (m := x11) (n := (a0.length : Int)) rfl rfl rfl rfl rfl rfl) ?_
    refine reg_nil ?_
    refine post_imp (s' := ⟨19, [(0, some (.pv (.vs 7 (List.map eGClass a0)))), (1, some (.pv (.fn q1_f q1_c))), (7, some (.pv (.int .i64 (a0.length : Int)))), (8, some (.pv (.int .i64 x11))), (9, some (.pv (.bool (decide (x11 < (a0.length : Int))))))], [], 0, [], [], 0, []⟩) (imp_sub [] rfl (by decide) rfl rfl ⟨by kernel_rfl, by kernel_rfl, by kernel_rfl, by kernel_rfl, by kernel_rfl, trivial⟩ trivial rfl rfl rfl) ?_
    refine post_next ?_
    refine aw_seq ?_
    rcases ite_some hF with ⟨hb23, hF⟩ | ⟨hb23, hF⟩
    · refine aw_cond_t rfl hb23 ?_
      refine aw_skip ?_
      refine post_next ?_
      refine aw_seq ?_
      refine aw_block ?_
      refine aw_seq ?_
      refine aw_region ?_
      refine reg_cons (guard_no rfl) (op_move rfl rfl rfl rfl) ?_
      refine reg_cons (guard_no rfl) (op_assign rfl rfl rfl rfl) ?_
      refine reg_nil ?_
      refine post_imp (s' := ⟨19, [(0, some (.pv (.vs 7 (List.map eGClass a0)))), (1, some (.pv (.fn q1_f q1_c))), (5, some (.pv (.int .i64 x11))), (7, some (.pv (.int .i64 (a0.length : Int)))), (8, some (.pv (.int .i64 x11)))], [], 0, [], [], 0, []⟩) (imp_sub [] rfl (by decide) rfl rfl ⟨by kernel_rfl, by kernel_rfl, by kernel_rfl, by kernel_rfl, by kernel_rfl, trivial⟩ trivial rfl rfl rfl) ?_
      refine post_next ?_
      refine aw_seq ?_
      refine aw_region ?_
      refine reg_cons (guard_no rfl) (op_move rfl rfl rfl rfl) ?_
      refine reg_cons (guard_no rfl) (op_move rfl rfl rfl rfl) ?_
      refine reg_cons (guard_no rfl) (op_move rfl rfl rfl rfl) ?_
      obtain ⟨y28, h29, hF⟩ := bind_some hF
      refine reg_cons (guard_no rfl) (op_index_vs (k := .i64) rfl rfl rfl (idx_map eGClass h29) Try_slc_45 rfl rfl) ?_
      refine reg_cons (guard_no rfl) (op_load_vp_agg (ps := eGClass y28) rfl rfl rfl rfl Try_agg_94 rfl rfl) ?_
      obtain ⟨y30, h31, hF⟩ := bind_some hF
      refine reg_cons (guard_no rfl) (op_call 0 rfl (caps := q1_c) (args := [.agg (eGClass y28)]) (rs := [.p (.bool y30)]) rfl rfl rfl q1_b (q1_h y28 _ h31) rfl rfl rfl) ?_
      refine reg_nil ?_
      refine post_imp (s' := ⟨19, [(0, some (.pv (.vs 7 (List.map eGClass a0)))), (1, some (.pv (.fn q1_f q1_c))), (5, some (.pv (.int .i64 x11))), (7, some (.pv (.int .i64 (a0.length : Int)))), (8, some (.pv (.int .i64 x11))), (16, some (.pv (.bool y30)))], [], 0, [], [], 0, []⟩) (imp_sub [] rfl (by decide) rfl rfl ⟨by kernel_rfl, by kernel_rfl, by kernel_rfl, by kernel_rfl, by kernel_rfl, by kernel_rfl, trivial⟩ trivial rfl rfl rfl) ?_
      refine post_next ?_
      rcases ite_some hF with ⟨hb32, hF⟩ | ⟨hb32, hF⟩
      · refine aw_cond_t rfl hb32 ?_
        refine aw_seq ?_
        refine aw_region ?_
        refine reg_cons (guard_no rfl) (op_move rfl rfl rfl rfl) ?_
        refine reg_cons (guard_no rfl) (op_assign rfl rfl rfl rfl) ?_
        refine reg_nil ?_
        refine post_imp (s' := ⟨19, [(4, some (.pv (.int .i64 x11)))], [], 0, [], [], 0, []⟩) (imp_sub [] rfl (by decide) rfl rfl ⟨by kernel_rfl, trivial⟩ trivial rfl rfl rfl) ?_
        refine post_next ?_
        refine aw_ret ?_
        refine post_block_ret ?_
        refine post_then_ret ?_
        refine post_then_ret ?_
        refine post_lp_ret ?_
        obtain rfl := Option.some.inj hF
        have hF := elim_stop hK35
        refine post_then_ret ?_
        obtain rfl := Option.some.inj hF
        exact post_ret rfl rfl (.cons _ _ _ _ _ (.tmp _ _ rfl) (.p _) .nil) (.inl rfl)
      · refine aw_cond_f rfl hb32 ?_
        refine aw_skip ?_
        refine post_block_normal ?_
        refine post_next ?_
        refine aw_region ?_
        refine reg_cons (guard_no rfl) (op_int (k := .i64) (m := x11) (n := 1) rfl rfl rfl rfl rfl rfl) ?_
        refine reg_cons (guard_no rfl) (op_move rfl rfl rfl rfl) ?_
        refine reg_nil ?_
        refine post_round ?_
        exact rnd_back (ih (w_i64 (x11 + 1)) hF) (imp_sub [] rfl (by decide) rfl rfl ⟨by kernel_rfl, by kernel_rfl, by kernel_rfl, by kernel_rfl, trivial⟩ trivial rfl rfl rfl)
    · refine aw_cond_f rfl hb23 ?_
      refine aw_exit ?_
      refine post_then_exit ?_
      refine post_then_exit ?_
      obtain rfl := Option.some.inj hF
      exact post_lp_break _ ⟨_, rfl, rfl⟩ (imp_sub [] rfl (by decide) rfl rfl trivial trivial rfl rfl rfl)
  · rintro _ ⟨⟨⟩, rfl, rfl⟩
    have hF := elim_next hK35
    clear hK35
    refine post_next ?_
    refine aw_seq ?_
    refine aw_region ?_
    refine reg_cons (guard_no rfl) (op_assign rfl rfl rfl rfl) ?_
    refine reg_nil ?_
    refine post_imp (s' := ⟨19, [(4, some (.pv (.int .i64 (-1))))], [], 0, [], [], 0, []⟩) (imp_sub [] rfl (by decide) rfl rfl ⟨by kernel_rfl, trivial⟩ trivial rfl rfl rfl) ?_
    refine post_next ?_
    refine aw_ret ?_
    obtain rfl := Option.some.inj hF
    exact post_ret rfl rfl (.cons _ _ _ _ _ (.tmp _ _ rfl) (.p _) .nil) (.inl rfl)
theorem table_Find_1_ok {a0 : GClass} {c0 : List UInt8} {r : Bool} (hF : table_Find_1 a0 c0 = some r) : Abs.Fn Try.prog 84 [.agg (eGClass a0), .vp (eS c0)] [.p (.bool r)] := by
  unfold table_Find_1 at hF
  refine fn_of_body (n := 8) Try.func84 rfl rfl rfl ?_
  intro w O
  refine aw_seq ?_
  refine aw_region ?_
  refine reg_cons (guard_no rfl) (op_box 0 rfl rfl rfl rfl rfl rfl) ?_
  refine reg_cons (guard_no rfl) (op_assign rfl rfl rfl rfl) ?_
  refine reg_nil ?_
  refine post_imp (s' := ⟨8, [(1, some (.pv (.vp (eS c0)))), (2, some (.lp 0 0))], [(0, some (.box 94 [.pv (.str a0.fName), .pv (.vs 1 (List.map eS a0.fParams)), .pv (.str a0.fSuper), .pv (.vs 2 (List.map eGOwner a0.fAbove)), .pv (.vs 13 (List.map eGVar a0.fFields)), .pv (.vs 17 (List.map eGMethod a0.fMethods)), .pv (.int .i64 a0.fAt)]))], 1, [], [], 0, []⟩) (imp_sub [0] rfl (by decide) rfl rfl ⟨by kernel_rfl, by kernel_rfl, trivial⟩ ⟨by kernel_rfl, trivial⟩ rfl rfl rfl) ?_
  refine post_next ?_
  refine aw_seq ?_
  refine aw_region ?_
  refine reg_cons (guard_no rfl) (op_field_lp rfl rfl Try_fld_94_0 rfl rfl) ?_
  refine reg_cons (guard_no rfl) (op_load_lp (v := .pv (.str a0.fName)) rfl rfl rfl rfl Try_one_9 rfl rfl) ?_
  refine reg_cons (guard_no rfl) (op_load_vp (p := .str c0) rfl rfl rfl Try_one_9 rfl rfl) ?_
  refine reg_cons (guard_no rfl) (op_str rfl rfl rfl rfl rfl rfl) ?_
  refine reg_cons (guard_no rfl) (op_assign rfl rfl rfl rfl) ?_
  refine reg_nil ?_
  refine post_imp (s' := ⟨8, [(3, some (.pv (.bool (a0.fName == c0))))], [], 0, [], [], 0, []⟩) (imp_sub [] rfl (by decide) rfl rfl ⟨by kernel_rfl, trivial⟩ trivial rfl rfl rfl) ?_
  refine post_next ?_
  refine aw_ret ?_
  obtain rfl := Option.some.inj hF
  exact post_ret rfl rfl (.cons _ _ _ _ _ (.tmp _ _ rfl) (.p _) .nil) (.inl rfl)
theorem table_Find_ok {a0 : List GClass} {a1 : List UInt8} {r : Int} (hF : table_Find a0 a1 = some r) : Abs.Fn Try.prog 71 [.vs 7 (List.map eGClass a0), .str a1] [.p (.int .i64 r)] := by
  unfold table_Find at hF
  refine fn_of_body (n := 8) Try.func71 rfl rfl rfl ?_
  intro w O
  refine aw_seq ?_
  refine aw_region ?_
  refine reg_cons (guard_no rfl) (op_box 0 rfl rfl rfl rfl rfl rfl) ?_
  refine reg_cons (guard_no rfl) (op_assign rfl rfl rfl rfl) ?_
  refine reg_nil ?_
  refine post_imp (s' := ⟨8, [(0, some (.pv (.vs 7 (List.map eGClass a0)))), (3, some (.lp 0 0))], [(0, some (.box 9 [.pv (.str a1)]))], 1, [], [], 0, []⟩) (imp_sub [0] rfl (by decide) rfl rfl ⟨by kernel_rfl, by kernel_rfl, trivial⟩ ⟨by kernel_rfl, trivial⟩ rfl rfl rfl) ?_
  refine post_next ?_
  refine aw_seq ?_
  refine aw_region ?_
  refine reg_cons (guard_no rfl) (op_move rfl rfl rfl rfl) ?_
  refine reg_cons (guard_no rfl) (op_makeFunc rfl rfl rfl rfl) ?_
  obtain ⟨y2, h3, hF⟩ := bind_some hF
  refine reg_cons (guard_no rfl) (op_callB 1 rfl (caps := []) (args := [.vs 7 (List.map eGClass a0), .fn 84 [.vp (eS a1)]]) [(0, some (.box 9 [.pv (.str a1)]))] rfl rfl rfl (FzH.spec ⟨rfl, trivial⟩) rfl rfl Try_cal_83 (slices_IndexFunc_api_Class_ok (q1_f := 84) (q1_c := [.vp (eS a1)]) (q1_b := Try_cal_84) (q1_h := fun _ r h => (table_Find_1_ok h)) h3) rfl rfl rfl) ?_
  refine reg_cons (guard_no rfl) (op_assign rfl rfl rfl rfl) ?_
  refine reg_nil ?_
  refine post_imp (s' := ⟨8, [(4, some (.pv (.int .i64 y2)))], [], 0, [], [], 0, []⟩) (imp_sub [] rfl (by decide) rfl rfl ⟨by kernel_rfl, trivial⟩ trivial rfl rfl rfl) ?_
  refine post_next ?_
  refine aw_ret ?_
  obtain rfl := Option.some.inj hF
  exact post_ret rfl rfl (.cons _ _ _ _ _ (.tmp _ _ rfl) (.p _) .nil) (.inl rfl)
theorem above_up_1_it {rows : List (Int)} {sp : Nat} {c0 : List GClass} {c1 : List UInt8} (hF : above_up_1 rows sp c0 c1 = some (min (sp + 1) rows.length)) : It Try.prog 81 1 [.vp ((eL 7 eGClass) c0)] (some (9, [.str c1])) [] (rows.map (fun z : Int => ([.int .i64 z] : List PV))) sp := by
  unfold above_up_1 at hF
  refine it_of_body (n := 29) Try.func81 rfl rfl rfl ?_
  intro l c hcx
  refine aw_seq ?_
  refine aw_region ?_
  refine reg_cons (guard_no rfl) (op_load_vp (p := .vs 7 (List.map eGClass c0)) rfl rfl rfl Try_one_45 rfl rfl) ?_
  refine reg_cons (guard_no rfl) (op_len_vs (n := c0.length) rfl rfl (List.length_map ..) Try_slc_45 rfl rfl) ?_
  refine reg_cons (guard_no rfl) (op_int (k := .i64) (m := (c0.length : Int)) (n := 1) rfl rfl rfl rfl rfl rfl) ?_
  refine reg_cons (guard_no rfl) (op_move rfl rfl rfl rfl) ?_
  refine reg_nil ?_
  refine post_imp (s' := ⟨29, [(0, some (.pv (.yld l))), (1, some (.pv (.vp ((eL 7 eGClass) c0)))), (2, some (.lp 0 0)), (7, some (.pv (.int .i64 (w_i64 ((c0.length : Int) + 1))))), (8, some (.pv (.int .i64 0)))], [(0, some (.box 9 [.pv (.str c1)]))], 1, [], [], 0, []⟩) (imp_sub [0] rfl (by decide) rfl rfl ⟨by kernel_rfl, by kernel_rfl, by kernel_rfl, by kernel_rfl, by kernel_rfl, trivial⟩ ⟨by kernel_rfl, trivial⟩ rfl rfl rfl) ?_
  refine post_next ?_
  obtain ⟨lr65, hF, hK66⟩ := bind_some hF
  refine aw_for ((((w_i64 ((c0.length : Int) + 1)) : Int) - (0)).toNat + 1) (fun s1 => ∃ q, lr65 = .next q ∧ s1 = ⟨29, [], [], 0, [], [], q, []⟩) ?_ ?_
  · refine rnd_loop (α := Nat × (List UInt8) × Int) (fun q => ⟨29, [(0, some (.pv (.yld l))), (1, some (.pv (.vp ((eL 7 eGClass) c0)))), (2, some (.lp 0 0)), (7, some (.pv (.int .i64 (w_i64 ((c0.length : Int) + 1))))), (8, some (.pv (.int .i64 q.2.2)))], [(0, some (.box 9 [.pv (.str q.2.1)]))], 1, [], [], q.1, []⟩) (fun k q => above_up_1_L1 c0 sp rows k q.1 q.2.1 q.2.2 = some lr65) (0, c1, 0) (imp_sub [0] rfl (by decide) rfl rfl ⟨by kernel_rfl, by kernel_rfl, by kernel_rfl, by kernel_rfl, by kernel_rfl, trivial⟩ ⟨by kernel_rfl, trivial⟩ rfl rfl rfl) hF (fun q h => by cases h) ?_
    clear hF
    rintro k ⟨x19, x20, x21⟩ hF ih
    refine rnd_succ ?_
    refine aw_seq ?_
    refine aw_region ?_
    refine reg_cons (guard_no rfl) (op_int (k := .i64) (m := x21) (n := w_i64 ((c0.length : Int) + 1)) rfl rfl rfl rfl rfl rfl) ?_
    refine reg_nil ?_
    refine post_imp (s' := ⟨29, [(0, some (.pv (.yld l))), (1, some (.pv (.vp ((eL 7 eGClass) c0)))), (2, some (.lp 0 0)), (7, some (.pv (.int .i64 (w_i64 ((c0.length : Int) + 1))))), (8, some (.pv (.int .i64 x21))), (9, some (.pv (.bool (decide (x21 < (w_i64 ((c0.length : Int) + 1)))))))], [(0, some (.box 9 [.pv (.str x20)]))], 1, [], [], x19, []⟩) (imp_sub [0] rfl (by decide) rfl rfl ⟨by kernel_rfl, by kernel_rfl, by kernel_rfl, by kernel_rfl, by kernel_rfl, by kernel_rfl, trivial⟩ ⟨by kernel_rfl, trivial⟩ rfl rfl rfl) ?_
    refine post_next ?_
    refine aw_seq ?_
    rcases ite_some hF with ⟨hb43, hF⟩ | ⟨hb43, hF⟩
    · refine aw_cond_t rfl hb43 ?_
      refine aw_skip ?_
      refine post_next ?_
      refine aw_seq ?_
      refine aw_block ?_
      refine aw_seq ?_
      refine aw_region ?_
      refine reg_cons (guard_no rfl) (op_load_vp (p := .vs 7 (List.map eGClass c0)) rfl rfl rfl Try_one_45 rfl rfl) ?_
      refine reg_cons (guard_no rfl) (op_load_lp (v := .pv (.str x20)) rfl rfl rfl rfl Try_one_9 rfl rfl) ?_
      obtain ⟨y46, h47, hF⟩ := bind_some hF
      refine reg_cons (guard_no rfl) (op_call 1 rfl (caps := []) (args := [.vs 7 (List.map eGClass c0), .str x20]) (rs := [.p (.int .i64 y46)]) rfl rfl rfl Try_cal_71 (table_Find_ok h47) rfl rfl rfl) ?_
      refine reg_cons (guard_no rfl) (op_assign rfl rfl rfl rfl) ?_
      refine reg_nil ?_
      refine post_imp (s' := ⟨29, [(0, some (.pv (.yld l))), (1, some (.pv (.vp ((eL 7 eGClass) c0)))), (2, some (.lp 0 0)), (4, some (.pv (.int .i64 y46))), (7, some (.pv (.int .i64 (w_i64 ((c0.length : Int) + 1))))), (8, some (.pv (.int .i64 x21)))], [(0, some (.box 9 [.pv (.str x20)]))], 1, [], [], x19, []⟩) (imp_sub [0] rfl (by decide) rfl rfl ⟨by kernel_rfl, by kernel_rfl, by kernel_rfl, by kernel_rfl, by kernel_rfl, by kernel_rfl, trivial⟩ ⟨by kernel_rfl, trivial⟩ rfl rfl rfl) ?_
      refine post_next ?_
      refine aw_seq ?_
      refine aw_seq ?_
      obtain ⟨p53, hF, hK54⟩ := bind_some hF
      obtain ⟨x51, x52⟩ := p53
      refine aw_cut (fun s1 => s1 = ⟨29, [(0, some (.pv (.yld l))), (1, some (.pv (.vp ((eL 7 eGClass) c0)))), (2, some (.lp 0 0)), (4, some (.pv (.int .i64 y46))), (7, some (.pv (.int .i64 (w_i64 ((c0.length : Int) + 1))))), (8, some (.pv (.int .i64 x21))), (20, some (.pv (.bool x52)))], [(0, some (.box 9 [.pv (.str x20)]))], 1, [], [], x51, []⟩) ?_ ?_
      · refine aw_region ?_
        refine reg_cons (guard_no rfl) (op_move rfl rfl rfl rfl) ?_
        refine reg_cons (guard_no rfl) (op_int (k := .i64) (m := y46) (n := 0) rfl rfl rfl rfl rfl rfl) ?_
        refine reg_cons (guard_no rfl) (op_move rfl rfl rfl rfl) ?_
        rcases ite_some hF with ⟨hb48, hF⟩ | ⟨hb48, hF⟩
        · refine reg_off (guard_off rfl rfl rfl rfl hb48) rfl rfl ?_
          refine reg_off (guard_off rfl rfl rfl rfl hb48) rfl rfl ?_
          refine reg_off (guard_off rfl rfl rfl rfl hb48) rfl rfl ?_
          refine reg_off (guard_off rfl rfl rfl rfl hb48) rfl rfl ?_
          refine reg_cons (guard_no rfl) (op_pick_t rfl rfl hb48 rfl rfl rfl) ?_
          refine reg_nil ?_
          cases hF
          exact post_cut _ rfl (imp_sub [0] rfl (by decide) rfl rfl ⟨by kernel_rfl, by kernel_rfl, by kernel_rfl, by kernel_rfl, by kernel_rfl, by kernel_rfl, by kernel_rfl, trivial⟩ ⟨by kernel_rfl, trivial⟩ rfl rfl rfl)
        · refine reg_cons (guard_on rfl rfl rfl rfl hb48) (op_move rfl rfl rfl rfl) ?_
          refine reg_cons (guard_on rfl rfl rfl rfl hb48) (op_move rfl rfl rfl rfl) ?_
          obtain ⟨u49, h50, hF⟩ := bind_some hF
          refine reg_cons (guard_on rfl rfl rfl rfl hb48) (op_yield (row := (fun z : Int => ([.int .i64 z] : List PV)) y46) hcx rfl rfl rfl rfl (yck_row (fun z : Int => ([.int .i64 z] : List PV)) h50) (yck_spec h50).2 rfl rfl) ?_
          refine reg_cons (guard_on rfl rfl rfl rfl hb48) (op_not rfl rfl rfl rfl) ?_
          refine reg_cons (guard_no rfl) (op_pick_f rfl rfl hb48 rfl rfl rfl) ?_
          refine reg_nil ?_
          cases hF
          exact post_cut _ rfl (imp_sub [0] rfl (by decide) rfl rfl ⟨by kernel_rfl, by kernel_rfl, by kernel_rfl, by kernel_rfl, by kernel_rfl, by kernel_rfl, by kernel_rfl, trivial⟩ ⟨by kernel_rfl, trivial⟩ rfl rfl rfl)
      · rintro _ rfl
        have hF := hK54
        clear hK54
        refine post_next ?_
        rcases ite_some hF with ⟨hb55, hF⟩ | ⟨hb55, hF⟩
        · refine aw_cond_t rfl hb55 ?_
          refine aw_ret ?_
          refine post_then_ret ?_
          refine post_block_ret ?_
          refine post_then_ret ?_
          refine post_then_ret ?_
          refine post_lp_ret ?_
          obtain rfl := Option.some.inj hF
          have hF := elim_stop hK66
          exact post_it (it_len hF) rfl (.inl rfl)
        · refine aw_cond_f rfl hb55 ?_
          refine aw_skip ?_
          refine post_next ?_
          refine aw_seq ?_
          refine aw_region ?_
          refine reg_cons (guard_no rfl) (op_load_vp (p := .vs 7 (List.map eGClass c0)) rfl rfl rfl Try_one_45 rfl rfl) ?_
          refine reg_cons (guard_no rfl) (op_move rfl rfl rfl rfl) ?_
          obtain ⟨y58, h59, hF⟩ := bind_some hF
          refine reg_cons (guard_no rfl) (op_index_vs (k := .i64) rfl rfl rfl (idx_map eGClass h59) Try_slc_45 rfl rfl) ?_
          refine reg_cons (guard_no rfl) (op_field_vp rfl rfl Try_fld_94_2 rfl rfl) ?_
          refine reg_cons (guard_no rfl) (op_load_vp (p := .str y58.fSuper) rfl rfl rfl Try_one_9 rfl rfl) ?_
          refine reg_cons (guard_no rfl) (op_store_lp (n := 1) rfl rfl rfl rfl rfl (or_one Try_one_9) (by rw [Try_one_9]; rfl) rfl rfl rfl) ?_
          refine reg_nil ?_
          refine post_imp (s' := ⟨29, [(0, some (.pv (.yld l))), (1, some (.pv (.vp ((eL 7 eGClass) c0)))), (2, some (.lp 0 0)), (7, some (.pv (.int .i64 (w_i64 ((c0.length : Int) + 1))))), (8, some (.pv (.int .i64 x21)))], [(0, some (.box 9 [.pv (.str y58.fSuper)]))], 1, [], [], x51, []⟩) (imp_sub [0] rfl (by decide) rfl rfl ⟨by kernel_rfl, by kernel_rfl, by kernel_rfl, by kernel_rfl, by kernel_rfl, trivial⟩ ⟨by kernel_rfl, trivial⟩ rfl rfl rfl) ?_
          refine post_next ?_
          refine aw_seq ?_
          refine aw_region ?_
          refine reg_cons (guard_no rfl) (op_load_lp (v := .pv (.str y58.fSuper)) rfl rfl rfl rfl Try_one_9 rfl rfl) ?_
          refine reg_cons (guard_no rfl) (op_str rfl rfl rfl rfl rfl rfl) ?_
          refine reg_nil ?_
          refine post_imp (s' := ⟨29, [(0, some (.pv (.yld l))), (1, some (.pv (.vp ((eL 7 eGClass) c0)))), (2, some (.lp 0 0)), (7, some (.pv (.int .i64 (w_i64 ((c0.length : Int) + 1))))), (8, some (.pv (.int .i64 x21))), (27, some (.pv (.bool (y58.fSuper == []))))], [(0, some (.box 9 [.pv (.str y58.fSuper)]))], 1, [], [], x51, []⟩) (imp_sub [0] rfl (by decide) rfl rfl ⟨by kernel_rfl, by kernel_rfl, by kernel_rfl, by kernel_rfl, by kernel_rfl, by kernel_rfl, trivial⟩ ⟨by kernel_rfl, trivial⟩ rfl rfl rfl) ?_
          refine post_next ?_
          rcases ite_some hF with ⟨hb60, hF⟩ | ⟨hb60, hF⟩
          · refine aw_cond_t rfl hb60 ?_
            refine aw_ret ?_
            refine post_block_ret ?_
            refine post_then_ret ?_
            refine post_then_ret ?_
            refine post_lp_ret ?_
            obtain rfl := Option.some.inj hF
            have hF := elim_stop hK66
            exact post_it (it_len hF) rfl (.inl rfl)
          · refine aw_cond_f rfl hb60 ?_
            refine aw_skip ?_
            refine post_block_normal ?_
            refine post_next ?_
            refine aw_region ?_
            refine reg_cons (guard_no rfl) (op_int (k := .i64) (m := x21) (n := 1) rfl rfl rfl rfl rfl rfl) ?_
            refine reg_cons (guard_no rfl) (op_move rfl rfl rfl rfl) ?_
            refine reg_nil ?_
            refine post_round ?_
            exact rnd_back (ih (x51, y58.fSuper, w_i64 (x21 + 1)) hF) (imp_sub [0] rfl (by decide) rfl rfl ⟨by kernel_rfl, by kernel_rfl, by kernel_rfl, by kernel_rfl, by kernel_rfl, trivial⟩ ⟨by kernel_rfl, trivial⟩ rfl rfl rfl)
    · refine aw_cond_f rfl hb43 ?_
      refine aw_exit ?_
      refine post_then_exit ?_
      refine post_then_exit ?_
      obtain rfl := Option.some.inj hF
      exact post_lp_break _ ⟨_, rfl, rfl⟩ (imp_sub [] rfl (by decide) rfl rfl trivial trivial rfl rfl rfl)
  · rintro _ ⟨x64, rfl, rfl⟩
    have hF := elim_next hK66
    clear hK66
    exact post_it (it_len hF) rfl (.inr rfl)

theorem slices_Index_int_ok {a0 : List Int} {a1 : Int} {r : Int} (hF : slices_Index_int a0 a1 = some r) : Abs.Fn Try.prog 82 [.vs 1 (List.map eI a0), .int .i64 a1] [.p (.int .i64 r)] := by
  unfold slices_Index_int at hF
  refine fn_of_body (n := 19) Try.func82 rfl rfl rfl ?_
  intro w O
  refine aw_seq ?_
  refine aw_region ?_
  refine reg_cons (guard_no rfl) (op_assign rfl rfl rfl rfl) ?_
  refine reg_nil ?_
  refine post_imp (s' := ⟨19, [(0, some (.pv (.vs 1 (List.map eI a0)))), (1, some (.pv (.int .i64 a1)))], [], 0, [], [], 0, []⟩) (imp_sub [] rfl (by decide) rfl rfl ⟨by kernel_rfl, by kernel_rfl, trivial⟩ trivial rfl rfl rfl) ?_
  refine post_next ?_
  refine aw_seq ?_
  refine aw_seq ?_
  refine aw_region ?_
  refine reg_cons (guard_no rfl) (op_move rfl rfl rfl rfl) ?_
  refine reg_cons (guard_no rfl) (op_len_vs (n := a0.length) rfl rfl (List.length_map ..) Try_slc_42 rfl rfl) ?_
  refine reg_cons (guard_no rfl) (op_move rfl rfl rfl rfl) ?_
  refine reg_nil ?_
  refine post_imp (s' := ⟨19, [(0, some (.pv (.vs 1 (List.map eI a0)))), (1, some (.pv (.int .i64 a1))), (7, some (.pv (.int .i64 (a0.length : Int)))), (8, some (.pv (.int .i64 0)))], [], 0, [], [], 0, []⟩) (imp_sub [] rfl (by decide) rfl rfl ⟨by kernel_rfl, by kernel_rfl, by kernel_rfl, by kernel_rfl, trivial⟩ trivial rfl rfl rfl) ?_
  refine post_next ?_
  obtain ⟨lr22, hF, hK23⟩ := bind_some hF
  refine aw_for ((((a0.length : Int) : Int) - (0)).toNat + 1) (fun s1 => ∃ q, lr22 = .next q ∧ s1 = ⟨19, [], [], 0, [], [], 0, []⟩) ?_ ?_
  · refine rnd_loop (α := Int) (fun q => ⟨19, [(0, some (.pv (.vs 1 (List.map eI a0)))), (1, some (.pv (.int .i64 a1))), (7, some (.pv (.int .i64 (a0.length : Int)))), (8, some (.pv (.int .i64 q)))], [], 0, [], [], 0, []⟩) (fun k q => slices_Index_int_L1 a0 a1 k q = some lr22) 0 (imp_sub [] rfl (by decide) rfl rfl ⟨by kernel_rfl, by kernel_rfl, by kernel_rfl, by kernel_rfl, trivial⟩ trivial rfl rfl rfl) hF (fun q h => by cases h) ?_
    clear hF
    rintro k x7 hF ih
    refine rnd_succ ?_
    refine aw_seq ?_
    refine aw_region ?_
    refine reg_cons (guard_no rfl) (op_int (k := .i64) (m := x7) (n := (a0.length : Int)) rfl rfl rfl rfl rfl rfl) ?_
    refine reg_nil ?_
    refine post_imp (s' := ⟨19, [(0, some (.pv (.vs 1 (List.map eI a0)))), (1, some (.pv (.int .i64 a1))), (7, some (.pv (.int .i64 (a0.length : Int)))), (8, some (.pv (.int .i64 x7))), (9, some (.pv (.bool (decide (x7 < (a0.length : Int))))))], [], 0, [], [], 0, []⟩) (imp_sub [] rfl (by decide) rfl rfl ⟨by kernel_rfl, by kernel_rfl, by kernel_rfl, by kernel_rfl, by kernel_rfl, trivial⟩ trivial rfl rfl rfl) ?_
    refine post_next ?_
    refine aw_seq ?_
    rcases ite_some hF with ⟨hb15, hF⟩ | ⟨hb15, hF⟩
    · refine aw_cond_t rfl hb15 ?_
      refine aw_skip ?_
      refine post_next ?_
      refine aw_seq ?_
      refine aw_block ?_
      refine aw_seq ?_
      refine aw_region ?_
      refine reg_cons (guard_no rfl) (op_move rfl rfl rfl rfl) ?_
      refine reg_cons (guard_no rfl) (op_assign rfl rfl rfl rfl) ?_
      refine reg_nil ?_
      refine post_imp (s' := ⟨19, [(0, some (.pv (.vs 1 (List.map eI a0)))), (1, some (.pv (.int .i64 a1))), (5, some (.pv (.int .i64 x7))), (7, some (.pv (.int .i64 (a0.length : Int)))), (8, some (.pv (.int .i64 x7)))], [], 0, [], [], 0, []⟩) (imp_sub [] rfl (by decide) rfl rfl ⟨by kernel_rfl, by kernel_rfl, by kernel_rfl, by kernel_rfl, by kernel_rfl, trivial⟩ trivial rfl rfl rfl) ?_
      refine post_next ?_
      refine aw_seq ?_
      refine aw_region ?_
      refine reg_cons (guard_no rfl) (op_move rfl rfl rfl rfl) ?_
      refine reg_cons (guard_no rfl) (op_move rfl rfl rfl rfl) ?_
      refine reg_cons (guard_no rfl) (op_move rfl rfl rfl rfl) ?_
      obtain ⟨y18, h19, hF⟩ := bind_some hF
      refine reg_cons (guard_no rfl) (op_index_vs (k := .i64) rfl rfl rfl (idx_map eI h19) Try_slc_42 rfl rfl) ?_
      refine reg_cons (guard_no rfl) (op_load_vp (p := .int .i64 y18) rfl rfl rfl Try_one_3 rfl rfl) ?_
      refine reg_cons (guard_no rfl) (op_int (k := .i64) (m := a1) (n := y18) rfl rfl rfl rfl rfl rfl) ?_
      refine reg_nil ?_
      refine post_imp (s' := ⟨19, [(0, some (.pv (.vs 1 (List.map eI a0)))), (1, some (.pv (.int .i64 a1))), (5, some (.pv (.int .i64 x7))), (7, some (.pv (.int .i64 (a0.length : Int)))), (8, some (.pv (.int .i64 x7))), (16, some (.pv (.bool (a1 == y18))))], [], 0, [], [], 0, []⟩) (imp_sub [] rfl (by decide) rfl rfl ⟨by kernel_rfl, by kernel_rfl, by kernel_rfl, by kernel_rfl, by kernel_rfl, by kernel_rfl, trivial⟩ trivial rfl rfl rfl) ?_
      refine post_next ?_
      rcases ite_some hF with ⟨hb20, hF⟩ | ⟨hb20, hF⟩
      · refine aw_cond_t rfl hb20 ?_
        refine aw_seq ?_
        refine aw_region ?_
        refine reg_cons (guard_no rfl) (op_move rfl rfl rfl rfl) ?_
        refine reg_cons (guard_no rfl) (op_assign rfl rfl rfl rfl) ?_
        refine reg_nil ?_
        refine post_imp (s' := ⟨19, [(4, some (.pv (.int .i64 x7)))], [], 0, [], [], 0, []⟩) (imp_sub [] rfl (by decide) rfl rfl ⟨by kernel_rfl, trivial⟩ trivial rfl rfl rfl) ?_
        refine post_next ?_
        refine aw_ret ?_
        refine post_block_ret ?_
        refine post_then_ret ?_
        refine post_then_ret ?_
        refine post_lp_ret ?_
        obtain rfl := Option.some.inj hF
        have hF := elim_stop hK23
        refine post_then_ret ?_
        obtain rfl := Option.some.inj hF
        exact post_ret rfl rfl (.cons _ _ _ _ _ (.tmp _ _ rfl) (.p _) .nil) (.inl rfl)
      · refine aw_cond_f rfl hb20 ?_
        refine aw_skip ?_
        refine post_block_normal ?_
        refine post_next ?_
        refine aw_region ?_
        refine reg_cons (guard_no rfl) (op_int (k := .i64) (m := x7) (n := 1) rfl rfl rfl rfl rfl rfl) ?_
        refine reg_cons (guard_no rfl) (op_move rfl rfl rfl rfl) ?_
        refine reg_nil ?_
        refine post_round ?_
        exact rnd_back (ih (w_i64 (x7 + 1)) hF) (imp_sub [] rfl (by decide) rfl rfl ⟨by kernel_rfl, by kernel_rfl, by kernel_rfl, by kernel_rfl, trivial⟩ trivial rfl rfl rfl)
    · refine aw_cond_f rfl hb15 ?_
      refine aw_exit ?_
      refine post_then_exit ?_
      refine post_then_exit ?_
      obtain rfl := Option.some.inj hF
      exact post_lp_break _ ⟨_, rfl, rfl⟩ (imp_sub [] rfl (by decide) rfl rfl trivial trivial rfl rfl rfl)
  · rintro _ ⟨⟨⟩, rfl, rfl⟩
    have hF := elim_next hK23
    clear hK23
    refine post_next ?_
    refine aw_seq ?_
    refine aw_region ?_
    refine reg_cons (guard_no rfl) (op_assign rfl rfl rfl rfl) ?_
    refine reg_nil ?_
    refine post_imp (s' := ⟨19, [(4, some (.pv (.int .i64 (-1))))], [], 0, [], [], 0, []⟩) (imp_sub [] rfl (by decide) rfl rfl ⟨by kernel_rfl, trivial⟩ trivial rfl rfl rfl) ?_
    refine post_next ?_
    refine aw_ret ?_
    obtain rfl := Option.some.inj hF
    exact post_ret rfl rfl (.cons _ _ _ _ _ (.tmp _ _ rfl) (.p _) .nil) (.inl rfl)
theorem slices_Contains_int_ok {a0 : List Int} {a1 : Int} {r : Bool} (hF : slices_Contains_int a0 a1 = some r) : Abs.Fn Try.prog 68 [.vs 1 (List.map eI a0), .int .i64 a1] [.p (.bool r)] := by
  unfold slices_Contains_int at hF
  refine fn_of_body (n := 9) Try.func68 rfl rfl rfl ?_
  intro w O
  refine aw_seq ?_
  refine aw_region ?_
  refine reg_cons (guard_no rfl) (op_assign rfl rfl rfl rfl) ?_
  refine reg_nil ?_
  refine post_imp (s' := ⟨9, [(0, some (.pv (.vs 1 (List.map eI a0)))), (1, some (.pv (.int .i64 a1)))], [], 0, [], [], 0, []⟩) (imp_sub [] rfl (by decide) rfl rfl ⟨by kernel_rfl, by kernel_rfl, trivial⟩ trivial rfl rfl rfl) ?_
  refine post_next ?_
  refine aw_seq ?_
  refine aw_region ?_
  refine reg_cons (guard_no rfl) (op_move rfl rfl rfl rfl) ?_
  refine reg_cons (guard_no rfl) (op_move rfl rfl rfl rfl) ?_
  obtain ⟨y1, h2, hF⟩ := bind_some hF
  refine reg_cons (guard_no rfl) (op_call 0 rfl (caps := []) (args := [.vs 1 (List.map eI a0), .int .i64 a1]) (rs := [.p (.int .i64 y1)]) rfl rfl rfl Try_cal_82 (slices_Index_int_ok h2) rfl rfl rfl) ?_
  refine reg_cons (guard_no rfl) (op_int (k := .i64) (m := y1) (n := 0) rfl rfl rfl rfl rfl rfl) ?_
  refine reg_cons (guard_no rfl) (op_assign rfl rfl rfl rfl) ?_
  refine reg_nil ?_
  refine post_imp (s' := ⟨9, [(4, some (.pv (.bool (decide (y1 ≥ 0)))))], [], 0, [], [], 0, []⟩) (imp_sub [] rfl (by decide) rfl rfl ⟨by kernel_rfl, trivial⟩ trivial rfl rfl rfl) ?_
  refine post_next ?_
  refine aw_ret ?_
  obtain rfl := Option.some.inj hF
  exact post_ret rfl rfl (.cons _ _ _ _ _ (.tmp _ _ rfl) (.p _) .nil) (.inl rfl)
theorem above_Chain_ok {a0 : List GClass} {a1 : List UInt8} {r : (List Int)} (hF : above_Chain a0 a1 = some r) : Abs.Fn Try.prog 40 [.vs 7 (List.map eGClass a0), .str a1] [.own 3 1 (List.map eI r)] := by
  unfold above_Chain at hF
  refine fn_of_body (n := 19) Try.func40 rfl rfl rfl ?_
  intro w O
  refine aw_seq ?_
  refine aw_region ?_
  refine reg_cons (guard_no rfl) (op_assign rfl rfl rfl rfl) ?_
  refine reg_nil ?_
  refine post_imp (s' := ⟨19, [(0, some (.pv (.vs 7 (List.map eGClass a0)))), (1, some (.pv (.str a1)))], [], 0, [], [], 0, []⟩) (imp_sub [] rfl (by decide) rfl rfl ⟨by kernel_rfl, by kernel_rfl, trivial⟩ trivial rfl rfl rfl) ?_
  refine post_next ?_
  refine aw_seq ?_
  refine aw_region ?_
  refine reg_cons (guard_no rfl) (op_alloc 0 rfl (ps := [.nils]) rfl Try_zer_42 (by exact ⟨rfl, trivial⟩) rfl rfl) ?_
  refine reg_imp (imp_nil_box 0 0 42 3 1 1 rfl rfl rfl) ?_
  refine reg_nil ?_
  refine post_imp (s' := ⟨19, [(0, some (.pv (.vs 7 (List.map eGClass a0)))), (1, some (.pv (.str a1))), (5, some (.lp 0 0))], [(0, some (.box 42 [.ls 1])), (1, some (.row 3 1 (List.map eI [])))], 2, [], [], 0, []⟩) (imp_sub [0, 1] rfl (by decide) rfl rfl ⟨by kernel_rfl, by kernel_rfl, by kernel_rfl, trivial⟩ ⟨by kernel_rfl, by kernel_rfl, trivial⟩ rfl rfl rfl) ?_
  refine post_next ?_
  refine aw_seq ?_
  refine aw_seq ?_
  refine aw_region ?_
  refine reg_cons (guard_no rfl) (op_move rfl rfl rfl rfl) ?_
  refine reg_cons (guard_no rfl) (op_move rfl rfl rfl rfl) ?_
  obtain ⟨y3, h4, hF⟩ := bind_some hF
  refine reg_cons (guard_no rfl) (op_call 2 rfl (caps := []) (args := [.vs 7 (List.map eGClass a0), .str a1]) (rs := [.clo 81 [.vp ((eL 7 eGClass) y3.1)] 9 [.str y3.2] []]) rfl rfl rfl Try_cal_67 (above_up_ok h4) rfl rfl rfl) ?_
  refine reg_nil ?_
  refine post_imp (s' := ⟨19, [(5, some (.lp 0 0)), (9, some (.fn 81 [.pv (.vp ((eL 7 eGClass) y3.1)), .lp 2 0]))], [(0, some (.box 42 [.ls 1])), (1, some (.row 3 1 (List.map eI []))), (2, some (.box 9 [.pv (.str y3.2)]))], 3, [], [], 0, []⟩) (imp_sub [0, 1, 2] rfl (by decide) rfl rfl ⟨by kernel_rfl, by kernel_rfl, trivial⟩ ⟨by kernel_rfl, by kernel_rfl, by kernel_rfl, trivial⟩ rfl rfl rfl) ?_
  refine post_next ?_
  refine aw_block ?_
  refine aw_imp (s' := ⟨19, [(5, some (.lp 0 0)), (9, some (.fn 81 [.pv (.vp ((eL 7 eGClass) y3.1)), .lp 2 0]))], [(0, some (.box 42 [.ls 1])), (1, some (.row 3 1 (List.map eI []))), (2, some (.box 9 [.pv (.str y3.2)]))], 3, [], [], 0, []⟩) (imp_sub [0, 1, 2] rfl (by decide) rfl rfl ⟨by kernel_rfl, by kernel_rfl, trivial⟩ ⟨by kernel_rfl, by kernel_rfl, by kernel_rfl, trivial⟩ rfl rfl rfl) ?_
  obtain ⟨rows33, hR34, hF⟩ := bind_some hF
  obtain ⟨lr35, hL36, hF⟩ := bind_some hF
  refine aw_rangeFunc (X := Int) (Q := (List Int)) (E := (List Int)) (pre := [.vp ((eL 7 eGClass) y3.1)]) (bx := (some (9, [.str y3.2]))) (post := []) (kt := [5]) (psl := [10]) (some 2) (fun z : Int => ([.int .i64 z] : List PV)) rows33 above_Chain_B1 [] lr35 hL36 (fun q => ⟨19, [(5, some (.lp 0 0))], [(0, some (.box 42 [.ls 1])), (1, some (.row 3 1 (List.map eI q)))], 3, [], [], 0, []⟩) (fun z => ((.exit 0), ⟨19, [(5, some (.lp 0 0))], [(0, some (.box 42 [.ls 1])), (1, some (.row 3 1 (List.map eI z)))], 2, [], [], 0, []⟩)) ⟨_, _, rfl, rfl, rfl⟩ Try_cal_81 (fun sp => above_up_1_it (itR_up_ok hR34 sp)) (fun _ => rfl) rfl rfl (by decide) rfl (fun x q => ⟨19, [(5, some (.lp 0 0)), (6, some (.pv (.int .i64 x))), (10, some (.pv (.int .i64 x)))], [(0, some (.box 42 [.ls 1])), (1, some (.row 3 1 (List.map eI q)))], 3, [], [], 0, [5]⟩) (fun q => ⟨rfl, rfl, rfl, rfl⟩) (fun z => ⟨rfl, rfl, rfl, rfl⟩) (fun z => rfl) rfl rfl ⟨rfl, trivial⟩ ⟨⟨rfl, rfl, rfl⟩, ⟨rfl, rfl, rfl⟩, trivial⟩ ?_ ?_ ?_ ?_
  · rintro l37 c38 x23 x13 hc39
    refine aw_region ?_
    refine reg_cons (guard_no rfl) (op_assign rfl rfl rfl rfl) ?_
    refine reg_nil ?_
    exact post_cut1 (imp_sub [0, 1, 2] rfl (by decide) rfl rfl ⟨by kernel_rfl, by kernel_rfl, by kernel_rfl, trivial⟩ ⟨by kernel_rfl, by kernel_rfl, trivial⟩ rfl rfl rfl)
  · rintro l37 c38 x23 x13 r40 hc39 hF
    refine aw_block ?_
    refine aw_seq ?_
    refine aw_seq ?_
    refine aw_region ?_
    refine reg_cons (guard_no rfl) (op_load_lp (v := .ls 1) rfl rfl rfl rfl Try_one_42 rfl rfl) ?_
    refine reg_cons (guard_no rfl) (op_move rfl rfl rfl rfl) ?_
    obtain ⟨y26, h27, hF⟩ := bind_some hF
    refine reg_cons (guard_no rfl) (op_callB 3 rfl (caps := []) (args := [.vs 1 (List.map eI x13), .int .i64 x23]) [(1, some (.row 3 1 (List.map eI x13)))] rfl rfl rfl (FzH.spec ⟨rfl, trivial⟩) rfl rfl Try_cal_68 (slices_Contains_int_ok h27) rfl rfl rfl) ?_
    refine reg_nil ?_
    refine post_imp (s' := ⟨19, [(5, some (.lp 0 0)), (6, some (.pv (.int .i64 x23))), (13, some (.pv (.bool y26)))], [(0, some (.box 42 [.ls 1])), (1, some (.row 3 1 (List.map eI x13)))], 2, [], [], 0, [5]⟩) (imp_sub [0, 1] rfl (by decide) rfl rfl ⟨by kernel_rfl, by kernel_rfl, by kernel_rfl, trivial⟩ ⟨by kernel_rfl, by kernel_rfl, trivial⟩ rfl rfl rfl) ?_
    refine post_next ?_
    rcases ite_some hF with ⟨hb28, hF⟩ | ⟨hb28, hF⟩
    · refine aw_cond_t rfl hb28 ?_
      refine aw_exit ?_
      refine post_then_exit ?_
      refine post_block_other rfl ?_
      obtain rfl := Option.some.inj hF
      exact post_rnd_exit x13 rfl rfl (imp_sub [0, 1] rfl (by decide) rfl rfl ⟨by kernel_rfl, trivial⟩ ⟨by kernel_rfl, by kernel_rfl, trivial⟩ rfl rfl rfl)
    · refine aw_cond_f rfl hb28 ?_
      refine aw_skip ?_
      refine post_next ?_
      refine aw_region ?_
      refine reg_cons (guard_no rfl) (op_load_lp (v := .ls 1) rfl rfl rfl rfl Try_one_42 rfl rfl) ?_
      refine reg_cons (guard_no rfl) (op_move rfl rfl rfl rfl) ?_
      refine reg_cons (guard_no rfl) (op_lit (rows := List.map eI ([x23] : List Int)) (zs := [.int .i64 0]) rfl rfl Try_slc_42 Try_zer_3 (by exact ⟨rfl, trivial⟩) rfl rfl rfl rfl rfl rfl rfl rfl) ?_
      obtain ⟨u29, h30, hF⟩ := bind_some hF
      refine reg_cons (guard_no rfl) (op_append 2 rfl rfl rfl rfl rfl Try_slc_42 Try_elm_3 Try_zer_3 rfl rfl rfl (room_map (f := eI) (g := eI) h30) (List.map_append (f := eI) (l₁ := x13) (l₂ := [x23])).symm rfl rfl) ?_
      refine reg_cons (guard_no rfl) (op_store_lp (n := 1) rfl rfl rfl rfl rfl (or_one Try_one_42) (by rw [Try_one_42]; rfl) rfl rfl rfl) ?_
      refine reg_nil ?_
      refine post_imp (s' := ⟨19, [(5, some (.lp 0 0))], [(0, some (.box 42 [.ls 1])), (1, some (.row 3 1 (List.map eI (x13 ++ [x23]))))], 2, [], [], 0, [5]⟩) (imp_sub [0, 2] rfl (by decide) rfl rfl ⟨by kernel_rfl, trivial⟩ ⟨by kernel_rfl, by kernel_rfl, trivial⟩ rfl rfl rfl) ?_
      refine post_block_normal ?_
      obtain rfl := Option.some.inj hF
      exact post_rnd (x13 ++ [x23]) rfl (imp_sub [0, 1, 1000000] rfl (by decide) rfl rfl ⟨by kernel_rfl, trivial⟩ ⟨by kernel_rfl, by kernel_rfl, trivial⟩ rfl rfl rfl)
  · rintro x13 rfl
    have hF := elim_next hF
    refine post_block_normal ?_
    refine post_next ?_
    refine aw_seq ?_
    refine aw_region ?_
    refine reg_cons (guard_no rfl) (op_load_lp (v := .ls 1) rfl rfl rfl rfl Try_one_42 rfl rfl) ?_
    refine reg_cons (guard_no rfl) (op_assign rfl rfl rfl rfl) ?_
    refine reg_nil ?_
    refine post_imp (s' := ⟨19, [(4, some (.ls 0))], [(0, some (.row 3 1 (List.map eI x13)))], 1, [], [], 0, []⟩) (imp_sub [1] rfl (by decide) rfl rfl ⟨by kernel_rfl, trivial⟩ ⟨by kernel_rfl, trivial⟩ rfl rfl rfl) ?_
    refine post_next ?_
    refine aw_ret ?_
    obtain rfl := Option.some.inj hF
    exact post_ret rfl rfl (.cons _ _ _ _ _ (.tmp _ _ rfl) (.own _ _ _ _ rfl nolent3) .nil) (.inl rfl)
  · rintro x32 rfl
    have hF := elim_stop hF
    show Post _ _ (.exit 0) _
    refine post_block_exit ?_
    refine post_next ?_
    refine aw_seq ?_
    refine aw_region ?_
    refine reg_cons (guard_no rfl) (op_load_lp (v := .ls 1) rfl rfl rfl rfl Try_one_42 rfl rfl) ?_
    refine reg_cons (guard_no rfl) (op_assign rfl rfl rfl rfl) ?_
    refine reg_nil ?_
    refine post_imp (s' := ⟨19, [(4, some (.ls 0))], [(0, some (.row 3 1 (List.map eI x32)))], 1, [], [], 0, []⟩) (imp_sub [1] rfl (by decide) rfl rfl ⟨by kernel_rfl, trivial⟩ ⟨by kernel_rfl, trivial⟩ rfl rfl rfl) ?_
    refine post_next ?_
    refine aw_ret ?_
    obtain rfl := Option.some.inj hF
    exact post_ret rfl rfl (.cons _ _ _ _ _ (.tmp _ _ rfl) (.own _ _ _ _ rfl nolent3) .nil) (.inl rfl)
theorem slices_Backward_int_ok {a0 : List Int} {r : (List Int)} (hF : slices_Backward_int a0 = some r) : Abs.Fn Try.prog 72 [.vs 1 (List.map eI a0)] [.p (.fn 85 [.vp ((eL 1 eI) r)])] := by
  unfold slices_Backward_int at hF
  refine fn_of_body (n := 4) Try.func72 rfl rfl rfl ?_
  intro w O
  refine aw_seq ?_
  refine aw_region ?_
  refine reg_cons (guard_no rfl) (op_box 0 rfl rfl rfl rfl rfl rfl) ?_
  refine reg_cons (guard_no rfl) (op_assign rfl rfl rfl rfl) ?_
  refine reg_nil ?_
  refine post_imp (s' := ⟨4, [(1, some (.lp 0 0))], [(0, some (.box 42 [.pv (.vs 1 (List.map eI a0))]))], 1, [], [], 0, []⟩) (imp_sub [0] rfl (by decide) rfl rfl ⟨by kernel_rfl, trivial⟩ ⟨by kernel_rfl, trivial⟩ rfl rfl rfl) ?_
  refine post_next ?_
  refine aw_seq ?_
  refine aw_region ?_
  refine reg_cons (guard_no rfl) (op_makeFunc rfl rfl rfl rfl) ?_
  refine reg_cons (guard_no rfl) (op_assign rfl rfl rfl rfl) ?_
  refine reg_nil ?_
  refine post_imp (s' := ⟨4, [(2, some (.fn 85 [.lp 0 0]))], [(0, some (.box 42 [.pv (.vs 1 (List.map eI a0))]))], 1, [], [], 0, []⟩) (imp_sub [0] rfl (by decide) rfl rfl ⟨by kernel_rfl, trivial⟩ ⟨by kernel_rfl, trivial⟩ rfl rfl rfl) ?_
  refine post_next ?_
  refine aw_ret ?_
  refine post_imp (imp_freeze [(0, some (.box 42 [.pv (.vs 1 (List.map eI a0))]))] [(2, some (.pv (.fn 85 [.vp ((eL 1 eI) a0)])))] (FzH.spec ⟨rfl, trivial⟩) ⟨⟨_, rfl, rfl⟩, trivial⟩) ?_
  obtain rfl := Option.some.inj hF
  exact post_ret rfl rfl (.cons _ _ _ _ _ (.tmp _ _ rfl) (.p _) .nil) (.inl rfl)
theorem slices_Backward_int_1_it {rows : List (Int × Int)} {sp : Nat} {c0 : List Int} (hF : slices_Backward_int_1 rows sp c0 = some (min (sp + 1) rows.length)) : It Try.prog 85 2 [.vp ((eL 1 eI) c0)] none [] (rows.map (fun z : Int × Int => ([.int .i64 z.1, .int .i64 z.2] : List PV))) sp := by
  unfold slices_Backward_int_1 at hF
  refine it_of_body (n := 19) Try.func85 rfl rfl rfl ?_
  intro l c hcx
  refine aw_seq ?_
  refine aw_region ?_
  refine reg_cons (guard_no rfl) (op_load_vp (p := .vs 1 (List.map eI c0)) rfl rfl rfl Try_one_42 rfl rfl) ?_
  refine reg_cons (guard_no rfl) (op_len_vs (n := c0.length) rfl rfl (List.length_map ..) Try_slc_42 rfl rfl) ?_
  refine reg_cons (guard_no rfl) (op_int (k := .i64) (m := (c0.length : Int)) (n := 1) rfl rfl rfl rfl rfl rfl) ?_
  refine reg_cons (guard_no rfl) (op_assign rfl rfl rfl rfl) ?_
  refine reg_nil ?_
  refine post_imp (s' := ⟨19, [(0, some (.pv (.yld l))), (1, some (.pv (.vp ((eL 1 eI) c0)))), (3, some (.pv (.int .i64 (w_i64 ((c0.length : Int) - 1)))))], [], 0, [], [], 0, []⟩) (imp_sub [] rfl (by decide) rfl rfl ⟨by kernel_rfl, by kernel_rfl, by kernel_rfl, trivial⟩ trivial rfl rfl rfl) ?_
  refine post_next ?_
  obtain ⟨lr38, hF, hK39⟩ := bind_some hF
  refine aw_for ((((w_i64 ((c0.length : Int) - 1)) : Int) - (0)).toNat + 2) (fun s1 => ∃ q, lr38 = .next q ∧ s1 = ⟨19, [], [], 0, [], [], q, []⟩) ?_ ?_
  · refine rnd_loop (α := Nat × Int) (fun q => ⟨19, [(0, some (.pv (.yld l))), (1, some (.pv (.vp ((eL 1 eI) c0)))), (3, some (.pv (.int .i64 q.2)))], [], 0, [], [], q.1, []⟩) (fun k q => slices_Backward_int_1_L1 c0 sp rows k q.1 q.2 = some lr38) (0, w_i64 ((c0.length : Int) - 1)) (imp_sub [] rfl (by decide) rfl rfl ⟨by kernel_rfl, by kernel_rfl, by kernel_rfl, trivial⟩ trivial rfl rfl rfl) hF (fun q h => by cases h) ?_
    clear hF
    rintro k ⟨x11, x12⟩ hF ih
    refine rnd_succ ?_
    refine aw_seq ?_
    refine aw_seq ?_
    refine aw_region ?_
    refine reg_cons (guard_no rfl) (op_move rfl rfl rfl rfl) ?_
    refine reg_cons (guard_no rfl) (op_int (k := .i64) (m := x12) (n := 0) rfl rfl rfl rfl rfl rfl) ?_
    refine reg_nil ?_
    refine post_imp (s' := ⟨19, [(0, some (.pv (.yld l))), (1, some (.pv (.vp ((eL 1 eI) c0)))), (3, some (.pv (.int .i64 x12))), (8, some (.pv (.bool (decide (x12 ≥ 0)))))], [], 0, [], [], x11, []⟩) (imp_sub [] rfl (by decide) rfl rfl ⟨by kernel_rfl, by kernel_rfl, by kernel_rfl, by kernel_rfl, trivial⟩ trivial rfl rfl rfl) ?_
    refine post_next ?_
    rcases ite_some hF with ⟨hb25, hF⟩ | ⟨hb25, hF⟩
    · refine aw_cond_t rfl hb25 ?_
      refine aw_skip ?_
      refine post_next ?_
      refine aw_seq ?_
      refine aw_block ?_
      refine aw_seq ?_
      refine aw_region ?_
      refine reg_cons (guard_no rfl) (op_move rfl rfl rfl rfl) ?_
      refine reg_cons (guard_no rfl) (op_move rfl rfl rfl rfl) ?_
      refine reg_cons (guard_no rfl) (op_load_vp (p := .vs 1 (List.map eI c0)) rfl rfl rfl Try_one_42 rfl rfl) ?_
      refine reg_cons (guard_no rfl) (op_move rfl rfl rfl rfl) ?_
      obtain ⟨y30, h31, hF⟩ := bind_some hF
      refine reg_cons (guard_no rfl) (op_index_vs (k := .i64) rfl rfl rfl (idx_map eI h31) Try_slc_42 rfl rfl) ?_
      refine reg_cons (guard_no rfl) (op_load_vp (p := .int .i64 y30) rfl rfl rfl Try_one_3 rfl rfl) ?_
      obtain ⟨u32, h33, hF⟩ := bind_some hF
      refine reg_cons (guard_no rfl) (op_yield (row := (fun z : Int × Int => ([.int .i64 z.1, .int .i64 z.2] : List PV)) (x12, y30)) hcx rfl rfl rfl rfl (yck_row (fun z : Int × Int => ([.int .i64 z.1, .int .i64 z.2] : List PV)) h33) (yck_spec h33).2 rfl rfl) ?_
      refine reg_cons (guard_no rfl) (op_not rfl rfl rfl rfl) ?_
      refine reg_nil ?_
      refine post_imp (s' := ⟨19, [(0, some (.pv (.yld l))), (1, some (.pv (.vp ((eL 1 eI) c0)))), (3, some (.pv (.int .i64 x12))), (18, some (.pv (.bool (!(!(x11 == sp))))))], [], 0, [], [], (x11 + 1), []⟩) (imp_sub [] rfl (by decide) rfl rfl ⟨by kernel_rfl, by kernel_rfl, by kernel_rfl, by kernel_rfl, trivial⟩ trivial rfl rfl rfl) ?_
      refine post_next ?_
      rcases ite_some hF with ⟨hb34, hF⟩ | ⟨hb34, hF⟩
      · refine aw_cond_t rfl hb34 ?_
        refine aw_ret ?_
        refine post_block_ret ?_
        refine post_then_ret ?_
        refine post_then_ret ?_
        refine post_lp_ret ?_
        obtain rfl := Option.some.inj hF
        have hF := elim_stop hK39
        exact post_it (it_len hF) rfl (.inl rfl)
      · refine aw_cond_f rfl hb34 ?_
        refine aw_skip ?_
        refine post_block_normal ?_
        refine post_next ?_
        refine aw_region ?_
        refine reg_cons (guard_no rfl) (op_move rfl rfl rfl rfl) ?_
        refine reg_cons (guard_no rfl) (op_int (k := .i64) (m := x12) (n := 1) rfl rfl rfl rfl rfl rfl) ?_
        refine reg_cons (guard_no rfl) (op_assign rfl rfl rfl rfl) ?_
        refine reg_nil ?_
        refine post_round ?_
        exact rnd_back (ih ((x11 + 1), w_i64 (x12 - 1)) hF) (imp_sub [] rfl (by decide) rfl rfl ⟨by kernel_rfl, by kernel_rfl, by kernel_rfl, trivial⟩ trivial rfl rfl rfl)
    · refine aw_cond_f rfl hb25 ?_
      refine aw_exit ?_
      refine post_then_exit ?_
      refine post_then_exit ?_
      obtain rfl := Option.some.inj hF
      exact post_lp_break _ ⟨_, rfl, rfl⟩ (imp_sub [] rfl (by decide) rfl rfl trivial trivial rfl rfl rfl)
  · rintro _ ⟨x37, rfl, rfl⟩
    have hF := elim_next hK39
    clear hK39
    exact post_it (it_len hF) rfl (.inr rfl)

theorem field_All_ok {a0 : List GClass} {a1 : List UInt8} {r : (List GSlot_field)} (hF : field_All a0 a1 = some r) : Abs.Fn Try.prog 50 [.vs 7 (List.map eGClass a0), .str a1] [.own 81 14 (List.map eGSlot_field r)] := by
  unfold field_All at hF
  refine fn_of_body (n := 38) Try.func50 rfl rfl rfl ?_
  intro w O
  refine aw_seq ?_
  refine aw_region ?_
  refine reg_cons (guard_no rfl) (op_box 0 rfl rfl rfl rfl rfl rfl) ?_
  refine reg_cons (guard_no rfl) (op_assign rfl rfl rfl rfl) ?_
  refine reg_nil ?_
  refine post_imp (s' := ⟨38, [(1, some (.pv (.str a1))), (2, some (.lp 0 0))], [(0, some (.box 45 [.pv (.vs 7 (List.map eGClass a0))]))], 1, [], [], 0, []⟩) (imp_sub [0] rfl (by decide) rfl rfl ⟨by kernel_rfl, by kernel_rfl, trivial⟩ ⟨by kernel_rfl, trivial⟩ rfl rfl rfl) ?_
  refine post_next ?_
  refine aw_seq ?_
  refine aw_region ?_
  refine reg_cons (guard_no rfl) (op_alloc 1 rfl (ps := [.nils]) rfl Try_zer_71 (by exact ⟨rfl, trivial⟩) rfl rfl) ?_
  refine reg_imp (imp_nil_box 1 0 71 81 14 2 rfl rfl rfl) ?_
  refine reg_nil ?_
  refine post_imp (s' := ⟨38, [(1, some (.pv (.str a1))), (2, some (.lp 0 0)), (5, some (.lp 1 0))], [(0, some (.box 45 [.pv (.vs 7 (List.map eGClass a0))])), (1, some (.box 71 [.ls 2])), (2, some (.row 81 14 (List.map eGSlot_field [])))], 3, [], [], 0, []⟩) (imp_sub [0, 1, 2] rfl (by decide) rfl rfl ⟨by kernel_rfl, by kernel_rfl, by kernel_rfl, trivial⟩ ⟨by kernel_rfl, by kernel_rfl, by kernel_rfl, trivial⟩ rfl rfl rfl) ?_
  refine post_next ?_
  refine aw_seq ?_
  refine aw_seq ?_
  refine aw_region ?_
  refine reg_cons (guard_no rfl) (op_load_lp (v := .pv (.vs 7 (List.map eGClass a0))) rfl rfl rfl rfl Try_one_45 rfl rfl) ?_
  refine reg_cons (guard_no rfl) (op_move rfl rfl rfl rfl) ?_
  obtain ⟨y5, h6, hF⟩ := bind_some hF
  refine reg_cons (guard_no rfl) (op_call 3 rfl (caps := []) (args := [.vs 7 (List.map eGClass a0), .str a1]) (rs := [.p (.vs 1 (List.map eI y5))]) rfl rfl rfl Try_cal_40 (Fn.frozen (above_Chain_ok h6)) rfl rfl rfl) ?_
  obtain ⟨y7, h8, hF⟩ := bind_some hF
  refine reg_cons (guard_no rfl) (op_call 3 rfl (caps := []) (args := [.vs 1 (List.map eI y5)]) (rs := [.p (.fn 85 [.vp ((eL 1 eI) y7)])]) rfl rfl rfl Try_cal_72 (slices_Backward_int_ok h8) rfl rfl rfl) ?_
  refine reg_nil ?_
  refine post_imp (s' := ⟨38, [(2, some (.lp 0 0)), (5, some (.lp 1 0)), (13, some (.pv (.fn 85 [.vp ((eL 1 eI) y7)])))], [(0, some (.box 45 [.pv (.vs 7 (List.map eGClass a0))])), (1, some (.box 71 [.ls 2])), (2, some (.row 81 14 (List.map eGSlot_field [])))], 3, [], [], 0, []⟩) (imp_sub [0, 1, 2] rfl (by decide) rfl rfl ⟨by kernel_rfl, by kernel_rfl, by kernel_rfl, trivial⟩ ⟨by kernel_rfl, by kernel_rfl, by kernel_rfl, trivial⟩ rfl rfl rfl) ?_
  refine post_next ?_
  refine aw_block ?_
  refine aw_imp (s' := ⟨38, [(2, some (.lp 0 0)), (5, some (.lp 1 0)), (13, some (.pv (.fn 85 [.vp ((eL 1 eI) y7)])))], [(0, some (.box 45 [.pv (.vs 7 (List.map eGClass a0))])), (1, some (.box 71 [.ls 2])), (2, some (.row 81 14 (List.map eGSlot_field [])))], 3, [], [], 0, []⟩) (imp_sub [0, 1, 2] rfl (by decide) rfl rfl ⟨by kernel_rfl, by kernel_rfl, by kernel_rfl, trivial⟩ ⟨by kernel_rfl, by kernel_rfl, by kernel_rfl, trivial⟩ rfl rfl rfl) ?_
  obtain ⟨rows171, hR172, hF⟩ := bind_some hF
  obtain ⟨lr173, hL174, hF⟩ := bind_some hF
  refine aw_rangeFunc (X := (Int × Int)) (Q := (List GSlot_field)) (E := Unit) (pre := [.vp ((eL 1 eI) y7)]) (bx := none) (post := []) (kt := [2, 5]) (psl := [14, 15]) none (fun z : Int × Int => ([.int .i64 z.1, .int .i64 z.2] : List PV)) rows171 (field_All_B1 a0) [] lr173 hL174 (fun q => ⟨38, [(2, some (.lp 0 0)), (5, some (.lp 1 0))], [(0, some (.box 45 [.pv (.vs 7 (List.map eGClass a0))])), (1, some (.box 71 [.ls 2])), (2, some (.row 81 14 (List.map eGSlot_field q)))], 3, [], [], 0, []⟩) (fun _ => (.ret, ⟨38, [], [], 0, [], [], 0, []⟩)) ⟨rfl, rfl⟩ Try_cal_85 (fun sp => slices_Backward_int_1_it (itR_back_ok hR172 sp)) (fun _ => rfl) rfl rfl (by decide) rfl (fun x q => ⟨38, [(2, some (.lp 0 0)), (5, some (.lp 1 0)), (7, some (.pv (.int .i64 x.2))), (14, some (.pv (.int .i64 x.1))), (15, some (.pv (.int .i64 x.2)))], [(0, some (.box 45 [.pv (.vs 7 (List.map eGClass a0))])), (1, some (.box 71 [.ls 2])), (2, some (.row 81 14 (List.map eGSlot_field q)))], 3, [], [], 0, [2, 5]⟩) (fun q => ⟨rfl, rfl, rfl, rfl⟩) (fun z => ⟨rfl, rfl, rfl, rfl⟩) (fun z => rfl) rfl rfl ⟨rfl, rfl, trivial⟩ ⟨⟨rfl, rfl, rfl⟩, ⟨rfl, rfl, rfl⟩, ⟨rfl, rfl, rfl⟩, trivial⟩ ?_ ?_ ?_ ?_
  · rintro l175 c176 ⟨x117, x118⟩ x62 hc177
    refine aw_region ?_
    refine reg_cons (guard_no rfl) (op_assign rfl rfl rfl rfl) ?_
    refine reg_nil ?_
    exact post_cut1 (imp_sub [0, 1, 2] rfl (by decide) rfl rfl ⟨by kernel_rfl, by kernel_rfl, by kernel_rfl, by kernel_rfl, by kernel_rfl, trivial⟩ ⟨by kernel_rfl, by kernel_rfl, by kernel_rfl, trivial⟩ rfl rfl rfl)
  · rintro l175 c176 ⟨x117, x118⟩ x62 r178 hc177 hF
    refine aw_block ?_
    refine aw_seq ?_
    refine aw_region ?_
    refine reg_cons (guard_no rfl) (op_load_lp (v := .pv (.vs 7 (List.map eGClass a0))) rfl rfl rfl rfl Try_one_45 rfl rfl) ?_
    refine reg_cons (guard_no rfl) (op_move rfl rfl rfl rfl) ?_
    obtain ⟨y121, h122, hF⟩ := bind_some hF
    refine reg_cons (guard_no rfl) (op_index_vs (k := .i64) rfl rfl rfl (idx_map eGClass h122) Try_slc_45 rfl rfl) ?_
    refine reg_cons (guard_no rfl) (op_field_vp rfl rfl Try_fld_94_4 rfl rfl) ?_
    refine reg_cons (guard_no rfl) (op_load_vp (p := .vs 13 (List.map eGVar y121.fFields)) rfl rfl rfl Try_one_91 rfl rfl) ?_
    refine reg_cons (guard_no rfl) (op_len_vs (n := y121.fFields.length) rfl rfl (List.length_map ..) Try_slc_91 rfl rfl) ?_
    refine reg_cons (guard_no rfl) (op_move rfl rfl rfl rfl) ?_
    refine reg_nil ?_
    refine post_imp (s' := ⟨38, [(2, some (.lp 0 0)), (5, some (.lp 1 0)), (7, some (.pv (.int .i64 x118))), (20, some (.pv (.vs 13 (List.map eGVar y121.fFields)))), (21, some (.pv (.int .i64 (y121.fFields.length : Int)))), (22, some (.pv (.int .i64 0)))], [(0, some (.box 45 [.pv (.vs 7 (List.map eGClass a0))])), (1, some (.box 71 [.ls 2])), (2, some (.row 81 14 (List.map eGSlot_field x62)))], 3, [], [], 0, [2, 5]⟩) (imp_sub [0, 1, 2] rfl (by decide) rfl rfl ⟨by kernel_rfl, by kernel_rfl, by kernel_rfl, by kernel_rfl, by kernel_rfl, by kernel_rfl, trivial⟩ ⟨by kernel_rfl, by kernel_rfl, by kernel_rfl, trivial⟩ rfl rfl rfl) ?_
    refine post_next ?_
    obtain ⟨x168, hF, hK169⟩ := bind_some hF
    refine aw_for ((((y121.fFields.length : Int) : Int) - (0)).toNat + 1) (fun s1 => s1 = ⟨38, [(2, some (.lp 0 0)), (5, some (.lp 1 0))], [(0, some (.box 45 [.pv (.vs 7 (List.map eGClass a0))])), (1, some (.box 71 [.ls 2])), (2, some (.row 81 14 (List.map eGSlot_field x168)))], 3, [], [], 0, [2, 5]⟩) ?_ ?_
    · refine rnd_loop (α := (List GSlot_field) × Int) (fun q => ⟨38, [(2, some (.lp 0 0)), (5, some (.lp 1 0)), (7, some (.pv (.int .i64 x118))), (20, some (.pv (.vs 13 (List.map eGVar y121.fFields)))), (21, some (.pv (.int .i64 (y121.fFields.length : Int)))), (22, some (.pv (.int .i64 q.2)))], [(0, some (.box 45 [.pv (.vs 7 (List.map eGClass a0))])), (1, some (.box 71 [.ls 2])), (2, some (.row 81 14 (List.map eGSlot_field q.1)))], 3, [], [], 0, [2, 5]⟩) (fun k q => field_All_L2 a0 x118 y121 k q.1 q.2 = some x168) (x62, 0) (imp_sub [0, 1, 2] rfl (by decide) rfl rfl ⟨by kernel_rfl, by kernel_rfl, by kernel_rfl, by kernel_rfl, by kernel_rfl, by kernel_rfl, trivial⟩ ⟨by kernel_rfl, by kernel_rfl, by kernel_rfl, trivial⟩ rfl rfl rfl) hF (fun q h => by cases h) ?_
      clear hF
      rintro k ⟨x136, x137⟩ hF ih
      refine rnd_succ ?_
      refine aw_seq ?_
      refine aw_region ?_
      refine reg_cons (guard_no rfl) (op_int (k := .i64) (m := x137) (n := (y121.fFields.length : Int)) rfl rfl rfl rfl rfl rfl) ?_
      refine reg_nil ?_
      refine post_imp (s' := ⟨38, [(2, some (.lp 0 0)), (5, some (.lp 1 0)), (7, some (.pv (.int .i64 x118))), (20, some (.pv (.vs 13 (List.map eGVar y121.fFields)))), (21, some (.pv (.int .i64 (y121.fFields.length : Int)))), (22, some (.pv (.int .i64 x137))), (23, some (.pv (.bool (decide (x137 < (y121.fFields.length : Int))))))], [(0, some (.box 45 [.pv (.vs 7 (List.map eGClass a0))])), (1, some (.box 71 [.ls 2])), (2, some (.row 81 14 (List.map eGSlot_field x136)))], 3, [], [], 0, [2, 5]⟩) (imp_sub [0, 1, 2] rfl (by decide) rfl rfl ⟨by kernel_rfl, by kernel_rfl, by kernel_rfl, by kernel_rfl, by kernel_rfl, by kernel_rfl, by kernel_rfl, trivial⟩ ⟨by kernel_rfl, by kernel_rfl, by kernel_rfl, trivial⟩ rfl rfl rfl) ?_
      refine post_next ?_
      refine aw_seq ?_
      rcases ite_some hF with ⟨hb153, hF⟩ | ⟨hb153, hF⟩
      · refine aw_cond_t rfl hb153 ?_
        refine aw_skip ?_
        refine post_next ?_
        refine aw_seq ?_
        refine aw_block ?_
        refine aw_seq ?_
        refine aw_region ?_
        obtain ⟨y156, h157, hF⟩ := bind_some hF
        refine reg_cons (guard_no rfl) (op_index_vs (k := .i64) rfl rfl rfl (idx_map eGVar h157) Try_slc_91 rfl rfl) ?_
        refine reg_cons (guard_no rfl) (op_load_vp_agg (ps := eGVar y156) rfl rfl rfl rfl Try_agg_79 rfl rfl) ?_
        refine reg_cons (guard_no rfl) (op_alloc 3 rfl (ps := [.str (({ fName := [], fType := ({ fKind := 0, fClass := [], fN := 0, fOwn := (⟨({ fKind := 0, fN := 0 } : GOwner), ({ fKind := 0, fN := 0 } : GOwner), ({ fKind := 0, fN := 0 } : GOwner), ({ fKind := 0, fN := 0 } : GOwner)⟩ : A4 GOwner) } : GType), fAt := 0 } : GVar).fName), .int .i64 ((({ fName := [], fType := ({ fKind := 0, fClass := [], fN := 0, fOwn := (⟨({ fKind := 0, fN := 0 } : GOwner), ({ fKind := 0, fN := 0 } : GOwner), ({ fKind := 0, fN := 0 } : GOwner), ({ fKind := 0, fN := 0 } : GOwner)⟩ : A4 GOwner) } : GType), fAt := 0 } : GVar).fType).fKind), .str ((({ fName := [], fType := ({ fKind := 0, fClass := [], fN := 0, fOwn := (⟨({ fKind := 0, fN := 0 } : GOwner), ({ fKind := 0, fN := 0 } : GOwner), ({ fKind := 0, fN := 0 } : GOwner), ({ fKind := 0, fN := 0 } : GOwner)⟩ : A4 GOwner) } : GType), fAt := 0 } : GVar).fType).fClass), .int .i64 ((({ fName := [], fType := ({ fKind := 0, fClass := [], fN := 0, fOwn := (⟨({ fKind := 0, fN := 0 } : GOwner), ({ fKind := 0, fN := 0 } : GOwner), ({ fKind := 0, fN := 0 } : GOwner), ({ fKind := 0, fN := 0 } : GOwner)⟩ : A4 GOwner) } : GType), fAt := 0 } : GVar).fType).fN), .int .i64 ((((({ fName := [], fType := ({ fKind := 0, fClass := [], fN := 0, fOwn := (⟨({ fKind := 0, fN := 0 } : GOwner), ({ fKind := 0, fN := 0 } : GOwner), ({ fKind := 0, fN := 0 } : GOwner), ({ fKind := 0, fN := 0 } : GOwner)⟩ : A4 GOwner) } : GType), fAt := 0 } : GVar).fType).fOwn).a0).fKind), .int .i64 ((((({ fName := [], fType := ({ fKind := 0, fClass := [], fN := 0, fOwn := (⟨({ fKind := 0, fN := 0 } : GOwner), ({ fKind := 0, fN := 0 } : GOwner), ({ fKind := 0, fN := 0 } : GOwner), ({ fKind := 0, fN := 0 } : GOwner)⟩ : A4 GOwner) } : GType), fAt := 0 } : GVar).fType).fOwn).a0).fN), .int .i64 ((((({ fName := [], fType := ({ fKind := 0, fClass := [], fN := 0, fOwn := (⟨({ fKind := 0, fN := 0 } : GOwner), ({ fKind := 0, fN := 0 } : GOwner), ({ fKind := 0, fN := 0 } : GOwner), ({ fKind := 0, fN := 0 } : GOwner)⟩ : A4 GOwner) } : GType), fAt := 0 } : GVar).fType).fOwn).a1).fKind), .int .i64 ((((({ fName := [], fType := ({ fKind := 0, fClass := [], fN := 0, fOwn := (⟨({ fKind := 0, fN := 0 } : GOwner), ({ fKind := 0, fN := 0 } : GOwner), ({ fKind := 0, fN := 0 } : GOwner), ({ fKind := 0, fN := 0 } : GOwner)⟩ : A4 GOwner) } : GType), fAt := 0 } : GVar).fType).fOwn).a1).fN), .int .i64 ((((({ fName := [], fType := ({ fKind := 0, fClass := [], fN := 0, fOwn := (⟨({ fKind := 0, fN := 0 } : GOwner), ({ fKind := 0, fN := 0 } : GOwner), ({ fKind := 0, fN := 0 } : GOwner), ({ fKind := 0, fN := 0 } : GOwner)⟩ : A4 GOwner) } : GType), fAt := 0 } : GVar).fType).fOwn).a2).fKind), .int .i64 ((((({ fName := [], fType := ({ fKind := 0, fClass := [], fN := 0, fOwn := (⟨({ fKind := 0, fN := 0 } : GOwner), ({ fKind := 0, fN := 0 } : GOwner), ({ fKind := 0, fN := 0 } : GOwner), ({ fKind := 0, fN := 0 } : GOwner)⟩ : A4 GOwner) } : GType), fAt := 0 } : GVar).fType).fOwn).a2).fN), .int .i64 ((((({ fName := [], fType := ({ fKind := 0, fClass := [], fN := 0, fOwn := (⟨({ fKind := 0, fN := 0 } : GOwner), ({ fKind := 0, fN := 0 } : GOwner), ({ fKind := 0, fN := 0 } : GOwner), ({ fKind := 0, fN := 0 } : GOwner)⟩ : A4 GOwner) } : GType), fAt := 0 } : GVar).fType).fOwn).a3).fKind), .int .i64 ((((({ fName := [], fType := ({ fKind := 0, fClass := [], fN := 0, fOwn := (⟨({ fKind := 0, fN := 0 } : GOwner), ({ fKind := 0, fN := 0 } : GOwner), ({ fKind := 0, fN := 0 } : GOwner), ({ fKind := 0, fN := 0 } : GOwner)⟩ : A4 GOwner) } : GType), fAt := 0 } : GVar).fType).fOwn).a3).fN), .int .i64 (({ fName := [], fType := ({ fKind := 0, fClass := [], fN := 0, fOwn := (⟨({ fKind := 0, fN := 0 } : GOwner), ({ fKind := 0, fN := 0 } : GOwner), ({ fKind := 0, fN := 0 } : GOwner), ({ fKind := 0, fN := 0 } : GOwner)⟩ : A4 GOwner) } : GType), fAt := 0 } : GVar).fAt)]) rfl Try_zer_79 (by exact ⟨rfl, rfl, rfl, rfl, rfl, rfl, rfl, rfl, rfl, rfl, rfl, rfl, rfl, trivial⟩) rfl rfl) ?_
        refine reg_cons (guard_no rfl) (op_store_lp (n := 13) rfl rfl rfl rfl rfl (or_agg Try_agg_79) (by rw [Try_non_79]; rfl) rfl rfl rfl) ?_
        refine reg_nil ?_
        refine post_imp (s' := ⟨38, [(2, some (.lp 0 0)), (5, some (.lp 1 0)), (7, some (.pv (.int .i64 x118))), (9, some (.lp 3 0)), (20, some (.pv (.vs 13 (List.map eGVar y121.fFields)))), (21, some (.pv (.int .i64 (y121.fFields.length : Int)))), (22, some (.pv (.int .i64 x137)))], [(0, some (.box 45 [.pv (.vs 7 (List.map eGClass a0))])), (1, some (.box 71 [.ls 2])), (2, some (.row 81 14 (List.map eGSlot_field x136))), (3, some (.box 79 [.pv (.str y156.fName), .pv (.int .i64 y156.fType.fKind), .pv (.str y156.fType.fClass), .pv (.int .i64 y156.fType.fN), .pv (.int .i64 y156.fType.fOwn.a0.fKind), .pv (.int .i64 y156.fType.fOwn.a0.fN), .pv (.int .i64 y156.fType.fOwn.a1.fKind), .pv (.int .i64 y156.fType.fOwn.a1.fN), .pv (.int .i64 y156.fType.fOwn.a2.fKind), .pv (.int .i64 y156.fType.fOwn.a2.fN), .pv (.int .i64 y156.fType.fOwn.a3.fKind), .pv (.int .i64 y156.fType.fOwn.a3.fN), .pv (.int .i64 y156.fAt)]))], 4, [], [], 0, [2, 5]⟩) (imp_sub [0, 1, 2, 3] rfl (by decide) rfl rfl ⟨by kernel_rfl, by kernel_rfl, by kernel_rfl, by kernel_rfl, by kernel_rfl, by kernel_rfl, by kernel_rfl, trivial⟩ ⟨by kernel_rfl, by kernel_rfl, by kernel_rfl, by kernel_rfl, trivial⟩ rfl rfl rfl) ?_
        refine post_next ?_
        obtain ⟨y162, h163, hF⟩ := bind_some hF
        obtain ⟨u164, h165, hF⟩ := bind_some hF
        refine aw_imp (imp_names 1) ?_
        refine aw_drawn ({ need := [(5, .lp 1 0)], hneed := [(1, .box 71 [.ls 2])], dst := some 26, val := some (.ls 2) } :: { need := [(2, .lp 0 0)], hneed := [(0, .box 45 [.pv (.vs 7 (List.map eGClass a0))])], dst := some 27, val := some (.pv (.vs 7 (List.map eGClass a0))) } :: { need := [(7, .pv (.int .i64 x118))], dst := some 28, val := some (.pv (.int .i64 x118)) } :: { need := [(27, .pv (.vs 7 (List.map eGClass a0))), (28, .pv (.int .i64 x118))], dst := some 29, val := some (.pv (.vp (eGClass y162))) } :: { need := [(29, .pv (.vp (eGClass y162)))], dst := some 30, val := some (.pv (.vp (List.drop 0 (eGClass y162)))) } :: { need := [(30, .pv (.vp (List.drop 0 (eGClass y162))))], dst := some 31, val := some (.pv (.str y162.fName)) } :: { need := [(9, .lp 3 0)], hneed := [(3, .box 79 [.pv (.str y156.fName), .pv (.int .i64 y156.fType.fKind), .pv (.str y156.fType.fClass), .pv (.int .i64 y156.fType.fN), .pv (.int .i64 y156.fType.fOwn.a0.fKind), .pv (.int .i64 y156.fType.fOwn.a0.fN), .pv (.int .i64 y156.fType.fOwn.a1.fKind), .pv (.int .i64 y156.fType.fOwn.a1.fN), .pv (.int .i64 y156.fType.fOwn.a2.fKind), .pv (.int .i64 y156.fType.fOwn.a2.fN), .pv (.int .i64 y156.fType.fOwn.a3.fKind), .pv (.int .i64 y156.fType.fOwn.a3.fN), .pv (.int .i64 y156.fAt)])], dst := some 32, val := some (.pv (.agg (eGVar y156))) } :: { need := [(32, .pv (.agg (eGVar y156))), (31, .pv (.str y162.fName))], dst := some 33, val := some (.pv (.agg (eGSlot_field ({ fClass := y162.fName, fVar := y156 } : GSlot_field)))) } :: { need := [(33, .pv (.agg (eGSlot_field ({ fClass := y162.fName, fVar := y156 } : GSlot_field))))], dst := some 34, val := some (.pv (.vs 14 (List.map eGSlot_field [({ fClass := y162.fName, fVar := y156 } : GSlot_field)]))) } :: { need := [(26, .ls 2), (34, .pv (.vs 14 (List.map eGSlot_field [({ fClass := y162.fName, fVar := y156 } : GSlot_field)])))], hneed := [(2, .row 81 14 (List.map eGSlot_field x136))], names := [4], dst := some 35, val := some (.ls 4), upd := [(4, some (.row 81 14 (List.map eGSlot_field (x136 ++ [({ fClass := y162.fName, fVar := y156 } : GSlot_field)])))), (2, none)] } :: { need := [(5, .lp 1 0), (35, .ls 4)], hneed := [(1, .box 71 [.ls 2])], upd := [(1, some (.box 71 [.ls 4]))] } :: []) ⟨_, _, _⟩ Try_mixed rfl ⟨fun m h => step_on (guard_no rfl) (op_load_lp (v := .ls 2) rfl h.1.1 h.2.1.1 rfl Try_one_71 rfl rfl) rfl, fun m h => step_on (guard_no rfl) (op_load_lp (v := .pv (.vs 7 (List.map eGClass a0))) rfl h.1.1 h.2.1.1 rfl Try_one_45 rfl rfl) rfl, fun m h => step_on (guard_no rfl) (op_move rfl h.1.1 rfl rfl) rfl, fun m h => step_on (guard_no rfl) (op_index_vs (k := .i64) rfl h.1.1 h.1.2.1 (idx_map eGClass h163) Try_slc_45 rfl rfl) rfl, fun m h => step_on (guard_no rfl) (op_field_vp rfl h.1.1 Try_fld_94_0 rfl rfl) rfl, fun m h => step_on (guard_no rfl) (op_load_vp (p := .str y162.fName) rfl h.1.1 rfl Try_one_9 rfl rfl) rfl, fun m h => step_on (guard_no rfl) (op_load_lp_agg (ps := eGVar y156) rfl h.1.1 h.2.1.1 rfl rfl rfl Try_agg_79 rfl rfl) rfl, fun m h => step_on (guard_no rfl) (op_build (zs := [.str (({ fClass := [], fVar := ({ fName := [], fType := ({ fKind := 0, fClass := [], fN := 0, fOwn := (⟨({ fKind := 0, fN := 0 } : GOwner), ({ fKind := 0, fN := 0 } : GOwner), ({ fKind := 0, fN := 0 } : GOwner), ({ fKind := 0, fN := 0 } : GOwner)⟩ : A4 GOwner) } : GType), fAt := 0 } : GVar) } : GSlot_field).fClass), .str ((({ fClass := [], fVar := ({ fName := [], fType := ({ fKind := 0, fClass := [], fN := 0, fOwn := (⟨({ fKind := 0, fN := 0 } : GOwner), ({ fKind := 0, fN := 0 } : GOwner), ({ fKind := 0, fN := 0 } : GOwner), ({ fKind := 0, fN := 0 } : GOwner)⟩ : A4 GOwner) } : GType), fAt := 0 } : GVar) } : GSlot_field).fVar).fName), .int .i64 (((({ fClass := [], fVar := ({ fName := [], fType := ({ fKind := 0, fClass := [], fN := 0, fOwn := (⟨({ fKind := 0, fN := 0 } : GOwner), ({ fKind := 0, fN := 0 } : GOwner), ({ fKind := 0, fN := 0 } : GOwner), ({ fKind := 0, fN := 0 } : GOwner)⟩ : A4 GOwner) } : GType), fAt := 0 } : GVar) } : GSlot_field).fVar).fType).fKind), .str (((({ fClass := [], fVar := ({ fName := [], fType := ({ fKind := 0, fClass := [], fN := 0, fOwn := (⟨({ fKind := 0, fN := 0 } : GOwner), ({ fKind := 0, fN := 0 } : GOwner), ({ fKind := 0, fN := 0 } : GOwner), ({ fKind := 0, fN := 0 } : GOwner)⟩ : A4 GOwner) } : GType), fAt := 0 } : GVar) } : GSlot_field).fVar).fType).fClass), .int .i64 (((({ fClass := [], fVar := ({ fName := [], fType := ({ fKind := 0, fClass := [], fN := 0, fOwn := (⟨({ fKind := 0, fN := 0 } : GOwner), ({ fKind := 0, fN := 0 } : GOwner), ({ fKind := 0, fN := 0 } : GOwner), ({ fKind := 0, fN := 0 } : GOwner)⟩ : A4 GOwner) } : GType), fAt := 0 } : GVar) } : GSlot_field).fVar).fType).fN), .int .i64 (((((({ fClass := [], fVar := ({ fName := [], fType := ({ fKind := 0, fClass := [], fN := 0, fOwn := (⟨({ fKind := 0, fN := 0 } : GOwner), ({ fKind := 0, fN := 0 } : GOwner), ({ fKind := 0, fN := 0 } : GOwner), ({ fKind := 0, fN := 0 } : GOwner)⟩ : A4 GOwner) } : GType), fAt := 0 } : GVar) } : GSlot_field).fVar).fType).fOwn).a0).fKind), .int .i64 (((((({ fClass := [], fVar := ({ fName := [], fType := ({ fKind := 0, fClass := [], fN := 0, fOwn := (⟨({ fKind := 0, fN := 0 } : GOwner), ({ fKind := 0, fN := 0 } : GOwner), ({ fKind := 0, fN := 0 } : GOwner), ({ fKind := 0, fN := 0 } : GOwner)⟩ : A4 GOwner) } : GType), fAt := 0 } : GVar) } : GSlot_field).fVar).fType).fOwn).a0).fN), .int .i64 (((((({ fClass := [], fVar := ({ fName := [], fType := ({ fKind := 0, fClass := [], fN := 0, fOwn := (⟨({ fKind := 0, fN := 0 } : GOwner), ({ fKind := 0, fN := 0 } : GOwner), ({ fKind := 0, fN := 0 } : GOwner), ({ fKind := 0, fN := 0 } : GOwner)⟩ : A4 GOwner) } : GType), fAt := 0 } : GVar) } : GSlot_field).fVar).fType).fOwn).a1).fKind), .int .i64 (((((({ fClass := [], fVar := ({ fName := [], fType := ({ fKind := 0, fClass := [], fN := 0, fOwn := (⟨({ fKind := 0, fN := 0 } : GOwner), ({ fKind := 0, fN := 0 } : GOwner), ({ fKind := 0, fN := 0 } : GOwner), ({ fKind := 0, fN := 0 } : GOwner)⟩ : A4 GOwner) } : GType), fAt := 0 } : GVar) } : GSlot_field).fVar).fType).fOwn).a1).fN), .int .i64 (((((({ fClass := [], fVar := ({ fName := [], fType := ({ fKind := 0, fClass := [], fN := 0, fOwn := (⟨({ fKind := 0, fN := 0 } : GOwner), ({ fKind := 0, fN := 0 } : GOwner), ({ fKind := 0, fN := 0 } : GOwner), ({ fKind := 0, fN := 0 } : GOwner)⟩ : A4 GOwner) } : GType), fAt := 0 } : GVar) } : GSlot_field).fVar).fType).fOwn).a2).fKind), .int .i64 (((((({ fClass := [], fVar := ({ fName := [], fType := ({ fKind := 0, fClass := [], fN := 0, fOwn := (⟨({ fKind := 0, fN := 0 } : GOwner), ({ fKind := 0, fN := 0 } : GOwner), ({ fKind := 0, fN := 0 } : GOwner), ({ fKind := 0, fN := 0 } : GOwner)⟩ : A4 GOwner) } : GType), fAt := 0 } : GVar) } : GSlot_field).fVar).fType).fOwn).a2).fN), .int .i64 (((((({ fClass := [], fVar := ({ fName := [], fType := ({ fKind := 0, fClass := [], fN := 0, fOwn := (⟨({ fKind := 0, fN := 0 } : GOwner), ({ fKind := 0, fN := 0 } : GOwner), ({ fKind := 0, fN := 0 } : GOwner), ({ fKind := 0, fN := 0 } : GOwner)⟩ : A4 GOwner) } : GType), fAt := 0 } : GVar) } : GSlot_field).fVar).fType).fOwn).a3).fKind), .int .i64 (((((({ fClass := [], fVar := ({ fName := [], fType := ({ fKind := 0, fClass := [], fN := 0, fOwn := (⟨({ fKind := 0, fN := 0 } : GOwner), ({ fKind := 0, fN := 0 } : GOwner), ({ fKind := 0, fN := 0 } : GOwner), ({ fKind := 0, fN := 0 } : GOwner)⟩ : A4 GOwner) } : GType), fAt := 0 } : GVar) } : GSlot_field).fVar).fType).fOwn).a3).fN), .int .i64 ((({ fClass := [], fVar := ({ fName := [], fType := ({ fKind := 0, fClass := [], fN := 0, fOwn := (⟨({ fKind := 0, fN := 0 } : GOwner), ({ fKind := 0, fN := 0 } : GOwner), ({ fKind := 0, fN := 0 } : GOwner), ({ fKind := 0, fN := 0 } : GOwner)⟩ : A4 GOwner) } : GType), fAt := 0 } : GVar) } : GSlot_field).fVar).fAt)]) (r := eGSlot_field ({ fClass := y162.fName, fVar := y156 } : GSlot_field)) rfl Try_zer_81 (by exact ⟨rfl, rfl, rfl, rfl, rfl, rfl, rfl, rfl, rfl, rfl, rfl, rfl, rfl, rfl, trivial⟩) Try_plc_81 (evs_cons h.1.2.1 (evs_cons h.1.1 evs_nil)) rfl rfl rfl) rfl, fun m h => step_on (guard_no rfl) (op_lit (rows := List.map eGSlot_field ([({ fClass := y162.fName, fVar := y156 } : GSlot_field)] : List GSlot_field)) (zs := [.str (({ fClass := [], fVar := ({ fName := [], fType := ({ fKind := 0, fClass := [], fN := 0, fOwn := (⟨({ fKind := 0, fN := 0 } : GOwner), ({ fKind := 0, fN := 0 } : GOwner), ({ fKind := 0, fN := 0 } : GOwner), ({ fKind := 0, fN := 0 } : GOwner)⟩ : A4 GOwner) } : GType), fAt := 0 } : GVar) } : GSlot_field).fClass), .str ((({ fClass := [], fVar := ({ fName := [], fType := ({ fKind := 0, fClass := [], fN := 0, fOwn := (⟨({ fKind := 0, fN := 0 } : GOwner), ({ fKind := 0, fN := 0 } : GOwner), ({ fKind := 0, fN := 0 } : GOwner), ({ fKind := 0, fN := 0 } : GOwner)⟩ : A4 GOwner) } : GType), fAt := 0 } : GVar) } : GSlot_field).fVar).fName), .int .i64 (((({ fClass := [], fVar := ({ fName := [], fType := ({ fKind := 0, fClass := [], fN := 0, fOwn := (⟨({ fKind := 0, fN := 0 } : GOwner), ({ fKind := 0, fN := 0 } : GOwner), ({ fKind := 0, fN := 0 } : GOwner), ({ fKind := 0, fN := 0 } : GOwner)⟩ : A4 GOwner) } : GType), fAt := 0 } : GVar) } : GSlot_field).fVar).fType).fKind), .str (((({ fClass := [], fVar := ({ fName := [], fType := ({ fKind := 0, fClass := [], fN := 0, fOwn := (⟨({ fKind := 0, fN := 0 } : GOwner), ({ fKind := 0, fN := 0 } : GOwner), ({ fKind := 0, fN := 0 } : GOwner), ({ fKind := 0, fN := 0 } : GOwner)⟩ : A4 GOwner) } : GType), fAt := 0 } : GVar) } : GSlot_field).fVar).fType).fClass), .int .i64 (((({ fClass := [], fVar := ({ fName := [], fType := ({ fKind := 0, fClass := [], fN := 0, fOwn := (⟨({ fKind := 0, fN := 0 } : GOwner), ({ fKind := 0, fN := 0 } : GOwner), ({ fKind := 0, fN := 0 } : GOwner), ({ fKind := 0, fN := 0 } : GOwner)⟩ : A4 GOwner) } : GType), fAt := 0 } : GVar) } : GSlot_field).fVar).fType).fN), .int .i64 (((((({ fClass := [], fVar := ({ fName := [], fType := ({ fKind := 0, fClass := [], fN := 0, fOwn := (⟨({ fKind := 0, fN := 0 } : GOwner), ({ fKind := 0, fN := 0 } : GOwner), ({ fKind := 0, fN := 0 } : GOwner), ({ fKind := 0, fN := 0 } : GOwner)⟩ : A4 GOwner) } : GType), fAt := 0 } : GVar) } : GSlot_field).fVar).fType).fOwn).a0).fKind), .int .i64 (((((({ fClass := [], fVar := ({ fName := [], fType := ({ fKind := 0, fClass := [], fN := 0, fOwn := (⟨({ fKind := 0, fN := 0 } : GOwner), ({ fKind := 0, fN := 0 } : GOwner), ({ fKind := 0, fN := 0 } : GOwner), ({ fKind := 0, fN := 0 } : GOwner)⟩ : A4 GOwner) } : GType), fAt := 0 } : GVar) } : GSlot_field).fVar).fType).fOwn).a0).fN), .int .i64 (((((({ fClass := [], fVar := ({ fName := [], fType := ({ fKind := 0, fClass := [], fN := 0, fOwn := (⟨({ fKind := 0, fN := 0 } : GOwner), ({ fKind := 0, fN := 0 } : GOwner), ({ fKind := 0, fN := 0 } : GOwner), ({ fKind := 0, fN := 0 } : GOwner)⟩ : A4 GOwner) } : GType), fAt := 0 } : GVar) } : GSlot_field).fVar).fType).fOwn).a1).fKind), .int .i64 (((((({ fClass := [], fVar := ({ fName := [], fType := ({ fKind := 0, fClass := [], fN := 0, fOwn := (⟨({ fKind := 0, fN := 0 } : GOwner), ({ fKind := 0, fN := 0 } : GOwner), ({ fKind := 0, fN := 0 } : GOwner), ({ fKind := 0, fN := 0 } : GOwner)⟩ : A4 GOwner) } : GType), fAt := 0 } : GVar) } : GSlot_field).fVar).fType).fOwn).a1).fN), .int .i64 (((((({ fClass := [], fVar := ({ fName := [], fType := ({ fKind := 0, fClass := [], fN := 0, fOwn := (⟨({ fKind := 0, fN := 0 } : GOwner), ({ fKind := 0, fN := 0 } : GOwner), ({ fKind := 0, fN := 0 } : GOwner), ({ fKind := 0, fN := 0 } : GOwner)⟩ : A4 GOwner) } : GType), fAt := 0 } : GVar) } : GSlot_field).fVar).fType).fOwn).a2).fKind), .int .i64 (((((({ fClass := [], fVar := ({ fName := [], fType := ({ fKind := 0, fClass := [], fN := 0, fOwn := (⟨({ fKind := 0, fN := 0 } : GOwner), ({ fKind := 0, fN := 0 } : GOwner), ({ fKind := 0, fN := 0 } : GOwner), ({ fKind := 0, fN := 0 } : GOwner)⟩ : A4 GOwner) } : GType), fAt := 0 } : GVar) } : GSlot_field).fVar).fType).fOwn).a2).fN), .int .i64 (((((({ fClass := [], fVar := ({ fName := [], fType := ({ fKind := 0, fClass := [], fN := 0, fOwn := (⟨({ fKind := 0, fN := 0 } : GOwner), ({ fKind := 0, fN := 0 } : GOwner), ({ fKind := 0, fN := 0 } : GOwner), ({ fKind := 0, fN := 0 } : GOwner)⟩ : A4 GOwner) } : GType), fAt := 0 } : GVar) } : GSlot_field).fVar).fType).fOwn).a3).fKind), .int .i64 (((((({ fClass := [], fVar := ({ fName := [], fType := ({ fKind := 0, fClass := [], fN := 0, fOwn := (⟨({ fKind := 0, fN := 0 } : GOwner), ({ fKind := 0, fN := 0 } : GOwner), ({ fKind := 0, fN := 0 } : GOwner), ({ fKind := 0, fN := 0 } : GOwner)⟩ : A4 GOwner) } : GType), fAt := 0 } : GVar) } : GSlot_field).fVar).fType).fOwn).a3).fN), .int .i64 ((({ fClass := [], fVar := ({ fName := [], fType := ({ fKind := 0, fClass := [], fN := 0, fOwn := (⟨({ fKind := 0, fN := 0 } : GOwner), ({ fKind := 0, fN := 0 } : GOwner), ({ fKind := 0, fN := 0 } : GOwner), ({ fKind := 0, fN := 0 } : GOwner)⟩ : A4 GOwner) } : GType), fAt := 0 } : GVar) } : GSlot_field).fVar).fAt)]) rfl rfl Try_slc_71 Try_zer_81 (by exact ⟨rfl, rfl, rfl, rfl, rfl, rfl, rfl, rfl, rfl, rfl, rfl, rfl, rfl, rfl, trivial⟩) rfl rfl rfl (evs_cons h.1.1 evs_nil) rfl rfl rfl rfl) rfl, fun m h => step_on (guard_no rfl) (op_append 4 (fresh_free h.2.2.1) rfl h.1.1 h.2.1.1 h.1.2.1 Try_slc_71 Try_elm_81 Try_zer_81 rfl rfl rfl (room_map (f := eGSlot_field) (g := eGSlot_field) h165) (List.map_append (f := eGSlot_field) (l₁ := x136) (l₂ := [({ fClass := y162.fName, fVar := y156 } : GSlot_field)])).symm rfl rfl) rfl, fun m h => step_on (guard_no rfl) (op_store_lp (n := 1) rfl h.1.1 h.1.2.1 rfl h.2.1.1 (or_one Try_one_71) (by rw [Try_one_71]; rfl) rfl rfl rfl) rfl, trivial⟩ ⟨⟨⟨rfl, trivial⟩, ⟨rfl, trivial⟩, trivial⟩, ⟨⟨rfl, trivial⟩, ⟨rfl, trivial⟩, trivial⟩, ⟨⟨rfl, trivial⟩, trivial, trivial⟩, ⟨⟨rfl, rfl, trivial⟩, trivial, trivial⟩, ⟨⟨rfl, trivial⟩, trivial, trivial⟩, ⟨⟨rfl, trivial⟩, trivial, trivial⟩, ⟨⟨rfl, trivial⟩, ⟨rfl, trivial⟩, trivial⟩, ⟨⟨rfl, rfl, trivial⟩, trivial, trivial⟩, ⟨⟨rfl, trivial⟩, trivial, trivial⟩, ⟨⟨rfl, rfl, trivial⟩, ⟨rfl, trivial⟩, ⟨rfl, trivial⟩⟩, ⟨⟨rfl, rfl, trivial⟩, ⟨rfl, trivial⟩, trivial⟩, trivial⟩ (by kernel_rfl) ?_
        refine post_imp (s' := ⟨38, [(2, some (.lp 0 0)), (5, some (.lp 1 0)), (7, some (.pv (.int .i64 x118))), (20, some (.pv (.vs 13 (List.map eGVar y121.fFields)))), (21, some (.pv (.int .i64 (y121.fFields.length : Int)))), (22, some (.pv (.int .i64 x137)))], [(0, some (.box 45 [.pv (.vs 7 (List.map eGClass a0))])), (1, some (.box 71 [.ls 2])), (2, some (.row 81 14 (List.map eGSlot_field (x136 ++ [({ fClass := y162.fName, fVar := y156 } : GSlot_field)]))))], 3, [], [], 0, [2, 5]⟩) (imp_sub [0, 1, 4] rfl (by decide) rfl rfl ⟨by kernel_rfl, by kernel_rfl, by kernel_rfl, by kernel_rfl, by kernel_rfl, by kernel_rfl, trivial⟩ ⟨by kernel_rfl, by kernel_rfl, by kernel_rfl, trivial⟩ rfl rfl rfl) ?_
        refine post_block_normal ?_
        refine post_next ?_
        refine aw_region ?_
        refine reg_cons (guard_no rfl) (op_int (k := .i64) (m := x137) (n := 1) rfl rfl rfl rfl rfl rfl) ?_
        refine reg_cons (guard_no rfl) (op_move rfl rfl rfl rfl) ?_
        refine reg_nil ?_
        refine post_round ?_
        exact rnd_back (ih ((x136 ++ [({ fClass := y162.fName, fVar := y156 } : GSlot_field)]), w_i64 (x137 + 1)) hF) (imp_sub [0, 1, 2] rfl (by decide) rfl rfl ⟨by kernel_rfl, by kernel_rfl, by kernel_rfl, by kernel_rfl, by kernel_rfl, by kernel_rfl, trivial⟩ ⟨by kernel_rfl, by kernel_rfl, by kernel_rfl, trivial⟩ rfl rfl rfl)
      · refine aw_cond_f rfl hb153 ?_
        refine aw_exit ?_
        refine post_then_exit ?_
        refine post_then_exit ?_
        obtain rfl := Option.some.inj hF
        exact post_lp_break _ rfl (imp_sub [0, 1, 2] rfl (by decide) rfl rfl ⟨by kernel_rfl, by kernel_rfl, trivial⟩ ⟨by kernel_rfl, by kernel_rfl, by kernel_rfl, trivial⟩ rfl rfl rfl)
    · rintro _ rfl
      have hF := hK169
      clear hK169
      refine post_block_normal ?_
      obtain rfl := Option.some.inj hF
      exact post_rnd x168 rfl (imp_sub [0, 1, 2] rfl (by decide) rfl rfl ⟨by kernel_rfl, by kernel_rfl, trivial⟩ ⟨by kernel_rfl, by kernel_rfl, by kernel_rfl, trivial⟩ rfl rfl rfl)
  · rintro x62 rfl
    have hF := elim_next hF
    refine post_block_normal ?_
    refine post_next ?_
    refine aw_seq ?_
    refine aw_region ?_
    refine reg_cons (guard_no rfl) (op_load_lp (v := .ls 2) rfl rfl rfl rfl Try_one_71 rfl rfl) ?_
    refine reg_cons (guard_no rfl) (op_assign rfl rfl rfl rfl) ?_
    refine reg_nil ?_
    refine post_imp (s' := ⟨38, [(4, some (.ls 0))], [(0, some (.row 81 14 (List.map eGSlot_field x62)))], 1, [], [], 0, []⟩) (imp_sub [2] rfl (by decide) rfl rfl ⟨by kernel_rfl, trivial⟩ ⟨by kernel_rfl, trivial⟩ rfl rfl rfl) ?_
    refine post_next ?_
    refine aw_ret ?_
    obtain rfl := Option.some.inj hF
    exact post_ret rfl rfl (.cons _ _ _ _ _ (.tmp _ _ rfl) (.own _ _ _ _ rfl nolent3) .nil) (.inl rfl)
  · rintro ⟨⟩ rfl
    have hF := elim_stop hF
    cases hF
theorem field_named_ok {a0 : List UInt8} {r : (List UInt8)} (hF : field_named a0 = some r) : Abs.Fn Try.prog 77 [.str a0] [.p (.fn 93 [.vp (eS r)])] := by
  unfold field_named at hF
  refine fn_of_body (n := 4) Try.func77 rfl rfl rfl ?_
  intro w O
  refine aw_seq ?_
  refine aw_region ?_
  refine reg_cons (guard_no rfl) (op_box 0 rfl rfl rfl rfl rfl rfl) ?_
  refine reg_cons (guard_no rfl) (op_assign rfl rfl rfl rfl) ?_
  refine reg_nil ?_
  refine post_imp (s' := ⟨4, [(1, some (.lp 0 0))], [(0, some (.box 9 [.pv (.str a0)]))], 1, [], [], 0, []⟩) (imp_sub [0] rfl (by decide) rfl rfl ⟨by kernel_rfl, trivial⟩ ⟨by kernel_rfl, trivial⟩ rfl rfl rfl) ?_
  refine post_next ?_
  refine aw_seq ?_
  refine aw_region ?_
  refine reg_cons (guard_no rfl) (op_makeFunc rfl rfl rfl rfl) ?_
  refine reg_cons (guard_no rfl) (op_assign rfl rfl rfl rfl) ?_
  refine reg_nil ?_
  refine post_imp (s' := ⟨4, [(2, some (.fn 93 [.lp 0 0]))], [(0, some (.box 9 [.pv (.str a0)]))], 1, [], [], 0, []⟩) (imp_sub [0] rfl (by decide) rfl rfl ⟨by kernel_rfl, trivial⟩ ⟨by kernel_rfl, trivial⟩ rfl rfl rfl) ?_
  refine post_next ?_
  refine aw_ret ?_
  refine post_imp (imp_freeze [(0, some (.box 9 [.pv (.str a0)]))] [(2, some (.pv (.fn 93 [.vp (eS a0)])))] (FzH.spec ⟨rfl, trivial⟩) ⟨⟨_, rfl, rfl⟩, trivial⟩) ?_
  obtain rfl := Option.some.inj hF
  exact post_ret rfl rfl (.cons _ _ _ _ _ (.tmp _ _ rfl) (.p _) .nil) (.inl rfl)
theorem slices_IndexFunc_field_Slot_ok {a0 : List GSlot_field} {q1 : GSlot_field → Option Bool} {r : Int} {q1_f : Nat} {q1_c : List PV} (q1_b : callB Try.prog q1_f = true) (q1_h : ∀ (x0 : GSlot_field) (r : Bool), q1 x0 = some r → Abs.Fn Try.prog q1_f ([.agg (eGSlot_field x0)] ++ q1_c) [.p (.bool r)]) (hF : slices_IndexFunc_field_Slot a0 q1 = some r) : Abs.Fn Try.prog 76 [.vs 14 (List.map eGSlot_field a0), .fn q1_f q1_c] [.p (.int .i64 r)] := by
  unfold slices_IndexFunc_field_Slot at hF
  refine fn_of_body (n := 19) Try.func76 rfl rfl rfl ?_
  intro w O
  refine aw_seq ?_
  refine aw_region ?_
  refine reg_cons (guard_no rfl) (op_assign rfl rfl rfl rfl) ?_
  refine reg_nil ?_
  refine post_imp (s' := ⟨19, [(0, some (.pv (.vs 14 (List.map eGSlot_field a0)))), (1, some (.pv (.fn q1_f q1_c)))], [], 0, [], [], 0, []⟩) (imp_sub [] rfl (by decide) rfl rfl ⟨by kernel_rfl, by kernel_rfl, trivial⟩ trivial rfl rfl rfl) ?_
  refine post_next ?_
  refine aw_seq ?_
  refine aw_seq ?_
  refine aw_region ?_
  refine reg_cons (guard_no rfl) (op_move rfl rfl rfl rfl) ?_
  refine reg_cons (guard_no rfl) (op_len_vs (n := a0.length) rfl rfl (List.length_map ..) Try_slc_71 rfl rfl) ?_
  refine reg_cons (guard_no rfl) (op_move rfl rfl rfl rfl) ?_
  refine reg_nil ?_
  refine post_imp (s' := ⟨19, [(0, some (.pv (.vs 14 (List.map eGSlot_field a0)))), (1, some (.pv (.fn q1_f q1_c))), (7, some (.pv (.int .i64 (a0.length : Int)))), (8, some (.pv (.int .i64 0)))], [], 0, [], [], 0, []⟩) (imp_sub [] rfl (by decide) rfl rfl ⟨by kernel_rfl, by kernel_rfl, by kernel_rfl, by kernel_rfl, trivial⟩ trivial rfl rfl rfl) ?_
  refine post_next ?_
  obtain ⟨lr34, hF, hK35⟩ := bind_some hF
  refine aw_for ((((a0.length : Int) : Int) - (0)).toNat + 1) (fun s1 => ∃ q, lr34 = .next q ∧ s1 = ⟨19, [], [], 0, [], [], 0, []⟩) ?_ ?_
  · refine rnd_loop (α := Int) (fun q => ⟨19, [(0, some (.pv (.vs 14 (List.map eGSlot_field a0)))), (1, some (.pv (.fn q1_f q1_c))), (7, some (.pv (.int .i64 (a0.length : Int)))), (8, some (.pv (.int .i64 q)))], [], 0, [], [], 0, []⟩) (fun k q => slices_IndexFunc_field_Slot_L1 a0 q1 k q = some lr34) 0 (imp_sub [] rfl (by decide) rfl rfl ⟨by kernel_rfl, by kernel_rfl, by kernel_rfl, by kernel_rfl, trivial⟩ trivial rfl rfl rfl) hF (fun q h => by cases h) ?_
    clear hF
    rintro k x11 hF ih
    refine rnd_succ ?_
    refine aw_seq ?_
    refine aw_region ?_
    refine reg_cons (guard_no rfl) (op_int (k := .i64) (m := x11) (n := (a0.length : Int)) rfl rfl rfl rfl rfl rfl) ?_
    refine reg_nil ?_
    refine post_imp (s' := ⟨19, [(0, some (.pv (.vs 14 (List.map eGSlot_field a0)))), (1, some (.pv (.fn q1_f q1_c))), (7, some (.pv (.int .i64 (a0.length : Int)))), (8, some (.pv (.int .i64 x11))), (9, some (.pv (.bool (decide (x11 < (a0.length : Int))))))], [], 0, [], [], 0, []⟩) (imp_sub [] rfl (by decide) rfl rfl ⟨by kernel_rfl, by kernel_rfl, by kernel_rfl, by kernel_rfl, by kernel_rfl, trivial⟩ trivial rfl rfl rfl) ?_
    refine post_next ?_
    refine aw_seq ?_
    rcases ite_some hF with ⟨hb23, hF⟩ | ⟨hb23, hF⟩
    · refine aw_cond_t rfl hb23 ?_
      refine aw_skip ?_
      refine post_next ?_
      refine aw_seq ?_
      refine aw_block ?_
      refine aw_seq ?_
      refine aw_region ?_
      refine reg_cons (guard_no rfl) (op_move rfl rfl rfl rfl) ?_
      refine reg_cons (guard_no rfl) (op_assign rfl rfl rfl rfl) ?_
      refine reg_nil ?_
      refine post_imp (s' := ⟨19, [(0, some (.pv (.vs 14 (List.map eGSlot_field a0)))), (1, some (.pv (.fn q1_f q1_c))), (5, some (.pv (.int .i64 x11))), (7, some (.pv (.int .i64 (a0.length : Int)))), (8, some (.pv (.int .i64 x11)))], [], 0, [], [], 0, []⟩) (imp_sub [] rfl (by decide) rfl rfl ⟨by kernel_rfl, by kernel_rfl, by kernel_rfl, by kernel_rfl, by kernel_rfl, trivial⟩ trivial rfl rfl rfl) ?_
      refine post_next ?_
      refine aw_seq ?_
      refine aw_region ?_
      refine reg_cons (guard_no rfl) (op_move rfl rfl rfl rfl) ?_
      refine reg_cons (guard_no rfl) (op_move rfl rfl rfl rfl) ?_
      refine reg_cons (guard_no rfl) (op_move rfl rfl rfl rfl) ?_
      obtain ⟨y28, h29, hF⟩ := bind_some hF
      refine reg_cons (guard_no rfl) (op_index_vs (k := .i64) rfl rfl rfl (idx_map eGSlot_field h29) Try_slc_71 rfl rfl) ?_
      refine reg_cons (guard_no rfl) (op_load_vp_agg (ps := eGSlot_field y28) rfl rfl rfl rfl Try_agg_81 rfl rfl) ?_
      obtain ⟨y30, h31, hF⟩ := bind_some hF
      refine reg_cons (guard_no rfl) (op_call 0 rfl (caps := q1_c) (args := [.agg (eGSlot_field y28)]) (rs := [.p (.bool y30)]) rfl rfl rfl q1_b (q1_h y28 _ h31) rfl rfl rfl) ?_
      refine reg_nil ?_
      refine post_imp (s' := ⟨19, [(0, some (.pv (.vs 14 (List.map eGSlot_field a0)))), (1, some (.pv (.fn q1_f q1_c))), (5, some (.pv (.int .i64 x11))), (7, some (.pv (.int .i64 (a0.length : Int)))), (8, some (.pv (.int .i64 x11))), (16, some (.pv (.bool y30)))], [], 0, [], [], 0, []⟩) (imp_sub [] rfl (by decide) rfl rfl ⟨by kernel_rfl, by kernel_rfl, by kernel_rfl, by kernel_rfl, by kernel_rfl, by kernel_rfl, trivial⟩ trivial rfl rfl rfl) ?_
      refine post_next ?_
      rcases ite_some hF with ⟨hb32, hF⟩ | ⟨hb32, hF⟩
      · refine aw_cond_t rfl hb32 ?_
        refine aw_seq ?_
        refine aw_region ?_
        refine reg_cons (guard_no rfl) (op_move rfl rfl rfl rfl) ?_
        refine reg_cons (guard_no rfl) (op_assign rfl rfl rfl rfl) ?_
        refine reg_nil ?_
        refine post_imp (s' := ⟨19, [(4, some (.pv (.int .i64 x11)))], [], 0, [], [], 0, []⟩) (imp_sub [] rfl (by decide) rfl rfl ⟨by kernel_rfl, trivial⟩ trivial rfl rfl rfl) ?_
        refine post_next ?_
        refine aw_ret ?_
        refine post_block_ret ?_
        refine post_then_ret ?_
        refine post_then_ret ?_
        refine post_lp_ret ?_
        obtain rfl := Option.some.inj hF
        have hF := elim_stop hK35
        refine post_then_ret ?_
        obtain rfl := Option.some.inj hF
        exact post_ret rfl rfl (.cons _ _ _ _ _ (.tmp _ _ rfl) (.p _) .nil) (.inl rfl)
      · refine aw_cond_f rfl hb32 ?_
        refine aw_skip ?_
        refine post_block_normal ?_
        refine post_next ?_
        refine aw_region ?_
        refine reg_cons (guard_no rfl) (op_int (k := .i64) (m := x11) (n := 1) rfl rfl rfl rfl rfl rfl) ?_
        refine reg_cons (guard_no rfl) (op_move rfl rfl rfl rfl) ?_
        refine reg_nil ?_
        refine post_round ?_
        exact rnd_back (ih (w_i64 (x11 + 1)) hF) (imp_sub [] rfl (by decide) rfl rfl ⟨by kernel_rfl, by kernel_rfl, by kernel_rfl, by kernel_rfl, trivial⟩ trivial rfl rfl rfl)
    · refine aw_cond_f rfl hb23 ?_
      refine aw_exit ?_
      refine post_then_exit ?_
      refine post_then_exit ?_
      obtain rfl := Option.some.inj hF
      exact post_lp_break _ ⟨_, rfl, rfl⟩ (imp_sub [] rfl (by decide) rfl rfl trivial trivial rfl rfl rfl)
  · rintro _ ⟨⟨⟩, rfl, rfl⟩
    have hF := elim_next hK35
    clear hK35
    refine post_next ?_
    refine aw_seq ?_
    refine aw_region ?_
    refine reg_cons (guard_no rfl) (op_assign rfl rfl rfl rfl) ?_
    refine reg_nil ?_
    refine post_imp (s' := ⟨19, [(4, some (.pv (.int .i64 (-1))))], [], 0, [], [], 0, []⟩) (imp_sub [] rfl (by decide) rfl rfl ⟨by kernel_rfl, trivial⟩ trivial rfl rfl rfl) ?_
    refine post_next ?_
    refine aw_ret ?_
    obtain rfl := Option.some.inj hF
    exact post_ret rfl rfl (.cons _ _ _ _ _ (.tmp _ _ rfl) (.p _) .nil) (.inl rfl)
theorem field_named_1_ok {a0 : GSlot_field} {c0 : List UInt8} {r : Bool} (hF : field_named_1 a0 c0 = some r) : Abs.Fn Try.prog 93 [.agg (eGSlot_field a0), .vp (eS c0)] [.p (.bool r)] := by
  unfold field_named_1 at hF
  refine fn_of_body (n := 9) Try.func93 rfl rfl rfl ?_
  intro w O
  refine aw_seq ?_
  refine aw_region ?_
  refine reg_cons (guard_no rfl) (op_box 0 rfl rfl rfl rfl rfl rfl) ?_
  refine reg_cons (guard_no rfl) (op_assign rfl rfl rfl rfl) ?_
  refine reg_nil ?_
  refine post_imp (s' := ⟨9, [(1, some (.pv (.vp (eS c0)))), (2, some (.lp 0 0))], [(0, some (.box 81 [.pv (.str a0.fClass), .pv (.str a0.fVar.fName), .pv (.int .i64 a0.fVar.fType.fKind), .pv (.str a0.fVar.fType.fClass), .pv (.int .i64 a0.fVar.fType.fN), .pv (.int .i64 a0.fVar.fType.fOwn.a0.fKind), .pv (.int .i64 a0.fVar.fType.fOwn.a0.fN), .pv (.int .i64 a0.fVar.fType.fOwn.a1.fKind), .pv (.int .i64 a0.fVar.fType.fOwn.a1.fN), .pv (.int .i64 a0.fVar.fType.fOwn.a2.fKind), .pv (.int .i64 a0.fVar.fType.fOwn.a2.fN), .pv (.int .i64 a0.fVar.fType.fOwn.a3.fKind), .pv (.int .i64 a0.fVar.fType.fOwn.a3.fN), .pv (.int .i64 a0.fVar.fAt)]))], 1, [], [], 0, []⟩) (imp_sub [0] rfl (by decide) rfl rfl ⟨by kernel_rfl, by kernel_rfl, trivial⟩ ⟨by kernel_rfl, trivial⟩ rfl rfl rfl) ?_
  refine post_next ?_
  refine aw_seq ?_
  refine aw_region ?_
  refine reg_cons (guard_no rfl) (op_field_lp rfl rfl Try_fld_81_1 rfl rfl) ?_
  refine reg_cons (guard_no rfl) (op_field_lp rfl rfl Try_fld_79_0 rfl rfl) ?_
  refine reg_cons (guard_no rfl) (op_load_lp (v := .pv (.str a0.fVar.fName)) rfl rfl rfl rfl Try_one_9 rfl rfl) ?_
  refine reg_cons (guard_no rfl) (op_load_vp (p := .str c0) rfl rfl rfl Try_one_9 rfl rfl) ?_
  refine reg_cons (guard_no rfl) (op_str rfl rfl rfl rfl rfl rfl) ?_
  refine reg_cons (guard_no rfl) (op_assign rfl rfl rfl rfl) ?_
  refine reg_nil ?_
  refine post_imp (s' := ⟨9, [(3, some (.pv (.bool (a0.fVar.fName == c0))))], [], 0, [], [], 0, []⟩) (imp_sub [] rfl (by decide) rfl rfl ⟨by kernel_rfl, trivial⟩ trivial rfl rfl rfl) ?_
  refine post_next ?_
  refine aw_ret ?_
  obtain rfl := Option.some.inj hF
  exact post_ret rfl rfl (.cons _ _ _ _ _ (.tmp _ _ rfl) (.p _) .nil) (.inl rfl)
theorem field_Find_ok {a0 : List GClass} {a1 : List UInt8} {a2 : List UInt8} {r : Int} (hF : field_Find a0 a1 a2 = some r) : Abs.Fn Try.prog 54 [.vs 7 (List.map eGClass a0), .str a1, .str a2] [.p (.int .i64 r)] := by
  unfold field_Find at hF
  refine fn_of_body (n := 13) Try.func54 rfl rfl rfl ?_
  intro w O
  refine aw_seq ?_
  refine aw_region ?_
  refine reg_cons (guard_no rfl) (op_assign rfl rfl rfl rfl) ?_
  refine reg_nil ?_
  refine post_imp (s' := ⟨13, [(0, some (.pv (.vs 7 (List.map eGClass a0)))), (1, some (.pv (.str a1))), (2, some (.pv (.str a2)))], [], 0, [], [], 0, []⟩) (imp_sub [] rfl (by decide) rfl rfl ⟨by kernel_rfl, by kernel_rfl, by kernel_rfl, trivial⟩ trivial rfl rfl rfl) ?_
  refine post_next ?_
  refine aw_seq ?_
  refine aw_region ?_
  refine reg_cons (guard_no rfl) (op_move rfl rfl rfl rfl) ?_
  refine reg_cons (guard_no rfl) (op_move rfl rfl rfl rfl) ?_
  obtain ⟨y1, h2, hF⟩ := bind_some hF
  refine reg_cons (guard_no rfl) (op_call 0 rfl (caps := []) (args := [.vs 7 (List.map eGClass a0), .str a1]) (rs := [.p (.vs 14 (List.map eGSlot_field y1))]) rfl rfl rfl Try_cal_50 (Fn.frozen (field_All_ok h2)) rfl rfl rfl) ?_
  refine reg_cons (guard_no rfl) (op_move rfl rfl rfl rfl) ?_
  obtain ⟨y3, h4, hF⟩ := bind_some hF
  refine reg_cons (guard_no rfl) (op_call 0 rfl (caps := []) (args := [.str a2]) (rs := [.p (.fn 93 [.vp (eS y3)])]) rfl rfl rfl Try_cal_77 (field_named_ok h4) rfl rfl rfl) ?_
  obtain ⟨y6, h7, hF⟩ := bind_some hF
  refine reg_cons (guard_no rfl) (op_call 0 rfl (caps := []) (args := [.vs 14 (List.map eGSlot_field y1), .fn 93 [.vp (eS y3)]]) (rs := [.p (.int .i64 y6)]) rfl rfl rfl Try_cal_76 (slices_IndexFunc_field_Slot_ok (q1_f := 93) (q1_c := [.vp (eS y3)]) (q1_b := Try_cal_93) (q1_h := fun _ r h => (field_named_1_ok h)) h7) rfl rfl rfl) ?_
  refine reg_cons (guard_no rfl) (op_assign rfl rfl rfl rfl) ?_
  refine reg_nil ?_
  refine post_imp (s' := ⟨13, [(6, some (.pv (.int .i64 y6)))], [], 0, [], [], 0, []⟩) (imp_sub [] rfl (by decide) rfl rfl ⟨by kernel_rfl, trivial⟩ trivial rfl rfl rfl) ?_
  refine post_next ?_
  refine aw_ret ?_
  obtain rfl := Option.some.inj hF
  exact post_ret rfl rfl (.cons _ _ _ _ _ (.tmp _ _ rfl) (.p _) .nil) (.inl rfl)
theorem law16_awake_ok  {r : Bool} (hF : law16_awake = some r) : Abs.Fn Try.prog 49 [] [.p (.bool r)] := by
  unfold law16_awake at hF
  refine fn_of_body (n := 22) Try.func49 rfl rfl rfl ?_
  intro w O
  refine aw_seq ?_
  refine aw_region ?_
  refine reg_cons (guard_no rfl) (op_assign rfl rfl rfl rfl) ?_
  refine reg_nil ?_
  refine post_imp (s' := ⟨22, [], [], 0, [], [], 0, []⟩) (imp_sub [] rfl (by decide) rfl rfl trivial trivial rfl rfl rfl) ?_
  refine post_next ?_
  refine aw_seq ?_
  refine aw_region ?_
  refine reg_cons (guard_no rfl) (op_build (zs := [.str (({ fName := [], fType := ({ fKind := 0, fClass := [], fN := 0, fOwn := (⟨({ fKind := 0, fN := 0 } : GOwner), ({ fKind := 0, fN := 0 } : GOwner), ({ fKind := 0, fN := 0 } : GOwner), ({ fKind := 0, fN := 0 } : GOwner)⟩ : A4 GOwner) } : GType), fAt := 0 } : GVar).fName), .int .i64 ((({ fName := [], fType := ({ fKind := 0, fClass := [], fN := 0, fOwn := (⟨({ fKind := 0, fN := 0 } : GOwner), ({ fKind := 0, fN := 0 } : GOwner), ({ fKind := 0, fN := 0 } : GOwner), ({ fKind := 0, fN := 0 } : GOwner)⟩ : A4 GOwner) } : GType), fAt := 0 } : GVar).fType).fKind), .str ((({ fName := [], fType := ({ fKind := 0, fClass := [], fN := 0, fOwn := (⟨({ fKind := 0, fN := 0 } : GOwner), ({ fKind := 0, fN := 0 } : GOwner), ({ fKind := 0, fN := 0 } : GOwner), ({ fKind := 0, fN := 0 } : GOwner)⟩ : A4 GOwner) } : GType), fAt := 0 } : GVar).fType).fClass), .int .i64 ((({ fName := [], fType := ({ fKind := 0, fClass := [], fN := 0, fOwn := (⟨({ fKind := 0, fN := 0 } : GOwner), ({ fKind := 0, fN := 0 } : GOwner), ({ fKind := 0, fN := 0 } : GOwner), ({ fKind := 0, fN := 0 } : GOwner)⟩ : A4 GOwner) } : GType), fAt := 0 } : GVar).fType).fN), .int .i64 ((((({ fName := [], fType := ({ fKind := 0, fClass := [], fN := 0, fOwn := (⟨({ fKind := 0, fN := 0 } : GOwner), ({ fKind := 0, fN := 0 } : GOwner), ({ fKind := 0, fN := 0 } : GOwner), ({ fKind := 0, fN := 0 } : GOwner)⟩ : A4 GOwner) } : GType), fAt := 0 } : GVar).fType).fOwn).a0).fKind), .int .i64 ((((({ fName := [], fType := ({ fKind := 0, fClass := [], fN := 0, fOwn := (⟨({ fKind := 0, fN := 0 } : GOwner), ({ fKind := 0, fN := 0 } : GOwner), ({ fKind := 0, fN := 0 } : GOwner), ({ fKind := 0, fN := 0 } : GOwner)⟩ : A4 GOwner) } : GType), fAt := 0 } : GVar).fType).fOwn).a0).fN), .int .i64 ((((({ fName := [], fType := ({ fKind := 0, fClass := [], fN := 0, fOwn := (⟨({ fKind := 0, fN := 0 } : GOwner), ({ fKind := 0, fN := 0 } : GOwner), ({ fKind := 0, fN := 0 } : GOwner), ({ fKind := 0, fN := 0 } : GOwner)⟩ : A4 GOwner) } : GType), fAt := 0 } : GVar).fType).fOwn).a1).fKind), .int .i64 ((((({ fName := [], fType := ({ fKind := 0, fClass := [], fN := 0, fOwn := (⟨({ fKind := 0, fN := 0 } : GOwner), ({ fKind := 0, fN := 0 } : GOwner), ({ fKind := 0, fN := 0 } : GOwner), ({ fKind := 0, fN := 0 } : GOwner)⟩ : A4 GOwner) } : GType), fAt := 0 } : GVar).fType).fOwn).a1).fN), .int .i64 ((((({ fName := [], fType := ({ fKind := 0, fClass := [], fN := 0, fOwn := (⟨({ fKind := 0, fN := 0 } : GOwner), ({ fKind := 0, fN := 0 } : GOwner), ({ fKind := 0, fN := 0 } : GOwner), ({ fKind := 0, fN := 0 } : GOwner)⟩ : A4 GOwner) } : GType), fAt := 0 } : GVar).fType).fOwn).a2).fKind), .int .i64 ((((({ fName := [], fType := ({ fKind := 0, fClass := [], fN := 0, fOwn := (⟨({ fKind := 0, fN := 0 } : GOwner), ({ fKind := 0, fN := 0 } : GOwner), ({ fKind := 0, fN := 0 } : GOwner), ({ fKind := 0, fN := 0 } : GOwner)⟩ : A4 GOwner) } : GType), fAt := 0 } : GVar).fType).fOwn).a2).fN), .int .i64 ((((({ fName := [], fType := ({ fKind := 0, fClass := [], fN := 0, fOwn := (⟨({ fKind := 0, fN := 0 } : GOwner), ({ fKind := 0, fN := 0 } : GOwner), ({ fKind := 0, fN := 0 } : GOwner), ({ fKind := 0, fN := 0 } : GOwner)⟩ : A4 GOwner) } : GType), fAt := 0 } : GVar).fType).fOwn).a3).fKind), .int .i64 ((((({ fName := [], fType := ({ fKind := 0, fClass := [], fN := 0, fOwn := (⟨({ fKind := 0, fN := 0 } : GOwner), ({ fKind := 0, fN := 0 } : GOwner), ({ fKind := 0, fN := 0 } : GOwner), ({ fKind := 0, fN := 0 } : GOwner)⟩ : A4 GOwner) } : GType), fAt := 0 } : GVar).fType).fOwn).a3).fN), .int .i64 (({ fName := [], fType := ({ fKind := 0, fClass := [], fN := 0, fOwn := (⟨({ fKind := 0, fN := 0 } : GOwner), ({ fKind := 0, fN := 0 } : GOwner), ({ fKind := 0, fN := 0 } : GOwner), ({ fKind := 0, fN := 0 } : GOwner)⟩ : A4 GOwner) } : GType), fAt := 0 } : GVar).fAt)]) (r := eGVar ({ fName := [102], fType := ({ fKind := 0, fClass := [], fN := 0, fOwn := (⟨({ fKind := 0, fN := 0 } : GOwner), ({ fKind := 0, fN := 0 } : GOwner), ({ fKind := 0, fN := 0 } : GOwner), ({ fKind := 0, fN := 0 } : GOwner)⟩ : A4 GOwner) } : GType), fAt := 0 } : GVar)) rfl Try_zer_79 (by exact ⟨rfl, rfl, rfl, rfl, rfl, rfl, rfl, rfl, rfl, rfl, rfl, rfl, rfl, trivial⟩) Try_plc_79 rfl rfl rfl rfl) ?_
  refine reg_cons (guard_no rfl) (op_lit (rows := List.map eGVar ([({ fName := [102], fType := ({ fKind := 0, fClass := [], fN := 0, fOwn := (⟨({ fKind := 0, fN := 0 } : GOwner), ({ fKind := 0, fN := 0 } : GOwner), ({ fKind := 0, fN := 0 } : GOwner), ({ fKind := 0, fN := 0 } : GOwner)⟩ : A4 GOwner) } : GType), fAt := 0 } : GVar)] : List GVar)) (zs := [.str (({ fName := [], fType := ({ fKind := 0, fClass := [], fN := 0, fOwn := (⟨({ fKind := 0, fN := 0 } : GOwner), ({ fKind := 0, fN := 0 } : GOwner), ({ fKind := 0, fN := 0 } : GOwner), ({ fKind := 0, fN := 0 } : GOwner)⟩ : A4 GOwner) } : GType), fAt := 0 } : GVar).fName), .int .i64 ((({ fName := [], fType := ({ fKind := 0, fClass := [], fN := 0, fOwn := (⟨({ fKind := 0, fN := 0 } : GOwner), ({ fKind := 0, fN := 0 } : GOwner), ({ fKind := 0, fN := 0 } : GOwner), ({ fKind := 0, fN := 0 } : GOwner)⟩ : A4 GOwner) } : GType), fAt := 0 } : GVar).fType).fKind), .str ((({ fName := [], fType := ({ fKind := 0, fClass := [], fN := 0, fOwn := (⟨({ fKind := 0, fN := 0 } : GOwner), ({ fKind := 0, fN := 0 } : GOwner), ({ fKind := 0, fN := 0 } : GOwner), ({ fKind := 0, fN := 0 } : GOwner)⟩ : A4 GOwner) } : GType), fAt := 0 } : GVar).fType).fClass), .int .i64 ((({ fName := [], fType := ({ fKind := 0, fClass := [], fN := 0, fOwn := (⟨({ fKind := 0, fN := 0 } : GOwner), ({ fKind := 0, fN := 0 } : GOwner), ({ fKind := 0, fN := 0 } : GOwner), ({ fKind := 0, fN := 0 } : GOwner)⟩ : A4 GOwner) } : GType), fAt := 0 } : GVar).fType).fN), .int .i64 ((((({ fName := [], fType := ({ fKind := 0, fClass := [], fN := 0, fOwn := (⟨({ fKind := 0, fN := 0 } : GOwner), ({ fKind := 0, fN := 0 } : GOwner), ({ fKind := 0, fN := 0 } : GOwner), ({ fKind := 0, fN := 0 } : GOwner)⟩ : A4 GOwner) } : GType), fAt := 0 } : GVar).fType).fOwn).a0).fKind), .int .i64 ((((({ fName := [], fType := ({ fKind := 0, fClass := [], fN := 0, fOwn := (⟨({ fKind := 0, fN := 0 } : GOwner), ({ fKind := 0, fN := 0 } : GOwner), ({ fKind := 0, fN := 0 } : GOwner), ({ fKind := 0, fN := 0 } : GOwner)⟩ : A4 GOwner) } : GType), fAt := 0 } : GVar).fType).fOwn).a0).fN), .int .i64 ((((({ fName := [], fType := ({ fKind := 0, fClass := [], fN := 0, fOwn := (⟨({ fKind := 0, fN := 0 } : GOwner), ({ fKind := 0, fN := 0 } : GOwner), ({ fKind := 0, fN := 0 } : GOwner), ({ fKind := 0, fN := 0 } : GOwner)⟩ : A4 GOwner) } : GType), fAt := 0 } : GVar).fType).fOwn).a1).fKind), .int .i64 ((((({ fName := [], fType := ({ fKind := 0, fClass := [], fN := 0, fOwn := (⟨({ fKind := 0, fN := 0 } : GOwner), ({ fKind := 0, fN := 0 } : GOwner), ({ fKind := 0, fN := 0 } : GOwner), ({ fKind := 0, fN := 0 } : GOwner)⟩ : A4 GOwner) } : GType), fAt := 0 } : GVar).fType).fOwn).a1).fN), .int .i64 ((((({ fName := [], fType := ({ fKind := 0, fClass := [], fN := 0, fOwn := (⟨({ fKind := 0, fN := 0 } : GOwner), ({ fKind := 0, fN := 0 } : GOwner), ({ fKind := 0, fN := 0 } : GOwner), ({ fKind := 0, fN := 0 } : GOwner)⟩ : A4 GOwner) } : GType), fAt := 0 } : GVar).fType).fOwn).a2).fKind), .int .i64 ((((({ fName := [], fType := ({ fKind := 0, fClass := [], fN := 0, fOwn := (⟨({ fKind := 0, fN := 0 } : GOwner), ({ fKind := 0, fN := 0 } : GOwner), ({ fKind := 0, fN := 0 } : GOwner), ({ fKind := 0, fN := 0 } : GOwner)⟩ : A4 GOwner) } : GType), fAt := 0 } : GVar).fType).fOwn).a2).fN), .int .i64 ((((({ fName := [], fType := ({ fKind := 0, fClass := [], fN := 0, fOwn := (⟨({ fKind := 0, fN := 0 } : GOwner), ({ fKind := 0, fN := 0 } : GOwner), ({ fKind := 0, fN := 0 } : GOwner), ({ fKind := 0, fN := 0 } : GOwner)⟩ : A4 GOwner) } : GType), fAt := 0 } : GVar).fType).fOwn).a3).fKind), .int .i64 ((((({ fName := [], fType := ({ fKind := 0, fClass := [], fN := 0, fOwn := (⟨({ fKind := 0, fN := 0 } : GOwner), ({ fKind := 0, fN := 0 } : GOwner), ({ fKind := 0, fN := 0 } : GOwner), ({ fKind := 0, fN := 0 } : GOwner)⟩ : A4 GOwner) } : GType), fAt := 0 } : GVar).fType).fOwn).a3).fN), .int .i64 (({ fName := [], fType := ({ fKind := 0, fClass := [], fN := 0, fOwn := (⟨({ fKind := 0, fN := 0 } : GOwner), ({ fKind := 0, fN := 0 } : GOwner), ({ fKind := 0, fN := 0 } : GOwner), ({ fKind := 0, fN := 0 } : GOwner)⟩ : A4 GOwner) } : GType), fAt := 0 } : GVar).fAt)]) rfl rfl Try_slc_91 Try_zer_79 (by exact ⟨rfl, rfl, rfl, rfl, rfl, rfl, rfl, rfl, rfl, rfl, rfl, rfl, rfl, trivial⟩) rfl rfl rfl rfl rfl rfl rfl rfl) ?_
  refine reg_cons (guard_no rfl) (op_build (zs := [.str (({ fName := [], fParams := [], fSuper := [], fAbove := [], fFields := [], fMethods := [], fAt := 0 } : GClass).fName), .vs 1 (List.map eS (({ fName := [], fParams := [], fSuper := [], fAbove := [], fFields := [], fMethods := [], fAt := 0 } : GClass).fParams)), .str (({ fName := [], fParams := [], fSuper := [], fAbove := [], fFields := [], fMethods := [], fAt := 0 } : GClass).fSuper), .vs 2 (List.map eGOwner (({ fName := [], fParams := [], fSuper := [], fAbove := [], fFields := [], fMethods := [], fAt := 0 } : GClass).fAbove)), .vs 13 (List.map eGVar (({ fName := [], fParams := [], fSuper := [], fAbove := [], fFields := [], fMethods := [], fAt := 0 } : GClass).fFields)), .vs 17 (List.map eGMethod (({ fName := [], fParams := [], fSuper := [], fAbove := [], fFields := [], fMethods := [], fAt := 0 } : GClass).fMethods)), .int .i64 (({ fName := [], fParams := [], fSuper := [], fAbove := [], fFields := [], fMethods := [], fAt := 0 } : GClass).fAt)]) (r := eGClass ({ fName := [65], fParams := [], fSuper := [], fAbove := [], fFields := [({ fName := [102], fType := ({ fKind := 0, fClass := [], fN := 0, fOwn := (⟨({ fKind := 0, fN := 0 } : GOwner), ({ fKind := 0, fN := 0 } : GOwner), ({ fKind := 0, fN := 0 } : GOwner), ({ fKind := 0, fN := 0 } : GOwner)⟩ : A4 GOwner) } : GType), fAt := 0 } : GVar)], fMethods := [], fAt := 0 } : GClass)) rfl Try_zer_94 (by exact ⟨rfl, trivial, rfl, trivial, trivial, trivial, rfl, trivial⟩) Try_plc_94 rfl rfl rfl rfl) ?_
  refine reg_cons (guard_no rfl) (op_build (zs := [.str (({ fName := [], fType := ({ fKind := 0, fClass := [], fN := 0, fOwn := (⟨({ fKind := 0, fN := 0 } : GOwner), ({ fKind := 0, fN := 0 } : GOwner), ({ fKind := 0, fN := 0 } : GOwner), ({ fKind := 0, fN := 0 } : GOwner)⟩ : A4 GOwner) } : GType), fAt := 0 } : GVar).fName), .int .i64 ((({ fName := [], fType := ({ fKind := 0, fClass := [], fN := 0, fOwn := (⟨({ fKind := 0, fN := 0 } : GOwner), ({ fKind := 0, fN := 0 } : GOwner), ({ fKind := 0, fN := 0 } : GOwner), ({ fKind := 0, fN := 0 } : GOwner)⟩ : A4 GOwner) } : GType), fAt := 0 } : GVar).fType).fKind), .str ((({ fName := [], fType := ({ fKind := 0, fClass := [], fN := 0, fOwn := (⟨({ fKind := 0, fN := 0 } : GOwner), ({ fKind := 0, fN := 0 } : GOwner), ({ fKind := 0, fN := 0 } : GOwner), ({ fKind := 0, fN := 0 } : GOwner)⟩ : A4 GOwner) } : GType), fAt := 0 } : GVar).fType).fClass), .int .i64 ((({ fName := [], fType := ({ fKind := 0, fClass := [], fN := 0, fOwn := (⟨({ fKind := 0, fN := 0 } : GOwner), ({ fKind := 0, fN := 0 } : GOwner), ({ fKind := 0, fN := 0 } : GOwner), ({ fKind := 0, fN := 0 } : GOwner)⟩ : A4 GOwner) } : GType), fAt := 0 } : GVar).fType).fN), .int .i64 ((((({ fName := [], fType := ({ fKind := 0, fClass := [], fN := 0, fOwn := (⟨({ fKind := 0, fN := 0 } : GOwner), ({ fKind := 0, fN := 0 } : GOwner), ({ fKind := 0, fN := 0 } : GOwner), ({ fKind := 0, fN := 0 } : GOwner)⟩ : A4 GOwner) } : GType), fAt := 0 } : GVar).fType).fOwn).a0).fKind), .int .i64 ((((({ fName := [], fType := ({ fKind := 0, fClass := [], fN := 0, fOwn := (⟨({ fKind := 0, fN := 0 } : GOwner), ({ fKind := 0, fN := 0 } : GOwner), ({ fKind := 0, fN := 0 } : GOwner), ({ fKind := 0, fN := 0 } : GOwner)⟩ : A4 GOwner) } : GType), fAt := 0 } : GVar).fType).fOwn).a0).fN), .int .i64 ((((({ fName := [], fType := ({ fKind := 0, fClass := [], fN := 0, fOwn := (⟨({ fKind := 0, fN := 0 } : GOwner), ({ fKind := 0, fN := 0 } : GOwner), ({ fKind := 0, fN := 0 } : GOwner), ({ fKind := 0, fN := 0 } : GOwner)⟩ : A4 GOwner) } : GType), fAt := 0 } : GVar).fType).fOwn).a1).fKind), .int .i64 ((((({ fName := [], fType := ({ fKind := 0, fClass := [], fN := 0, fOwn := (⟨({ fKind := 0, fN := 0 } : GOwner), ({ fKind := 0, fN := 0 } : GOwner), ({ fKind := 0, fN := 0 } : GOwner), ({ fKind := 0, fN := 0 } : GOwner)⟩ : A4 GOwner) } : GType), fAt := 0 } : GVar).fType).fOwn).a1).fN), .int .i64 ((((({ fName := [], fType := ({ fKind := 0, fClass := [], fN := 0, fOwn := (⟨({ fKind := 0, fN := 0 } : GOwner), ({ fKind := 0, fN := 0 } : GOwner), ({ fKind := 0, fN := 0 } : GOwner), ({ fKind := 0, fN := 0 } : GOwner)⟩ : A4 GOwner) } : GType), fAt := 0 } : GVar).fType).fOwn).a2).fKind), .int .i64 ((((({ fName := [], fType := ({ fKind := 0, fClass := [], fN := 0, fOwn := (⟨({ fKind := 0, fN := 0 } : GOwner), ({ fKind := 0, fN := 0 } : GOwner), ({ fKind := 0, fN := 0 } : GOwner), ({ fKind := 0, fN := 0 } : GOwner)⟩ : A4 GOwner) } : GType), fAt := 0 } : GVar).fType).fOwn).a2).fN), .int .i64 ((((({ fName := [], fType := ({ fKind := 0, fClass := [], fN := 0, fOwn := (⟨({ fKind := 0, fN := 0 } : GOwner), ({ fKind := 0, fN := 0 } : GOwner), ({ fKind := 0, fN := 0 } : GOwner), ({ fKind := 0, fN := 0 } : GOwner)⟩ : A4 GOwner) } : GType), fAt := 0 } : GVar).fType).fOwn).a3).fKind), .int .i64 ((((({ fName := [], fType := ({ fKind := 0, fClass := [], fN := 0, fOwn := (⟨({ fKind := 0, fN := 0 } : GOwner), ({ fKind := 0, fN := 0 } : GOwner), ({ fKind := 0, fN := 0 } : GOwner), ({ fKind := 0, fN := 0 } : GOwner)⟩ : A4 GOwner) } : GType), fAt := 0 } : GVar).fType).fOwn).a3).fN), .int .i64 (({ fName := [], fType := ({ fKind := 0, fClass := [], fN := 0, fOwn := (⟨({ fKind := 0, fN := 0 } : GOwner), ({ fKind := 0, fN := 0 } : GOwner), ({ fKind := 0, fN := 0 } : GOwner), ({ fKind := 0, fN := 0 } : GOwner)⟩ : A4 GOwner) } : GType), fAt := 0 } : GVar).fAt)]) (r := eGVar ({ fName := [103], fType := ({ fKind := 0, fClass := [], fN := 0, fOwn := (⟨({ fKind := 0, fN := 0 } : GOwner), ({ fKind := 0, fN := 0 } : GOwner), ({ fKind := 0, fN := 0 } : GOwner), ({ fKind := 0, fN := 0 } : GOwner)⟩ : A4 GOwner) } : GType), fAt := 0 } : GVar)) rfl Try_zer_79 (by exact ⟨rfl, rfl, rfl, rfl, rfl, rfl, rfl, rfl, rfl, rfl, rfl, rfl, rfl, trivial⟩) Try_plc_79 rfl rfl rfl rfl) ?_
  refine reg_cons (guard_no rfl) (op_lit (rows := List.map eGVar ([({ fName := [103], fType := ({ fKind := 0, fClass := [], fN := 0, fOwn := (⟨({ fKind := 0, fN := 0 } : GOwner), ({ fKind := 0, fN := 0 } : GOwner), ({ fKind := 0, fN := 0 } : GOwner), ({ fKind := 0, fN := 0 } : GOwner)⟩ : A4 GOwner) } : GType), fAt := 0 } : GVar)] : List GVar)) (zs := [.str (({ fName := [], fType := ({ fKind := 0, fClass := [], fN := 0, fOwn := (⟨({ fKind := 0, fN := 0 } : GOwner), ({ fKind := 0, fN := 0 } : GOwner), ({ fKind := 0, fN := 0 } : GOwner), ({ fKind := 0, fN := 0 } : GOwner)⟩ : A4 GOwner) } : GType), fAt := 0 } : GVar).fName), .int .i64 ((({ fName := [], fType := ({ fKind := 0, fClass := [], fN := 0, fOwn := (⟨({ fKind := 0, fN := 0 } : GOwner), ({ fKind := 0, fN := 0 } : GOwner), ({ fKind := 0, fN := 0 } : GOwner), ({ fKind := 0, fN := 0 } : GOwner)⟩ : A4 GOwner) } : GType), fAt := 0 } : GVar).fType).fKind), .str ((({ fName := [], fType := ({ fKind := 0, fClass := [], fN := 0, fOwn := (⟨({ fKind := 0, fN := 0 } : GOwner), ({ fKind := 0, fN := 0 } : GOwner), ({ fKind := 0, fN := 0 } : GOwner), ({ fKind := 0, fN := 0 } : GOwner)⟩ : A4 GOwner) } : GType), fAt := 0 } : GVar).fType).fClass), .int .i64 ((({ fName := [], fType := ({ fKind := 0, fClass := [], fN := 0, fOwn := (⟨({ fKind := 0, fN := 0 } : GOwner), ({ fKind := 0, fN := 0 } : GOwner), ({ fKind := 0, fN := 0 } : GOwner), ({ fKind := 0, fN := 0 } : GOwner)⟩ : A4 GOwner) } : GType), fAt := 0 } : GVar).fType).fN), .int .i64 ((((({ fName := [], fType := ({ fKind := 0, fClass := [], fN := 0, fOwn := (⟨({ fKind := 0, fN := 0 } : GOwner), ({ fKind := 0, fN := 0 } : GOwner), ({ fKind := 0, fN := 0 } : GOwner), ({ fKind := 0, fN := 0 } : GOwner)⟩ : A4 GOwner) } : GType), fAt := 0 } : GVar).fType).fOwn).a0).fKind), .int .i64 ((((({ fName := [], fType := ({ fKind := 0, fClass := [], fN := 0, fOwn := (⟨({ fKind := 0, fN := 0 } : GOwner), ({ fKind := 0, fN := 0 } : GOwner), ({ fKind := 0, fN := 0 } : GOwner), ({ fKind := 0, fN := 0 } : GOwner)⟩ : A4 GOwner) } : GType), fAt := 0 } : GVar).fType).fOwn).a0).fN), .int .i64 ((((({ fName := [], fType := ({ fKind := 0, fClass := [], fN := 0, fOwn := (⟨({ fKind := 0, fN := 0 } : GOwner), ({ fKind := 0, fN := 0 } : GOwner), ({ fKind := 0, fN := 0 } : GOwner), ({ fKind := 0, fN := 0 } : GOwner)⟩ : A4 GOwner) } : GType), fAt := 0 } : GVar).fType).fOwn).a1).fKind), .int .i64 ((((({ fName := [], fType := ({ fKind := 0, fClass := [], fN := 0, fOwn := (⟨({ fKind := 0, fN := 0 } : GOwner), ({ fKind := 0, fN := 0 } : GOwner), ({ fKind := 0, fN := 0 } : GOwner), ({ fKind := 0, fN := 0 } : GOwner)⟩ : A4 GOwner) } : GType), fAt := 0 } : GVar).fType).fOwn).a1).fN), .int .i64 ((((({ fName := [], fType := ({ fKind := 0, fClass := [], fN := 0, fOwn := (⟨({ fKind := 0, fN := 0 } : GOwner), ({ fKind := 0, fN := 0 } : GOwner), ({ fKind := 0, fN := 0 } : GOwner), ({ fKind := 0, fN := 0 } : GOwner)⟩ : A4 GOwner) } : GType), fAt := 0 } : GVar).fType).fOwn).a2).fKind), .int .i64 ((((({ fName := [], fType := ({ fKind := 0, fClass := [], fN := 0, fOwn := (⟨({ fKind := 0, fN := 0 } : GOwner), ({ fKind := 0, fN := 0 } : GOwner), ({ fKind := 0, fN := 0 } : GOwner), ({ fKind := 0, fN := 0 } : GOwner)⟩ : A4 GOwner) } : GType), fAt := 0 } : GVar).fType).fOwn).a2).fN), .int .i64 ((((({ fName := [], fType := ({ fKind := 0, fClass := [], fN := 0, fOwn := (⟨({ fKind := 0, fN := 0 } : GOwner), ({ fKind := 0, fN := 0 } : GOwner), ({ fKind := 0, fN := 0 } : GOwner), ({ fKind := 0, fN := 0 } : GOwner)⟩ : A4 GOwner) } : GType), fAt := 0 } : GVar).fType).fOwn).a3).fKind), .int .i64 ((((({ fName := [], fType := ({ fKind := 0, fClass := [], fN := 0, fOwn := (⟨({ fKind := 0, fN := 0 } : GOwner), ({ fKind := 0, fN := 0 } : GOwner), ({ fKind := 0, fN := 0 } : GOwner), ({ fKind := 0, fN := 0 } : GOwner)⟩ : A4 GOwner) } : GType), fAt := 0 } : GVar).fType).fOwn).a3).fN), .int .i64 (({ fName := [], fType := ({ fKind := 0, fClass := [], fN := 0, fOwn := (⟨({ fKind := 0, fN := 0 } : GOwner), ({ fKind := 0, fN := 0 } : GOwner), ({ fKind := 0, fN := 0 } : GOwner), ({ fKind := 0, fN := 0 } : GOwner)⟩ : A4 GOwner) } : GType), fAt := 0 } : GVar).fAt)]) rfl rfl Try_slc_91 Try_zer_79 (by exact ⟨rfl, rfl, rfl, rfl, rfl, rfl, rfl, rfl, rfl, rfl, rfl, rfl, rfl, trivial⟩) rfl rfl rfl rfl rfl rfl rfl rfl) ?_
  refine reg_cons (guard_no rfl) (op_build (zs := [.str (({ fName := [], fParams := [], fSuper := [], fAbove := [], fFields := [], fMethods := [], fAt := 0 } : GClass).fName), .vs 1 (List.map eS (({ fName := [], fParams := [], fSuper := [], fAbove := [], fFields := [], fMethods := [], fAt := 0 } : GClass).fParams)), .str (({ fName := [], fParams := [], fSuper := [], fAbove := [], fFields := [], fMethods := [], fAt := 0 } : GClass).fSuper), .vs 2 (List.map eGOwner (({ fName := [], fParams := [], fSuper := [], fAbove := [], fFields := [], fMethods := [], fAt := 0 } : GClass).fAbove)), .vs 13 (List.map eGVar (({ fName := [], fParams := [], fSuper := [], fAbove := [], fFields := [], fMethods := [], fAt := 0 } : GClass).fFields)), .vs 17 (List.map eGMethod (({ fName := [], fParams := [], fSuper := [], fAbove := [], fFields := [], fMethods := [], fAt := 0 } : GClass).fMethods)), .int .i64 (({ fName := [], fParams := [], fSuper := [], fAbove := [], fFields := [], fMethods := [], fAt := 0 } : GClass).fAt)]) (r := eGClass ({ fName := [66], fParams := [], fSuper := [65], fAbove := [], fFields := [({ fName := [103], fType := ({ fKind := 0, fClass := [], fN := 0, fOwn := (⟨({ fKind := 0, fN := 0 } : GOwner), ({ fKind := 0, fN := 0 } : GOwner), ({ fKind := 0, fN := 0 } : GOwner), ({ fKind := 0, fN := 0 } : GOwner)⟩ : A4 GOwner) } : GType), fAt := 0 } : GVar)], fMethods := [], fAt := 0 } : GClass)) rfl Try_zer_94 (by exact ⟨rfl, trivial, rfl, trivial, trivial, trivial, rfl, trivial⟩) Try_plc_94 rfl rfl rfl rfl) ?_
  refine reg_cons (guard_no rfl) (op_lit (rows := List.map eGClass ([({ fName := [65], fParams := [], fSuper := [], fAbove := [], fFields := [({ fName := [102], fType := ({ fKind := 0, fClass := [], fN := 0, fOwn := (⟨({ fKind := 0, fN := 0 } : GOwner), ({ fKind := 0, fN := 0 } : GOwner), ({ fKind := 0, fN := 0 } : GOwner), ({ fKind := 0, fN := 0 } : GOwner)⟩ : A4 GOwner) } : GType), fAt := 0 } : GVar)], fMethods := [], fAt := 0 } : GClass), ({ fName := [66], fParams := [], fSuper := [65], fAbove := [], fFields := [({ fName := [103], fType := ({ fKind := 0, fClass := [], fN := 0, fOwn := (⟨({ fKind := 0, fN := 0 } : GOwner), ({ fKind := 0, fN := 0 } : GOwner), ({ fKind := 0, fN := 0 } : GOwner), ({ fKind := 0, fN := 0 } : GOwner)⟩ : A4 GOwner) } : GType), fAt := 0 } : GVar)], fMethods := [], fAt := 0 } : GClass)] : List GClass)) (zs := [.str (({ fName := [], fParams := [], fSuper := [], fAbove := [], fFields := [], fMethods := [], fAt := 0 } : GClass).fName), .vs 1 (List.map eS (({ fName := [], fParams := [], fSuper := [], fAbove := [], fFields := [], fMethods := [], fAt := 0 } : GClass).fParams)), .str (({ fName := [], fParams := [], fSuper := [], fAbove := [], fFields := [], fMethods := [], fAt := 0 } : GClass).fSuper), .vs 2 (List.map eGOwner (({ fName := [], fParams := [], fSuper := [], fAbove := [], fFields := [], fMethods := [], fAt := 0 } : GClass).fAbove)), .vs 13 (List.map eGVar (({ fName := [], fParams := [], fSuper := [], fAbove := [], fFields := [], fMethods := [], fAt := 0 } : GClass).fFields)), .vs 17 (List.map eGMethod (({ fName := [], fParams := [], fSuper := [], fAbove := [], fFields := [], fMethods := [], fAt := 0 } : GClass).fMethods)), .int .i64 (({ fName := [], fParams := [], fSuper := [], fAbove := [], fFields := [], fMethods := [], fAt := 0 } : GClass).fAt)]) rfl rfl Try_slc_45 Try_zer_94 (by exact ⟨rfl, trivial, rfl, trivial, trivial, trivial, rfl, trivial⟩) rfl rfl rfl rfl rfl rfl rfl rfl) ?_
  refine reg_cons (guard_no rfl) (op_assign rfl rfl rfl rfl) ?_
  refine reg_nil ?_
  refine post_imp (s' := ⟨22, [(1, some (.pv (.vs 7 (List.map eGClass [({ fName := [65], fParams := [], fSuper := [], fAbove := [], fFields := [({ fName := [102], fType := ({ fKind := 0, fClass := [], fN := 0, fOwn := (⟨({ fKind := 0, fN := 0 } : GOwner), ({ fKind := 0, fN := 0 } : GOwner), ({ fKind := 0, fN := 0 } : GOwner), ({ fKind := 0, fN := 0 } : GOwner)⟩ : A4 GOwner) } : GType), fAt := 0 } : GVar)], fMethods := [], fAt := 0 } : GClass), ({ fName := [66], fParams := [], fSuper := [65], fAbove := [], fFields := [({ fName := [103], fType := ({ fKind := 0, fClass := [], fN := 0, fOwn := (⟨({ fKind := 0, fN := 0 } : GOwner), ({ fKind := 0, fN := 0 } : GOwner), ({ fKind := 0, fN := 0 } : GOwner), ({ fKind := 0, fN := 0 } : GOwner)⟩ : A4 GOwner) } : GType), fAt := 0 } : GVar)], fMethods := [], fAt := 0 } : GClass)]))))], [], 0, [], [], 0, []⟩) (imp_sub [] rfl (by decide) rfl rfl ⟨by kernel_rfl, trivial⟩ trivial rfl rfl rfl) ?_
  refine post_next ?_
  refine aw_seq ?_
  refine aw_region ?_
  refine reg_cons (guard_no rfl) (op_move rfl rfl rfl rfl) ?_
  obtain ⟨y1, h2, hF⟩ := bind_some hF
  refine reg_cons (guard_no rfl) (op_call 0 rfl (caps := []) (args := [.vs 7 (List.map eGClass [({ fName := [65], fParams := [], fSuper := [], fAbove := [], fFields := [({ fName := [102], fType := ({ fKind := 0, fClass := [], fN := 0, fOwn := (⟨({ fKind := 0, fN := 0 } : GOwner), ({ fKind := 0, fN := 0 } : GOwner), ({ fKind := 0, fN := 0 } : GOwner), ({ fKind := 0, fN := 0 } : GOwner)⟩ : A4 GOwner) } : GType), fAt := 0 } : GVar)], fMethods := [], fAt := 0 } : GClass), ({ fName := [66], fParams := [], fSuper := [65], fAbove := [], fFields := [({ fName := [103], fType := ({ fKind := 0, fClass := [], fN := 0, fOwn := (⟨({ fKind := 0, fN := 0 } : GOwner), ({ fKind := 0, fN := 0 } : GOwner), ({ fKind := 0, fN := 0 } : GOwner), ({ fKind := 0, fN := 0 } : GOwner)⟩ : A4 GOwner) } : GType), fAt := 0 } : GVar)], fMethods := [], fAt := 0 } : GClass)]), .str [66], .str [103]]) (rs := [.p (.int .i64 y1)]) rfl rfl rfl Try_cal_54 (field_Find_ok h2) rfl rfl rfl) ?_
  refine reg_cons (guard_no rfl) (op_int (k := .i64) (m := y1) (n := 1) rfl rfl rfl rfl rfl rfl) ?_
  refine reg_cons (guard_no rfl) (op_move rfl rfl rfl rfl) ?_
  rcases ite_some hF with ⟨hb3, hF⟩ | ⟨hb3, hF⟩
  · refine reg_cons (guard_on rfl rfl rfl rfl hb3) (op_move rfl rfl rfl rfl) ?_
    obtain ⟨y4, h5, hF⟩ := bind_some hF
    refine reg_cons (guard_on rfl rfl rfl rfl hb3) (op_call 0 rfl (caps := []) (args := [.vs 7 (List.map eGClass [({ fName := [65], fParams := [], fSuper := [], fAbove := [], fFields := [({ fName := [102], fType := ({ fKind := 0, fClass := [], fN := 0, fOwn := (⟨({ fKind := 0, fN := 0 } : GOwner), ({ fKind := 0, fN := 0 } : GOwner), ({ fKind := 0, fN := 0 } : GOwner), ({ fKind := 0, fN := 0 } : GOwner)⟩ : A4 GOwner) } : GType), fAt := 0 } : GVar)], fMethods := [], fAt := 0 } : GClass), ({ fName := [66], fParams := [], fSuper := [65], fAbove := [], fFields := [({ fName := [103], fType := ({ fKind := 0, fClass := [], fN := 0, fOwn := (⟨({ fKind := 0, fN := 0 } : GOwner), ({ fKind := 0, fN := 0 } : GOwner), ({ fKind := 0, fN := 0 } : GOwner), ({ fKind := 0, fN := 0 } : GOwner)⟩ : A4 GOwner) } : GType), fAt := 0 } : GVar)], fMethods := [], fAt := 0 } : GClass)]), .str [66], .str [102]]) (rs := [.p (.int .i64 y4)]) rfl rfl rfl Try_cal_54 (field_Find_ok h5) rfl rfl rfl) ?_
    refine reg_cons (guard_on rfl rfl rfl rfl hb3) (op_int (k := .i64) (m := y4) (n := 0) rfl rfl rfl rfl rfl rfl) ?_
    refine reg_cons (guard_no rfl) (op_pick_t rfl rfl hb3 rfl rfl rfl) ?_
    refine reg_cons (guard_no rfl) (op_move rfl rfl rfl rfl) ?_
    rcases ite_some hF with ⟨hb6, hF⟩ | ⟨hb6, hF⟩
    · refine reg_cons (guard_on rfl rfl rfl rfl hb6) (op_move rfl rfl rfl rfl) ?_
      obtain ⟨y7, h8, hF⟩ := bind_some hF
      refine reg_cons (guard_on rfl rfl rfl rfl hb6) (op_call 0 rfl (caps := []) (args := [.vs 7 (List.map eGClass [({ fName := [65], fParams := [], fSuper := [], fAbove := [], fFields := [({ fName := [102], fType := ({ fKind := 0, fClass := [], fN := 0, fOwn := (⟨({ fKind := 0, fN := 0 } : GOwner), ({ fKind := 0, fN := 0 } : GOwner), ({ fKind := 0, fN := 0 } : GOwner), ({ fKind := 0, fN := 0 } : GOwner)⟩ : A4 GOwner) } : GType), fAt := 0 } : GVar)], fMethods := [], fAt := 0 } : GClass), ({ fName := [66], fParams := [], fSuper := [65], fAbove := [], fFields := [({ fName := [103], fType := ({ fKind := 0, fClass := [], fN := 0, fOwn := (⟨({ fKind := 0, fN := 0 } : GOwner), ({ fKind := 0, fN := 0 } : GOwner), ({ fKind := 0, fN := 0 } : GOwner), ({ fKind := 0, fN := 0 } : GOwner)⟩ : A4 GOwner) } : GType), fAt := 0 } : GVar)], fMethods := [], fAt := 0 } : GClass)]), .str [65], .str [103]]) (rs := [.p (.int .i64 y7)]) rfl rfl rfl Try_cal_54 (field_Find_ok h8) rfl rfl rfl) ?_
      refine reg_cons (guard_on rfl rfl rfl rfl hb6) (op_int (k := .i64) (m := y7) (n := (-1)) rfl rfl rfl rfl rfl rfl) ?_
      refine reg_cons (guard_no rfl) (op_pick_t rfl rfl hb6 rfl rfl rfl) ?_
      refine reg_cons (guard_no rfl) (op_assign rfl rfl rfl rfl) ?_
      refine reg_nil ?_
      refine post_imp (s' := ⟨22, [(0, some (.pv (.bool (y7 == (-1)))))], [], 0, [], [], 0, []⟩) (imp_sub [] rfl (by decide) rfl rfl ⟨by kernel_rfl, trivial⟩ trivial rfl rfl rfl) ?_
      refine post_next ?_
      refine aw_ret ?_
      obtain rfl := Option.some.inj hF
      exact post_ret rfl rfl (.cons _ _ _ _ _ (.tmp _ _ rfl) (.p _) .nil) (.inl rfl)
    · refine reg_off (guard_off rfl rfl rfl rfl hb6) rfl rfl ?_
      refine reg_off (guard_off rfl rfl rfl rfl hb6) rfl rfl ?_
      refine reg_off (guard_off rfl rfl rfl rfl hb6) rfl rfl ?_
      refine reg_cons (guard_no rfl) (op_pick_f rfl rfl hb6 rfl rfl rfl) ?_
      refine reg_cons (guard_no rfl) (op_assign rfl rfl rfl rfl) ?_
      refine reg_nil ?_
      refine post_imp (s' := ⟨22, [(0, some (.pv (.bool false)))], [], 0, [], [], 0, []⟩) (imp_sub [] rfl (by decide) rfl rfl ⟨by kernel_rfl, trivial⟩ trivial rfl rfl rfl) ?_
      refine post_next ?_
      refine aw_ret ?_
      obtain rfl := Option.some.inj hF
      exact post_ret rfl rfl (.cons _ _ _ _ _ (.tmp _ _ rfl) (.p _) .nil) (.inl rfl)
  · refine reg_off (guard_off rfl rfl rfl rfl hb3) rfl rfl ?_
    refine reg_off (guard_off rfl rfl rfl rfl hb3) rfl rfl ?_
    refine reg_off (guard_off rfl rfl rfl rfl hb3) rfl rfl ?_
    refine reg_cons (guard_no rfl) (op_pick_f rfl rfl hb3 rfl rfl rfl) ?_
    refine reg_cons (guard_no rfl) (op_move rfl rfl rfl rfl) ?_
    refine reg_off (guard_off rfl rfl rfl rfl rfl) rfl rfl ?_
    refine reg_off (guard_off rfl rfl rfl rfl rfl) rfl rfl ?_
    refine reg_off (guard_off rfl rfl rfl rfl rfl) rfl rfl ?_
    refine reg_cons (guard_no rfl) (op_pick_f rfl rfl rfl rfl rfl rfl) ?_
    refine reg_cons (guard_no rfl) (op_assign rfl rfl rfl rfl) ?_
    refine reg_nil ?_
    refine post_imp (s' := ⟨22, [(0, some (.pv (.bool false)))], [], 0, [], [], 0, []⟩) (imp_sub [] rfl (by decide) rfl rfl ⟨by kernel_rfl, trivial⟩ trivial rfl rfl rfl) ?_
    refine post_next ?_
    refine aw_ret ?_
    obtain rfl := Option.some.inj hF
    exact post_ret rfl rfl (.cons _ _ _ _ _ (.tmp _ _ rfl) (.p _) .nil) (.inl rfl)
theorem field_Of_ok {a0 : List GClass} {a1 : List UInt8} {a2 : List UInt8} {r : GSlot_field × Bool} (hF : field_Of a0 a1 a2 = some r) : Abs.Fn Try.prog 55 [.vs 7 (List.map eGClass a0), .str a1, .str a2] [.p (.agg (eGSlot_field r.1)), .p (.bool r.2)] := by
  unfold field_Of at hF
  refine fn_of_body (n := 24) Try.func55 rfl rfl rfl ?_
  intro w O
  refine aw_seq ?_
  refine aw_region ?_
  refine reg_cons (guard_no rfl) (op_alloc 0 rfl (ps := [.str (({ fClass := [], fVar := ({ fName := [], fType := ({ fKind := 0, fClass := [], fN := 0, fOwn := (⟨({ fKind := 0, fN := 0 } : GOwner), ({ fKind := 0, fN := 0 } : GOwner), ({ fKind := 0, fN := 0 } : GOwner), ({ fKind := 0, fN := 0 } : GOwner)⟩ : A4 GOwner) } : GType), fAt := 0 } : GVar) } : GSlot_field).fClass), .str ((({ fClass := [], fVar := ({ fName := [], fType := ({ fKind := 0, fClass := [], fN := 0, fOwn := (⟨({ fKind := 0, fN := 0 } : GOwner), ({ fKind := 0, fN := 0 } : GOwner), ({ fKind := 0, fN := 0 } : GOwner), ({ fKind := 0, fN := 0 } : GOwner)⟩ : A4 GOwner) } : GType), fAt := 0 } : GVar) } : GSlot_field).fVar).fName), .int .i64 (((({ fClass := [], fVar := ({ fName := [], fType := ({ fKind := 0, fClass := [], fN := 0, fOwn := (⟨({ fKind := 0, fN := 0 } : GOwner), ({ fKind := 0, fN := 0 } : GOwner), ({ fKind := 0, fN := 0 } : GOwner), ({ fKind := 0, fN := 0 } : GOwner)⟩ : A4 GOwner) } : GType), fAt := 0 } : GVar) } : GSlot_field).fVar).fType).fKind), .str (((({ fClass := [], fVar := ({ fName := [], fType := ({ fKind := 0, fClass := [], fN := 0, fOwn := (⟨({ fKind := 0, fN := 0 } : GOwner), ({ fKind := 0, fN := 0 } : GOwner), ({ fKind := 0, fN := 0 } : GOwner), ({ fKind := 0, fN := 0 } : GOwner)⟩ : A4 GOwner) } : GType), fAt := 0 } : GVar) } : GSlot_field).fVar).fType).fClass), .int .i64 (((({ fClass := [], fVar := ({ fName := [], fType := ({ fKind := 0, fClass := [], fN := 0, fOwn := (⟨({ fKind := 0, fN := 0 } : GOwner), ({ fKind := 0, fN := 0 } : GOwner), ({ fKind := 0, fN := 0 } : GOwner), ({ fKind := 0, fN := 0 } : GOwner)⟩ : A4 GOwner) } : GType), fAt := 0 } : GVar) } : GSlot_field).fVar).fType).fN), .int .i64 (((((({ fClass := [], fVar := ({ fName := [], fType := ({ fKind := 0, fClass := [], fN := 0, fOwn := (⟨({ fKind := 0, fN := 0 } : GOwner), ({ fKind := 0, fN := 0 } : GOwner), ({ fKind := 0, fN := 0 } : GOwner), ({ fKind := 0, fN := 0 } : GOwner)⟩ : A4 GOwner) } : GType), fAt := 0 } : GVar) } : GSlot_field).fVar).fType).fOwn).a0).fKind), .int .i64 (((((({ fClass := [], fVar := ({ fName := [], fType := ({ fKind := 0, fClass := [], fN := 0, fOwn := (⟨({ fKind := 0, fN := 0 } : GOwner), ({ fKind := 0, fN := 0 } : GOwner), ({ fKind := 0, fN := 0 } : GOwner), ({ fKind := 0, fN := 0 } : GOwner)⟩ : A4 GOwner) } : GType), fAt := 0 } : GVar) } : GSlot_field).fVar).fType).fOwn).a0).fN), .int .i64 (((((({ fClass := [], fVar := ({ fName := [], fType := ({ fKind := 0, fClass := [], fN := 0, fOwn := (⟨({ fKind := 0, fN := 0 } : GOwner), ({ fKind := 0, fN := 0 } : GOwner), ({ fKind := 0, fN := 0 } : GOwner), ({ fKind := 0, fN := 0 } : GOwner)⟩ : A4 GOwner) } : GType), fAt := 0 } : GVar) } : GSlot_field).fVar).fType).fOwn).a1).fKind), .int .i64 (((((({ fClass := [], fVar := ({ fName := [], fType := ({ fKind := 0, fClass := [], fN := 0, fOwn := (⟨({ fKind := 0, fN := 0 } : GOwner), ({ fKind := 0, fN := 0 } : GOwner), ({ fKind := 0, fN := 0 } : GOwner), ({ fKind := 0, fN := 0 } : GOwner)⟩ : A4 GOwner) } : GType), fAt := 0 } : GVar) } : GSlot_field).fVar).fType).fOwn).a1).fN), .int .i64 (((((({ fClass := [], fVar := ({ fName := [], fType := ({ fKind := 0, fClass := [], fN := 0, fOwn := (⟨({ fKind := 0, fN := 0 } : GOwner), ({ fKind := 0, fN := 0 } : GOwner), ({ fKind := 0, fN := 0 } : GOwner), ({ fKind := 0, fN := 0 } : GOwner)⟩ : A4 GOwner) } : GType), fAt := 0 } : GVar) } : GSlot_field).fVar).fType).fOwn).a2).fKind), .int .i64 (((((({ fClass := [], fVar := ({ fName := [], fType := ({ fKind := 0, fClass := [], fN := 0, fOwn := (⟨({ fKind := 0, fN := 0 } : GOwner), ({ fKind := 0, fN := 0 } : GOwner), ({ fKind := 0, fN := 0 } : GOwner), ({ fKind := 0, fN := 0 } : GOwner)⟩ : A4 GOwner) } : GType), fAt := 0 } : GVar) } : GSlot_field).fVar).fType).fOwn).a2).fN), .int .i64 (((((({ fClass := [], fVar := ({ fName := [], fType := ({ fKind := 0, fClass := [], fN := 0, fOwn := (⟨({ fKind := 0, fN := 0 } : GOwner), ({ fKind := 0, fN := 0 } : GOwner), ({ fKind := 0, fN := 0 } : GOwner), ({ fKind := 0, fN := 0 } : GOwner)⟩ : A4 GOwner) } : GType), fAt := 0 } : GVar) } : GSlot_field).fVar).fType).fOwn).a3).fKind), .int .i64 (((((({ fClass := [], fVar := ({ fName := [], fType := ({ fKind := 0, fClass := [], fN := 0, fOwn := (⟨({ fKind := 0, fN := 0 } : GOwner), ({ fKind := 0, fN := 0 } : GOwner), ({ fKind := 0, fN := 0 } : GOwner), ({ fKind := 0, fN := 0 } : GOwner)⟩ : A4 GOwner) } : GType), fAt := 0 } : GVar) } : GSlot_field).fVar).fType).fOwn).a3).fN), .int .i64 ((({ fClass := [], fVar := ({ fName := [], fType := ({ fKind := 0, fClass := [], fN := 0, fOwn := (⟨({ fKind := 0, fN := 0 } : GOwner), ({ fKind := 0, fN := 0 } : GOwner), ({ fKind := 0, fN := 0 } : GOwner), ({ fKind := 0, fN := 0 } : GOwner)⟩ : A4 GOwner) } : GType), fAt := 0 } : GVar) } : GSlot_field).fVar).fAt)]) rfl Try_zer_81 (by exact ⟨rfl, rfl, rfl, rfl, rfl, rfl, rfl, rfl, rfl, rfl, rfl, rfl, rfl, rfl, trivial⟩) rfl rfl) ?_
  refine reg_cons (guard_no rfl) (op_assign rfl rfl rfl rfl) ?_
  refine reg_nil ?_
  refine post_imp (s' := ⟨24, [(0, some (.pv (.vs 7 (List.map eGClass a0)))), (1, some (.pv (.str a1))), (2, some (.pv (.str a2))), (6, some (.lp 0 0))], [(0, some (.box 81 [.pv (.str (({ fClass := [], fVar := ({ fName := [], fType := ({ fKind := 0, fClass := [], fN := 0, fOwn := (⟨({ fKind := 0, fN := 0 } : GOwner), ({ fKind := 0, fN := 0 } : GOwner), ({ fKind := 0, fN := 0 } : GOwner), ({ fKind := 0, fN := 0 } : GOwner)⟩ : A4 GOwner) } : GType), fAt := 0 } : GVar) } : GSlot_field).fClass)), .pv (.str ((({ fClass := [], fVar := ({ fName := [], fType := ({ fKind := 0, fClass := [], fN := 0, fOwn := (⟨({ fKind := 0, fN := 0 } : GOwner), ({ fKind := 0, fN := 0 } : GOwner), ({ fKind := 0, fN := 0 } : GOwner), ({ fKind := 0, fN := 0 } : GOwner)⟩ : A4 GOwner) } : GType), fAt := 0 } : GVar) } : GSlot_field).fVar).fName)), .pv (.int .i64 (((({ fClass := [], fVar := ({ fName := [], fType := ({ fKind := 0, fClass := [], fN := 0, fOwn := (⟨({ fKind := 0, fN := 0 } : GOwner), ({ fKind := 0, fN := 0 } : GOwner), ({ fKind := 0, fN := 0 } : GOwner), ({ fKind := 0, fN := 0 } : GOwner)⟩ : A4 GOwner) } : GType), fAt := 0 } : GVar) } : GSlot_field).fVar).fType).fKind)), .pv (.str (((({ fClass := [], fVar := ({ fName := [], fType := ({ fKind := 0, fClass := [], fN := 0, fOwn := (⟨({ fKind := 0, fN := 0 } : GOwner), ({ fKind := 0, fN := 0 } : GOwner), ({ fKind := 0, fN := 0 } : GOwner), ({ fKind := 0, fN := 0 } : GOwner)⟩ : A4 GOwner) } : GType), fAt := 0 } : GVar) } : GSlot_field).fVar).fType).fClass)), .pv (.int .i64 (((({ fClass := [], fVar := ({ fName := [], fType := ({ fKind := 0, fClass := [], fN := 0, fOwn := (⟨({ fKind := 0, fN := 0 } : GOwner), ({ fKind := 0, fN := 0 } : GOwner), ({ fKind := 0, fN := 0 } : GOwner), ({ fKind := 0, fN := 0 } : GOwner)⟩ : A4 GOwner) } : GType), fAt := 0 } : GVar) } : GSlot_field).fVar).fType).fN)), .pv (.int .i64 (((((({ fClass := [], fVar := ({ fName := [], fType := ({ fKind := 0, fClass := [], fN := 0, fOwn := (⟨({ fKind := 0, fN := 0 } : GOwner), ({ fKind := 0, fN := 0 } : GOwner), ({ fKind := 0, fN := 0 } : GOwner), ({ fKind := 0, fN := 0 } : GOwner)⟩ : A4 GOwner) } : GType), fAt := 0 } : GVar) } : GSlot_field).fVar).fType).fOwn).a0).fKind)), .pv (.int .i64 (((((({ fClass := [], fVar := ({ fName := [], fType := ({ fKind := 0, fClass := [], fN := 0, fOwn := (⟨({ fKind := 0, fN := 0 } : GOwner), ({ fKind := 0, fN := 0 } : GOwner), ({ fKind := 0, fN := 0 } : GOwner), ({ fKind := 0, fN := 0 } : GOwner)⟩ : A4 GOwner) } : GType), fAt := 0 } : GVar) } : GSlot_field).fVar).fType).fOwn).a0).fN)), .pv (.int .i64 (((((({ fClass := [], fVar := ({ fName := [], fType := ({ fKind := 0, fClass := [], fN := 0, fOwn := (⟨({ fKind := 0, fN := 0 } : GOwner), ({ fKind := 0, fN := 0 } : GOwner), ({ fKind := 0, fN := 0 } : GOwner), ({ fKind := 0, fN := 0 } : GOwner)⟩ : A4 GOwner) } : GType), fAt := 0 } : GVar) } : GSlot_field).fVar).fType).fOwn).a1).fKind)), .pv (.int .i64 (((((({ fClass := [], fVar := ({ fName := [], fType := ({ fKind := 0, fClass := [], fN := 0, fOwn := (⟨({ fKind := 0, fN := 0 } : GOwner), ({ fKind := 0, fN := 0 } : GOwner), ({ fKind := 0, fN := 0 } : GOwner), ({ fKind := 0, fN := 0 } : GOwner)⟩ : A4 GOwner) } : GType), fAt := 0 } : GVar) } : GSlot_field).fVar).fType).fOwn).a1).fN)), .pv (.int .i64 (((((({ fClass := [], fVar := ({ fName := [], fType := ({ fKind := 0, fClass := [], fN := 0, fOwn := (⟨({ fKind := 0, fN := 0 } : GOwner), ({ fKind := 0, fN := 0 } : GOwner), ({ fKind := 0, fN := 0 } : GOwner), ({ fKind := 0, fN := 0 } : GOwner)⟩ : A4 GOwner) } : GType), fAt := 0 } : GVar) } : GSlot_field).fVar).fType).fOwn).a2).fKind)), .pv (.int .i64 (((((({ fClass := [], fVar := ({ fName := [], fType := ({ fKind := 0, fClass := [], fN := 0, fOwn := (⟨({ fKind := 0, fN := 0 } : GOwner), ({ fKind := 0, fN := 0 } : GOwner), ({ fKind := 0, fN := 0 } : GOwner), ({ fKind := 0, fN := 0 } : GOwner)⟩ : A4 GOwner) } : GType), fAt := 0 } : GVar) } : GSlot_field).fVar).fType).fOwn).a2).fN)), .pv (.int .i64 (((((({ fClass := [], fVar := ({ fName := [], fType := ({ fKind := 0, fClass := [], fN := 0, fOwn := (⟨({ fKind := 0, fN := 0 } : GOwner), ({ fKind := 0, fN := 0 } : GOwner), ({ fKind := 0, fN := 0 } : GOwner), ({ fKind := 0, fN := 0 } : GOwner)⟩ : A4 GOwner) } : GType), fAt := 0 } : GVar) } : GSlot_field).fVar).fType).fOwn).a3).fKind)), .pv (.int .i64 (((((({ fClass := [], fVar := ({ fName := [], fType := ({ fKind := 0, fClass := [], fN := 0, fOwn := (⟨({ fKind := 0, fN := 0 } : GOwner), ({ fKind := 0, fN := 0 } : GOwner), ({ fKind := 0, fN := 0 } : GOwner), ({ fKind := 0, fN := 0 } : GOwner)⟩ : A4 GOwner) } : GType), fAt := 0 } : GVar) } : GSlot_field).fVar).fType).fOwn).a3).fN)), .pv (.int .i64 ((({ fClass := [], fVar := ({ fName := [], fType := ({ fKind := 0, fClass := [], fN := 0, fOwn := (⟨({ fKind := 0, fN := 0 } : GOwner), ({ fKind := 0, fN := 0 } : GOwner), ({ fKind := 0, fN := 0 } : GOwner), ({ fKind := 0, fN := 0 } : GOwner)⟩ : A4 GOwner) } : GType), fAt := 0 } : GVar) } : GSlot_field).fVar).fAt))]))], 1, [], [], 0, []⟩) (imp_sub [0] rfl (by decide) rfl rfl ⟨by kernel_rfl, by kernel_rfl, by kernel_rfl, by kernel_rfl, trivial⟩ ⟨by kernel_rfl, trivial⟩ rfl rfl rfl) ?_
  refine post_next ?_
  refine aw_seq ?_
  refine aw_region ?_
  refine reg_cons (guard_no rfl) (op_move rfl rfl rfl rfl) ?_
  refine reg_cons (guard_no rfl) (op_move rfl rfl rfl rfl) ?_
  obtain ⟨y3, h4, hF⟩ := bind_some hF
  refine reg_cons (guard_no rfl) (op_call 1 rfl (caps := []) (args := [.vs 7 (List.map eGClass a0), .str a1]) (rs := [.p (.vs 14 (List.map eGSlot_field y3))]) rfl rfl rfl Try_cal_50 (Fn.frozen (field_All_ok h4)) rfl rfl rfl) ?_
  refine reg_cons (guard_no rfl) (op_assign rfl rfl rfl rfl) ?_
  refine reg_nil ?_
  refine post_imp (s' := ⟨24, [(2, some (.pv (.str a2))), (6, some (.lp 0 0)), (8, some (.pv (.vs 14 (List.map eGSlot_field y3))))], [(0, some (.box 81 [.pv (.str (({ fClass := [], fVar := ({ fName := [], fType := ({ fKind := 0, fClass := [], fN := 0, fOwn := (⟨({ fKind := 0, fN := 0 } : GOwner), ({ fKind := 0, fN := 0 } : GOwner), ({ fKind := 0, fN := 0 } : GOwner), ({ fKind := 0, fN := 0 } : GOwner)⟩ : A4 GOwner) } : GType), fAt := 0 } : GVar) } : GSlot_field).fClass)), .pv (.str ((({ fClass := [], fVar := ({ fName := [], fType := ({ fKind := 0, fClass := [], fN := 0, fOwn := (⟨({ fKind := 0, fN := 0 } : GOwner), ({ fKind := 0, fN := 0 } : GOwner), ({ fKind := 0, fN := 0 } : GOwner), ({ fKind := 0, fN := 0 } : GOwner)⟩ : A4 GOwner) } : GType), fAt := 0 } : GVar) } : GSlot_field).fVar).fName)), .pv (.int .i64 (((({ fClass := [], fVar := ({ fName := [], fType := ({ fKind := 0, fClass := [], fN := 0, fOwn := (⟨({ fKind := 0, fN := 0 } : GOwner), ({ fKind := 0, fN := 0 } : GOwner), ({ fKind := 0, fN := 0 } : GOwner), ({ fKind := 0, fN := 0 } : GOwner)⟩ : A4 GOwner) } : GType), fAt := 0 } : GVar) } : GSlot_field).fVar).fType).fKind)), .pv (.str (((({ fClass := [], fVar := ({ fName := [], fType := ({ fKind := 0, fClass := [], fN := 0, fOwn := (⟨({ fKind := 0, fN := 0 } : GOwner), ({ fKind := 0, fN := 0 } : GOwner), ({ fKind := 0, fN := 0 } : GOwner), ({ fKind := 0, fN := 0 } : GOwner)⟩ : A4 GOwner) } : GType), fAt := 0 } : GVar) } : GSlot_field).fVar).fType).fClass)), .pv (.int .i64 (((({ fClass := [], fVar := ({ fName := [], fType := ({ fKind := 0, fClass := [], fN := 0, fOwn := (⟨({ fKind := 0, fN := 0 } : GOwner), ({ fKind := 0, fN := 0 } : GOwner), ({ fKind := 0, fN := 0 } : GOwner), ({ fKind := 0, fN := 0 } : GOwner)⟩ : A4 GOwner) } : GType), fAt := 0 } : GVar) } : GSlot_field).fVar).fType).fN)), .pv (.int .i64 (((((({ fClass := [], fVar := ({ fName := [], fType := ({ fKind := 0, fClass := [], fN := 0, fOwn := (⟨({ fKind := 0, fN := 0 } : GOwner), ({ fKind := 0, fN := 0 } : GOwner), ({ fKind := 0, fN := 0 } : GOwner), ({ fKind := 0, fN := 0 } : GOwner)⟩ : A4 GOwner) } : GType), fAt := 0 } : GVar) } : GSlot_field).fVar).fType).fOwn).a0).fKind)), .pv (.int .i64 (((((({ fClass := [], fVar := ({ fName := [], fType := ({ fKind := 0, fClass := [], fN := 0, fOwn := (⟨({ fKind := 0, fN := 0 } : GOwner), ({ fKind := 0, fN := 0 } : GOwner), ({ fKind := 0, fN := 0 } : GOwner), ({ fKind := 0, fN := 0 } : GOwner)⟩ : A4 GOwner) } : GType), fAt := 0 } : GVar) } : GSlot_field).fVar).fType).fOwn).a0).fN)), .pv (.int .i64 (((((({ fClass := [], fVar := ({ fName := [], fType := ({ fKind := 0, fClass := [], fN := 0, fOwn := (⟨({ fKind := 0, fN := 0 } : GOwner), ({ fKind := 0, fN := 0 } : GOwner), ({ fKind := 0, fN := 0 } : GOwner), ({ fKind := 0, fN := 0 } : GOwner)⟩ : A4 GOwner) } : GType), fAt := 0 } : GVar) } : GSlot_field).fVar).fType).fOwn).a1).fKind)), .pv (.int .i64 (((((({ fClass := [], fVar := ({ fName := [], fType := ({ fKind := 0, fClass := [], fN := 0, fOwn := (⟨({ fKind := 0, fN := 0 } : GOwner), ({ fKind := 0, fN := 0 } : GOwner), ({ fKind := 0, fN := 0 } : GOwner), ({ fKind := 0, fN := 0 } : GOwner)⟩ : A4 GOwner) } : GType), fAt := 0 } : GVar) } : GSlot_field).fVar).fType).fOwn).a1).fN)), .pv (.int .i64 (((((({ fClass := [], fVar := ({ fName := [], fType := ({ fKind := 0, fClass := [], fN := 0, fOwn := (⟨({ fKind := 0, fN := 0 } : GOwner), ({ fKind := 0, fN := 0 } : GOwner), ({ fKind := 0, fN := 0 } : GOwner), ({ fKind := 0, fN := 0 } : GOwner)⟩ : A4 GOwner) } : GType), fAt := 0 } : GVar) } : GSlot_field).fVar).fType).fOwn).a2).fKind)), .pv (.int .i64 (((((({ fClass := [], fVar := ({ fName := [], fType := ({ fKind := 0, fClass := [], fN := 0, fOwn := (⟨({ fKind := 0, fN := 0 } : GOwner), ({ fKind := 0, fN := 0 } : GOwner), ({ fKind := 0, fN := 0 } : GOwner), ({ fKind := 0, fN := 0 } : GOwner)⟩ : A4 GOwner) } : GType), fAt := 0 } : GVar) } : GSlot_field).fVar).fType).fOwn).a2).fN)), .pv (.int .i64 (((((({ fClass := [], fVar := ({ fName := [], fType := ({ fKind := 0, fClass := [], fN := 0, fOwn := (⟨({ fKind := 0, fN := 0 } : GOwner), ({ fKind := 0, fN := 0 } : GOwner), ({ fKind := 0, fN := 0 } : GOwner), ({ fKind := 0, fN := 0 } : GOwner)⟩ : A4 GOwner) } : GType), fAt := 0 } : GVar) } : GSlot_field).fVar).fType).fOwn).a3).fKind)), .pv (.int .i64 (((((({ fClass := [], fVar := ({ fName := [], fType := ({ fKind := 0, fClass := [], fN := 0, fOwn := (⟨({ fKind := 0, fN := 0 } : GOwner), ({ fKind := 0, fN := 0 } : GOwner), ({ fKind := 0, fN := 0 } : GOwner), ({ fKind := 0, fN := 0 } : GOwner)⟩ : A4 GOwner) } : GType), fAt := 0 } : GVar) } : GSlot_field).fVar).fType).fOwn).a3).fN)), .pv (.int .i64 ((({ fClass := [], fVar := ({ fName := [], fType := ({ fKind := 0, fClass := [], fN := 0, fOwn := (⟨({ fKind := 0, fN := 0 } : GOwner), ({ fKind := 0, fN := 0 } : GOwner), ({ fKind := 0, fN := 0 } : GOwner), ({ fKind := 0, fN := 0 } : GOwner)⟩ : A4 GOwner) } : GType), fAt := 0 } : GVar) } : GSlot_field).fVar).fAt))]))], 1, [], [], 0, []⟩) (imp_sub [0] rfl (by decide) rfl rfl ⟨by kernel_rfl, by kernel_rfl, by kernel_rfl, trivial⟩ ⟨by kernel_rfl, trivial⟩ rfl rfl rfl) ?_
  refine post_next ?_
  refine aw_seq ?_
  refine aw_region ?_
  refine reg_cons (guard_no rfl) (op_move rfl rfl rfl rfl) ?_
  refine reg_cons (guard_no rfl) (op_move rfl rfl rfl rfl) ?_
  obtain ⟨y10, h11, hF⟩ := bind_some hF
  refine reg_cons (guard_no rfl) (op_call 1 rfl (caps := []) (args := [.str a2]) (rs := [.p (.fn 93 [.vp (eS y10)])]) rfl rfl rfl Try_cal_77 (field_named_ok h11) rfl rfl rfl) ?_
  obtain ⟨y13, h14, hF⟩ := bind_some hF
  refine reg_cons (guard_no rfl) (op_call 1 rfl (caps := []) (args := [.vs 14 (List.map eGSlot_field y3), .fn 93 [.vp (eS y10)]]) (rs := [.p (.int .i64 y13)]) rfl rfl rfl Try_cal_76 (slices_IndexFunc_field_Slot_ok (q1_f := 93) (q1_c := [.vp (eS y10)]) (q1_b := Try_cal_93) (q1_h := fun _ r h => (field_named_1_ok h)) h14) rfl rfl rfl) ?_
  refine reg_cons (guard_no rfl) (op_assign rfl rfl rfl rfl) ?_
  refine reg_nil ?_
  refine post_imp (s' := ⟨24, [(6, some (.lp 0 0)), (8, some (.pv (.vs 14 (List.map eGSlot_field y3)))), (9, some (.pv (.int .i64 y13)))], [(0, some (.box 81 [.pv (.str (({ fClass := [], fVar := ({ fName := [], fType := ({ fKind := 0, fClass := [], fN := 0, fOwn := (⟨({ fKind := 0, fN := 0 } : GOwner), ({ fKind := 0, fN := 0 } : GOwner), ({ fKind := 0, fN := 0 } : GOwner), ({ fKind := 0, fN := 0 } : GOwner)⟩ : A4 GOwner) } : GType), fAt := 0 } : GVar) } : GSlot_field).fClass)), .pv (.str ((({ fClass := [], fVar := ({ fName := [], fType := ({ fKind := 0, fClass := [], fN := 0, fOwn := (⟨({ fKind := 0, fN := 0 } : GOwner), ({ fKind := 0, fN := 0 } : GOwner), ({ fKind := 0, fN := 0 } : GOwner), ({ fKind := 0, fN := 0 } : GOwner)⟩ : A4 GOwner) } : GType), fAt := 0 } : GVar) } : GSlot_field).fVar).fName)), .pv (.int .i64 (((({ fClass := [], fVar := ({ fName := [], fType := ({ fKind := 0, fClass := [], fN := 0, fOwn := (⟨({ fKind := 0, fN := 0 } : GOwner), ({ fKind := 0, fN := 0 } : GOwner), ({ fKind := 0, fN := 0 } : GOwner), ({ fKind := 0, fN := 0 } : GOwner)⟩ : A4 GOwner) } : GType), fAt := 0 } : GVar) } : GSlot_field).fVar).fType).fKind)), .pv (.str (((({ fClass := [], fVar := ({ fName := [], fType := ({ fKind := 0, fClass := [], fN := 0, fOwn := (⟨({ fKind := 0, fN := 0 } : GOwner), ({ fKind := 0, fN := 0 } : GOwner), ({ fKind := 0, fN := 0 } : GOwner), ({ fKind := 0, fN := 0 } : GOwner)⟩ : A4 GOwner) } : GType), fAt := 0 } : GVar) } : GSlot_field).fVar).fType).fClass)), .pv (.int .i64 (((({ fClass := [], fVar := ({ fName := [], fType := ({ fKind := 0, fClass := [], fN := 0, fOwn := (⟨({ fKind := 0, fN := 0 } : GOwner), ({ fKind := 0, fN := 0 } : GOwner), ({ fKind := 0, fN := 0 } : GOwner), ({ fKind := 0, fN := 0 } : GOwner)⟩ : A4 GOwner) } : GType), fAt := 0 } : GVar) } : GSlot_field).fVar).fType).fN)), .pv (.int .i64 (((((({ fClass := [], fVar := ({ fName := [], fType := ({ fKind := 0, fClass := [], fN := 0, fOwn := (⟨({ fKind := 0, fN := 0 } : GOwner), ({ fKind := 0, fN := 0 } : GOwner), ({ fKind := 0, fN := 0 } : GOwner), ({ fKind := 0, fN := 0 } : GOwner)⟩ : A4 GOwner) } : GType), fAt := 0 } : GVar) } : GSlot_field).fVar).fType).fOwn).a0).fKind)), .pv (.int .i64 (((((({ fClass := [], fVar := ({ fName := [], fType := ({ fKind := 0, fClass := [], fN := 0, fOwn := (⟨({ fKind := 0, fN := 0 } : GOwner), ({ fKind := 0, fN := 0 } : GOwner), ({ fKind := 0, fN := 0 } : GOwner), ({ fKind := 0, fN := 0 } : GOwner)⟩ : A4 GOwner) } : GType), fAt := 0 } : GVar) } : GSlot_field).fVar).fType).fOwn).a0).fN)), .pv (.int .i64 (((((({ fClass := [], fVar := ({ fName := [], fType := ({ fKind := 0, fClass := [], fN := 0, fOwn := (⟨({ fKind := 0, fN := 0 } : GOwner), ({ fKind := 0, fN := 0 } : GOwner), ({ fKind := 0, fN := 0 } : GOwner), ({ fKind := 0, fN := 0 } : GOwner)⟩ : A4 GOwner) } : GType), fAt := 0 } : GVar) } : GSlot_field).fVar).fType).fOwn).a1).fKind)), .pv (.int .i64 (((((({ fClass := [], fVar := ({ fName := [], fType := ({ fKind := 0, fClass := [], fN := 0, fOwn := (⟨({ fKind := 0, fN := 0 } : GOwner), ({ fKind := 0, fN := 0 } : GOwner), ({ fKind := 0, fN := 0 } : GOwner), ({ fKind := 0, fN := 0 } : GOwner)⟩ : A4 GOwner) } : GType), fAt := 0 } : GVar) } : GSlot_field).fVar).fType).fOwn).a1).fN)), .pv (.int .i64 (((((({ fClass := [], fVar := ({ fName := [], fType := ({ fKind := 0, fClass := [], fN := 0, fOwn := (⟨({ fKind := 0, fN := 0 } : GOwner), ({ fKind := 0, fN := 0 } : GOwner), ({ fKind := 0, fN := 0 } : GOwner), ({ fKind := 0, fN := 0 } : GOwner)⟩ : A4 GOwner) } : GType), fAt := 0 } : GVar) } : GSlot_field).fVar).fType).fOwn).a2).fKind)), .pv (.int .i64 (((((({ fClass := [], fVar := ({ fName := [], fType := ({ fKind := 0, fClass := [], fN := 0, fOwn := (⟨({ fKind := 0, fN := 0 } : GOwner), ({ fKind := 0, fN := 0 } : GOwner), ({ fKind := 0, fN := 0 } : GOwner), ({ fKind := 0, fN := 0 } : GOwner)⟩ : A4 GOwner) } : GType), fAt := 0 } : GVar) } : GSlot_field).fVar).fType).fOwn).a2).fN)), .pv (.int .i64 (((((({ fClass := [], fVar := ({ fName := [], fType := ({ fKind := 0, fClass := [], fN := 0, fOwn := (⟨({ fKind := 0, fN := 0 } : GOwner), ({ fKind := 0, fN := 0 } : GOwner), ({ fKind := 0, fN := 0 } : GOwner), ({ fKind := 0, fN := 0 } : GOwner)⟩ : A4 GOwner) } : GType), fAt := 0 } : GVar) } : GSlot_field).fVar).fType).fOwn).a3).fKind)), .pv (.int .i64 (((((({ fClass := [], fVar := ({ fName := [], fType := ({ fKind := 0, fClass := [], fN := 0, fOwn := (⟨({ fKind := 0, fN := 0 } : GOwner), ({ fKind := 0, fN := 0 } : GOwner), ({ fKind := 0, fN := 0 } : GOwner), ({ fKind := 0, fN := 0 } : GOwner)⟩ : A4 GOwner) } : GType), fAt := 0 } : GVar) } : GSlot_field).fVar).fType).fOwn).a3).fN)), .pv (.int .i64 ((({ fClass := [], fVar := ({ fName := [], fType := ({ fKind := 0, fClass := [], fN := 0, fOwn := (⟨({ fKind := 0, fN := 0 } : GOwner), ({ fKind := 0, fN := 0 } : GOwner), ({ fKind := 0, fN := 0 } : GOwner), ({ fKind := 0, fN := 0 } : GOwner)⟩ : A4 GOwner) } : GType), fAt := 0 } : GVar) } : GSlot_field).fVar).fAt))]))], 1, [], [], 0, []⟩) (imp_sub [0] rfl (by decide) rfl rfl ⟨by kernel_rfl, by kernel_rfl, by kernel_rfl, trivial⟩ ⟨by kernel_rfl, trivial⟩ rfl rfl rfl) ?_
  refine post_next ?_
  refine aw_seq ?_
  refine aw_seq ?_
  refine aw_region ?_
  refine reg_cons (guard_no rfl) (op_move rfl rfl rfl rfl) ?_
  refine reg_cons (guard_no rfl) (op_int (k := .i64) (m := y13) (n := 0) rfl rfl rfl rfl rfl rfl) ?_
  refine reg_nil ?_
  refine post_imp (s' := ⟨24, [(6, some (.lp 0 0)), (8, some (.pv (.vs 14 (List.map eGSlot_field y3)))), (9, some (.pv (.int .i64 y13))), (18, some (.pv (.bool (decide (y13 < 0)))))], [(0, some (.box 81 [.pv (.str (({ fClass := [], fVar := ({ fName := [], fType := ({ fKind := 0, fClass := [], fN := 0, fOwn := (⟨({ fKind := 0, fN := 0 } : GOwner), ({ fKind := 0, fN := 0 } : GOwner), ({ fKind := 0, fN := 0 } : GOwner), ({ fKind := 0, fN := 0 } : GOwner)⟩ : A4 GOwner) } : GType), fAt := 0 } : GVar) } : GSlot_field).fClass)), .pv (.str ((({ fClass := [], fVar := ({ fName := [], fType := ({ fKind := 0, fClass := [], fN := 0, fOwn := (⟨({ fKind := 0, fN := 0 } : GOwner), ({ fKind := 0, fN := 0 } : GOwner), ({ fKind := 0, fN := 0 } : GOwner), ({ fKind := 0, fN := 0 } : GOwner)⟩ : A4 GOwner) } : GType), fAt := 0 } : GVar) } : GSlot_field).fVar).fName)), .pv (.int .i64 (((({ fClass := [], fVar := ({ fName := [], fType := ({ fKind := 0, fClass := [], fN := 0, fOwn := (⟨({ fKind := 0, fN := 0 } : GOwner), ({ fKind := 0, fN := 0 } : GOwner), ({ fKind := 0, fN := 0 } : GOwner), ({ fKind := 0, fN := 0 } : GOwner)⟩ : A4 GOwner) } : GType), fAt := 0 } : GVar) } : GSlot_field).fVar).fType).fKind)), .pv (.str (((({ fClass := [], fVar := ({ fName := [], fType := ({ fKind := 0, fClass := [], fN := 0, fOwn := (⟨({ fKind := 0, fN := 0 } : GOwner), ({ fKind := 0, fN := 0 } : GOwner), ({ fKind := 0, fN := 0 } : GOwner), ({ fKind := 0, fN := 0 } : GOwner)⟩ : A4 GOwner) } : GType), fAt := 0 } : GVar) } : GSlot_field).fVar).fType).fClass)), .pv (.int .i64 (((({ fClass := [], fVar := ({ fName := [], fType := ({ fKind := 0, fClass := [], fN := 0, fOwn := (⟨({ fKind := 0, fN := 0 } : GOwner), ({ fKind := 0, fN := 0 } : GOwner), ({ fKind := 0, fN := 0 } : GOwner), ({ fKind := 0, fN := 0 } : GOwner)⟩ : A4 GOwner) } : GType), fAt := 0 } : GVar) } : GSlot_field).fVar).fType).fN)), .pv (.int .i64 (((((({ fClass := [], fVar := ({ fName := [], fType := ({ fKind := 0, fClass := [], fN := 0, fOwn := (⟨({ fKind := 0, fN := 0 } : GOwner), ({ fKind := 0, fN := 0 } : GOwner), ({ fKind := 0, fN := 0 } : GOwner), ({ fKind := 0, fN := 0 } : GOwner)⟩ : A4 GOwner) } : GType), fAt := 0 } : GVar) } : GSlot_field).fVar).fType).fOwn).a0).fKind)), .pv (.int .i64 (((((({ fClass := [], fVar := ({ fName := [], fType := ({ fKind := 0, fClass := [], fN := 0, fOwn := (⟨({ fKind := 0, fN := 0 } : GOwner), ({ fKind := 0, fN := 0 } : GOwner), ({ fKind := 0, fN := 0 } : GOwner), ({ fKind := 0, fN := 0 } : GOwner)⟩ : A4 GOwner) } : GType), fAt := 0 } : GVar) } : GSlot_field).fVar).fType).fOwn).a0).fN)), .pv (.int .i64 (((((({ fClass := [], fVar := ({ fName := [], fType := ({ fKind := 0, fClass := [], fN := 0, fOwn := (⟨({ fKind := 0, fN := 0 } : GOwner), ({ fKind := 0, fN := 0 } : GOwner), ({ fKind := 0, fN := 0 } : GOwner), ({ fKind := 0, fN := 0 } : GOwner)⟩ : A4 GOwner) } : GType), fAt := 0 } : GVar) } : GSlot_field).fVar).fType).fOwn).a1).fKind)), .pv (.int .i64 (((((({ fClass := [], fVar := ({ fName := [], fType := ({ fKind := 0, fClass := [], fN := 0, fOwn := (⟨({ fKind := 0, fN := 0 } : GOwner), ({ fKind := 0, fN := 0 } : GOwner), ({ fKind := 0, fN := 0 } : GOwner), ({ fKind := 0, fN := 0 } : GOwner)⟩ : A4 GOwner) } : GType), fAt := 0 } : GVar) } : GSlot_field).fVar).fType).fOwn).a1).fN)), .pv (.int .i64 (((((({ fClass := [], fVar := ({ fName := [], fType := ({ fKind := 0, fClass := [], fN := 0, fOwn := (⟨({ fKind := 0, fN := 0 } : GOwner), ({ fKind := 0, fN := 0 } : GOwner), ({ fKind := 0, fN := 0 } : GOwner), ({ fKind := 0, fN := 0 } : GOwner)⟩ : A4 GOwner) } : GType), fAt := 0 } : GVar) } : GSlot_field).fVar).fType).fOwn).a2).fKind)), .pv (.int .i64 (((((({ fClass := [], fVar := ({ fName := [], fType := ({ fKind := 0, fClass := [], fN := 0, fOwn := (⟨({ fKind := 0, fN := 0 } : GOwner), ({ fKind := 0, fN := 0 } : GOwner), ({ fKind := 0, fN := 0 } : GOwner), ({ fKind := 0, fN := 0 } : GOwner)⟩ : A4 GOwner) } : GType), fAt := 0 } : GVar) } : GSlot_field).fVar).fType).fOwn).a2).fN)), .pv (.int .i64 (((((({ fClass := [], fVar := ({ fName := [], fType := ({ fKind := 0, fClass := [], fN := 0, fOwn := (⟨({ fKind := 0, fN := 0 } : GOwner), ({ fKind := 0, fN := 0 } : GOwner), ({ fKind := 0, fN := 0 } : GOwner), ({ fKind := 0, fN := 0 } : GOwner)⟩ : A4 GOwner) } : GType), fAt := 0 } : GVar) } : GSlot_field).fVar).fType).fOwn).a3).fKind)), .pv (.int .i64 (((((({ fClass := [], fVar := ({ fName := [], fType := ({ fKind := 0, fClass := [], fN := 0, fOwn := (⟨({ fKind := 0, fN := 0 } : GOwner), ({ fKind := 0, fN := 0 } : GOwner), ({ fKind := 0, fN := 0 } : GOwner), ({ fKind := 0, fN := 0 } : GOwner)⟩ : A4 GOwner) } : GType), fAt := 0 } : GVar) } : GSlot_field).fVar).fType).fOwn).a3).fN)), .pv (.int .i64 ((({ fClass := [], fVar := ({ fName := [], fType := ({ fKind := 0, fClass := [], fN := 0, fOwn := (⟨({ fKind := 0, fN := 0 } : GOwner), ({ fKind := 0, fN := 0 } : GOwner), ({ fKind := 0, fN := 0 } : GOwner), ({ fKind := 0, fN := 0 } : GOwner)⟩ : A4 GOwner) } : GType), fAt := 0 } : GVar) } : GSlot_field).fVar).fAt))]))], 1, [], [], 0, []⟩) (imp_sub [0] rfl (by decide) rfl rfl ⟨by kernel_rfl, by kernel_rfl, by kernel_rfl, by kernel_rfl, trivial⟩ ⟨by kernel_rfl, trivial⟩ rfl rfl rfl) ?_
  refine post_next ?_
  rcases ite_some hF with ⟨hb15, hF⟩ | ⟨hb15, hF⟩
  · refine aw_cond_t rfl hb15 ?_
    refine aw_seq ?_
    refine aw_region ?_
    refine reg_cons (guard_no rfl) (op_build (zs := [.str (({ fClass := [], fVar := ({ fName := [], fType := ({ fKind := 0, fClass := [], fN := 0, fOwn := (⟨({ fKind := 0, fN := 0 } : GOwner), ({ fKind := 0, fN := 0 } : GOwner), ({ fKind := 0, fN := 0 } : GOwner), ({ fKind := 0, fN := 0 } : GOwner)⟩ : A4 GOwner) } : GType), fAt := 0 } : GVar) } : GSlot_field).fClass), .str ((({ fClass := [], fVar := ({ fName := [], fType := ({ fKind := 0, fClass := [], fN := 0, fOwn := (⟨({ fKind := 0, fN := 0 } : GOwner), ({ fKind := 0, fN := 0 } : GOwner), ({ fKind := 0, fN := 0 } : GOwner), ({ fKind := 0, fN := 0 } : GOwner)⟩ : A4 GOwner) } : GType), fAt := 0 } : GVar) } : GSlot_field).fVar).fName), .int .i64 (((({ fClass := [], fVar := ({ fName := [], fType := ({ fKind := 0, fClass := [], fN := 0, fOwn := (⟨({ fKind := 0, fN := 0 } : GOwner), ({ fKind := 0, fN := 0 } : GOwner), ({ fKind := 0, fN := 0 } : GOwner), ({ fKind := 0, fN := 0 } : GOwner)⟩ : A4 GOwner) } : GType), fAt := 0 } : GVar) } : GSlot_field).fVar).fType).fKind), .str (((({ fClass := [], fVar := ({ fName := [], fType := ({ fKind := 0, fClass := [], fN := 0, fOwn := (⟨({ fKind := 0, fN := 0 } : GOwner), ({ fKind := 0, fN := 0 } : GOwner), ({ fKind := 0, fN := 0 } : GOwner), ({ fKind := 0, fN := 0 } : GOwner)⟩ : A4 GOwner) } : GType), fAt := 0 } : GVar) } : GSlot_field).fVar).fType).fClass), .int .i64 (((({ fClass := [], fVar := ({ fName := [], fType := ({ fKind := 0, fClass := [], fN := 0, fOwn := (⟨({ fKind := 0, fN := 0 } : GOwner), ({ fKind := 0, fN := 0 } : GOwner), ({ fKind := 0, fN := 0 } : GOwner), ({ fKind := 0, fN := 0 } : GOwner)⟩ : A4 GOwner) } : GType), fAt := 0 } : GVar) } : GSlot_field).fVar).fType).fN), .int .i64 (((((({ fClass := [], fVar := ({ fName := [], fType := ({ fKind := 0, fClass := [], fN := 0, fOwn := (⟨({ fKind := 0, fN := 0 } : GOwner), ({ fKind := 0, fN := 0 } : GOwner), ({ fKind := 0, fN := 0 } : GOwner), ({ fKind := 0, fN := 0 } : GOwner)⟩ : A4 GOwner) } : GType), fAt := 0 } : GVar) } : GSlot_field).fVar).fType).fOwn).a0).fKind), .int .i64 (((((({ fClass := [], fVar := ({ fName := [], fType := ({ fKind := 0, fClass := [], fN := 0, fOwn := (⟨({ fKind := 0, fN := 0 } : GOwner), ({ fKind := 0, fN := 0 } : GOwner), ({ fKind := 0, fN := 0 } : GOwner), ({ fKind := 0, fN := 0 } : GOwner)⟩ : A4 GOwner) } : GType), fAt := 0 } : GVar) } : GSlot_field).fVar).fType).fOwn).a0).fN), .int .i64 (((((({ fClass := [], fVar := ({ fName := [], fType := ({ fKind := 0, fClass := [], fN := 0, fOwn := (⟨({ fKind := 0, fN := 0 } : GOwner), ({ fKind := 0, fN := 0 } : GOwner), ({ fKind := 0, fN := 0 } : GOwner), ({ fKind := 0, fN := 0 } : GOwner)⟩ : A4 GOwner) } : GType), fAt := 0 } : GVar) } : GSlot_field).fVar).fType).fOwn).a1).fKind), .int .i64 (((((({ fClass := [], fVar := ({ fName := [], fType := ({ fKind := 0, fClass := [], fN := 0, fOwn := (⟨({ fKind := 0, fN := 0 } : GOwner), ({ fKind := 0, fN := 0 } : GOwner), ({ fKind := 0, fN := 0 } : GOwner), ({ fKind := 0, fN := 0 } : GOwner)⟩ : A4 GOwner) } : GType), fAt := 0 } : GVar) } : GSlot_field).fVar).fType).fOwn).a1).fN), .int .i64 (((((({ fClass := [], fVar := ({ fName := [], fType := ({ fKind := 0, fClass := [], fN := 0, fOwn := (⟨({ fKind := 0, fN := 0 } : GOwner), ({ fKind := 0, fN := 0 } : GOwner), ({ fKind := 0, fN := 0 } : GOwner), ({ fKind := 0, fN := 0 } : GOwner)⟩ : A4 GOwner) } : GType), fAt := 0 } : GVar) } : GSlot_field).fVar).fType).fOwn).a2).fKind), .int .i64 (((((({ fClass := [], fVar := ({ fName := [], fType := ({ fKind := 0, fClass := [], fN := 0, fOwn := (⟨({ fKind := 0, fN := 0 } : GOwner), ({ fKind := 0, fN := 0 } : GOwner), ({ fKind := 0, fN := 0 } : GOwner), ({ fKind := 0, fN := 0 } : GOwner)⟩ : A4 GOwner) } : GType), fAt := 0 } : GVar) } : GSlot_field).fVar).fType).fOwn).a2).fN), .int .i64 (((((({ fClass := [], fVar := ({ fName := [], fType := ({ fKind := 0, fClass := [], fN := 0, fOwn := (⟨({ fKind := 0, fN := 0 } : GOwner), ({ fKind := 0, fN := 0 } : GOwner), ({ fKind := 0, fN := 0 } : GOwner), ({ fKind := 0, fN := 0 } : GOwner)⟩ : A4 GOwner) } : GType), fAt := 0 } : GVar) } : GSlot_field).fVar).fType).fOwn).a3).fKind), .int .i64 (((((({ fClass := [], fVar := ({ fName := [], fType := ({ fKind := 0, fClass := [], fN := 0, fOwn := (⟨({ fKind := 0, fN := 0 } : GOwner), ({ fKind := 0, fN := 0 } : GOwner), ({ fKind := 0, fN := 0 } : GOwner), ({ fKind := 0, fN := 0 } : GOwner)⟩ : A4 GOwner) } : GType), fAt := 0 } : GVar) } : GSlot_field).fVar).fType).fOwn).a3).fN), .int .i64 ((({ fClass := [], fVar := ({ fName := [], fType := ({ fKind := 0, fClass := [], fN := 0, fOwn := (⟨({ fKind := 0, fN := 0 } : GOwner), ({ fKind := 0, fN := 0 } : GOwner), ({ fKind := 0, fN := 0 } : GOwner), ({ fKind := 0, fN := 0 } : GOwner)⟩ : A4 GOwner) } : GType), fAt := 0 } : GVar) } : GSlot_field).fVar).fAt)]) (r := eGSlot_field ({ fClass := [], fVar := ({ fName := [], fType := ({ fKind := 0, fClass := [], fN := 0, fOwn := (⟨({ fKind := 0, fN := 0 } : GOwner), ({ fKind := 0, fN := 0 } : GOwner), ({ fKind := 0, fN := 0 } : GOwner), ({ fKind := 0, fN := 0 } : GOwner)⟩ : A4 GOwner) } : GType), fAt := 0 } : GVar) } : GSlot_field)) rfl Try_zer_81 (by exact ⟨rfl, rfl, rfl, rfl, rfl, rfl, rfl, rfl, rfl, rfl, rfl, rfl, rfl, rfl, trivial⟩) Try_plc_81 rfl rfl rfl rfl) ?_
    refine reg_cons (guard_no rfl) (op_store_lp (n := 14) rfl rfl rfl rfl rfl (or_agg Try_agg_81) (by rw [Try_non_81]; rfl) rfl rfl rfl) ?_
    refine reg_cons (guard_no rfl) (op_assign rfl rfl rfl rfl) ?_
    refine reg_nil ?_
    refine post_imp (s' := ⟨24, [(6, some (.lp 0 0)), (7, some (.pv (.bool false)))], [(0, some (.box 81 [.pv (.str (({ fClass := [], fVar := ({ fName := [], fType := ({ fKind := 0, fClass := [], fN := 0, fOwn := (⟨({ fKind := 0, fN := 0 } : GOwner), ({ fKind := 0, fN := 0 } : GOwner), ({ fKind := 0, fN := 0 } : GOwner), ({ fKind := 0, fN := 0 } : GOwner)⟩ : A4 GOwner) } : GType), fAt := 0 } : GVar) } : GSlot_field).fClass)), .pv (.str ((({ fClass := [], fVar := ({ fName := [], fType := ({ fKind := 0, fClass := [], fN := 0, fOwn := (⟨({ fKind := 0, fN := 0 } : GOwner), ({ fKind := 0, fN := 0 } : GOwner), ({ fKind := 0, fN := 0 } : GOwner), ({ fKind := 0, fN := 0 } : GOwner)⟩ : A4 GOwner) } : GType), fAt := 0 } : GVar) } : GSlot_field).fVar).fName)), .pv (.int .i64 (((({ fClass := [], fVar := ({ fName := [], fType := ({ fKind := 0, fClass := [], fN := 0, fOwn := (⟨({ fKind := 0, fN := 0 } : GOwner), ({ fKind := 0, fN := 0 } : GOwner), ({ fKind := 0, fN := 0 } : GOwner), ({ fKind := 0, fN := 0 } : GOwner)⟩ : A4 GOwner) } : GType), fAt := 0 } : GVar) } : GSlot_field).fVar).fType).fKind)), .pv (.str (((({ fClass := [], fVar := ({ fName := [], fType := ({ fKind := 0, fClass := [], fN := 0, fOwn := (⟨({ fKind := 0, fN := 0 } : GOwner), ({ fKind := 0, fN := 0 } : GOwner), ({ fKind := 0, fN := 0 } : GOwner), ({ fKind := 0, fN := 0 } : GOwner)⟩ : A4 GOwner) } : GType), fAt := 0 } : GVar) } : GSlot_field).fVar).fType).fClass)), .pv (.int .i64 (((({ fClass := [], fVar := ({ fName := [], fType := ({ fKind := 0, fClass := [], fN := 0, fOwn := (⟨({ fKind := 0, fN := 0 } : GOwner), ({ fKind := 0, fN := 0 } : GOwner), ({ fKind := 0, fN := 0 } : GOwner), ({ fKind := 0, fN := 0 } : GOwner)⟩ : A4 GOwner) } : GType), fAt := 0 } : GVar) } : GSlot_field).fVar).fType).fN)), .pv (.int .i64 (((((({ fClass := [], fVar := ({ fName := [], fType := ({ fKind := 0, fClass := [], fN := 0, fOwn := (⟨({ fKind := 0, fN := 0 } : GOwner), ({ fKind := 0, fN := 0 } : GOwner), ({ fKind := 0, fN := 0 } : GOwner), ({ fKind := 0, fN := 0 } : GOwner)⟩ : A4 GOwner) } : GType), fAt := 0 } : GVar) } : GSlot_field).fVar).fType).fOwn).a0).fKind)), .pv (.int .i64 (((((({ fClass := [], fVar := ({ fName := [], fType := ({ fKind := 0, fClass := [], fN := 0, fOwn := (⟨({ fKind := 0, fN := 0 } : GOwner), ({ fKind := 0, fN := 0 } : GOwner), ({ fKind := 0, fN := 0 } : GOwner), ({ fKind := 0, fN := 0 } : GOwner)⟩ : A4 GOwner) } : GType), fAt := 0 } : GVar) } : GSlot_field).fVar).fType).fOwn).a0).fN)), .pv (.int .i64 (((((({ fClass := [], fVar := ({ fName := [], fType := ({ fKind := 0, fClass := [], fN := 0, fOwn := (⟨({ fKind := 0, fN := 0 } : GOwner), ({ fKind := 0, fN := 0 } : GOwner), ({ fKind := 0, fN := 0 } : GOwner), ({ fKind := 0, fN := 0 } : GOwner)⟩ : A4 GOwner) } : GType), fAt := 0 } : GVar) } : GSlot_field).fVar).fType).fOwn).a1).fKind)), .pv (.int .i64 (((((({ fClass := [], fVar := ({ fName := [], fType := ({ fKind := 0, fClass := [], fN := 0, fOwn := (⟨({ fKind := 0, fN := 0 } : GOwner), ({ fKind := 0, fN := 0 } : GOwner), ({ fKind := 0, fN := 0 } : GOwner), ({ fKind := 0, fN := 0 } : GOwner)⟩ : A4 GOwner) } : GType), fAt := 0 } : GVar) } : GSlot_field).fVar).fType).fOwn).a1).fN)), .pv (.int .i64 (((((({ fClass := [], fVar := ({ fName := [], fType := ({ fKind := 0, fClass := [], fN := 0, fOwn := (⟨({ fKind := 0, fN := 0 } : GOwner), ({ fKind := 0, fN := 0 } : GOwner), ({ fKind := 0, fN := 0 } : GOwner), ({ fKind := 0, fN := 0 } : GOwner)⟩ : A4 GOwner) } : GType), fAt := 0 } : GVar) } : GSlot_field).fVar).fType).fOwn).a2).fKind)), .pv (.int .i64 (((((({ fClass := [], fVar := ({ fName := [], fType := ({ fKind := 0, fClass := [], fN := 0, fOwn := (⟨({ fKind := 0, fN := 0 } : GOwner), ({ fKind := 0, fN := 0 } : GOwner), ({ fKind := 0, fN := 0 } : GOwner), ({ fKind := 0, fN := 0 } : GOwner)⟩ : A4 GOwner) } : GType), fAt := 0 } : GVar) } : GSlot_field).fVar).fType).fOwn).a2).fN)), .pv (.int .i64 (((((({ fClass := [], fVar := ({ fName := [], fType := ({ fKind := 0, fClass := [], fN := 0, fOwn := (⟨({ fKind := 0, fN := 0 } : GOwner), ({ fKind := 0, fN := 0 } : GOwner), ({ fKind := 0, fN := 0 } : GOwner), ({ fKind := 0, fN := 0 } : GOwner)⟩ : A4 GOwner) } : GType), fAt := 0 } : GVar) } : GSlot_field).fVar).fType).fOwn).a3).fKind)), .pv (.int .i64 (((((({ fClass := [], fVar := ({ fName := [], fType := ({ fKind := 0, fClass := [], fN := 0, fOwn := (⟨({ fKind := 0, fN := 0 } : GOwner), ({ fKind := 0, fN := 0 } : GOwner), ({ fKind := 0, fN := 0 } : GOwner), ({ fKind := 0, fN := 0 } : GOwner)⟩ : A4 GOwner) } : GType), fAt := 0 } : GVar) } : GSlot_field).fVar).fType).fOwn).a3).fN)), .pv (.int .i64 ((({ fClass := [], fVar := ({ fName := [], fType := ({ fKind := 0, fClass := [], fN := 0, fOwn := (⟨({ fKind := 0, fN := 0 } : GOwner), ({ fKind := 0, fN := 0 } : GOwner), ({ fKind := 0, fN := 0 } : GOwner), ({ fKind := 0, fN := 0 } : GOwner)⟩ : A4 GOwner) } : GType), fAt := 0 } : GVar) } : GSlot_field).fVar).fAt))]))], 1, [], [], 0, []⟩) (imp_sub [0] rfl (by decide) rfl rfl ⟨by kernel_rfl, by kernel_rfl, trivial⟩ ⟨by kernel_rfl, trivial⟩ rfl rfl rfl) ?_
    refine post_next ?_
    refine aw_ret ?_
    refine post_then_ret ?_
    obtain rfl := Option.some.inj hF
    exact post_ret rfl rfl (.cons _ _ _ _ _ (.agg _ _ _ _ _ 14 _ _ rfl rfl Try_agg_81 rfl rfl rfl) (.p _) (.cons _ _ _ _ _ (.tmp _ _ rfl) (.p _) .nil)) (.inl rfl)
  · refine aw_cond_f rfl hb15 ?_
    refine aw_skip ?_
    refine post_next ?_
    refine aw_seq ?_
    refine aw_region ?_
    refine reg_cons (guard_no rfl) (op_move rfl rfl rfl rfl) ?_
    refine reg_cons (guard_no rfl) (op_move rfl rfl rfl rfl) ?_
    obtain ⟨y16, h17, hF⟩ := bind_some hF
    refine reg_cons (guard_no rfl) (op_index_vs (k := .i64) rfl rfl rfl (idx_map eGSlot_field h17) Try_slc_71 rfl rfl) ?_
    refine reg_cons (guard_no rfl) (op_load_vp_agg (ps := eGSlot_field y16) rfl rfl rfl rfl Try_agg_81 rfl rfl) ?_
    refine reg_cons (guard_no rfl) (op_store_lp (n := 14) rfl rfl rfl rfl rfl (or_agg Try_agg_81) (by rw [Try_non_81]; rfl) rfl rfl rfl) ?_
    refine reg_cons (guard_no rfl) (op_assign rfl rfl rfl rfl) ?_
    refine reg_nil ?_
    refine post_imp (s' := ⟨24, [(6, some (.lp 0 0)), (7, some (.pv (.bool true)))], [(0, some (.box 81 [.pv (.str y16.fClass), .pv (.str y16.fVar.fName), .pv (.int .i64 y16.fVar.fType.fKind), .pv (.str y16.fVar.fType.fClass), .pv (.int .i64 y16.fVar.fType.fN), .pv (.int .i64 y16.fVar.fType.fOwn.a0.fKind), .pv (.int .i64 y16.fVar.fType.fOwn.a0.fN), .pv (.int .i64 y16.fVar.fType.fOwn.a1.fKind), .pv (.int .i64 y16.fVar.fType.fOwn.a1.fN), .pv (.int .i64 y16.fVar.fType.fOwn.a2.fKind), .pv (.int .i64 y16.fVar.fType.fOwn.a2.fN), .pv (.int .i64 y16.fVar.fType.fOwn.a3.fKind), .pv (.int .i64 y16.fVar.fType.fOwn.a3.fN), .pv (.int .i64 y16.fVar.fAt)]))], 1, [], [], 0, []⟩) (imp_sub [0] rfl (by decide) rfl rfl ⟨by kernel_rfl, by kernel_rfl, trivial⟩ ⟨by kernel_rfl, trivial⟩ rfl rfl rfl) ?_
    refine post_next ?_
    refine aw_ret ?_
    obtain rfl := Option.some.inj hF
    exact post_ret rfl rfl (.cons _ _ _ _ _ (.agg _ _ _ _ _ 14 _ _ rfl rfl Try_agg_81 rfl rfl rfl) (.p _) (.cons _ _ _ _ _ (.tmp _ _ rfl) (.p _) .nil)) (.inl rfl)
theorem ref13_Find_ok {a0 : List GClass} {a1 : List UInt8} {r : Int} (hF : ref13_Find a0 a1 = some r) : Abs.Fn Try.prog 69 [.vs 7 (List.map eGClass a0), .str a1] [.p (.int .i64 r)] := by
  unfold ref13_Find at hF
  refine fn_of_body (n := 20) Try.func69 rfl rfl rfl ?_
  intro w O
  refine aw_seq ?_
  refine aw_region ?_
  refine reg_cons (guard_no rfl) (op_assign rfl rfl rfl rfl) ?_
  refine reg_nil ?_
  refine post_imp (s' := ⟨20, [(0, some (.pv (.vs 7 (List.map eGClass a0)))), (1, some (.pv (.str a1)))], [], 0, [], [], 0, []⟩) (imp_sub [] rfl (by decide) rfl rfl ⟨by kernel_rfl, by kernel_rfl, trivial⟩ trivial rfl rfl rfl) ?_
  refine post_next ?_
  refine aw_seq ?_
  refine aw_seq ?_
  refine aw_region ?_
  refine reg_cons (guard_no rfl) (op_assign rfl rfl rfl rfl) ?_
  refine reg_nil ?_
  refine post_imp (s' := ⟨20, [(0, some (.pv (.vs 7 (List.map eGClass a0)))), (1, some (.pv (.str a1))), (5, some (.pv (.int .i64 0)))], [], 0, [], [], 0, []⟩) (imp_sub [] rfl (by decide) rfl rfl ⟨by kernel_rfl, by kernel_rfl, by kernel_rfl, trivial⟩ trivial rfl rfl rfl) ?_
  refine post_next ?_
  obtain ⟨lr22, hF, hK23⟩ := bind_some hF
  refine aw_for ((((a0.length : Int) : Int) - (0)).toNat + 1) (fun s1 => ∃ q, lr22 = .next q ∧ s1 = ⟨20, [], [], 0, [], [], 0, []⟩) ?_ ?_
  · refine rnd_loop (α := Int) (fun q => ⟨20, [(0, some (.pv (.vs 7 (List.map eGClass a0)))), (1, some (.pv (.str a1))), (5, some (.pv (.int .i64 q)))], [], 0, [], [], 0, []⟩) (fun k q => ref13_Find_L1 a0 a1 k q = some lr22) 0 (imp_sub [] rfl (by decide) rfl rfl ⟨by kernel_rfl, by kernel_rfl, by kernel_rfl, trivial⟩ trivial rfl rfl rfl) hF (fun q h => by cases h) ?_
    clear hF
    rintro k x7 hF ih
    refine rnd_succ ?_
    refine aw_seq ?_
    refine aw_seq ?_
    refine aw_region ?_
    refine reg_cons (guard_no rfl) (op_move rfl rfl rfl rfl) ?_
    refine reg_cons (guard_no rfl) (op_move rfl rfl rfl rfl) ?_
    refine reg_cons (guard_no rfl) (op_len_vs (n := a0.length) rfl rfl (List.length_map ..) Try_slc_45 rfl rfl) ?_
    refine reg_cons (guard_no rfl) (op_int (k := .i64) (m := x7) (n := (a0.length : Int)) rfl rfl rfl rfl rfl rfl) ?_
    refine reg_nil ?_
    refine post_imp (s' := ⟨20, [(0, some (.pv (.vs 7 (List.map eGClass a0)))), (1, some (.pv (.str a1))), (5, some (.pv (.int .i64 x7))), (9, some (.pv (.bool (decide (x7 < (a0.length : Int))))))], [], 0, [], [], 0, []⟩) (imp_sub [] rfl (by decide) rfl rfl ⟨by kernel_rfl, by kernel_rfl, by kernel_rfl, by kernel_rfl, trivial⟩ trivial rfl rfl rfl) ?_
    refine post_next ?_
    rcases ite_some hF with ⟨hb15, hF⟩ | ⟨hb15, hF⟩
    · refine aw_cond_t rfl hb15 ?_
      refine aw_skip ?_
      refine post_next ?_
      refine aw_seq ?_
      refine aw_block ?_
      refine aw_seq ?_
      refine aw_region ?_
      refine reg_cons (guard_no rfl) (op_move rfl rfl rfl rfl) ?_
      refine reg_cons (guard_no rfl) (op_move rfl rfl rfl rfl) ?_
      obtain ⟨y18, h19, hF⟩ := bind_some hF
      refine reg_cons (guard_no rfl) (op_index_vs (k := .i64) rfl rfl rfl (idx_map eGClass h19) Try_slc_45 rfl rfl) ?_
      refine reg_cons (guard_no rfl) (op_field_vp rfl rfl Try_fld_94_0 rfl rfl) ?_
      refine reg_cons (guard_no rfl) (op_load_vp (p := .str y18.fName) rfl rfl rfl Try_one_9 rfl rfl) ?_
      refine reg_cons (guard_no rfl) (op_move rfl rfl rfl rfl) ?_
      refine reg_cons (guard_no rfl) (op_str rfl rfl rfl rfl rfl rfl) ?_
      refine reg_nil ?_
      refine post_imp (s' := ⟨20, [(0, some (.pv (.vs 7 (List.map eGClass a0)))), (1, some (.pv (.str a1))), (5, some (.pv (.int .i64 x7))), (18, some (.pv (.bool (y18.fName == a1))))], [], 0, [], [], 0, []⟩) (imp_sub [] rfl (by decide) rfl rfl ⟨by kernel_rfl, by kernel_rfl, by kernel_rfl, by kernel_rfl, trivial⟩ trivial rfl rfl rfl) ?_
      refine post_next ?_
      rcases ite_some hF with ⟨hb20, hF⟩ | ⟨hb20, hF⟩
      · refine aw_cond_t rfl hb20 ?_
        refine aw_seq ?_
        refine aw_region ?_
        refine reg_cons (guard_no rfl) (op_move rfl rfl rfl rfl) ?_
        refine reg_cons (guard_no rfl) (op_assign rfl rfl rfl rfl) ?_
        refine reg_nil ?_
        refine post_imp (s' := ⟨20, [(4, some (.pv (.int .i64 x7)))], [], 0, [], [], 0, []⟩) (imp_sub [] rfl (by decide) rfl rfl ⟨by kernel_rfl, trivial⟩ trivial rfl rfl rfl) ?_
        refine post_next ?_
        refine aw_ret ?_
        refine post_block_ret ?_
        refine post_then_ret ?_
        refine post_then_ret ?_
        refine post_lp_ret ?_
        obtain rfl := Option.some.inj hF
        have hF := elim_stop hK23
        refine post_then_ret ?_
        obtain rfl := Option.some.inj hF
        exact post_ret rfl rfl (.cons _ _ _ _ _ (.tmp _ _ rfl) (.p _) .nil) (.inl rfl)
      · refine aw_cond_f rfl hb20 ?_
        refine aw_skip ?_
        refine post_block_normal ?_
        refine post_next ?_
        refine aw_region ?_
        refine reg_cons (guard_no rfl) (op_move rfl rfl rfl rfl) ?_
        refine reg_cons (guard_no rfl) (op_int (k := .i64) (m := x7) (n := 1) rfl rfl rfl rfl rfl rfl) ?_
        refine reg_cons (guard_no rfl) (op_assign rfl rfl rfl rfl) ?_
        refine reg_nil ?_
        refine post_round ?_
        exact rnd_back (ih (w_i64 (x7 + 1)) hF) (imp_sub [] rfl (by decide) rfl rfl ⟨by kernel_rfl, by kernel_rfl, by kernel_rfl, trivial⟩ trivial rfl rfl rfl)
    · refine aw_cond_f rfl hb15 ?_
      refine aw_exit ?_
      refine post_then_exit ?_
      refine post_then_exit ?_
      obtain rfl := Option.some.inj hF
      exact post_lp_break _ ⟨_, rfl, rfl⟩ (imp_sub [] rfl (by decide) rfl rfl trivial trivial rfl rfl rfl)
  · rintro _ ⟨⟨⟩, rfl, rfl⟩
    have hF := elim_next hK23
    clear hK23
    refine post_next ?_
    refine aw_seq ?_
    refine aw_region ?_
    refine reg_cons (guard_no rfl) (op_assign rfl rfl rfl rfl) ?_
    refine reg_nil ?_
    refine post_imp (s' := ⟨20, [(4, some (.pv (.int .i64 (-1))))], [], 0, [], [], 0, []⟩) (imp_sub [] rfl (by decide) rfl rfl ⟨by kernel_rfl, trivial⟩ trivial rfl rfl rfl) ?_
    refine post_next ?_
    refine aw_ret ?_
    obtain rfl := Option.some.inj hF
    exact post_ret rfl rfl (.cons _ _ _ _ _ (.tmp _ _ rfl) (.p _) .nil) (.inl rfl)
theorem ref14_has_ok {a0 : List Int} {a1 : Int} {r : Bool} (hF : ref14_has a0 a1 = some r) : Abs.Fn Try.prog 70 [.vs 1 (List.map eI a0), .int .i64 a1] [.p (.bool r)] := by
  unfold ref14_has at hF
  refine fn_of_body (n := 18) Try.func70 rfl rfl rfl ?_
  intro w O
  refine aw_seq ?_
  refine aw_region ?_
  refine reg_cons (guard_no rfl) (op_assign rfl rfl rfl rfl) ?_
  refine reg_nil ?_
  refine post_imp (s' := ⟨18, [(0, some (.pv (.vs 1 (List.map eI a0)))), (1, some (.pv (.int .i64 a1)))], [], 0, [], [], 0, []⟩) (imp_sub [] rfl (by decide) rfl rfl ⟨by kernel_rfl, by kernel_rfl, trivial⟩ trivial rfl rfl rfl) ?_
  refine post_next ?_
  refine aw_seq ?_
  refine aw_seq ?_
  refine aw_region ?_
  refine reg_cons (guard_no rfl) (op_assign rfl rfl rfl rfl) ?_
  refine reg_nil ?_
  refine post_imp (s' := ⟨18, [(0, some (.pv (.vs 1 (List.map eI a0)))), (1, some (.pv (.int .i64 a1))), (5, some (.pv (.int .i64 0)))], [], 0, [], [], 0, []⟩) (imp_sub [] rfl (by decide) rfl rfl ⟨by kernel_rfl, by kernel_rfl, by kernel_rfl, trivial⟩ trivial rfl rfl rfl) ?_
  refine post_next ?_
  obtain ⟨lr22, hF, hK23⟩ := bind_some hF
  refine aw_for ((((a0.length : Int) : Int) - (0)).toNat + 1) (fun s1 => ∃ q, lr22 = .next q ∧ s1 = ⟨18, [], [], 0, [], [], 0, []⟩) ?_ ?_
  · refine rnd_loop (α := Int) (fun q => ⟨18, [(0, some (.pv (.vs 1 (List.map eI a0)))), (1, some (.pv (.int .i64 a1))), (5, some (.pv (.int .i64 q)))], [], 0, [], [], 0, []⟩) (fun k q => ref14_has_L1 a0 a1 k q = some lr22) 0 (imp_sub [] rfl (by decide) rfl rfl ⟨by kernel_rfl, by kernel_rfl, by kernel_rfl, trivial⟩ trivial rfl rfl rfl) hF (fun q h => by cases h) ?_
    clear hF
    rintro k x7 hF ih
    refine rnd_succ ?_
    refine aw_seq ?_
    refine aw_seq ?_
    refine aw_region ?_
    refine reg_cons (guard_no rfl) (op_move rfl rfl rfl rfl) ?_
    refine reg_cons (guard_no rfl) (op_move rfl rfl rfl rfl) ?_
    refine reg_cons (guard_no rfl) (op_len_vs (n := a0.length) rfl rfl (List.length_map ..) Try_slc_42 rfl rfl) ?_
    refine reg_cons (guard_no rfl) (op_int (k := .i64) (m := x7) (n := (a0.length : Int)) rfl rfl rfl rfl rfl rfl) ?_
    refine reg_nil ?_
    refine post_imp (s' := ⟨18, [(0, some (.pv (.vs 1 (List.map eI a0)))), (1, some (.pv (.int .i64 a1))), (5, some (.pv (.int .i64 x7))), (9, some (.pv (.bool (decide (x7 < (a0.length : Int))))))], [], 0, [], [], 0, []⟩) (imp_sub [] rfl (by decide) rfl rfl ⟨by kernel_rfl, by kernel_rfl, by kernel_rfl, by kernel_rfl, trivial⟩ trivial rfl rfl rfl) ?_
    refine post_next ?_
    rcases ite_some hF with ⟨hb15, hF⟩ | ⟨hb15, hF⟩
    · refine aw_cond_t rfl hb15 ?_
      refine aw_skip ?_
      refine post_next ?_
      refine aw_seq ?_
      refine aw_block ?_
      refine aw_seq ?_
      refine aw_region ?_
      refine reg_cons (guard_no rfl) (op_move rfl rfl rfl rfl) ?_
      refine reg_cons (guard_no rfl) (op_move rfl rfl rfl rfl) ?_
      obtain ⟨y18, h19, hF⟩ := bind_some hF
      refine reg_cons (guard_no rfl) (op_index_vs (k := .i64) rfl rfl rfl (idx_map eI h19) Try_slc_42 rfl rfl) ?_
      refine reg_cons (guard_no rfl) (op_load_vp (p := .int .i64 y18) rfl rfl rfl Try_one_3 rfl rfl) ?_
      refine reg_cons (guard_no rfl) (op_move rfl rfl rfl rfl) ?_
      refine reg_cons (guard_no rfl) (op_int (k := .i64) (m := y18) (n := a1) rfl rfl rfl rfl rfl rfl) ?_
      refine reg_nil ?_
      refine post_imp (s' := ⟨18, [(0, some (.pv (.vs 1 (List.map eI a0)))), (1, some (.pv (.int .i64 a1))), (5, some (.pv (.int .i64 x7))), (17, some (.pv (.bool (y18 == a1))))], [], 0, [], [], 0, []⟩) (imp_sub [] rfl (by decide) rfl rfl ⟨by kernel_rfl, by kernel_rfl, by kernel_rfl, by kernel_rfl, trivial⟩ trivial rfl rfl rfl) ?_
      refine post_next ?_
      rcases ite_some hF with ⟨hb20, hF⟩ | ⟨hb20, hF⟩
      · refine aw_cond_t rfl hb20 ?_
        refine aw_seq ?_
        refine aw_region ?_
        refine reg_cons (guard_no rfl) (op_assign rfl rfl rfl rfl) ?_
        refine reg_nil ?_
        refine post_imp (s' := ⟨18, [(4, some (.pv (.bool true)))], [], 0, [], [], 0, []⟩) (imp_sub [] rfl (by decide) rfl rfl ⟨by kernel_rfl, trivial⟩ trivial rfl rfl rfl) ?_
        refine post_next ?_
        refine aw_ret ?_
        refine post_block_ret ?_
        refine post_then_ret ?_
        refine post_then_ret ?_
        refine post_lp_ret ?_
        obtain rfl := Option.some.inj hF
        have hF := elim_stop hK23
        refine post_then_ret ?_
        obtain rfl := Option.some.inj hF
        exact post_ret rfl rfl (.cons _ _ _ _ _ (.tmp _ _ rfl) (.p _) .nil) (.inl rfl)
      · refine aw_cond_f rfl hb20 ?_
        refine aw_skip ?_
        refine post_block_normal ?_
        refine post_next ?_
        refine aw_region ?_
        refine reg_cons (guard_no rfl) (op_move rfl rfl rfl rfl) ?_
        refine reg_cons (guard_no rfl) (op_int (k := .i64) (m := x7) (n := 1) rfl rfl rfl rfl rfl rfl) ?_
        refine reg_cons (guard_no rfl) (op_assign rfl rfl rfl rfl) ?_
        refine reg_nil ?_
        refine post_round ?_
        exact rnd_back (ih (w_i64 (x7 + 1)) hF) (imp_sub [] rfl (by decide) rfl rfl ⟨by kernel_rfl, by kernel_rfl, by kernel_rfl, trivial⟩ trivial rfl rfl rfl)
    · refine aw_cond_f rfl hb15 ?_
      refine aw_exit ?_
      refine post_then_exit ?_
      refine post_then_exit ?_
      obtain rfl := Option.some.inj hF
      exact post_lp_break _ ⟨_, rfl, rfl⟩ (imp_sub [] rfl (by decide) rfl rfl trivial trivial rfl rfl rfl)
  · rintro _ ⟨⟨⟩, rfl, rfl⟩
    have hF := elim_next hK23
    clear hK23
    refine post_next ?_
    refine aw_seq ?_
    refine aw_region ?_
    refine reg_cons (guard_no rfl) (op_assign rfl rfl rfl rfl) ?_
    refine reg_nil ?_
    refine post_imp (s' := ⟨18, [(4, some (.pv (.bool false)))], [], 0, [], [], 0, []⟩) (imp_sub [] rfl (by decide) rfl rfl ⟨by kernel_rfl, trivial⟩ trivial rfl rfl rfl) ?_
    refine post_next ?_
    refine aw_ret ?_
    obtain rfl := Option.some.inj hF
    exact post_ret rfl rfl (.cons _ _ _ _ _ (.tmp _ _ rfl) (.p _) .nil) (.inl rfl)
theorem ref14_Chain_ok {a0 : List GClass} {a1 : List UInt8} {r : (List Int)} (hF : ref14_Chain a0 a1 = some r) : Abs.Fn Try.prog 41 [.vs 7 (List.map eGClass a0), .str a1] [.own 3 1 (List.map eI r)] := by
  unfold ref14_Chain at hF
  refine fn_of_body (n := 37) Try.func41 rfl rfl rfl ?_
  intro w O
  refine aw_seq ?_
  refine aw_region ?_
  refine reg_cons (guard_no rfl) (op_assign rfl rfl rfl rfl) ?_
  refine reg_nil ?_
  refine post_imp (s' := ⟨37, [(0, some (.pv (.vs 7 (List.map eGClass a0)))), (1, some (.pv (.str a1)))], [], 0, [], [], 0, []⟩) (imp_sub [] rfl (by decide) rfl rfl ⟨by kernel_rfl, by kernel_rfl, trivial⟩ trivial rfl rfl rfl) ?_
  refine post_next ?_
  refine aw_seq ?_
  refine aw_region ?_
  refine reg_cons (guard_no rfl) (op_assign rfl rfl rfl rfl) ?_
  refine reg_imp (imp_nil_own 5 3 1 0 rfl rfl) ?_
  refine reg_nil ?_
  refine post_imp (s' := ⟨37, [(0, some (.pv (.vs 7 (List.map eGClass a0)))), (1, some (.pv (.str a1))), (5, some (.ls 0))], [(0, some (.row 3 1 (List.map eI [])))], 1, [], [], 0, []⟩) (imp_sub [0] rfl (by decide) rfl rfl ⟨by kernel_rfl, by kernel_rfl, by kernel_rfl, trivial⟩ ⟨by kernel_rfl, trivial⟩ rfl rfl rfl) ?_
  refine post_next ?_
  refine aw_seq ?_
  refine aw_region ?_
  refine reg_cons (guard_no rfl) (op_move rfl rfl rfl rfl) ?_
  refine reg_cons (guard_no rfl) (op_move rfl rfl rfl rfl) ?_
  obtain ⟨y3, h4, hF⟩ := bind_some hF
  refine reg_cons (guard_no rfl) (op_call 1 rfl (caps := []) (args := [.vs 7 (List.map eGClass a0), .str a1]) (rs := [.p (.int .i64 y3)]) rfl rfl rfl Try_cal_69 (ref13_Find_ok h4) rfl rfl rfl) ?_
  refine reg_cons (guard_no rfl) (op_assign rfl rfl rfl rfl) ?_
  refine reg_nil ?_
  refine post_imp (s' := ⟨37, [(0, some (.pv (.vs 7 (List.map eGClass a0)))), (5, some (.ls 0)), (6, some (.pv (.int .i64 y3)))], [(0, some (.row 3 1 (List.map eI [])))], 1, [], [], 0, []⟩) (imp_sub [0] rfl (by decide) rfl rfl ⟨by kernel_rfl, by kernel_rfl, by kernel_rfl, trivial⟩ ⟨by kernel_rfl, trivial⟩ rfl rfl rfl) ?_
  refine post_next ?_
  refine aw_seq ?_
  obtain ⟨lr72, hF, hK73⟩ := bind_some hF
  refine aw_for (a0.length + 2) (fun s1 => ∃ q, lr72 = .next q ∧ s1 = ⟨37, [(5, some (.ls 0))], [(0, some (.row 3 1 (List.map eI q)))], 1, [], [], 0, []⟩) ?_ ?_
  · refine rnd_loop (α := (List Int) × Int) (fun q => ⟨37, [(0, some (.pv (.vs 7 (List.map eGClass a0)))), (5, some (.ls 0)), (6, some (.pv (.int .i64 q.2)))], [(0, some (.row 3 1 (List.map eI q.1)))], 1, [], [], 0, []⟩) (fun k q => ref14_Chain_L1 a0 k q.1 q.2 = some lr72) ([], y3) (imp_sub [0] rfl (by decide) rfl rfl ⟨by kernel_rfl, by kernel_rfl, by kernel_rfl, trivial⟩ ⟨by kernel_rfl, trivial⟩ rfl rfl rfl) hF (fun q h => by cases h) ?_
    clear hF
    rintro k ⟨x25, x26⟩ hF ih
    refine rnd_succ ?_
    refine aw_seq ?_
    refine aw_seq ?_
    obtain ⟨x52, hF, hK54⟩ := bind_some hF
    refine aw_cut (fun s1 => s1 = ⟨37, [(0, some (.pv (.vs 7 (List.map eGClass a0)))), (5, some (.ls 0)), (6, some (.pv (.int .i64 x26))), (17, some (.pv (.bool x52)))], [(0, some (.row 3 1 (List.map eI x25)))], 1, [], [], 0, []⟩) ?_ ?_
    · refine aw_region ?_
      refine reg_cons (guard_no rfl) (op_move rfl rfl rfl rfl) ?_
      refine reg_cons (guard_no rfl) (op_int (k := .i64) (m := x26) (n := 0) rfl rfl rfl rfl rfl rfl) ?_
      refine reg_cons (guard_no rfl) (op_move rfl rfl rfl rfl) ?_
      rcases ite_some hF with ⟨hb49, hF⟩ | ⟨hb49, hF⟩
      · refine reg_cons (guard_on rfl rfl rfl rfl hb49) (op_move rfl rfl rfl rfl) ?_
        refine reg_cons (guard_on rfl rfl rfl rfl hb49) (op_move rfl rfl rfl rfl) ?_
        obtain ⟨y50, h51, hF⟩ := bind_some hF
        refine reg_cons (guard_on rfl rfl rfl rfl hb49) (op_callB 1 rfl (caps := []) (args := [.vs 1 (List.map eI x25), .int .i64 x26]) [(0, some (.row 3 1 (List.map eI x25)))] rfl rfl rfl (FzH.spec ⟨rfl, trivial⟩) rfl rfl Try_cal_70 (ref14_has_ok h51) rfl rfl rfl) ?_
        refine reg_cons (guard_on rfl rfl rfl rfl hb49) (op_not rfl rfl rfl rfl) ?_
        refine reg_cons (guard_no rfl) (op_pick_t rfl rfl hb49 rfl rfl rfl) ?_
        refine reg_nil ?_
        cases hF
        exact post_cut _ rfl (imp_sub [0] rfl (by decide) rfl rfl ⟨by kernel_rfl, by kernel_rfl, by kernel_rfl, by kernel_rfl, trivial⟩ ⟨by kernel_rfl, trivial⟩ rfl rfl rfl)
      · refine reg_off (guard_off rfl rfl rfl rfl hb49) rfl rfl ?_
        refine reg_off (guard_off rfl rfl rfl rfl hb49) rfl rfl ?_
        refine reg_off (guard_off rfl rfl rfl rfl hb49) rfl rfl ?_
        refine reg_off (guard_off rfl rfl rfl rfl hb49) rfl rfl ?_
        refine reg_cons (guard_no rfl) (op_pick_f rfl rfl hb49 rfl rfl rfl) ?_
        refine reg_nil ?_
        cases hF
        exact post_cut _ rfl (imp_sub [0] rfl (by decide) rfl rfl ⟨by kernel_rfl, by kernel_rfl, by kernel_rfl, by kernel_rfl, trivial⟩ ⟨by kernel_rfl, trivial⟩ rfl rfl rfl)
    · rintro _ rfl
      have hF := hK54
      clear hK54
      refine post_next ?_
      rcases ite_some hF with ⟨hb55, hF⟩ | ⟨hb55, hF⟩
      · refine aw_cond_t rfl hb55 ?_
        refine aw_skip ?_
        refine post_next ?_
        refine aw_block ?_
        refine aw_seq ?_
        refine aw_region ?_
        refine reg_cons (guard_no rfl) (op_move rfl rfl rfl rfl) ?_
        refine reg_cons (guard_no rfl) (op_move rfl rfl rfl rfl) ?_
        refine reg_cons (guard_no rfl) (op_lit (rows := List.map eI ([x26] : List Int)) (zs := [.int .i64 0]) rfl rfl Try_slc_42 Try_zer_3 (by exact ⟨rfl, trivial⟩) rfl rfl rfl rfl rfl rfl rfl rfl) ?_
        obtain ⟨u58, h59, hF⟩ := bind_some hF
        refine reg_cons (guard_no rfl) (op_append 1 rfl rfl rfl rfl rfl Try_slc_42 Try_elm_3 Try_zer_3 rfl rfl rfl (room_map (f := eI) (g := eI) h59) (List.map_append (f := eI) (l₁ := x25) (l₂ := [x26])).symm rfl rfl) ?_
        refine reg_cons (guard_no rfl) (op_assign rfl rfl rfl rfl) ?_
        refine reg_nil ?_
        refine post_imp (s' := ⟨37, [(0, some (.pv (.vs 7 (List.map eGClass a0)))), (5, some (.ls 0)), (6, some (.pv (.int .i64 x26)))], [(0, some (.row 3 1 (List.map eI (x25 ++ [x26]))))], 1, [], [], 0, []⟩) (imp_sub [1] rfl (by decide) rfl rfl ⟨by kernel_rfl, by kernel_rfl, by kernel_rfl, trivial⟩ ⟨by kernel_rfl, trivial⟩ rfl rfl rfl) ?_
        refine post_next ?_
        refine aw_seq ?_
        refine aw_seq ?_
        refine aw_region ?_
        refine reg_cons (guard_no rfl) (op_move rfl rfl rfl rfl) ?_
        refine reg_cons (guard_no rfl) (op_move rfl rfl rfl rfl) ?_
        obtain ⟨y62, h63, hF⟩ := bind_some hF
        refine reg_cons (guard_no rfl) (op_index_vs (k := .i64) rfl rfl rfl (idx_map eGClass h63) Try_slc_45 rfl rfl) ?_
        refine reg_cons (guard_no rfl) (op_field_vp rfl rfl Try_fld_94_2 rfl rfl) ?_
        refine reg_cons (guard_no rfl) (op_load_vp (p := .str y62.fSuper) rfl rfl rfl Try_one_9 rfl rfl) ?_
        refine reg_cons (guard_no rfl) (op_str rfl rfl rfl rfl rfl rfl) ?_
        refine reg_nil ?_
        refine post_imp (s' := ⟨37, [(0, some (.pv (.vs 7 (List.map eGClass a0)))), (5, some (.ls 0)), (6, some (.pv (.int .i64 x26))), (27, some (.pv (.bool (y62.fSuper == []))))], [(0, some (.row 3 1 (List.map eI (x25 ++ [x26]))))], 1, [], [], 0, []⟩) (imp_sub [0] rfl (by decide) rfl rfl ⟨by kernel_rfl, by kernel_rfl, by kernel_rfl, by kernel_rfl, trivial⟩ ⟨by kernel_rfl, trivial⟩ rfl rfl rfl) ?_
        refine post_next ?_
        rcases ite_some hF with ⟨hb64, hF⟩ | ⟨hb64, hF⟩
        · refine aw_cond_t rfl hb64 ?_
          refine aw_seq ?_
          refine aw_region ?_
          refine reg_cons (guard_no rfl) (op_move rfl rfl rfl rfl) ?_
          refine reg_cons (guard_no rfl) (op_assign rfl rfl rfl rfl) ?_
          refine reg_nil ?_
          refine post_imp (s' := ⟨37, [(4, some (.ls 0))], [(0, some (.row 3 1 (List.map eI (x25 ++ [x26]))))], 1, [], [], 0, []⟩) (imp_sub [0] rfl (by decide) rfl rfl ⟨by kernel_rfl, trivial⟩ ⟨by kernel_rfl, trivial⟩ rfl rfl rfl) ?_
          refine post_next ?_
          refine aw_ret ?_
          refine post_then_ret ?_
          refine post_block_ret ?_
          refine post_then_ret ?_
          refine post_lp_ret ?_
          obtain rfl := Option.some.inj hF
          have hF := elim_stop hK73
          refine post_then_ret ?_
          obtain rfl := Option.some.inj hF
          exact post_ret rfl rfl (.cons _ _ _ _ _ (.tmp _ _ rfl) (.own _ _ _ _ rfl nolent3) .nil) (.inl rfl)
        · refine aw_cond_f rfl hb64 ?_
          refine aw_skip ?_
          refine post_next ?_
          refine aw_region ?_
          refine reg_cons (guard_no rfl) (op_move rfl rfl rfl rfl) ?_
          refine reg_cons (guard_no rfl) (op_move rfl rfl rfl rfl) ?_
          refine reg_cons (guard_no rfl) (op_move rfl rfl rfl rfl) ?_
          obtain ⟨y65, h66, hF⟩ := bind_some hF
          refine reg_cons (guard_no rfl) (op_index_vs (k := .i64) rfl rfl rfl (idx_map eGClass h66) Try_slc_45 rfl rfl) ?_
          refine reg_cons (guard_no rfl) (op_field_vp rfl rfl Try_fld_94_2 rfl rfl) ?_
          refine reg_cons (guard_no rfl) (op_load_vp (p := .str y65.fSuper) rfl rfl rfl Try_one_9 rfl rfl) ?_
          obtain ⟨y67, h68, hF⟩ := bind_some hF
          refine reg_cons (guard_no rfl) (op_call 1 rfl (caps := []) (args := [.vs 7 (List.map eGClass a0), .str y65.fSuper]) (rs := [.p (.int .i64 y67)]) rfl rfl rfl Try_cal_69 (ref13_Find_ok h68) rfl rfl rfl) ?_
          refine reg_cons (guard_no rfl) (op_assign rfl rfl rfl rfl) ?_
          refine reg_nil ?_
          refine post_imp (s' := ⟨37, [(0, some (.pv (.vs 7 (List.map eGClass a0)))), (5, some (.ls 0)), (6, some (.pv (.int .i64 y67)))], [(0, some (.row 3 1 (List.map eI (x25 ++ [x26]))))], 1, [], [], 0, []⟩) (imp_sub [0] rfl (by decide) rfl rfl ⟨by kernel_rfl, by kernel_rfl, by kernel_rfl, trivial⟩ ⟨by kernel_rfl, trivial⟩ rfl rfl rfl) ?_
          refine post_block_normal ?_
          refine post_round ?_
          exact rnd_back (ih ((x25 ++ [x26]), y67) hF) (imp_sub [0] rfl (by decide) rfl rfl ⟨by kernel_rfl, by kernel_rfl, by kernel_rfl, trivial⟩ ⟨by kernel_rfl, trivial⟩ rfl rfl rfl)
      · refine aw_cond_f rfl hb55 ?_
        refine aw_exit ?_
        refine post_then_exit ?_
        refine post_then_exit ?_
        obtain rfl := Option.some.inj hF
        exact post_lp_break _ ⟨_, rfl, rfl⟩ (imp_sub [0] rfl (by decide) rfl rfl ⟨by kernel_rfl, trivial⟩ ⟨by kernel_rfl, trivial⟩ rfl rfl rfl)
  · rintro _ ⟨x71, rfl, rfl⟩
    have hF := elim_next hK73
    clear hK73
    refine post_next ?_
    refine aw_seq ?_
    refine aw_region ?_
    refine reg_cons (guard_no rfl) (op_move rfl rfl rfl rfl) ?_
    refine reg_cons (guard_no rfl) (op_assign rfl rfl rfl rfl) ?_
    refine reg_nil ?_
    refine post_imp (s' := ⟨37, [(4, some (.ls 0))], [(0, some (.row 3 1 (List.map eI x71)))], 1, [], [], 0, []⟩) (imp_sub [0] rfl (by decide) rfl rfl ⟨by kernel_rfl, trivial⟩ ⟨by kernel_rfl, trivial⟩ rfl rfl rfl) ?_
    refine post_next ?_
    refine aw_ret ?_
    obtain rfl := Option.some.inj hF
    exact post_ret rfl rfl (.cons _ _ _ _ _ (.tmp _ _ rfl) (.own _ _ _ _ rfl nolent3) .nil) (.inl rfl)
theorem ref16_All_ok {a0 : List GClass} {a1 : List UInt8} {r : (List GSlot_ref16)} (hF : ref16_All a0 a1 = some r) : Abs.Fn Try.prog 51 [.vs 7 (List.map eGClass a0), .str a1] [.own 82 14 (List.map eGSlot_ref16 r)] := by
  unfold ref16_All at hF
  refine fn_of_body (n := 46) Try.func51 rfl rfl rfl ?_
  intro w O
  refine aw_seq ?_
  refine aw_region ?_
  refine reg_cons (guard_no rfl) (op_assign rfl rfl rfl rfl) ?_
  refine reg_nil ?_
  refine post_imp (s' := ⟨46, [(0, some (.pv (.vs 7 (List.map eGClass a0)))), (1, some (.pv (.str a1)))], [], 0, [], [], 0, []⟩) (imp_sub [] rfl (by decide) rfl rfl ⟨by kernel_rfl, by kernel_rfl, trivial⟩ trivial rfl rfl rfl) ?_
  refine post_next ?_
  refine aw_seq ?_
  refine aw_region ?_
  refine reg_cons (guard_no rfl) (op_move rfl rfl rfl rfl) ?_
  refine reg_cons (guard_no rfl) (op_move rfl rfl rfl rfl) ?_
  obtain ⟨y3, h4, hF⟩ := bind_some hF
  refine reg_cons (guard_no rfl) (op_call 0 rfl (caps := []) (args := [.vs 7 (List.map eGClass a0), .str a1]) (rs := [.p (.vs 1 (List.map eI y3))]) rfl rfl rfl Try_cal_41 (Fn.frozen (ref14_Chain_ok h4)) rfl rfl rfl) ?_
  refine reg_cons (guard_no rfl) (op_assign rfl rfl rfl rfl) ?_
  refine reg_nil ?_
  refine post_imp (s' := ⟨46, [(0, some (.pv (.vs 7 (List.map eGClass a0)))), (5, some (.pv (.vs 1 (List.map eI y3))))], [], 0, [], [], 0, []⟩) (imp_sub [] rfl (by decide) rfl rfl ⟨by kernel_rfl, by kernel_rfl, trivial⟩ trivial rfl rfl rfl) ?_
  refine post_next ?_
  refine aw_seq ?_
  refine aw_region ?_
  refine reg_cons (guard_no rfl) (op_assign rfl rfl rfl rfl) ?_
  refine reg_imp (imp_nil_own 6 82 14 0 rfl rfl) ?_
  refine reg_nil ?_
  refine post_imp (s' := ⟨46, [(0, some (.pv (.vs 7 (List.map eGClass a0)))), (5, some (.pv (.vs 1 (List.map eI y3)))), (6, some (.ls 0))], [(0, some (.row 82 14 (List.map eGSlot_ref16 [])))], 1, [], [], 0, []⟩) (imp_sub [0] rfl (by decide) rfl rfl ⟨by kernel_rfl, by kernel_rfl, by kernel_rfl, trivial⟩ ⟨by kernel_rfl, trivial⟩ rfl rfl rfl) ?_
  refine post_next ?_
  refine aw_seq ?_
  refine aw_seq ?_
  refine aw_region ?_
  refine reg_cons (guard_no rfl) (op_move rfl rfl rfl rfl) ?_
  refine reg_cons (guard_no rfl) (op_len_vs (n := y3.length) rfl rfl (List.length_map ..) Try_slc_42 rfl rfl) ?_
  refine reg_cons (guard_no rfl) (op_int (k := .i64) (m := (y3.length : Int)) (n := 1) rfl rfl rfl rfl rfl rfl) ?_
  refine reg_cons (guard_no rfl) (op_assign rfl rfl rfl rfl) ?_
  refine reg_nil ?_
  refine post_imp (s' := ⟨46, [(0, some (.pv (.vs 7 (List.map eGClass a0)))), (5, some (.pv (.vs 1 (List.map eI y3)))), (6, some (.ls 0)), (7, some (.pv (.int .i64 (w_i64 ((y3.length : Int) - 1)))))], [(0, some (.row 82 14 (List.map eGSlot_ref16 [])))], 1, [], [], 0, []⟩) (imp_sub [0] rfl (by decide) rfl rfl ⟨by kernel_rfl, by kernel_rfl, by kernel_rfl, by kernel_rfl, trivial⟩ ⟨by kernel_rfl, trivial⟩ rfl rfl rfl) ?_
  refine post_next ?_
  obtain ⟨x143, hF, hK144⟩ := bind_some hF
  refine aw_for ((((w_i64 ((y3.length : Int) - 1)) : Int) - (0)).toNat + 2) (fun s1 => s1 = ⟨46, [(6, some (.ls 0))], [(0, some (.row 82 14 (List.map eGSlot_ref16 x143)))], 1, [], [], 0, []⟩) ?_ ?_
  · refine rnd_loop (α := (List GSlot_ref16) × Int) (fun q => ⟨46, [(0, some (.pv (.vs 7 (List.map eGClass a0)))), (5, some (.pv (.vs 1 (List.map eI y3)))), (6, some (.ls 0)), (7, some (.pv (.int .i64 q.2)))], [(0, some (.row 82 14 (List.map eGSlot_ref16 q.1)))], 1, [], [], 0, []⟩) (fun k q => ref16_All_L1 a0 y3 k q.1 q.2 = some x143) ([], w_i64 ((y3.length : Int) - 1)) (imp_sub [0] rfl (by decide) rfl rfl ⟨by kernel_rfl, by kernel_rfl, by kernel_rfl, by kernel_rfl, trivial⟩ ⟨by kernel_rfl, trivial⟩ rfl rfl rfl) hF (fun q h => by cases h) ?_
    clear hF
    rintro k ⟨x49, x50⟩ hF ih
    refine rnd_succ ?_
    refine aw_seq ?_
    refine aw_seq ?_
    refine aw_region ?_
    refine reg_cons (guard_no rfl) (op_move rfl rfl rfl rfl) ?_
    refine reg_cons (guard_no rfl) (op_int (k := .i64) (m := x50) (n := 0) rfl rfl rfl rfl rfl rfl) ?_
    refine reg_nil ?_
    refine post_imp (s' := ⟨46, [(0, some (.pv (.vs 7 (List.map eGClass a0)))), (5, some (.pv (.vs 1 (List.map eI y3)))), (6, some (.ls 0)), (7, some (.pv (.int .i64 x50))), (17, some (.pv (.bool (decide (x50 ≥ 0)))))], [(0, some (.row 82 14 (List.map eGSlot_ref16 x49)))], 1, [], [], 0, []⟩) (imp_sub [0] rfl (by decide) rfl rfl ⟨by kernel_rfl, by kernel_rfl, by kernel_rfl, by kernel_rfl, by kernel_rfl, trivial⟩ ⟨by kernel_rfl, trivial⟩ rfl rfl rfl) ?_
    refine post_next ?_
    rcases ite_some hF with ⟨hb97, hF⟩ | ⟨hb97, hF⟩
    · refine aw_cond_t rfl hb97 ?_
      refine aw_skip ?_
      refine post_next ?_
      refine aw_seq ?_
      refine aw_block ?_
      refine aw_seq ?_
      refine aw_region ?_
      refine reg_cons (guard_no rfl) (op_move rfl rfl rfl rfl) ?_
      refine reg_cons (guard_no rfl) (op_move rfl rfl rfl rfl) ?_
      refine reg_cons (guard_no rfl) (op_move rfl rfl rfl rfl) ?_
      obtain ⟨y102, h103, hF⟩ := bind_some hF
      refine reg_cons (guard_no rfl) (op_index_vs (k := .i64) rfl rfl rfl (idx_map eI h103) Try_slc_42 rfl rfl) ?_
      refine reg_cons (guard_no rfl) (op_load_vp (p := .int .i64 y102) rfl rfl rfl Try_one_3 rfl rfl) ?_
      obtain ⟨y104, h105, hF⟩ := bind_some hF
      refine reg_cons (guard_no rfl) (op_index_vs (k := .i64) rfl rfl rfl (idx_map eGClass h105) Try_slc_45 rfl rfl) ?_
      refine reg_cons (guard_no rfl) (op_load_vp_agg (ps := eGClass y104) rfl rfl rfl rfl Try_agg_94 rfl rfl) ?_
      refine reg_cons (guard_no rfl) (op_alloc 1 rfl (ps := [.str (({ fName := [], fParams := [], fSuper := [], fAbove := [], fFields := [], fMethods := [], fAt := 0 } : GClass).fName), .vs 1 (List.map eS (({ fName := [], fParams := [], fSuper := [], fAbove := [], fFields := [], fMethods := [], fAt := 0 } : GClass).fParams)), .str (({ fName := [], fParams := [], fSuper := [], fAbove := [], fFields := [], fMethods := [], fAt := 0 } : GClass).fSuper), .vs 2 (List.map eGOwner (({ fName := [], fParams := [], fSuper := [], fAbove := [], fFields := [], fMethods := [], fAt := 0 } : GClass).fAbove)), .vs 13 (List.map eGVar (({ fName := [], fParams := [], fSuper := [], fAbove := [], fFields := [], fMethods := [], fAt := 0 } : GClass).fFields)), .vs 17 (List.map eGMethod (({ fName := [], fParams := [], fSuper := [], fAbove := [], fFields := [], fMethods := [], fAt := 0 } : GClass).fMethods)), .int .i64 (({ fName := [], fParams := [], fSuper := [], fAbove := [], fFields := [], fMethods := [], fAt := 0 } : GClass).fAt)]) rfl Try_zer_94 (by exact ⟨rfl, trivial, rfl, trivial, trivial, trivial, rfl, trivial⟩) rfl rfl) ?_
      refine reg_cons (guard_no rfl) (op_store_lp (n := 7) rfl rfl rfl rfl rfl (or_agg Try_agg_94) (by rw [Try_non_94]; rfl) rfl rfl rfl) ?_
      refine reg_nil ?_
      refine post_imp (s' := ⟨46, [(0, some (.pv (.vs 7 (List.map eGClass a0)))), (5, some (.pv (.vs 1 (List.map eI y3)))), (6, some (.ls 0)), (7, some (.pv (.int .i64 x50))), (8, some (.lp 1 0))], [(0, some (.row 82 14 (List.map eGSlot_ref16 x49))), (1, some (.box 94 [.pv (.str y104.fName), .pv (.vs 1 (List.map eS y104.fParams)), .pv (.str y104.fSuper), .pv (.vs 2 (List.map eGOwner y104.fAbove)), .pv (.vs 13 (List.map eGVar y104.fFields)), .pv (.vs 17 (List.map eGMethod y104.fMethods)), .pv (.int .i64 y104.fAt)]))], 2, [], [], 0, []⟩) (imp_sub [0, 1] rfl (by decide) rfl rfl ⟨by kernel_rfl, by kernel_rfl, by kernel_rfl, by kernel_rfl, by kernel_rfl, trivial⟩ ⟨by kernel_rfl, by kernel_rfl, trivial⟩ rfl rfl rfl) ?_
      refine post_next ?_
      refine aw_seq ?_
      refine aw_region ?_
      refine reg_cons (guard_no rfl) (op_assign rfl rfl rfl rfl) ?_
      refine reg_nil ?_
      refine post_imp (s' := ⟨46, [(0, some (.pv (.vs 7 (List.map eGClass a0)))), (5, some (.pv (.vs 1 (List.map eI y3)))), (6, some (.ls 0)), (7, some (.pv (.int .i64 x50))), (8, some (.lp 1 0)), (9, some (.pv (.int .i64 0)))], [(0, some (.row 82 14 (List.map eGSlot_ref16 x49))), (1, some (.box 94 [.pv (.str y104.fName), .pv (.vs 1 (List.map eS y104.fParams)), .pv (.str y104.fSuper), .pv (.vs 2 (List.map eGOwner y104.fAbove)), .pv (.vs 13 (List.map eGVar y104.fFields)), .pv (.vs 17 (List.map eGMethod y104.fMethods)), .pv (.int .i64 y104.fAt)]))], 2, [], [], 0, []⟩) (imp_sub [0, 1] rfl (by decide) rfl rfl ⟨by kernel_rfl, by kernel_rfl, by kernel_rfl, by kernel_rfl, by kernel_rfl, by kernel_rfl, trivial⟩ ⟨by kernel_rfl, by kernel_rfl, trivial⟩ rfl rfl rfl) ?_
      refine post_next ?_
      obtain ⟨x139, hF, hK140⟩ := bind_some hF
      refine aw_for ((((y104.fFields.length : Int) : Int) - (0)).toNat + 1) (fun s1 => s1 = ⟨46, [(0, some (.pv (.vs 7 (List.map eGClass a0)))), (5, some (.pv (.vs 1 (List.map eI y3)))), (6, some (.ls 0)), (7, some (.pv (.int .i64 x50)))], [(0, some (.row 82 14 (List.map eGSlot_ref16 x139)))], 1, [], [], 0, []⟩) ?_ ?_
      · refine rnd_loop (α := (List GSlot_ref16) × Int) (fun q => ⟨46, [(0, some (.pv (.vs 7 (List.map eGClass a0)))), (5, some (.pv (.vs 1 (List.map eI y3)))), (6, some (.ls 0)), (7, some (.pv (.int .i64 x50))), (8, some (.lp 1 0)), (9, some (.pv (.int .i64 q.2)))], [(0, some (.row 82 14 (List.map eGSlot_ref16 q.1))), (1, some (.box 94 [.pv (.str y104.fName), .pv (.vs 1 (List.map eS y104.fParams)), .pv (.str y104.fSuper), .pv (.vs 2 (List.map eGOwner y104.fAbove)), .pv (.vs 13 (List.map eGVar y104.fFields)), .pv (.vs 17 (List.map eGMethod y104.fMethods)), .pv (.int .i64 y104.fAt)]))], 2, [], [], 0, []⟩) (fun k q => ref16_All_L2 y104 k q.1 q.2 = some x139) (x49, 0) (imp_sub [0, 1] rfl (by decide) rfl rfl ⟨by kernel_rfl, by kernel_rfl, by kernel_rfl, by kernel_rfl, by kernel_rfl, by kernel_rfl, trivial⟩ ⟨by kernel_rfl, by kernel_rfl, trivial⟩ rfl rfl rfl) hF (fun q h => by cases h) ?_
        clear hF
        rintro k ⟨x115, x116⟩ hF ih
        refine rnd_succ ?_
        refine aw_seq ?_
        refine aw_seq ?_
        refine aw_region ?_
        refine reg_cons (guard_no rfl) (op_move rfl rfl rfl rfl) ?_
        refine reg_cons (guard_no rfl) (op_field_lp rfl rfl Try_fld_94_4 rfl rfl) ?_
        refine reg_cons (guard_no rfl) (op_load_lp (v := .pv (.vs 13 (List.map eGVar y104.fFields))) rfl rfl rfl rfl Try_one_91 rfl rfl) ?_
        refine reg_cons (guard_no rfl) (op_len_vs (n := y104.fFields.length) rfl rfl (List.length_map ..) Try_slc_91 rfl rfl) ?_
        refine reg_cons (guard_no rfl) (op_int (k := .i64) (m := x116) (n := (y104.fFields.length : Int)) rfl rfl rfl rfl rfl rfl) ?_
        refine reg_nil ?_
        refine post_imp (s' := ⟨46, [(0, some (.pv (.vs 7 (List.map eGClass a0)))), (5, some (.pv (.vs 1 (List.map eI y3)))), (6, some (.ls 0)), (7, some (.pv (.int .i64 x50))), (8, some (.lp 1 0)), (9, some (.pv (.int .i64 x116))), (31, some (.pv (.bool (decide (x116 < (y104.fFields.length : Int))))))], [(0, some (.row 82 14 (List.map eGSlot_ref16 x115))), (1, some (.box 94 [.pv (.str y104.fName), .pv (.vs 1 (List.map eS y104.fParams)), .pv (.str y104.fSuper), .pv (.vs 2 (List.map eGOwner y104.fAbove)), .pv (.vs 13 (List.map eGVar y104.fFields)), .pv (.vs 17 (List.map eGMethod y104.fMethods)), .pv (.int .i64 y104.fAt)]))], 2, [], [], 0, []⟩) (imp_sub [0, 1] rfl (by decide) rfl rfl ⟨by kernel_rfl, by kernel_rfl, by kernel_rfl, by kernel_rfl, by kernel_rfl, by kernel_rfl, by kernel_rfl, trivial⟩ ⟨by kernel_rfl, by kernel_rfl, trivial⟩ rfl rfl rfl) ?_
        refine post_next ?_
        rcases ite_some hF with ⟨hb128, hF⟩ | ⟨hb128, hF⟩
        · refine aw_cond_t rfl hb128 ?_
          refine aw_skip ?_
          refine post_next ?_
          refine aw_seq ?_
          refine aw_block ?_
          obtain ⟨y133, h134, hF⟩ := bind_some hF
          obtain ⟨u135, h136, hF⟩ := bind_some hF
          refine aw_imp (imp_names 1) ?_
          refine aw_drawn ({ need := [(6, .ls 0)], dst := some 34, val := some (.ls 0) } :: { need := [(8, .lp 1 0)], dst := some 35, val := some (.lp 1 0) } :: { need := [(35, .lp 1 0)], hneed := [(1, .box 94 [.pv (.str y104.fName), .pv (.vs 1 (List.map eS y104.fParams)), .pv (.str y104.fSuper), .pv (.vs 2 (List.map eGOwner y104.fAbove)), .pv (.vs 13 (List.map eGVar y104.fFields)), .pv (.vs 17 (List.map eGMethod y104.fMethods)), .pv (.int .i64 y104.fAt)])], dst := some 36, val := some (.pv (.str y104.fName)) } :: { need := [(8, .lp 1 0)], dst := some 37, val := some (.lp 1 4) } :: { need := [(37, .lp 1 4)], hneed := [(1, .box 94 [.pv (.str y104.fName), .pv (.vs 1 (List.map eS y104.fParams)), .pv (.str y104.fSuper), .pv (.vs 2 (List.map eGOwner y104.fAbove)), .pv (.vs 13 (List.map eGVar y104.fFields)), .pv (.vs 17 (List.map eGMethod y104.fMethods)), .pv (.int .i64 y104.fAt)])], dst := some 38, val := some (.pv (.vs 13 (List.map eGVar y104.fFields))) } :: { need := [(9, .pv (.int .i64 x116))], dst := some 39, val := some (.pv (.int .i64 x116)) } :: { need := [(38, .pv (.vs 13 (List.map eGVar y104.fFields))), (39, .pv (.int .i64 x116))], dst := some 40, val := some (.pv (.vp (eGVar y133))) } :: { need := [(40, .pv (.vp (eGVar y133)))], dst := some 41, val := some (.pv (.agg (eGVar y133))) } :: { need := [(41, .pv (.agg (eGVar y133))), (36, .pv (.str y104.fName))], dst := some 42, val := some (.pv (.agg (eGSlot_ref16 ({ fClass := y104.fName, fVar := y133 } : GSlot_ref16)))) } :: { need := [(42, .pv (.agg (eGSlot_ref16 ({ fClass := y104.fName, fVar := y133 } : GSlot_ref16))))], dst := some 43, val := some (.pv (.vs 14 (List.map eGSlot_ref16 [({ fClass := y104.fName, fVar := y133 } : GSlot_ref16)]))) } :: { need := [(34, .ls 0), (43, .pv (.vs 14 (List.map eGSlot_ref16 [({ fClass := y104.fName, fVar := y133 } : GSlot_ref16)])))], hneed := [(0, .row 82 14 (List.map eGSlot_ref16 x115))], names := [2], dst := some 44, val := some (.ls 2), upd := [(2, some (.row 82 14 (List.map eGSlot_ref16 (x115 ++ [({ fClass := y104.fName, fVar := y133 } : GSlot_ref16)])))), (0, none)] } :: { need := [(44, .ls 2)], dst := some 6, val := some (.ls 2) } :: []) ⟨_, _, _⟩ Try_mixed rfl ⟨fun m h => step_on (guard_no rfl) (op_move rfl h.1.1 rfl rfl) rfl, fun m h => step_on (guard_no rfl) (op_field_lp rfl h.1.1 Try_fld_94_0 rfl rfl) rfl, fun m h => step_on (guard_no rfl) (op_load_lp (v := .pv (.str y104.fName)) rfl h.1.1 h.2.1.1 rfl Try_one_9 rfl rfl) rfl, fun m h => step_on (guard_no rfl) (op_field_lp rfl h.1.1 Try_fld_94_4 rfl rfl) rfl, fun m h => step_on (guard_no rfl) (op_load_lp (v := .pv (.vs 13 (List.map eGVar y104.fFields))) rfl h.1.1 h.2.1.1 rfl Try_one_91 rfl rfl) rfl, fun m h => step_on (guard_no rfl) (op_move rfl h.1.1 rfl rfl) rfl, fun m h => step_on (guard_no rfl) (op_index_vs (k := .i64) rfl h.1.1 h.1.2.1 (idx_map eGVar h134) Try_slc_91 rfl rfl) rfl, fun m h => step_on (guard_no rfl) (op_load_vp_agg (ps := eGVar y133) rfl h.1.1 rfl rfl Try_agg_79 rfl rfl) rfl, fun m h => step_on (guard_no rfl) (op_build (zs := [.str (({ fClass := [], fVar := ({ fName := [], fType := ({ fKind := 0, fClass := [], fN := 0, fOwn := (⟨({ fKind := 0, fN := 0 } : GOwner), ({ fKind := 0, fN := 0 } : GOwner), ({ fKind := 0, fN := 0 } : GOwner), ({ fKind := 0, fN := 0 } : GOwner)⟩ : A4 GOwner) } : GType), fAt := 0 } : GVar) } : GSlot_ref16).fClass), .str ((({ fClass := [], fVar := ({ fName := [], fType := ({ fKind := 0, fClass := [], fN := 0, fOwn := (⟨({ fKind := 0, fN := 0 } : GOwner), ({ fKind := 0, fN := 0 } : GOwner), ({ fKind := 0, fN := 0 } : GOwner), ({ fKind := 0, fN := 0 } : GOwner)⟩ : A4 GOwner) } : GType), fAt := 0 } : GVar) } : GSlot_ref16).fVar).fName), .int .i64 (((({ fClass := [], fVar := ({ fName := [], fType := ({ fKind := 0, fClass := [], fN := 0, fOwn := (⟨({ fKind := 0, fN := 0 } : GOwner), ({ fKind := 0, fN := 0 } : GOwner), ({ fKind := 0, fN := 0 } : GOwner), ({ fKind := 0, fN := 0 } : GOwner)⟩ : A4 GOwner) } : GType), fAt := 0 } : GVar) } : GSlot_ref16).fVar).fType).fKind), .str (((({ fClass := [], fVar := ({ fName := [], fType := ({ fKind := 0, fClass := [], fN := 0, fOwn := (⟨({ fKind := 0, fN := 0 } : GOwner), ({ fKind := 0, fN := 0 } : GOwner), ({ fKind := 0, fN := 0 } : GOwner), ({ fKind := 0, fN := 0 } : GOwner)⟩ : A4 GOwner) } : GType), fAt := 0 } : GVar) } : GSlot_ref16).fVar).fType).fClass), .int .i64 (((({ fClass := [], fVar := ({ fName := [], fType := ({ fKind := 0, fClass := [], fN := 0, fOwn := (⟨({ fKind := 0, fN := 0 } : GOwner), ({ fKind := 0, fN := 0 } : GOwner), ({ fKind := 0, fN := 0 } : GOwner), ({ fKind := 0, fN := 0 } : GOwner)⟩ : A4 GOwner) } : GType), fAt := 0 } : GVar) } : GSlot_ref16).fVar).fType).fN), .int .i64 (((((({ fClass := [], fVar := ({ fName := [], fType := ({ fKind := 0, fClass := [], fN := 0, fOwn := (⟨({ fKind := 0, fN := 0 } : GOwner), ({ fKind := 0, fN := 0 } : GOwner), ({ fKind := 0, fN := 0 } : GOwner), ({ fKind := 0, fN := 0 } : GOwner)⟩ : A4 GOwner) } : GType), fAt := 0 } : GVar) } : GSlot_ref16).fVar).fType).fOwn).a0).fKind), .int .i64 (((((({ fClass := [], fVar := ({ fName := [], fType := ({ fKind := 0, fClass := [], fN := 0, fOwn := (⟨({ fKind := 0, fN := 0 } : GOwner), ({ fKind := 0, fN := 0 } : GOwner), ({ fKind := 0, fN := 0 } : GOwner), ({ fKind := 0, fN := 0 } : GOwner)⟩ : A4 GOwner) } : GType), fAt := 0 } : GVar) } : GSlot_ref16).fVar).fType).fOwn).a0).fN), .int .i64 (((((({ fClass := [], fVar := ({ fName := [], fType := ({ fKind := 0, fClass := [], fN := 0, fOwn := (⟨({ fKind := 0, fN := 0 } : GOwner), ({ fKind := 0, fN := 0 } : GOwner), ({ fKind := 0, fN := 0 } : GOwner), ({ fKind := 0, fN := 0 } : GOwner)⟩ : A4 GOwner) } : GType), fAt := 0 } : GVar) } : GSlot_ref16).fVar).fType).fOwn).a1).fKind), .int .i64 (((((({ fClass := [], fVar := ({ fName := [], fType := ({ fKind := 0, fClass := [], fN := 0, fOwn := (⟨({ fKind := 0, fN := 0 } : GOwner), ({ fKind := 0, fN := 0 } : GOwner), ({ fKind := 0, fN := 0 } : GOwner), ({ fKind := 0, fN := 0 } : GOwner)⟩ : A4 GOwner) } : GType), fAt := 0 } : GVar) } : GSlot_ref16).fVar).fType).fOwn).a1).fN), .int .i64 (((((({ fClass := [], fVar := ({ fName := [], fType := ({ fKind := 0, fClass := [], fN := 0, fOwn := (⟨({ fKind := 0, fN := 0 } : GOwner), ({ fKind := 0, fN := 0 } : GOwner), ({ fKind := 0, fN := 0 } : GOwner), ({ fKind := 0, fN := 0 } : GOwner)⟩ : A4 GOwner) } : GType), fAt := 0 } : GVar) } : GSlot_ref16).fVar).fType).fOwn).a2).fKind), .int .i64 (((((({ fClass := [], fVar := ({ fName := [], fType := ({ fKind := 0, fClass := [], fN := 0, fOwn := (⟨({ fKind := 0, fN := 0 } : GOwner), ({ fKind := 0, fN := 0 } : GOwner), ({ fKind := 0, fN := 0 } : GOwner), ({ fKind := 0, fN := 0 } : GOwner)⟩ : A4 GOwner) } : GType), fAt := 0 } : GVar) } : GSlot_ref16).fVar).fType).fOwn).a2).fN), .int .i64 (((((({ fClass := [], fVar := ({ fName := [], fType := ({ fKind := 0, fClass := [], fN := 0, fOwn := (⟨({ fKind := 0, fN := 0 } : GOwner), ({ fKind := 0, fN := 0 } : GOwner), ({ fKind := 0, fN := 0 } : GOwner), ({ fKind := 0, fN := 0 } : GOwner)⟩ : A4 GOwner) } : GType), fAt := 0 } : GVar) } : GSlot_ref16).fVar).fType).fOwn).a3).fKind), .int .i64 (((((({ fClass := [], fVar := ({ fName := [], fType := ({ fKind := 0, fClass := [], fN := 0, fOwn := (⟨({ fKind := 0, fN := 0 } : GOwner), ({ fKind := 0, fN := 0 } : GOwner), ({ fKind := 0, fN := 0 } : GOwner), ({ fKind := 0, fN := 0 } : GOwner)⟩ : A4 GOwner) } : GType), fAt := 0 } : GVar) } : GSlot_ref16).fVar).fType).fOwn).a3).fN), .int .i64 ((({ fClass := [], fVar := ({ fName := [], fType := ({ fKind := 0, fClass := [], fN := 0, fOwn := (⟨({ fKind := 0, fN := 0 } : GOwner), ({ fKind := 0, fN := 0 } : GOwner), ({ fKind := 0, fN := 0 } : GOwner), ({ fKind := 0, fN := 0 } : GOwner)⟩ : A4 GOwner) } : GType), fAt := 0 } : GVar) } : GSlot_ref16).fVar).fAt)]) (r := eGSlot_ref16 ({ fClass := y104.fName, fVar := y133 } : GSlot_ref16)) rfl Try_zer_82 (by exact ⟨rfl, rfl, rfl, rfl, rfl, rfl, rfl, rfl, rfl, rfl, rfl, rfl, rfl, rfl, trivial⟩) Try_plc_82 (evs_cons h.1.2.1 (evs_cons h.1.1 evs_nil)) rfl rfl rfl) rfl, fun m h => step_on (guard_no rfl) (op_lit (rows := List.map eGSlot_ref16 ([({ fClass := y104.fName, fVar := y133 } : GSlot_ref16)] : List GSlot_ref16)) (zs := [.str (({ fClass := [], fVar := ({ fName := [], fType := ({ fKind := 0, fClass := [], fN := 0, fOwn := (⟨({ fKind := 0, fN := 0 } : GOwner), ({ fKind := 0, fN := 0 } : GOwner), ({ fKind := 0, fN := 0 } : GOwner), ({ fKind := 0, fN := 0 } : GOwner)⟩ : A4 GOwner) } : GType), fAt := 0 } : GVar) } : GSlot_ref16).fClass), .str ((({ fClass := [], fVar := ({ fName := [], fType := ({ fKind := 0, fClass := [], fN := 0, fOwn := (⟨({ fKind := 0, fN := 0 } : GOwner), ({ fKind := 0, fN := 0 } : GOwner), ({ fKind := 0, fN := 0 } : GOwner), ({ fKind := 0, fN := 0 } : GOwner)⟩ : A4 GOwner) } : GType), fAt := 0 } : GVar) } : GSlot_ref16).fVar).fName), .int .i64 (((({ fClass := [], fVar := ({ fName := [], fType := ({ fKind := 0, fClass := [], fN := 0, fOwn := (⟨({ fKind := 0, fN := 0 } : GOwner), ({ fKind := 0, fN := 0 } : GOwner), ({ fKind := 0, fN := 0 } : GOwner), ({ fKind := 0, fN := 0 } : GOwner)⟩ : A4 GOwner) } : GType), fAt := 0 } : GVar) } : GSlot_ref16).fVar).fType).fKind), .str (((({ fClass := [], fVar := ({ fName := [], fType := ({ fKind := 0, fClass := [], fN := 0, fOwn := (⟨({ fKind := 0, fN := 0 } : GOwner), ({ fKind := 0, fN := 0 } : GOwner), ({ fKind := 0, fN := 0 } : GOwner), ({ fKind := 0, fN := 0 } : GOwner)⟩ : A4 GOwner) } : GType), fAt := 0 } : GVar) } : GSlot_ref16).fVar).fType).fClass), .int .i64 (((({ fClass := [], fVar := ({ fName := [], fType := ({ fKind := 0, fClass := [], fN := 0, fOwn := (⟨({ fKind := 0, fN := 0 } : GOwner), ({ fKind := 0, fN := 0 } : GOwner), ({ fKind := 0, fN := 0 } : GOwner), ({ fKind := 0, fN := 0 } : GOwner)⟩ : A4 GOwner) } : GType), fAt := 0 } : GVar) } : GSlot_ref16).fVar).fType).fN), .int .i64 (((((({ fClass := [], fVar := ({ fName := [], fType := ({ fKind := 0, fClass := [], fN := 0, fOwn := (⟨({ fKind := 0, fN := 0 } : GOwner), ({ fKind := 0, fN := 0 } : GOwner), ({ fKind := 0, fN := 0 } : GOwner), ({ fKind := 0, fN := 0 } : GOwner)⟩ : A4 GOwner) } : GType), fAt := 0 } : GVar) } : GSlot_ref16).fVar).fType).fOwn).a0).fKind), .int .i64 (((((({ fClass := [], fVar := ({ fName := [], fType := ({ fKind := 0, fClass := [], fN := 0, fOwn := (⟨({ fKind := 0, fN := 0 } : GOwner), ({ fKind := 0, fN := 0 } : GOwner), ({ fKind := 0, fN := 0 } : GOwner), ({ fKind := 0, fN := 0 } : GOwner)⟩ : A4 GOwner) } : GType), fAt := 0 } : GVar) } : GSlot_ref16).fVar).fType).fOwn).a0).fN), .int .i64 (((((({ fClass := [], fVar := ({ fName := [], fType := ({ fKind := 0, fClass := [], fN := 0, fOwn := (⟨({ fKind := 0, fN := 0 } : GOwner), ({ fKind := 0, fN := 0 } : GOwner), ({ fKind := 0, fN := 0 } : GOwner), ({ fKind := 0, fN := 0 } : GOwner)⟩ : A4 GOwner) } : GType), fAt := 0 } : GVar) } : GSlot_ref16).fVar).fType).fOwn).a1).fKind), .int .i64 (((((({ fClass := [], fVar := ({ fName := [], fType := ({ fKind := 0, fClass := [], fN := 0, fOwn := (⟨({ fKind := 0, fN := 0 } : GOwner), ({ fKind := 0, fN := 0 } : GOwner), ({ fKind := 0, fN := 0 } : GOwner), ({ fKind := 0, fN := 0 } : GOwner)⟩ : A4 GOwner) } : GType), fAt := 0 } : GVar) } : GSlot_ref16).fVar).fType).fOwn).a1).fN), .int .i64 (((((({ fClass := [], fVar := ({ fName := [], fType := ({ fKind := 0, fClass := [], fN := 0, fOwn := (⟨({ fKind := 0, fN := 0 } : GOwner), ({ fKind := 0, fN := 0 } : GOwner), ({ fKind := 0, fN := 0 } : GOwner), ({ fKind := 0, fN := 0 } : GOwner)⟩ : A4 GOwner) } : GType), fAt := 0 } : GVar) } : GSlot_ref16).fVar).fType).fOwn).a2).fKind), .int .i64 (((((({ fClass := [], fVar := ({ fName := [], fType := ({ fKind := 0, fClass := [], fN := 0, fOwn := (⟨({ fKind := 0, fN := 0 } : GOwner), ({ fKind := 0, fN := 0 } : GOwner), ({ fKind := 0, fN := 0 } : GOwner), ({ fKind := 0, fN := 0 } : GOwner)⟩ : A4 GOwner) } : GType), fAt := 0 } : GVar) } : GSlot_ref16).fVar).fType).fOwn).a2).fN), .int .i64 (((((({ fClass := [], fVar := ({ fName := [], fType := ({ fKind := 0, fClass := [], fN := 0, fOwn := (⟨({ fKind := 0, fN := 0 } : GOwner), ({ fKind := 0, fN := 0 } : GOwner), ({ fKind := 0, fN := 0 } : GOwner), ({ fKind := 0, fN := 0 } : GOwner)⟩ : A4 GOwner) } : GType), fAt := 0 } : GVar) } : GSlot_ref16).fVar).fType).fOwn).a3).fKind), .int .i64 (((((({ fClass := [], fVar := ({ fName := [], fType := ({ fKind := 0, fClass := [], fN := 0, fOwn := (⟨({ fKind := 0, fN := 0 } : GOwner), ({ fKind := 0, fN := 0 } : GOwner), ({ fKind := 0, fN := 0 } : GOwner), ({ fKind := 0, fN := 0 } : GOwner)⟩ : A4 GOwner) } : GType), fAt := 0 } : GVar) } : GSlot_ref16).fVar).fType).fOwn).a3).fN), .int .i64 ((({ fClass := [], fVar := ({ fName := [], fType := ({ fKind := 0, fClass := [], fN := 0, fOwn := (⟨({ fKind := 0, fN := 0 } : GOwner), ({ fKind := 0, fN := 0 } : GOwner), ({ fKind := 0, fN := 0 } : GOwner), ({ fKind := 0, fN := 0 } : GOwner)⟩ : A4 GOwner) } : GType), fAt := 0 } : GVar) } : GSlot_ref16).fVar).fAt)]) rfl rfl Try_slc_73 Try_zer_82 (by exact ⟨rfl, rfl, rfl, rfl, rfl, rfl, rfl, rfl, rfl, rfl, rfl, rfl, rfl, rfl, trivial⟩) rfl rfl rfl (evs_cons h.1.1 evs_nil) rfl rfl rfl rfl) rfl, fun m h => step_on (guard_no rfl) (op_append 2 (fresh_free h.2.2.1) rfl h.1.1 h.2.1.1 h.1.2.1 Try_slc_73 Try_elm_82 Try_zer_82 rfl rfl rfl (room_map (f := eGSlot_ref16) (g := eGSlot_ref16) h136) (List.map_append (f := eGSlot_ref16) (l₁ := x115) (l₂ := [({ fClass := y104.fName, fVar := y133 } : GSlot_ref16)])).symm rfl rfl) rfl, fun m h => step_on (guard_no rfl) (op_assign rfl h.1.1 rfl rfl) rfl, trivial⟩ ⟨⟨⟨rfl, trivial⟩, trivial, trivial⟩, ⟨⟨rfl, trivial⟩, trivial, trivial⟩, ⟨⟨rfl, trivial⟩, ⟨rfl, trivial⟩, trivial⟩, ⟨⟨rfl, trivial⟩, trivial, trivial⟩, ⟨⟨rfl, trivial⟩, ⟨rfl, trivial⟩, trivial⟩, ⟨⟨rfl, trivial⟩, trivial, trivial⟩, ⟨⟨rfl, rfl, trivial⟩, trivial, trivial⟩, ⟨⟨rfl, trivial⟩, trivial, trivial⟩, ⟨⟨rfl, rfl, trivial⟩, trivial, trivial⟩, ⟨⟨rfl, trivial⟩, trivial, trivial⟩, ⟨⟨rfl, rfl, trivial⟩, ⟨rfl, trivial⟩, ⟨rfl, trivial⟩⟩, ⟨⟨rfl, trivial⟩, trivial, trivial⟩, trivial⟩ (by kernel_rfl) ?_
          refine post_imp (s' := ⟨46, [(0, some (.pv (.vs 7 (List.map eGClass a0)))), (5, some (.pv (.vs 1 (List.map eI y3)))), (6, some (.ls 0)), (7, some (.pv (.int .i64 x50))), (8, some (.lp 1 0)), (9, some (.pv (.int .i64 x116)))], [(0, some (.row 82 14 (List.map eGSlot_ref16 (x115 ++ [({ fClass := y104.fName, fVar := y133 } : GSlot_ref16)])))), (1, some (.box 94 [.pv (.str y104.fName), .pv (.vs 1 (List.map eS y104.fParams)), .pv (.str y104.fSuper), .pv (.vs 2 (List.map eGOwner y104.fAbove)), .pv (.vs 13 (List.map eGVar y104.fFields)), .pv (.vs 17 (List.map eGMethod y104.fMethods)), .pv (.int .i64 y104.fAt)]))], 2, [], [], 0, []⟩) (imp_sub [2, 1] rfl (by decide) rfl rfl ⟨by kernel_rfl, by kernel_rfl, by kernel_rfl, by kernel_rfl, by kernel_rfl, by kernel_rfl, trivial⟩ ⟨by kernel_rfl, by kernel_rfl, trivial⟩ rfl rfl rfl) ?_
          refine post_block_normal ?_
          refine post_next ?_
          refine aw_region ?_
          refine reg_cons (guard_no rfl) (op_move rfl rfl rfl rfl) ?_
          refine reg_cons (guard_no rfl) (op_int (k := .i64) (m := x116) (n := 1) rfl rfl rfl rfl rfl rfl) ?_
          refine reg_cons (guard_no rfl) (op_assign rfl rfl rfl rfl) ?_
          refine reg_nil ?_
          refine post_round ?_
          exact rnd_back (ih ((x115 ++ [({ fClass := y104.fName, fVar := y133 } : GSlot_ref16)]), w_i64 (x116 + 1)) hF) (imp_sub [0, 1] rfl (by decide) rfl rfl ⟨by kernel_rfl, by kernel_rfl, by kernel_rfl, by kernel_rfl, by kernel_rfl, by kernel_rfl, trivial⟩ ⟨by kernel_rfl, by kernel_rfl, trivial⟩ rfl rfl rfl)
        · refine aw_cond_f rfl hb128 ?_
          refine aw_exit ?_
          refine post_then_exit ?_
          refine post_then_exit ?_
          obtain rfl := Option.some.inj hF
          exact post_lp_break _ rfl (imp_sub [0] rfl (by decide) rfl rfl ⟨by kernel_rfl, by kernel_rfl, by kernel_rfl, by kernel_rfl, trivial⟩ ⟨by kernel_rfl, trivial⟩ rfl rfl rfl)
      · rintro _ rfl
        have hF := hK140
        clear hK140
        refine post_block_normal ?_
        refine post_next ?_
        refine aw_region ?_
        refine reg_cons (guard_no rfl) (op_move rfl rfl rfl rfl) ?_
        refine reg_cons (guard_no rfl) (op_int (k := .i64) (m := x50) (n := 1) rfl rfl rfl rfl rfl rfl) ?_
        refine reg_cons (guard_no rfl) (op_assign rfl rfl rfl rfl) ?_
        refine reg_nil ?_
        refine post_round ?_
        exact rnd_back (ih (x139, w_i64 (x50 - 1)) hF) (imp_sub [0] rfl (by decide) rfl rfl ⟨by kernel_rfl, by kernel_rfl, by kernel_rfl, by kernel_rfl, trivial⟩ ⟨by kernel_rfl, trivial⟩ rfl rfl rfl)
    · refine aw_cond_f rfl hb97 ?_
      refine aw_exit ?_
      refine post_then_exit ?_
      refine post_then_exit ?_
      obtain rfl := Option.some.inj hF
      exact post_lp_break _ rfl (imp_sub [0] rfl (by decide) rfl rfl ⟨by kernel_rfl, trivial⟩ ⟨by kernel_rfl, trivial⟩ rfl rfl rfl)
  · rintro _ rfl
    have hF := hK144
    clear hK144
    refine post_next ?_
    refine aw_seq ?_
    refine aw_region ?_
    refine reg_cons (guard_no rfl) (op_move rfl rfl rfl rfl) ?_
    refine reg_cons (guard_no rfl) (op_assign rfl rfl rfl rfl) ?_
    refine reg_nil ?_
    refine post_imp (s' := ⟨46, [(4, some (.ls 0))], [(0, some (.row 82 14 (List.map eGSlot_ref16 x143)))], 1, [], [], 0, []⟩) (imp_sub [0] rfl (by decide) rfl rfl ⟨by kernel_rfl, trivial⟩ ⟨by kernel_rfl, trivial⟩ rfl rfl rfl) ?_
    refine post_next ?_
    refine aw_ret ?_
    obtain rfl := Option.some.inj hF
    exact post_ret rfl rfl (.cons _ _ _ _ _ (.tmp _ _ rfl) (.own _ _ _ _ rfl nolent3) .nil) (.inl rfl)
theorem ref16_Find_ok {a0 : List GClass} {a1 : List UInt8} {a2 : List UInt8} {r : Int} (hF : ref16_Find a0 a1 a2 = some r) : Abs.Fn Try.prog 57 [.vs 7 (List.map eGClass a0), .str a1, .str a2] [.p (.int .i64 r)] := by
  unfold ref16_Find at hF
  refine fn_of_body (n := 27) Try.func57 rfl rfl rfl ?_
  intro w O
  refine aw_seq ?_
  refine aw_region ?_
  refine reg_cons (guard_no rfl) (op_assign rfl rfl rfl rfl) ?_
  refine reg_nil ?_
  refine post_imp (s' := ⟨27, [(0, some (.pv (.vs 7 (List.map eGClass a0)))), (1, some (.pv (.str a1))), (2, some (.pv (.str a2)))], [], 0, [], [], 0, []⟩) (imp_sub [] rfl (by decide) rfl rfl ⟨by kernel_rfl, by kernel_rfl, by kernel_rfl, trivial⟩ trivial rfl rfl rfl) ?_
  refine post_next ?_
  refine aw_seq ?_
  refine aw_region ?_
  refine reg_cons (guard_no rfl) (op_move rfl rfl rfl rfl) ?_
  refine reg_cons (guard_no rfl) (op_move rfl rfl rfl rfl) ?_
  obtain ⟨y3, h4, hF⟩ := bind_some hF
  refine reg_cons (guard_no rfl) (op_call 0 rfl (caps := []) (args := [.vs 7 (List.map eGClass a0), .str a1]) (rs := [.p (.vs 14 (List.map eGSlot_ref16 y3))]) rfl rfl rfl Try_cal_51 (Fn.frozen (ref16_All_ok h4)) rfl rfl rfl) ?_
  refine reg_cons (guard_no rfl) (op_assign rfl rfl rfl rfl) ?_
  refine reg_nil ?_
  refine post_imp (s' := ⟨27, [(2, some (.pv (.str a2))), (7, some (.pv (.vs 14 (List.map eGSlot_ref16 y3))))], [], 0, [], [], 0, []⟩) (imp_sub [] rfl (by decide) rfl rfl ⟨by kernel_rfl, by kernel_rfl, trivial⟩ trivial rfl rfl rfl) ?_
  refine post_next ?_
  refine aw_seq ?_
  refine aw_seq ?_
  refine aw_region ?_
  refine reg_cons (guard_no rfl) (op_assign rfl rfl rfl rfl) ?_
  refine reg_nil ?_
  refine post_imp (s' := ⟨27, [(2, some (.pv (.str a2))), (7, some (.pv (.vs 14 (List.map eGSlot_ref16 y3)))), (8, some (.pv (.int .i64 0)))], [], 0, [], [], 0, []⟩) (imp_sub [] rfl (by decide) rfl rfl ⟨by kernel_rfl, by kernel_rfl, by kernel_rfl, trivial⟩ trivial rfl rfl rfl) ?_
  refine post_next ?_
  obtain ⟨lr26, hF, hK27⟩ := bind_some hF
  refine aw_for ((((y3.length : Int) : Int) - (0)).toNat + 1) (fun s1 => ∃ q, lr26 = .next q ∧ s1 = ⟨27, [], [], 0, [], [], 0, []⟩) ?_ ?_
  · refine rnd_loop (α := Int) (fun q => ⟨27, [(2, some (.pv (.str a2))), (7, some (.pv (.vs 14 (List.map eGSlot_ref16 y3)))), (8, some (.pv (.int .i64 q)))], [], 0, [], [], 0, []⟩) (fun k q => ref16_Find_L1 a2 y3 k q = some lr26) 0 (imp_sub [] rfl (by decide) rfl rfl ⟨by kernel_rfl, by kernel_rfl, by kernel_rfl, trivial⟩ trivial rfl rfl rfl) hF (fun q h => by cases h) ?_
    clear hF
    rintro k x11 hF ih
    refine rnd_succ ?_
    refine aw_seq ?_
    refine aw_seq ?_
    refine aw_region ?_
    refine reg_cons (guard_no rfl) (op_move rfl rfl rfl rfl) ?_
    refine reg_cons (guard_no rfl) (op_move rfl rfl rfl rfl) ?_
    refine reg_cons (guard_no rfl) (op_len_vs (n := y3.length) rfl rfl (List.length_map ..) Try_slc_73 rfl rfl) ?_
    refine reg_cons (guard_no rfl) (op_int (k := .i64) (m := x11) (n := (y3.length : Int)) rfl rfl rfl rfl rfl rfl) ?_
    refine reg_nil ?_
    refine post_imp (s' := ⟨27, [(2, some (.pv (.str a2))), (7, some (.pv (.vs 14 (List.map eGSlot_ref16 y3)))), (8, some (.pv (.int .i64 x11))), (15, some (.pv (.bool (decide (x11 < (y3.length : Int))))))], [], 0, [], [], 0, []⟩) (imp_sub [] rfl (by decide) rfl rfl ⟨by kernel_rfl, by kernel_rfl, by kernel_rfl, by kernel_rfl, trivial⟩ trivial rfl rfl rfl) ?_
    refine post_next ?_
    rcases ite_some hF with ⟨hb19, hF⟩ | ⟨hb19, hF⟩
    · refine aw_cond_t rfl hb19 ?_
      refine aw_skip ?_
      refine post_next ?_
      refine aw_seq ?_
      refine aw_block ?_
      refine aw_seq ?_
      refine aw_region ?_
      refine reg_cons (guard_no rfl) (op_move rfl rfl rfl rfl) ?_
      refine reg_cons (guard_no rfl) (op_move rfl rfl rfl rfl) ?_
      obtain ⟨y22, h23, hF⟩ := bind_some hF
      refine reg_cons (guard_no rfl) (op_index_vs (k := .i64) rfl rfl rfl (idx_map eGSlot_ref16 h23) Try_slc_73 rfl rfl) ?_
      refine reg_cons (guard_no rfl) (op_field_vp rfl rfl Try_fld_82_1 rfl rfl) ?_
      refine reg_cons (guard_no rfl) (op_field_vp rfl rfl Try_fld_79_0 rfl rfl) ?_
      refine reg_cons (guard_no rfl) (op_load_vp (p := .str y22.fVar.fName) rfl rfl rfl Try_one_9 rfl rfl) ?_
      refine reg_cons (guard_no rfl) (op_move rfl rfl rfl rfl) ?_
      refine reg_cons (guard_no rfl) (op_str rfl rfl rfl rfl rfl rfl) ?_
      refine reg_nil ?_
      refine post_imp (s' := ⟨27, [(2, some (.pv (.str a2))), (7, some (.pv (.vs 14 (List.map eGSlot_ref16 y3)))), (8, some (.pv (.int .i64 x11))), (25, some (.pv (.bool (y22.fVar.fName == a2))))], [], 0, [], [], 0, []⟩) (imp_sub [] rfl (by decide) rfl rfl ⟨by kernel_rfl, by kernel_rfl, by kernel_rfl, by kernel_rfl, trivial⟩ trivial rfl rfl rfl) ?_
      refine post_next ?_
      rcases ite_some hF with ⟨hb24, hF⟩ | ⟨hb24, hF⟩
      · refine aw_cond_t rfl hb24 ?_
        refine aw_seq ?_
        refine aw_region ?_
        refine reg_cons (guard_no rfl) (op_move rfl rfl rfl rfl) ?_
        refine reg_cons (guard_no rfl) (op_assign rfl rfl rfl rfl) ?_
        refine reg_nil ?_
        refine post_imp (s' := ⟨27, [(6, some (.pv (.int .i64 x11)))], [], 0, [], [], 0, []⟩) (imp_sub [] rfl (by decide) rfl rfl ⟨by kernel_rfl, trivial⟩ trivial rfl rfl rfl) ?_
        refine post_next ?_
        refine aw_ret ?_
        refine post_block_ret ?_
        refine post_then_ret ?_
        refine post_then_ret ?_
        refine post_lp_ret ?_
        obtain rfl := Option.some.inj hF
        have hF := elim_stop hK27
        refine post_then_ret ?_
        obtain rfl := Option.some.inj hF
        exact post_ret rfl rfl (.cons _ _ _ _ _ (.tmp _ _ rfl) (.p _) .nil) (.inl rfl)
      · refine aw_cond_f rfl hb24 ?_
        refine aw_skip ?_
        refine post_block_normal ?_
        refine post_next ?_
        refine aw_region ?_
        refine reg_cons (guard_no rfl) (op_move rfl rfl rfl rfl) ?_
        refine reg_cons (guard_no rfl) (op_int (k := .i64) (m := x11) (n := 1) rfl rfl rfl rfl rfl rfl) ?_
        refine reg_cons (guard_no rfl) (op_assign rfl rfl rfl rfl) ?_
        refine reg_nil ?_
        refine post_round ?_
        exact rnd_back (ih (w_i64 (x11 + 1)) hF) (imp_sub [] rfl (by decide) rfl rfl ⟨by kernel_rfl, by kernel_rfl, by kernel_rfl, trivial⟩ trivial rfl rfl rfl)
    · refine aw_cond_f rfl hb19 ?_
      refine aw_exit ?_
      refine post_then_exit ?_
      refine post_then_exit ?_
      obtain rfl := Option.some.inj hF
      exact post_lp_break _ ⟨_, rfl, rfl⟩ (imp_sub [] rfl (by decide) rfl rfl trivial trivial rfl rfl rfl)
  · rintro _ ⟨⟨⟩, rfl, rfl⟩
    have hF := elim_next hK27
    clear hK27
    refine post_next ?_
    refine aw_seq ?_
    refine aw_region ?_
    refine reg_cons (guard_no rfl) (op_assign rfl rfl rfl rfl) ?_
    refine reg_nil ?_
    refine post_imp (s' := ⟨27, [(6, some (.pv (.int .i64 (-1))))], [], 0, [], [], 0, []⟩) (imp_sub [] rfl (by decide) rfl rfl ⟨by kernel_rfl, trivial⟩ trivial rfl rfl rfl) ?_
    refine post_next ?_
    refine aw_ret ?_
    obtain rfl := Option.some.inj hF
    exact post_ret rfl rfl (.cons _ _ _ _ _ (.tmp _ _ rfl) (.p _) .nil) (.inl rfl)
end Go.Proofs.Ytpbbeljmmabeeaa
