/- A part of the proof that the law AboveOrder gives true for every input. -/
import Derived.Test.YtpbbeljmmabeeaaAboveOrderT
import Derived.Test.YtpbbeljmmabeeaaAboveOrderX
import Derived.Test.YtpbbeljmmabeeaaAboveOrderI
/- Each Go function computes its plain function. -/
namespace Go.Proofs.Ytpbbeljmmabeeaa
open Go.RowKit Go.Abs
set_option maxRecDepth 100000
theorem above_up_ok {a0 : List GClass} {a1 : List UInt8} {r : (List GClass) × (List UInt8)} (hF : above_up a0 a1 = some r) : Abs.Fn Try.prog 67 [.vs 7 (List.map eGClass a0), .str a1] [.clo 81 [.vp ((eL 7 eGClass) r.1)] 9 [.str r.2] []] := by
  unfold above_up at hF
  refine fn_of_body (n := 6) Try.func67 rfl rfl rfl ?_
  intro w O
  refine aw_seq ?_
  refine aw_region ?_
  refine reg_cons (guard_no rfl) (op_box 0 rfl rfl rfl rfl rfl rfl) ?_
  refine reg_cons (guard_no rfl) (op_box 1 rfl rfl rfl rfl rfl rfl) ?_
  refine reg_cons (guard_no rfl) (op_assign rfl rfl rfl rfl) ?_
  refine reg_nil ?_
  refine post_imp (s' := ⟨6, [(2, some (.lp 0 0)), (3, some (.lp 1 0))], [(0, some (.box 45 [.pv (.vs 7 (List.map eGClass a0))])), (1, some (.box 9 [.pv (.str a1)]))], 2, [], [], 0, []⟩) (imp_sub [0, 1] rfl (by decide) rfl rfl ⟨by kernel_rfl, by kernel_rfl, trivial⟩ ⟨by kernel_rfl, by kernel_rfl, trivial⟩ rfl rfl rfl) ?_
  refine post_next ?_
  refine aw_seq ?_
  refine aw_region ?_
  refine reg_cons (guard_no rfl) (op_makeFunc rfl rfl rfl rfl) ?_
  refine reg_cons (guard_no rfl) (op_assign rfl rfl rfl rfl) ?_
  refine reg_nil ?_
  refine post_imp (s' := ⟨6, [(4, some (.fn 81 [.lp 0 0, .lp 1 0]))], [(0, some (.box 45 [.pv (.vs 7 (List.map eGClass a0))])), (1, some (.box 9 [.pv (.str a1)]))], 2, [], [], 0, []⟩) (imp_sub [0, 1] rfl (by decide) rfl rfl ⟨by kernel_rfl, trivial⟩ ⟨by kernel_rfl, by kernel_rfl, trivial⟩ rfl rfl rfl) ?_
  refine post_next ?_
  refine aw_ret ?_
  refine post_imp (imp_freeze_cap 4 0 [.pv (.vp ((eL 7 eGClass) a0)), .lp 1 0] rfl rfl rfl rfl ⟨.inr ⟨rfl, rfl⟩, .inl rfl, trivial⟩) ?_
  obtain rfl := Option.some.inj hF
  exact post_ret rfl rfl (.cons _ _ _ _ _ (.tmp _ _ rfl) (.clo 81 [.vp ((eL 7 eGClass) a0)] [] 1 9 [.str a1] rfl nolent3) .nil) (.inl rfl)
theorem slices_IndexFunc_api_Class_ok {a0 : List GClass} {q1 : GClass → Option Bool} {r : Int} {q1_f : Nat} {q1_c : List PV} (q1_b : callB Try.prog q1_f = true) (q1_h : ∀ (x0 : GClass) (r : Bool), q1 x0 = some r → Abs.Fn Try.prog q1_f ([.agg (eGClass x0)] ++ q1_c) [.p (.bool r)]) (hF : slices_IndexFunc_api_Class a0 q1 = some r) : Abs.Fn Try.prog 83 [.vs 7 (List.map eGClass a0), .fn q1_f q1_c] [.p (.int .i64 r)] := by
  unfold slices_IndexFunc_api_Class at hF
  refine fn_of_body (n := 19) Try.func83 rfl rfl rfl ?_
  intro w O
  refine aw_seq ?_
  refine aw_region ?_
  refine reg_cons (guard_no rfl) (op_assign rfl rfl rfl rfl) ?_
  refine reg_nil ?_
  refine post_imp (s' := ⟨19, [(0, some (.pv (.vs 7 (List.map eGClass a0)))), (1, some (.pv (.fn q1_f q1_c)))], [], 0, [], [], 0, []⟩) (imp_sub [] rfl (by decide) rfl rfl ⟨by kernel_rfl, by kernel_rfl, trivial⟩ trivial rfl rfl rfl) ?_
  refine post_next ?_
  refine aw_seq ?_
  refine aw_seq ?_
  refine aw_region ?_
  refine reg_cons (guard_no rfl) (op_move rfl rfl rfl rfl) ?_
  refine reg_cons (guard_no rfl) (op_len_vs (n := a0.length) rfl rfl (List.length_map ..) Try_slc_45 rfl rfl) ?_
  refine reg_cons (guard_no rfl) (op_move rfl rfl rfl rfl) ?_
  refine reg_nil ?_
  refine post_imp (s' := ⟨19, [(0, some (.pv (.vs 7 (List.map eGClass a0)))), (1, some (.pv (.fn q1_f q1_c))), (7, some (.pv (.int .i64 (a0.length : Int)))), (8, some (.pv (.int .i64 0)))], [], 0, [], [], 0, []⟩) (imp_sub [] rfl (by decide) rfl rfl ⟨by kernel_rfl, by kernel_rfl, by kernel_rfl, by kernel_rfl, trivial⟩ trivial rfl rfl rfl) ?_
  refine post_next ?_
  obtain ⟨lr34, hF, hK35⟩ := bind_some hF
  refine aw_for ((((a0.length : Int) : Int) - (0)).toNat + 1) (fun s1 => ∃ q, lr34 = .next q ∧ s1 = ⟨19, [], [], 0, [], [], 0, []⟩) ?_ ?_
  · refine rnd_loop (α := Int) (fun q => ⟨19, [(0, some (.pv (.vs 7 (List.map eGClass a0)))), (1, some (.pv (.fn q1_f q1_c))), (7, some (.pv (.int .i64 (a0.length : Int)))), (8, some (.pv (.int .i64 q)))], [], 0, [], [], 0, []⟩) (fun k q => slices_IndexFunc_api_Class_L1 a0 q1 k q = some lr34) 0 (imp_sub [] rfl (by decide) rfl rfl ⟨by kernel_rfl, by kernel_rfl, by kernel_rfl, by kernel_rfl, trivial⟩ trivial rfl rfl rfl) hF (fun q h => by cases h) ?_
    clear hF
    rintro k x11 hF ih
    refine rnd_succ ?_
    refine aw_seq ?_
    refine aw_region ?_
    refine reg_cons (guard_no rfl) (op_int (k := .i64) (m := x11) (n := (a0.length : Int)) rfl rfl rfl rfl rfl rfl) ?_
    refine reg_nil ?_
    refine post_imp (s' := ⟨19, [(0, some (.pv (.vs 7 (List.map eGClass a0)))), (1, some (.pv (.fn q1_f q1_c))), (7, some (.pv (.int .i64 (a0.length : Int)))), (8, some (.pv (.int .i64 x11))), (9, some (.pv (.bool (decide (x11 < (a0.length : Int))))))], [], 0, [], [], 0, []⟩) (imp_sub [] rfl (by decide) rfl rfl ⟨by kernel_rfl, by kernel_rfl, by kernel_rfl, by kernel_rfl, by kernel_rfl, trivial⟩ trivial rfl rfl rfl) ?_
    refine post_next ?_
    refine aw_seq ?_
    rcases ite_some hF with ⟨hb23, hF⟩ | ⟨hb23, hF⟩
    · refine aw_cond_t rfl hb23 ?_
      refine aw_skip ?_
      refine post_next ?_
      refine aw_seq ?_
      refine aw_block ?_
      refine aw_seq ?_
      refine aw_region ?_
      refine reg_cons (guard_no rfl) (op_move rfl rfl rfl rfl) ?_
      refine reg_cons (guard_no rfl) (op_assign rfl rfl rfl rfl) ?_
      refine reg_nil ?_
      refine post_imp (s' := ⟨19, [(0, some (.pv (.vs 7 (List.map eGClass a0)))), (1, some (.pv (.fn q1_f q1_c))), (5, some (.pv (.int .i64 x11))), (7, some (.pv (.int .i64 (a0.length : Int)))), (8, some (.pv (.int .i64 x11)))], [], 0, [], [], 0, []⟩) (imp_sub [] rfl (by decide) rfl rfl ⟨by kernel_rfl, by kernel_rfl, by kernel_rfl, by kernel_rfl, by kernel_rfl, trivial⟩ trivial rfl rfl rfl) ?_
      refine post_next ?_
      refine aw_seq ?_
      refine aw_region ?_
      refine reg_cons (guard_no rfl) (op_move rfl rfl rfl rfl) ?_
      refine reg_cons (guard_no rfl) (op_move rfl rfl rfl rfl) ?_
      refine reg_cons (guard_no rfl) (op_move rfl rfl rfl rfl) ?_
      obtain ⟨y28, h29, hF⟩ := bind_some hF
      refine reg_cons (guard_no rfl) (op_index_vs (k := .i64) rfl rfl rfl (idx_map eGClass h29) Try_slc_45 rfl rfl) ?_
      refine reg_cons (guard_no rfl) (op_load_vp_agg (ps := eGClass y28) rfl rfl rfl rfl Try_agg_94 rfl rfl) ?_
      obtain ⟨y30, h31, hF⟩ := bind_some hF
      refine reg_cons (guard_no rfl) (op_call 0 rfl (caps := q1_c) (args := [.agg (eGClass y28)]) (rs := [.p (.bool y30)]) rfl rfl rfl q1_b (q1_h y28 _ h31) rfl rfl rfl) ?_
      refine reg_nil ?_
      refine post_imp (s' := ⟨19, [(0, some (.pv (.vs 7 (List.map eGClass a0)))), (1, some (.pv (.fn q1_f q1_c))), (5, some (.pv (.int .i64 x11))), (7, some (.pv (.int .i64 (a0.length : Int)))), (8, some (.pv (.int .i64 x11))), (16, some (.pv (.bool y30)))], [], 0, [], [], 0, []⟩) (imp_sub [] rfl (by decide) rfl rfl ⟨by kernel_rfl, by kernel_rfl, by kernel_rfl, by kernel_rfl, by kernel_rfl, by kernel_rfl, trivial⟩ trivial rfl rfl rfl) ?_
      refine post_next ?_
      rcases ite_some hF with ⟨hb32, hF⟩ | ⟨hb32, hF⟩
      · refine aw_cond_t rfl hb32 ?_
        refine aw_seq ?_
        refine aw_region ?_
        refine reg_cons (guard_no rfl) (op_move rfl rfl rfl rfl) ?_
        refine reg_cons (guard_no rfl) (op_assign rfl rfl rfl rfl) ?_
        refine reg_nil ?_
        refine post_imp (s' := ⟨19, [(4, some (.pv (.int .i64 x11)))], [], 0, [], [], 0, []⟩) (imp_sub [] rfl (by decide) rfl rfl ⟨by kernel_rfl, trivial⟩ trivial rfl rfl rfl) ?_
        refine post_next ?_
        refine aw_ret ?_
        refine post_block_ret ?_
        refine post_then_ret ?_
        refine post_then_ret ?_
        refine post_lp_ret ?_
        obtain rfl := Option.some.inj hF
        have hF := elim_stop hK35
        refine post_then_ret ?_
        obtain rfl := Option.some.inj hF
        exact post_ret rfl rfl (.cons _ _ _ _ _ (.tmp _ _ rfl) (.p _) .nil) (.inl rfl)
      · refine aw_cond_f rfl hb32 ?_
        refine aw_skip ?_
        refine post_block_normal ?_
        refine post_next ?_
        refine aw_region ?_
        refine reg_cons (guard_no rfl) (op_int (k := .i64) (m := x11) (n := 1) rfl rfl rfl rfl rfl rfl) ?_
        refine reg_cons (guard_no rfl) (op_move rfl rfl rfl rfl) ?_
        refine reg_nil ?_
        refine post_round ?_
        exact rnd_back (ih (w_i64 (x11 + 1)) hF) (imp_sub [] rfl (by decide) rfl rfl ⟨by kernel_rfl, by kernel_rfl, by kernel_rfl, by kernel_rfl, trivial⟩ trivial rfl rfl rfl)
    · refine aw_cond_f rfl hb23 ?_
      refine aw_exit ?_
      refine post_then_exit ?_
      refine post_then_exit ?_
      obtain rfl := Option.some.inj hF
      exact post_lp_break _ ⟨_, rfl, rfl⟩ (imp_sub [] rfl (by decide) rfl rfl trivial trivial rfl rfl rfl)
  · rintro _ ⟨⟨⟩, rfl, rfl⟩
    have hF := elim_next hK35
    clear hK35
    refine post_next ?_
    refine aw_seq ?_
    refine aw_region ?_
    refine reg_cons (guard_no rfl) (op_assign rfl rfl rfl rfl) ?_
    refine reg_nil ?_
    refine post_imp (s' := ⟨19, [(4, some (.pv (.int .i64 (-1))))], [], 0, [], [], 0, []⟩) (imp_sub [] rfl (by decide) rfl rfl ⟨by kernel_rfl, trivial⟩ trivial rfl rfl rfl) ?_
    refine post_next ?_
    refine aw_ret ?_
    obtain rfl := Option.some.inj hF
    exact post_ret rfl rfl (.cons _ _ _ _ _ (.tmp _ _ rfl) (.p _) .nil) (.inl rfl)
theorem table_Find_1_ok {a0 : GClass} {c0 : List UInt8} {r : Bool} (hF : table_Find_1 a0 c0 = some r) : Abs.Fn Try.prog 84 [.agg (eGClass a0), .vp (eS c0)] [.p (.bool r)] := by
  unfold table_Find_1 at hF
  refine fn_of_body (n := 8) Try.func84 rfl rfl rfl ?_
  intro w O
  refine aw_seq ?_
  refine aw_region ?_
  refine reg_cons (guard_no rfl) (op_box 0 rfl rfl rfl rfl rfl rfl) ?_
  refine reg_cons (guard_no rfl) (op_assign rfl rfl rfl rfl) ?_
  refine reg_nil ?_
  refine post_imp (s' := ⟨8, [(1, some (.pv (.vp (eS c0)))), (2, some (.lp 0 0))], [(0, some (.box 94 [.pv (.str a0.fName), .pv (.vs 1 (List.map eS a0.fParams)), .pv (.str a0.fSuper), .pv (.vs 2 (List.map eGOwner a0.fAbove)), .pv (.vs 13 (List.map eGVar a0.fFields)), .pv (.vs 17 (List.map eGMethod a0.fMethods)), .pv (.int .i64 a0.fAt)]))], 1, [], [], 0, []⟩) (imp_sub [0] rfl (by decide) rfl rfl ⟨by kernel_rfl, by kernel_rfl, trivial⟩ ⟨by kernel_rfl, trivial⟩ rfl rfl rfl) ?_
  refine post_next ?_
  refine aw_seq ?_
  refine aw_region ?_
  refine reg_cons (guard_no rfl) (op_field_lp rfl rfl Try_fld_94_0 rfl rfl) ?_
  refine reg_cons (guard_no rfl) (op_load_lp (v := .pv (.str a0.fName)) rfl rfl rfl rfl Try_one_9 rfl rfl) ?_
  refine reg_cons (guard_no rfl) (op_load_vp (p := .str c0) rfl rfl rfl Try_one_9 rfl rfl) ?_
  refine reg_cons (guard_no rfl) (op_str rfl rfl rfl rfl rfl rfl) ?_
  refine reg_cons (guard_no rfl) (op_assign rfl rfl rfl rfl) ?_
  refine reg_nil ?_
  refine post_imp (s' := ⟨8, [(3, some (.pv (.bool (a0.fName == c0))))], [], 0, [], [], 0, []⟩) (imp_sub [] rfl (by decide) rfl rfl ⟨by kernel_rfl, trivial⟩ trivial rfl rfl rfl) ?_
  refine post_next ?_
  refine aw_ret ?_
  obtain rfl := Option.some.inj hF
  exact post_ret rfl rfl (.cons _ _ _ _ _ (.tmp _ _ rfl) (.p _) .nil) (.inl rfl)
theorem table_Find_ok {a0 : List GClass} {a1 : List UInt8} {r : Int} (hF : table_Find a0 a1 = some r) : Abs.Fn Try.prog 71 [.vs 7 (List.map eGClass a0), .str a1] [.p (.int .i64 r)] := by
  unfold table_Find at hF
  refine fn_of_body (n := 8) Try.func71 rfl rfl rfl ?_
  intro w O
  refine aw_seq ?_
  refine aw_region ?_
  refine reg_cons (guard_no rfl) (op_box 0 rfl rfl rfl rfl rfl rfl) ?_
  refine reg_cons (guard_no rfl) (op_assign rfl rfl rfl rfl) ?_
  refine reg_nil ?_
  refine post_imp (s' := ⟨8, [(0, some (.pv (.vs 7 (List.map eGClass a0)))), (3, some (.lp 0 0))], [(0, some (.box 9 [.pv (.str a1)]))], 1, [], [], 0, []⟩) (imp_sub [0] rfl (by decide) rfl rfl ⟨by kernel_rfl, by kernel_rfl, trivial⟩ ⟨by kernel_rfl, trivial⟩ rfl rfl rfl) ?_
  refine post_next ?_
  refine aw_seq ?_
  refine aw_region ?_
  refine reg_cons (guard_no rfl) (op_move rfl rfl rfl rfl) ?_
  refine reg_cons (guard_no rfl) (op_makeFunc rfl rfl rfl rfl) ?_
  obtain ⟨y2, h3, hF⟩ := bind_some hF
  refine reg_cons (guard_no rfl) (op_callB 1 rfl (caps := []) (args := [.vs 7 (List.map eGClass a0), .fn 84 [.vp (eS a1)]]) [(0, some (.box 9 [.pv (.str a1)]))] rfl rfl rfl (FzH.spec ⟨rfl, trivial⟩) rfl rfl Try_cal_83 (slices_IndexFunc_api_Class_ok (q1_f := 84) (q1_c := [.vp (eS a1)]) (q1_b := Try_cal_84) (q1_h := fun _ r h => (table_Find_1_ok h)) h3) rfl rfl rfl) ?_
  refine reg_cons (guard_no rfl) (op_assign rfl rfl rfl rfl) ?_
  refine reg_nil ?_
  refine post_imp (s' := ⟨8, [(4, some (.pv (.int .i64 y2)))], [], 0, [], [], 0, []⟩) (imp_sub [] rfl (by decide) rfl rfl ⟨by kernel_rfl, trivial⟩ trivial rfl rfl rfl) ?_
  refine post_next ?_
  refine aw_ret ?_
  obtain rfl := Option.some.inj hF
  exact post_ret rfl rfl (.cons _ _ _ _ _ (.tmp _ _ rfl) (.p _) .nil) (.inl rfl)
theorem above_up_1_it {rows : List (Int)} {sp : Nat} {c0 : List GClass} {c1 : List UInt8} (hF : above_up_1 rows sp c0 c1 = some (min (sp + 1) rows.length)) : It Try.prog 81 1 [.vp ((eL 7 eGClass) c0)] (some (9, [.str c1])) [] (rows.map (fun z : Int => ([.int .i64 z] : List PV))) sp := by
  unfold above_up_1 at hF
  refine it_of_body (n := 29) Try.func81 rfl rfl rfl ?_
  intro l c hcx
  refine aw_seq ?_
  refine aw_region ?_
  refine reg_cons (guard_no rfl) (op_load_vp (p := .vs 7 (List.map eGClass c0)) rfl rfl rfl Try_one_45 rfl rfl) ?_
  refine reg_cons (guard_no rfl) (op_len_vs (n := c0.length) rfl rfl (List.length_map ..) Try_slc_45 rfl rfl) ?_
  refine reg_cons (guard_no rfl) (op_int (k := .i64) (m := (c0.length : Int)) (n := 1) rfl rfl rfl rfl rfl rfl) ?_
  refine reg_cons (guard_no rfl) (op_move rfl rfl rfl rfl) ?_
  refine reg_nil ?_
  refine post_imp (s' := ⟨29, [(0, some (.pv (.yld l))), (1, some (.pv (.vp ((eL 7 eGClass) c0)))), (2, some (.lp 0 0)), (7, some (.pv (.int .i64 (w_i64 ((c0.length : Int) + 1))))), (8, some (.pv (.int .i64 0)))], [(0, some (.box 9 [.pv (.str c1)]))], 1, [], [], 0, []⟩) (imp_sub [0] rfl (by decide) rfl rfl ⟨by kernel_rfl, by kernel_rfl, by kernel_rfl, by kernel_rfl, by kernel_rfl, trivial⟩ ⟨by kernel_rfl, trivial⟩ rfl rfl rfl) ?_
  refine post_next ?_
  obtain ⟨lr65, hF, hK66⟩ := bind_some hF
  refine aw_for ((((w_i64 ((c0.length : Int) + 1)) : Int) - (0)).toNat + 1) (fun s1 => ∃ q, lr65 = .next q ∧ s1 = ⟨29, [], [], 0, [], [], q, []⟩) ?_ ?_
  · refine rnd_loop (α := Nat × (List UInt8) × Int) (fun q => ⟨29, [(0, some (.pv (.yld l))), (1, some (.pv (.vp ((eL 7 eGClass) c0)))), (2, some (.lp 0 0)), (7, some (.pv (.int .i64 (w_i64 ((c0.length : Int) + 1))))), (8, some (.pv (.int .i64 q.2.2)))], [(0, some (.box 9 [.pv (.str q.2.1)]))], 1, [], [], q.1, []⟩) (fun k q => above_up_1_L1 c0 sp rows k q.1 q.2.1 q.2.2 = some lr65) (0, c1, 0) (imp_sub [0] rfl (by decide) rfl rfl ⟨by kernel_rfl, by kernel_rfl, by kernel_rfl, by kernel_rfl, by kernel_rfl, trivial⟩ ⟨by kernel_rfl, trivial⟩ rfl rfl rfl) hF (fun q h => by cases h) ?_
    clear hF
    rintro k ⟨x19, x20, x21⟩ hF ih
    refine rnd_succ ?_
    refine aw_seq ?_
    refine aw_region ?_
    refine reg_cons (guard_no rfl) (op_int (k := .i64) (m := x21) (n := w_i64 ((c0.length : Int) + 1)) rfl rfl rfl rfl rfl rfl) ?_
    refine reg_nil ?_
    refine post_imp (s' := ⟨29, [(0, some (.pv (.yld l))), (1, some (.pv (.vp ((eL 7 eGClass) c0)))), (2, some (.lp 0 0)), (7, some (.pv (.int .i64 (w_i64 ((c0.length : Int) + 1))))), (8, some (.pv (.int .i64 x21))), (9, some (.pv (.bool (decide (x21 < (w_i64 ((c0.length : Int) + 1)))))))], [(0, some (.box 9 [.pv (.str x20)]))], 1, [], [], x19, []⟩) (imp_sub [0] rfl (by decide) rfl rfl ⟨by kernel_rfl, by kernel_rfl, by kernel_rfl, by kernel_rfl, by kernel_rfl, by kernel_rfl, trivial⟩ ⟨by kernel_rfl, trivial⟩ rfl rfl rfl) ?_
    refine post_next ?_
    refine aw_seq ?_
    rcases ite_some hF with ⟨hb43, hF⟩ | ⟨hb43, hF⟩
    · refine aw_cond_t rfl hb43 ?_
      refine aw_skip ?_
      refine post_next ?_
      refine aw_seq ?_
      refine aw_block ?_
      refine aw_seq ?_
      refine aw_region ?_
      refine reg_cons (guard_no rfl) (op_load_vp (p := .vs 7 (List.map eGClass c0)) rfl rfl rfl Try_one_45 rfl rfl) ?_
      refine reg_cons (guard_no rfl) (op_load_lp (v := .pv (.str x20)) rfl rfl rfl rfl Try_one_9 rfl rfl) ?_
      obtain ⟨y46, h47, hF⟩ := bind_some hF
      refine reg_cons (guard_no rfl) (op_call 1 rfl (caps := []) (args := [.vs 7 (List.map eGClass c0), .str x20]) (rs := [.p (.int .i64 y46)]) rfl rfl rfl Try_cal_71 (table_Find_ok h47) rfl rfl rfl) ?_
      refine reg_cons (guard_no rfl) (op_assign rfl rfl rfl rfl) ?_
      refine reg_nil ?_
      refine post_imp (s' := ⟨29, [(0, some (.pv (.yld l))), (1, some (.pv (.vp ((eL 7 eGClass) c0)))), (2, some (.lp 0 0)), (4, some (.pv (.int .i64 y46))), (7, some (.pv (.int .i64 (w_i64 ((c0.length : Int) + 1))))), (8, some (.pv (.int .i64 x21)))], [(0, some (.box 9 [.pv (.str x20)]))], 1, [], [], x19, []⟩) (imp_sub [0] rfl (by decide) rfl rfl ⟨by kernel_rfl, by kernel_rfl, by kernel_rfl, by kernel_rfl, by kernel_rfl, by kernel_rfl, trivial⟩ ⟨by kernel_rfl, trivial⟩ rfl rfl rfl) ?_
      refine post_next ?_
      refine aw_seq ?_
      refine aw_seq ?_
      obtain ⟨p53, hF, hK54⟩ := bind_some hF
      obtain ⟨x51, x52⟩ := p53
      refine aw_cut (fun s1 => s1 = ⟨29, [(0, some (.pv (.yld l))), (1, some (.pv (.vp ((eL 7 eGClass) c0)))), (2, some (.lp 0 0)), (4, some (.pv (.int .i64 y46))), (7, some (.pv (.int .i64 (w_i64 ((c0.length : Int) + 1))))), (8, some (.pv (.int .i64 x21))), (20, some (.pv (.bool x52)))], [(0, some (.box 9 [.pv (.str x20)]))], 1, [], [], x51, []⟩) ?_ ?_
      · refine aw_region ?_
        refine reg_cons (guard_no rfl) (op_move rfl rfl rfl rfl) ?_
        refine reg_cons (guard_no rfl) (op_int (k := .i64) (m := y46) (n := 0) rfl rfl rfl rfl rfl rfl) ?_
        refine reg_cons (guard_no rfl) (op_move rfl rfl rfl rfl) ?_
        rcases ite_some hF with ⟨hb48, hF⟩ | ⟨hb48, hF⟩
        · refine reg_off (guard_off rfl rfl rfl rfl hb48) rfl rfl ?_
          refine reg_off (guard_off rfl rfl rfl rfl hb48) rfl rfl ?_
          refine reg_off (guard_off rfl rfl rfl rfl hb48) rfl rfl ?_
          refine reg_off (guard_off rfl rfl rfl rfl hb48) rfl rfl ?_
          refine reg_cons (guard_no rfl) (op_pick_t rfl rfl hb48 rfl rfl rfl) ?_
          refine reg_nil ?_
          cases hF
          exact post_cut _ rfl (imp_sub [0] rfl (by decide) rfl rfl ⟨by kernel_rfl, by kernel_rfl, by kernel_rfl, by kernel_rfl, by kernel_rfl, by kernel_rfl, by kernel_rfl, trivial⟩ ⟨by kernel_rfl, trivial⟩ rfl rfl rfl)
        · refine reg_cons (guard_on rfl rfl rfl rfl hb48) (op_move rfl rfl rfl rfl) ?_
          refine reg_cons (guard_on rfl rfl rfl rfl hb48) (op_move rfl rfl rfl rfl) ?_
          obtain ⟨u49, h50, hF⟩ := bind_some hF
          refine reg_cons (guard_on rfl rfl rfl rfl hb48) (op_yield (row := (fun z : Int => ([.int .i64 z] : List PV)) y46) hcx rfl rfl rfl rfl (yck_row (fun z : Int => ([.int .i64 z] : List PV)) h50) (yck_spec h50).2 rfl rfl) ?_
          refine reg_cons (guard_on rfl rfl rfl rfl hb48) (op_not rfl rfl rfl rfl) ?_
          refine reg_cons (guard_no rfl) (op_pick_f rfl rfl hb48 rfl rfl rfl) ?_
          refine reg_nil ?_
          cases hF
          exact post_cut _ rfl (imp_sub [0] rfl (by decide) rfl rfl ⟨by kernel_rfl, by kernel_rfl, by kernel_rfl, by kernel_rfl, by kernel_rfl, by kernel_rfl, by kernel_rfl, trivial⟩ ⟨by kernel_rfl, trivial⟩ rfl rfl rfl)
      · rintro _ rfl
        have hF := hK54
        clear hK54
        refine post_next ?_
        rcases ite_some hF with ⟨hb55, hF⟩ | ⟨hb55, hF⟩
        · refine aw_cond_t rfl hb55 ?_
          refine aw_ret ?_
          refine post_then_ret ?_
          refine post_block_ret ?_
          refine post_then_ret ?_
          refine post_then_ret ?_
          refine post_lp_ret ?_
          obtain rfl := Option.some.inj hF
          have hF := elim_stop hK66
          exact post_it (it_len hF) rfl (.inl rfl)
        · refine aw_cond_f rfl hb55 ?_
          refine aw_skip ?_
          refine post_next ?_
          refine aw_seq ?_
          refine aw_region ?_
          refine reg_cons (guard_no rfl) (op_load_vp (p := .vs 7 (List.map eGClass c0)) rfl rfl rfl Try_one_45 rfl rfl) ?_
          refine reg_cons (guard_no rfl) (op_move rfl rfl rfl rfl) ?_
          obtain ⟨y58, h59, hF⟩ := bind_some hF
          refine reg_cons (guard_no rfl) (op_index_vs (k := .i64) rfl rfl rfl (idx_map eGClass h59) Try_slc_45 rfl rfl) ?_
          refine reg_cons (guard_no rfl) (op_field_vp rfl rfl Try_fld_94_2 rfl rfl) ?_
          refine reg_cons (guard_no rfl) (op_load_vp (p := .str y58.fSuper) rfl rfl rfl Try_one_9 rfl rfl) ?_
          refine reg_cons (guard_no rfl) (op_store_lp (n := 1) rfl rfl rfl rfl rfl (or_one Try_one_9) (by rw [Try_one_9]; rfl) rfl rfl rfl) ?_
          refine reg_nil ?_
          refine post_imp (s' := ⟨29, [(0, some (.pv (.yld l))), (1, some (.pv (.vp ((eL 7 eGClass) c0)))), (2, some (.lp 0 0)), (7, some (.pv (.int .i64 (w_i64 ((c0.length : Int) + 1))))), (8, some (.pv (.int .i64 x21)))], [(0, some (.box 9 [.pv (.str y58.fSuper)]))], 1, [], [], x51, []⟩) (imp_sub [0] rfl (by decide) rfl rfl ⟨by kernel_rfl, by kernel_rfl, by kernel_rfl, by kernel_rfl, by kernel_rfl, trivial⟩ ⟨by kernel_rfl, trivial⟩ rfl rfl rfl) ?_
          refine post_next ?_
          refine aw_seq ?_
          refine aw_region ?_
          refine reg_cons (guard_no rfl) (op_load_lp (v := .pv (.str y58.fSuper)) rfl rfl rfl rfl Try_one_9 rfl rfl) ?_
          refine reg_cons (guard_no rfl) (op_str rfl rfl rfl rfl rfl rfl) ?_
          refine reg_nil ?_
          refine post_imp (s' := ⟨29, [(0, some (.pv (.yld l))), (1, some (.pv (.vp ((eL 7 eGClass) c0)))), (2, some (.lp 0 0)), (7, some (.pv (.int .i64 (w_i64 ((c0.length : Int) + 1))))), (8, some (.pv (.int .i64 x21))), (27, some (.pv (.bool (y58.fSuper == []))))], [(0, some (.box 9 [.pv (.str y58.fSuper)]))], 1, [], [], x51, []⟩) (imp_sub [0] rfl (by decide) rfl rfl ⟨by kernel_rfl, by kernel_rfl, by kernel_rfl, by kernel_rfl, by kernel_rfl, by kernel_rfl, trivial⟩ ⟨by kernel_rfl, trivial⟩ rfl rfl rfl) ?_
          refine post_next ?_
          rcases ite_some hF with ⟨hb60, hF⟩ | ⟨hb60, hF⟩
          · refine aw_cond_t rfl hb60 ?_
            refine aw_ret ?_
            refine post_block_ret ?_
            refine post_then_ret ?_
            refine post_then_ret ?_
            refine post_lp_ret ?_
            obtain rfl := Option.some.inj hF
            have hF := elim_stop hK66
            exact post_it (it_len hF) rfl (.inl rfl)
          · refine aw_cond_f rfl hb60 ?_
            refine aw_skip ?_
            refine post_block_normal ?_
            refine post_next ?_
            refine aw_region ?_
            refine reg_cons (guard_no rfl) (op_int (k := .i64) (m := x21) (n := 1) rfl rfl rfl rfl rfl rfl) ?_
            refine reg_cons (guard_no rfl) (op_move rfl rfl rfl rfl) ?_
            refine reg_nil ?_
            refine post_round ?_
            exact rnd_back (ih (x51, y58.fSuper, w_i64 (x21 + 1)) hF) (imp_sub [0] rfl (by decide) rfl rfl ⟨by kernel_rfl, by kernel_rfl, by kernel_rfl, by kernel_rfl, by kernel_rfl, trivial⟩ ⟨by kernel_rfl, trivial⟩ rfl rfl rfl)
    · refine aw_cond_f rfl hb43 ?_
      refine aw_exit ?_
      refine post_then_exit ?_
      refine post_then_exit ?_
      obtain rfl := Option.some.inj hF
      exact post_lp_break _ ⟨_, rfl, rfl⟩ (imp_sub [] rfl (by decide) rfl rfl trivial trivial rfl rfl rfl)
  · rintro _ ⟨x64, rfl, rfl⟩
    have hF := elim_next hK66
    clear hK66
    exact post_it (it_len hF) rfl (.inr rfl)

theorem above_Check_ok {a0 : List GClass} {r : GFault} (hF : above_Check a0 = some r) : Abs.Fn Try.prog 42 [.vs 7 (List.map eGClass a0)] [.p (.agg (eGFault r))] := by
  unfold above_Check at hF
  refine fn_of_body (n := 28) Try.func42 rfl rfl rfl ?_
  intro w O
  refine aw_seq ?_
  refine aw_region ?_
  refine reg_cons (guard_no rfl) (op_alloc 0 rfl (ps := [.int .i64 (({ fErr := 0, fAt := 0 } : GFault).fErr), .int .i64 (({ fErr := 0, fAt := 0 } : GFault).fAt)]) rfl Try_zer_64 (by exact ⟨rfl, rfl, trivial⟩) rfl rfl) ?_
  refine reg_nil ?_
  refine post_imp (s' := ⟨28, [(0, some (.pv (.vs 7 (List.map eGClass a0)))), (2, some (.lp 0 0))], [(0, some (.box 64 [.pv (.int .i64 (({ fErr := 0, fAt := 0 } : GFault).fErr)), .pv (.int .i64 (({ fErr := 0, fAt := 0 } : GFault).fAt))]))], 1, [], [], 0, []⟩) (imp_sub [0] rfl (by decide) rfl rfl ⟨by kernel_rfl, by kernel_rfl, trivial⟩ ⟨by kernel_rfl, trivial⟩ rfl rfl rfl) ?_
  refine post_next ?_
  refine aw_seq ?_
  refine aw_seq ?_
  refine aw_region ?_
  refine reg_cons (guard_no rfl) (op_move rfl rfl rfl rfl) ?_
  refine reg_cons (guard_no rfl) (op_len_vs (n := a0.length) rfl rfl (List.length_map ..) Try_slc_45 rfl rfl) ?_
  refine reg_cons (guard_no rfl) (op_move rfl rfl rfl rfl) ?_
  refine reg_nil ?_
  refine post_imp (s' := ⟨28, [(0, some (.pv (.vs 7 (List.map eGClass a0)))), (2, some (.lp 0 0)), (6, some (.pv (.vs 7 (List.map eGClass a0)))), (7, some (.pv (.int .i64 (a0.length : Int)))), (8, some (.pv (.int .i64 0)))], [(0, some (.box 64 [.pv (.int .i64 (({ fErr := 0, fAt := 0 } : GFault).fErr)), .pv (.int .i64 (({ fErr := 0, fAt := 0 } : GFault).fAt))]))], 1, [], [], 0, []⟩) (imp_sub [0] rfl (by decide) rfl rfl ⟨by kernel_rfl, by kernel_rfl, by kernel_rfl, by kernel_rfl, by kernel_rfl, trivial⟩ ⟨by kernel_rfl, trivial⟩ rfl rfl rfl) ?_
  refine post_next ?_
  obtain ⟨lr76, hF, hK77⟩ := bind_some hF
  refine aw_for ((((a0.length : Int) : Int) - (0)).toNat + 1) (fun s1 => ∃ q, lr76 = .next q ∧ s1 = ⟨28, [(2, some (.lp 0 0))], [(0, some (.box 64 [.pv (.int .i64 (({ fErr := 0, fAt := 0 } : GFault).fErr)), .pv (.int .i64 (({ fErr := 0, fAt := 0 } : GFault).fAt))]))], 1, [], [], 0, []⟩) ?_ ?_
  · refine rnd_loop (α := Int) (fun q => ⟨28, [(0, some (.pv (.vs 7 (List.map eGClass a0)))), (2, some (.lp 0 0)), (6, some (.pv (.vs 7 (List.map eGClass a0)))), (7, some (.pv (.int .i64 (a0.length : Int)))), (8, some (.pv (.int .i64 q)))], [(0, some (.box 64 [.pv (.int .i64 (({ fErr := 0, fAt := 0 } : GFault).fErr)), .pv (.int .i64 (({ fErr := 0, fAt := 0 } : GFault).fAt))]))], 1, [], [], 0, []⟩) (fun k q => above_Check_L1 a0 k q = some lr76) 0 (imp_sub [0] rfl (by decide) rfl rfl ⟨by kernel_rfl, by kernel_rfl, by kernel_rfl, by kernel_rfl, by kernel_rfl, trivial⟩ ⟨by kernel_rfl, trivial⟩ rfl rfl rfl) hF (fun q h => by cases h) ?_
    clear hF
    rintro k x25 hF ih
    refine rnd_succ ?_
    refine aw_seq ?_
    refine aw_region ?_
    refine reg_cons (guard_no rfl) (op_int (k := .i64) (m := x25) (n := (a0.length : Int)) rfl rfl rfl rfl rfl rfl) ?_
    refine reg_nil ?_
    refine post_imp (s' := ⟨28, [(0, some (.pv (.vs 7 (List.map eGClass a0)))), (2, some (.lp 0 0)), (6, some (.pv (.vs 7 (List.map eGClass a0)))), (7, some (.pv (.int .i64 (a0.length : Int)))), (8, some (.pv (.int .i64 x25))), (9, some (.pv (.bool (decide (x25 < (a0.length : Int))))))], [(0, some (.box 64 [.pv (.int .i64 (({ fErr := 0, fAt := 0 } : GFault).fErr)), .pv (.int .i64 (({ fErr := 0, fAt := 0 } : GFault).fAt))]))], 1, [], [], 0, []⟩) (imp_sub [0] rfl (by decide) rfl rfl ⟨by kernel_rfl, by kernel_rfl, by kernel_rfl, by kernel_rfl, by kernel_rfl, by kernel_rfl, trivial⟩ ⟨by kernel_rfl, trivial⟩ rfl rfl rfl) ?_
    refine post_next ?_
    refine aw_seq ?_
    rcases ite_some hF with ⟨hb51, hF⟩ | ⟨hb51, hF⟩
    · refine aw_cond_t rfl hb51 ?_
      refine aw_skip ?_
      refine post_next ?_
      refine aw_seq ?_
      refine aw_block ?_
      refine aw_seq ?_
      refine aw_region ?_
      obtain ⟨y54, h55, hF⟩ := bind_some hF
      refine reg_cons (guard_no rfl) (op_index_vs (k := .i64) rfl rfl rfl (idx_map eGClass h55) Try_slc_45 rfl rfl) ?_
      refine reg_cons (guard_no rfl) (op_load_vp_agg (ps := eGClass y54) rfl rfl rfl rfl Try_agg_94 rfl rfl) ?_
      refine reg_cons (guard_no rfl) (op_alloc 1 rfl (ps := [.str (({ fName := [], fParams := [], fSuper := [], fAbove := [], fFields := [], fMethods := [], fAt := 0 } : GClass).fName), .vs 1 (List.map eS (({ fName := [], fParams := [], fSuper := [], fAbove := [], fFields := [], fMethods := [], fAt := 0 } : GClass).fParams)), .str (({ fName := [], fParams := [], fSuper := [], fAbove := [], fFields := [], fMethods := [], fAt := 0 } : GClass).fSuper), .vs 2 (List.map eGOwner (({ fName := [], fParams := [], fSuper := [], fAbove := [], fFields := [], fMethods := [], fAt := 0 } : GClass).fAbove)), .vs 13 (List.map eGVar (({ fName := [], fParams := [], fSuper := [], fAbove := [], fFields := [], fMethods := [], fAt := 0 } : GClass).fFields)), .vs 17 (List.map eGMethod (({ fName := [], fParams := [], fSuper := [], fAbove := [], fFields := [], fMethods := [], fAt := 0 } : GClass).fMethods)), .int .i64 (({ fName := [], fParams := [], fSuper := [], fAbove := [], fFields := [], fMethods := [], fAt := 0 } : GClass).fAt)]) rfl Try_zer_94 (by exact ⟨rfl, trivial, rfl, trivial, trivial, trivial, rfl, trivial⟩) rfl rfl) ?_
      refine reg_cons (guard_no rfl) (op_store_lp (n := 7) rfl rfl rfl rfl rfl (or_agg Try_agg_94) (by rw [Try_non_94]; rfl) rfl rfl rfl) ?_
      refine reg_nil ?_
      refine post_imp (s' := ⟨28, [(0, some (.pv (.vs 7 (List.map eGClass a0)))), (2, some (.lp 0 0)), (4, some (.lp 1 0)), (6, some (.pv (.vs 7 (List.map eGClass a0)))), (7, some (.pv (.int .i64 (a0.length : Int)))), (8, some (.pv (.int .i64 x25)))], [(0, some (.box 64 [.pv (.int .i64 (({ fErr := 0, fAt := 0 } : GFault).fErr)), .pv (.int .i64 (({ fErr := 0, fAt := 0 } : GFault).fAt))])), (1, some (.box 94 [.pv (.str y54.fName), .pv (.vs 1 (List.map eS y54.fParams)), .pv (.str y54.fSuper), .pv (.vs 2 (List.map eGOwner y54.fAbove)), .pv (.vs 13 (List.map eGVar y54.fFields)), .pv (.vs 17 (List.map eGMethod y54.fMethods)), .pv (.int .i64 y54.fAt)]))], 2, [], [], 0, []⟩) (imp_sub [0, 1] rfl (by decide) rfl rfl ⟨by kernel_rfl, by kernel_rfl, by kernel_rfl, by kernel_rfl, by kernel_rfl, by kernel_rfl, trivial⟩ ⟨by kernel_rfl, by kernel_rfl, trivial⟩ rfl rfl rfl) ?_
      refine post_next ?_
      refine aw_seq ?_
      refine aw_region ?_
      refine reg_cons (guard_no rfl) (op_alloc 2 rfl (ps := [.int .i64 0]) rfl Try_zer_3 (by exact ⟨rfl, trivial⟩) rfl rfl) ?_
      refine reg_cons (guard_no rfl) (op_store_lp (n := 1) rfl rfl rfl rfl rfl (or_one Try_one_3) (by rw [Try_one_3]; rfl) rfl rfl rfl) ?_
      refine reg_nil ?_
      refine post_imp (s' := ⟨28, [(0, some (.pv (.vs 7 (List.map eGClass a0)))), (2, some (.lp 0 0)), (4, some (.lp 1 0)), (5, some (.lp 2 0)), (6, some (.pv (.vs 7 (List.map eGClass a0)))), (7, some (.pv (.int .i64 (a0.length : Int)))), (8, some (.pv (.int .i64 x25)))], [(0, some (.box 64 [.pv (.int .i64 (({ fErr := 0, fAt := 0 } : GFault).fErr)), .pv (.int .i64 (({ fErr := 0, fAt := 0 } : GFault).fAt))])), (1, some (.box 94 [.pv (.str y54.fName), .pv (.vs 1 (List.map eS y54.fParams)), .pv (.str y54.fSuper), .pv (.vs 2 (List.map eGOwner y54.fAbove)), .pv (.vs 13 (List.map eGVar y54.fFields)), .pv (.vs 17 (List.map eGMethod y54.fMethods)), .pv (.int .i64 y54.fAt)])), (2, some (.box 3 [.pv (.int .i64 0)]))], 3, [], [], 0, []⟩) (imp_sub [0, 1, 2] rfl (by decide) rfl rfl ⟨by kernel_rfl, by kernel_rfl, by kernel_rfl, by kernel_rfl, by kernel_rfl, by kernel_rfl, by kernel_rfl, trivial⟩ ⟨by kernel_rfl, by kernel_rfl, by kernel_rfl, trivial⟩ rfl rfl rfl) ?_
      refine post_next ?_
      refine aw_seq ?_
      refine aw_seq ?_
      refine aw_region ?_
      refine reg_cons (guard_no rfl) (op_move rfl rfl rfl rfl) ?_
      refine reg_cons (guard_no rfl) (op_field_lp rfl rfl Try_fld_94_0 rfl rfl) ?_
      refine reg_cons (guard_no rfl) (op_load_lp (v := .pv (.str y54.fName)) rfl rfl rfl rfl Try_one_9 rfl rfl) ?_
      obtain ⟨y58, h59, hF⟩ := bind_some hF
      refine reg_cons (guard_no rfl) (op_call 3 rfl (caps := []) (args := [.vs 7 (List.map eGClass a0), .str y54.fName]) (rs := [.clo 81 [.vp ((eL 7 eGClass) y58.1)] 9 [.str y58.2] []]) rfl rfl rfl Try_cal_67 (above_up_ok h59) rfl rfl rfl) ?_
      refine reg_nil ?_
      refine post_imp (s' := ⟨28, [(0, some (.pv (.vs 7 (List.map eGClass a0)))), (2, some (.lp 0 0)), (4, some (.lp 1 0)), (5, some (.lp 2 0)), (6, some (.pv (.vs 7 (List.map eGClass a0)))), (7, some (.pv (.int .i64 (a0.length : Int)))), (8, some (.pv (.int .i64 x25))), (15, some (.fn 81 [.pv (.vp ((eL 7 eGClass) y58.1)), .lp 3 0]))], [(0, some (.box 64 [.pv (.int .i64 (({ fErr := 0, fAt := 0 } : GFault).fErr)), .pv (.int .i64 (({ fErr := 0, fAt := 0 } : GFault).fAt))])), (1, some (.box 94 [.pv (.str y54.fName), .pv (.vs 1 (List.map eS y54.fParams)), .pv (.str y54.fSuper), .pv (.vs 2 (List.map eGOwner y54.fAbove)), .pv (.vs 13 (List.map eGVar y54.fFields)), .pv (.vs 17 (List.map eGMethod y54.fMethods)), .pv (.int .i64 y54.fAt)])), (2, some (.box 3 [.pv (.int .i64 0)])), (3, some (.box 9 [.pv (.str y58.2)]))], 4, [], [], 0, []⟩) (imp_sub [0, 1, 2, 3] rfl (by decide) rfl rfl ⟨by kernel_rfl, by kernel_rfl, by kernel_rfl, by kernel_rfl, by kernel_rfl, by kernel_rfl, by kernel_rfl, by kernel_rfl, trivial⟩ ⟨by kernel_rfl, by kernel_rfl, by kernel_rfl, by kernel_rfl, trivial⟩ rfl rfl rfl) ?_
      refine post_next ?_
      refine aw_block ?_
      refine aw_imp (s' := ⟨28, [(0, some (.pv (.vs 7 (List.map eGClass a0)))), (2, some (.lp 0 0)), (4, some (.lp 1 0)), (5, some (.lp 2 0)), (6, some (.pv (.vs 7 (List.map eGClass a0)))), (7, some (.pv (.int .i64 (a0.length : Int)))), (8, some (.pv (.int .i64 x25))), (15, some (.fn 81 [.pv (.vp ((eL 7 eGClass) y58.1)), .lp 3 0]))], [(0, some (.box 64 [.pv (.int .i64 (({ fErr := 0, fAt := 0 } : GFault).fErr)), .pv (.int .i64 (({ fErr := 0, fAt := 0 } : GFault).fAt))])), (1, some (.box 94 [.pv (.str y54.fName), .pv (.vs 1 (List.map eS y54.fParams)), .pv (.str y54.fSuper), .pv (.vs 2 (List.map eGOwner y54.fAbove)), .pv (.vs 13 (List.map eGVar y54.fFields)), .pv (.vs 17 (List.map eGMethod y54.fMethods)), .pv (.int .i64 y54.fAt)])), (2, some (.box 3 [.pv (.int .i64 0)])), (3, some (.box 9 [.pv (.str y58.2)]))], 4, [], [], 0, []⟩) (imp_sub [0, 1, 2, 3] rfl (by decide) rfl rfl ⟨by kernel_rfl, by kernel_rfl, by kernel_rfl, by kernel_rfl, by kernel_rfl, by kernel_rfl, by kernel_rfl, by kernel_rfl, trivial⟩ ⟨by kernel_rfl, by kernel_rfl, by kernel_rfl, by kernel_rfl, trivial⟩ rfl rfl rfl) ?_
      obtain ⟨rows66, hR67, hF⟩ := bind_some hF
      obtain ⟨lr68, hL69, hF⟩ := bind_some hF
      refine aw_rangeFunc (X := Int) (Q := Int) (E := Unit) (pre := [.vp ((eL 7 eGClass) y58.1)]) (bx := (some (9, [.str y58.2]))) (post := []) (kt := [0, 2, 4, 5, 6, 7, 8]) (psl := [16]) (some 3) [] (fun z : Int => ([.int .i64 z] : List PV)) rows66 above_Check_B2 0 lr68 hL69 (fun q => ⟨28, [(0, some (.pv (.vs 7 (List.map eGClass a0)))), (2, some (.lp 0 0)), (4, some (.lp 1 0)), (5, some (.lp 2 0)), (6, some (.pv (.vs 7 (List.map eGClass a0)))), (7, some (.pv (.int .i64 (a0.length : Int)))), (8, some (.pv (.int .i64 x25)))], [(0, some (.box 64 [.pv (.int .i64 (({ fErr := 0, fAt := 0 } : GFault).fErr)), .pv (.int .i64 (({ fErr := 0, fAt := 0 } : GFault).fAt))])), (1, some (.box 94 [.pv (.str y54.fName), .pv (.vs 1 (List.map eS y54.fParams)), .pv (.str y54.fSuper), .pv (.vs 2 (List.map eGOwner y54.fAbove)), .pv (.vs 13 (List.map eGVar y54.fFields)), .pv (.vs 17 (List.map eGMethod y54.fMethods)), .pv (.int .i64 y54.fAt)])), (2, some (.box 3 [.pv (.int .i64 q)]))], 4, [], [], 0, []⟩) (fun _ => (.ret, ⟨28, [], [], 0, [], [], 0, []⟩)) ⟨_, _, rfl, rfl, rfl⟩ Try_cal_81 (fun sp => above_up_1_it (itR_up_ok hR67 sp)) (fun _ => rfl) rfl rfl asg_skip (by decide) rfl rfl (fun q => ⟨rfl, rfl, rfl, rfl⟩) (fun z => ⟨rfl, rfl, rfl, rfl⟩) (fun z => rfl) rfl rfl ⟨rfl, rfl, rfl, rfl, rfl, rfl, rfl, trivial⟩ ⟨⟨rfl, rfl, rfl⟩, ⟨rfl, rfl, rfl⟩, ⟨rfl, rfl, rfl⟩, trivial⟩ ?_ ?_ ?_
      · rintro l70 c71 x64 x61 r73 hc72 hF
        refine aw_block ?_
        refine aw_region ?_
        refine reg_cons (guard_no rfl) (op_load_lp (v := .pv (.int .i64 x61)) rfl rfl rfl rfl Try_one_3 rfl rfl) ?_
        refine reg_cons (guard_no rfl) (op_int (k := .i64) (m := x61) (n := 1) rfl rfl rfl rfl rfl rfl) ?_
        refine reg_cons (guard_no rfl) (op_store_lp (n := 1) rfl rfl rfl rfl rfl (or_one Try_one_3) (by rw [Try_one_3]; rfl) rfl rfl rfl) ?_
        refine reg_nil ?_
        refine post_imp (s' := ⟨28, [(0, some (.pv (.vs 7 (List.map eGClass a0)))), (2, some (.lp 0 0)), (4, some (.lp 1 0)), (5, some (.lp 2 0)), (6, some (.pv (.vs 7 (List.map eGClass a0)))), (7, some (.pv (.int .i64 (a0.length : Int)))), (8, some (.pv (.int .i64 x25)))], [(0, some (.box 64 [.pv (.int .i64 (({ fErr := 0, fAt := 0 } : GFault).fErr)), .pv (.int .i64 (({ fErr := 0, fAt := 0 } : GFault).fAt))])), (1, some (.box 94 [.pv (.str y54.fName), .pv (.vs 1 (List.map eS y54.fParams)), .pv (.str y54.fSuper), .pv (.vs 2 (List.map eGOwner y54.fAbove)), .pv (.vs 13 (List.map eGVar y54.fFields)), .pv (.vs 17 (List.map eGMethod y54.fMethods)), .pv (.int .i64 y54.fAt)])), (2, some (.box 3 [.pv (.int .i64 (w_i64 (x61 + 1)))]))], 3, [], [], 0, [0, 2, 4, 5, 6, 7, 8]⟩) (imp_sub [0, 1, 2] rfl (by decide) rfl rfl ⟨by kernel_rfl, by kernel_rfl, by kernel_rfl, by kernel_rfl, by kernel_rfl, by kernel_rfl, by kernel_rfl, trivial⟩ ⟨by kernel_rfl, by kernel_rfl, by kernel_rfl, trivial⟩ rfl rfl rfl) ?_
        refine post_block_normal ?_
        obtain rfl := Option.some.inj hF
        exact post_rnd (w_i64 (x61 + 1)) rfl (imp_sub [0, 1, 2, 1000000] rfl (by decide) rfl rfl ⟨by kernel_rfl, by kernel_rfl, by kernel_rfl, by kernel_rfl, by kernel_rfl, by kernel_rfl, by kernel_rfl, trivial⟩ ⟨by kernel_rfl, by kernel_rfl, by kernel_rfl, trivial⟩ rfl rfl rfl)
      · rintro x61 rfl
        have hF := elim_next hF
        refine post_block_normal ?_
        refine post_next ?_
        refine aw_seq ?_
        refine aw_region ?_
        refine reg_cons (guard_no rfl) (op_load_lp (v := .pv (.int .i64 x61)) rfl rfl rfl rfl Try_one_3 rfl rfl) ?_
        refine reg_cons (guard_no rfl) (op_move rfl rfl rfl rfl) ?_
        refine reg_cons (guard_no rfl) (op_len_vs (n := a0.length) rfl rfl (List.length_map ..) Try_slc_45 rfl rfl) ?_
        refine reg_cons (guard_no rfl) (op_int (k := .i64) (m := x61) (n := (a0.length : Int)) rfl rfl rfl rfl rfl rfl) ?_
        refine reg_nil ?_
        refine post_imp (s' := ⟨28, [(0, some (.pv (.vs 7 (List.map eGClass a0)))), (2, some (.lp 0 0)), (4, some (.lp 1 0)), (6, some (.pv (.vs 7 (List.map eGClass a0)))), (7, some (.pv (.int .i64 (a0.length : Int)))), (8, some (.pv (.int .i64 x25))), (22, some (.pv (.bool (decide (x61 > (a0.length : Int))))))], [(0, some (.box 64 [.pv (.int .i64 (({ fErr := 0, fAt := 0 } : GFault).fErr)), .pv (.int .i64 (({ fErr := 0, fAt := 0 } : GFault).fAt))])), (1, some (.box 94 [.pv (.str y54.fName), .pv (.vs 1 (List.map eS y54.fParams)), .pv (.str y54.fSuper), .pv (.vs 2 (List.map eGOwner y54.fAbove)), .pv (.vs 13 (List.map eGVar y54.fFields)), .pv (.vs 17 (List.map eGMethod y54.fMethods)), .pv (.int .i64 y54.fAt)]))], 2, [], [], 0, []⟩) (imp_sub [0, 1] rfl (by decide) rfl rfl ⟨by kernel_rfl, by kernel_rfl, by kernel_rfl, by kernel_rfl, by kernel_rfl, by kernel_rfl, by kernel_rfl, trivial⟩ ⟨by kernel_rfl, by kernel_rfl, trivial⟩ rfl rfl rfl) ?_
        refine post_next ?_
        rcases ite_some hF with ⟨hb74, hF⟩ | ⟨hb74, hF⟩
        · refine aw_cond_t rfl hb74 ?_
          refine aw_seq ?_
          refine aw_region ?_
          refine reg_cons (guard_no rfl) (op_field_lp rfl rfl Try_fld_94_6 rfl rfl) ?_
          refine reg_cons (guard_no rfl) (op_load_lp (v := .pv (.int .i64 y54.fAt)) rfl rfl rfl rfl Try_one_3 rfl rfl) ?_
          refine reg_cons (guard_no rfl) (op_build (zs := [.int .i64 (({ fErr := 0, fAt := 0 } : GFault).fErr), .int .i64 (({ fErr := 0, fAt := 0 } : GFault).fAt)]) (r := eGFault ({ fErr := 9, fAt := y54.fAt } : GFault)) rfl Try_zer_64 (by exact ⟨rfl, rfl, trivial⟩) Try_plc_64 rfl rfl rfl rfl) ?_
          refine reg_cons (guard_no rfl) (op_store_lp (n := 2) rfl rfl rfl rfl rfl (or_agg Try_agg_64) (by rw [Try_non_64]; rfl) rfl rfl rfl) ?_
          refine reg_nil ?_
          refine post_imp (s' := ⟨28, [(2, some (.lp 0 0))], [(0, some (.box 64 [.pv (.int .i64 (({ fErr := 9, fAt := y54.fAt } : GFault).fErr)), .pv (.int .i64 (({ fErr := 9, fAt := y54.fAt } : GFault).fAt))]))], 1, [], [], 0, []⟩) (imp_sub [0] rfl (by decide) rfl rfl ⟨by kernel_rfl, trivial⟩ ⟨by kernel_rfl, trivial⟩ rfl rfl rfl) ?_
          refine post_next ?_
          refine aw_ret ?_
          refine post_block_ret ?_
          refine post_then_ret ?_
          refine post_then_ret ?_
          refine post_lp_ret ?_
          obtain rfl := Option.some.inj hF
          have hF := elim_stop hK77
          refine post_then_ret ?_
          obtain rfl := Option.some.inj hF
          exact post_ret rfl rfl (.cons _ _ _ _ _ (.agg _ _ _ _ _ 2 _ _ rfl rfl Try_agg_64 rfl rfl rfl) (.p _) .nil) (.inl rfl)
        · refine aw_cond_f rfl hb74 ?_
          refine aw_skip ?_
          refine post_block_normal ?_
          refine post_next ?_
          refine aw_region ?_
          refine reg_cons (guard_no rfl) (op_int (k := .i64) (m := x25) (n := 1) rfl rfl rfl rfl rfl rfl) ?_
          refine reg_cons (guard_no rfl) (op_move rfl rfl rfl rfl) ?_
          refine reg_nil ?_
          refine post_round ?_
          exact rnd_back (ih (w_i64 (x25 + 1)) hF) (imp_sub [0] rfl (by decide) rfl rfl ⟨by kernel_rfl, by kernel_rfl, by kernel_rfl, by kernel_rfl, by kernel_rfl, trivial⟩ ⟨by kernel_rfl, trivial⟩ rfl rfl rfl)
      · rintro ⟨⟩ rfl
        have hF := elim_stop hF
        cases hF
    · refine aw_cond_f rfl hb51 ?_
      refine aw_exit ?_
      refine post_then_exit ?_
      refine post_then_exit ?_
      obtain rfl := Option.some.inj hF
      exact post_lp_break _ ⟨_, rfl, rfl⟩ (imp_sub [0] rfl (by decide) rfl rfl ⟨by kernel_rfl, trivial⟩ ⟨by kernel_rfl, trivial⟩ rfl rfl rfl)
  · rintro _ ⟨⟨⟩, rfl, rfl⟩
    have hF := elim_next hK77
    clear hK77
    refine post_next ?_
    refine aw_seq ?_
    refine aw_region ?_
    refine reg_cons (guard_no rfl) (op_build (zs := [.int .i64 (({ fErr := 0, fAt := 0 } : GFault).fErr), .int .i64 (({ fErr := 0, fAt := 0 } : GFault).fAt)]) (r := eGFault ({ fErr := 0, fAt := 0 } : GFault)) rfl Try_zer_64 (by exact ⟨rfl, rfl, trivial⟩) Try_plc_64 rfl rfl rfl rfl) ?_
    refine reg_cons (guard_no rfl) (op_store_lp (n := 2) rfl rfl rfl rfl rfl (or_agg Try_agg_64) (by rw [Try_non_64]; rfl) rfl rfl rfl) ?_
    refine reg_nil ?_
    refine post_imp (s' := ⟨28, [(2, some (.lp 0 0))], [(0, some (.box 64 [.pv (.int .i64 (({ fErr := 0, fAt := 0 } : GFault).fErr)), .pv (.int .i64 (({ fErr := 0, fAt := 0 } : GFault).fAt))]))], 1, [], [], 0, []⟩) (imp_sub [0] rfl (by decide) rfl rfl ⟨by kernel_rfl, trivial⟩ ⟨by kernel_rfl, trivial⟩ rfl rfl rfl) ?_
    refine post_next ?_
    refine aw_ret ?_
    obtain rfl := Option.some.inj hF
    exact post_ret rfl rfl (.cons _ _ _ _ _ (.agg _ _ _ _ _ 2 _ _ rfl rfl Try_agg_64 rfl rfl rfl) (.p _) .nil) (.inl rfl)
theorem slices_Index_int_ok {a0 : List Int} {a1 : Int} {r : Int} (hF : slices_Index_int a0 a1 = some r) : Abs.Fn Try.prog 82 [.vs 1 (List.map eI a0), .int .i64 a1] [.p (.int .i64 r)] := by
  unfold slices_Index_int at hF
  refine fn_of_body (n := 19) Try.func82 rfl rfl rfl ?_
  intro w O
  refine aw_seq ?_
  refine aw_region ?_
  refine reg_cons (guard_no rfl) (op_assign rfl rfl rfl rfl) ?_
  refine reg_nil ?_
  refine post_imp (s' := ⟨19, [(0, some (.pv (.vs 1 (List.map eI a0)))), (1, some (.pv (.int .i64 a1)))], [], 0, [], [], 0, []⟩) (imp_sub [] rfl (by decide) rfl rfl ⟨by kernel_rfl, by kernel_rfl, trivial⟩ trivial rfl rfl rfl) ?_
  refine post_next ?_
  refine aw_seq ?_
  refine aw_seq ?_
  refine aw_region ?_
  refine reg_cons (guard_no rfl) (op_move rfl rfl rfl rfl) ?_
  refine reg_cons (guard_no rfl) (op_len_vs (n := a0.length) rfl rfl (List.length_map ..) Try_slc_42 rfl rfl) ?_
  refine reg_cons (guard_no rfl) (op_move rfl rfl rfl rfl) ?_
  refine reg_nil ?_
  refine post_imp (s' := ⟨19, [(0, some (.pv (.vs 1 (List.map eI a0)))), (1, some (.pv (.int .i64 a1))), (7, some (.pv (.int .i64 (a0.length : Int)))), (8, some (.pv (.int .i64 0)))], [], 0, [], [], 0, []⟩) (imp_sub [] rfl (by decide) rfl rfl ⟨by kernel_rfl, by kernel_rfl, by kernel_rfl, by kernel_rfl, trivial⟩ trivial rfl rfl rfl) ?_
  refine post_next ?_
  obtain ⟨lr22, hF, hK23⟩ := bind_some hF
  refine aw_for ((((a0.length : Int) : Int) - (0)).toNat + 1) (fun s1 => ∃ q, lr22 = .next q ∧ s1 = ⟨19, [], [], 0, [], [], 0, []⟩) ?_ ?_
  · refine rnd_loop (α := Int) (fun q => ⟨19, [(0, some (.pv (.vs 1 (List.map eI a0)))), (1, some (.pv (.int .i64 a1))), (7, some (.pv (.int .i64 (a0.length : Int)))), (8, some (.pv (.int .i64 q)))], [], 0, [], [], 0, []⟩) (fun k q => slices_Index_int_L1 a0 a1 k q = some lr22) 0 (imp_sub [] rfl (by decide) rfl rfl ⟨by kernel_rfl, by kernel_rfl, by kernel_rfl, by kernel_rfl, trivial⟩ trivial rfl rfl rfl) hF (fun q h => by cases h) ?_
    clear hF
    rintro k x7 hF ih
    refine rnd_succ ?_
    refine aw_seq ?_
    refine aw_region ?_
    refine reg_cons (guard_no rfl) (op_int (k := .i64) (m := x7) (n := (a0.length : Int)) rfl rfl rfl rfl rfl rfl) ?_
    refine reg_nil ?_
    refine post_imp (s' := ⟨19, [(0, some (.pv (.vs 1 (List.map eI a0)))), (1, some (.pv (.int .i64 a1))), (7, some (.pv (.int .i64 (a0.length : Int)))), (8, some (.pv (.int .i64 x7))), (9, some (.pv (.bool (decide (x7 < (a0.length : Int))))))], [], 0, [], [], 0, []⟩) (imp_sub [] rfl (by decide) rfl rfl ⟨by kernel_rfl, by kernel_rfl, by kernel_rfl, by kernel_rfl, by kernel_rfl, trivial⟩ trivial rfl rfl rfl) ?_
    refine post_next ?_
    refine aw_seq ?_
    rcases ite_some hF with ⟨hb15, hF⟩ | ⟨hb15, hF⟩
    · refine aw_cond_t rfl hb15 ?_
      refine aw_skip ?_
      refine post_next ?_
      refine aw_seq ?_
      refine aw_block ?_
      refine aw_seq ?_
      refine aw_region ?_
      refine reg_cons (guard_no rfl) (op_move rfl rfl rfl rfl) ?_
      refine reg_cons (guard_no rfl) (op_assign rfl rfl rfl rfl) ?_
      refine reg_nil ?_
      refine post_imp (s' := ⟨19, [(0, some (.pv (.vs 1 (List.map eI a0)))), (1, some (.pv (.int .i64 a1))), (5, some (.pv (.int .i64 x7))), (7, some (.pv (.int .i64 (a0.length : Int)))), (8, some (.pv (.int .i64 x7)))], [], 0, [], [], 0, []⟩) (imp_sub [] rfl (by decide) rfl rfl ⟨by kernel_rfl, by kernel_rfl, by kernel_rfl, by kernel_rfl, by kernel_rfl, trivial⟩ trivial rfl rfl rfl) ?_
      refine post_next ?_
      refine aw_seq ?_
      refine aw_region ?_
      refine reg_cons (guard_no rfl) (op_move rfl rfl rfl rfl) ?_
      refine reg_cons (guard_no rfl) (op_move rfl rfl rfl rfl) ?_
      refine reg_cons (guard_no rfl) (op_move rfl rfl rfl rfl) ?_
      obtain ⟨y18, h19, hF⟩ := bind_some hF
      refine reg_cons (guard_no rfl) (op_index_vs (k := .i64) rfl rfl rfl (idx_map eI h19) Try_slc_42 rfl rfl) ?_
      refine reg_cons (guard_no rfl) (op_load_vp (p := .int .i64 y18) rfl rfl rfl Try_one_3 rfl rfl) ?_
      refine reg_cons (guard_no rfl) (op_int (k := .i64) (m := a1) (n := y18) rfl rfl rfl rfl rfl rfl) ?_
      refine reg_nil ?_
      refine post_imp (s' := ⟨19, [(0, some (.pv (.vs 1 (List.map eI a0)))), (1, some (.pv (.int .i64 a1))), (5, some (.pv (.int .i64 x7))), (7, some (.pv (.int .i64 (a0.length : Int)))), (8, some (.pv (.int .i64 x7))), (16, some (.pv (.bool (a1 == y18))))], [], 0, [], [], 0, []⟩) (imp_sub [] rfl (by decide) rfl rfl ⟨by kernel_rfl, by kernel_rfl, by kernel_rfl, by kernel_rfl, by kernel_rfl, by kernel_rfl, trivial⟩ trivial rfl rfl rfl) ?_
      refine post_next ?_
      rcases ite_some hF with ⟨hb20, hF⟩ | ⟨hb20, hF⟩
      · refine aw_cond_t rfl hb20 ?_
        refine aw_seq ?_
        refine aw_region ?_
        refine reg_cons (guard_no rfl) (op_move rfl rfl rfl rfl) ?_
        refine reg_cons (guard_no rfl) (op_assign rfl rfl rfl rfl) ?_
        refine reg_nil ?_
        refine post_imp (s' := ⟨19, [(4, some (.pv (.int .i64 x7)))], [], 0, [], [], 0, []⟩) (imp_sub [] rfl (by decide) rfl rfl ⟨by kernel_rfl, trivial⟩ trivial rfl rfl rfl) ?_
        refine post_next ?_
        refine aw_ret ?_
        refine post_block_ret ?_
        refine post_then_ret ?_
        refine post_then_ret ?_
        refine post_lp_ret ?_
        obtain rfl := Option.some.inj hF
        have hF := elim_stop hK23
        refine post_then_ret ?_
        obtain rfl := Option.some.inj hF
        exact post_ret rfl rfl (.cons _ _ _ _ _ (.tmp _ _ rfl) (.p _) .nil) (.inl rfl)
      · refine aw_cond_f rfl hb20 ?_
        refine aw_skip ?_
        refine post_block_normal ?_
        refine post_next ?_
        refine aw_region ?_
        refine reg_cons (guard_no rfl) (op_int (k := .i64) (m := x7) (n := 1) rfl rfl rfl rfl rfl rfl) ?_
        refine reg_cons (guard_no rfl) (op_move rfl rfl rfl rfl) ?_
        refine reg_nil ?_
        refine post_round ?_
        exact rnd_back (ih (w_i64 (x7 + 1)) hF) (imp_sub [] rfl (by decide) rfl rfl ⟨by kernel_rfl, by kernel_rfl, by kernel_rfl, by kernel_rfl, trivial⟩ trivial rfl rfl rfl)
    · refine aw_cond_f rfl hb15 ?_
      refine aw_exit ?_
      refine post_then_exit ?_
      refine post_then_exit ?_
      obtain rfl := Option.some.inj hF
      exact post_lp_break _ ⟨_, rfl, rfl⟩ (imp_sub [] rfl (by decide) rfl rfl trivial trivial rfl rfl rfl)
  · rintro _ ⟨⟨⟩, rfl, rfl⟩
    have hF := elim_next hK23
    clear hK23
    refine post_next ?_
    refine aw_seq ?_
    refine aw_region ?_
    refine reg_cons (guard_no rfl) (op_assign rfl rfl rfl rfl) ?_
    refine reg_nil ?_
    refine post_imp (s' := ⟨19, [(4, some (.pv (.int .i64 (-1))))], [], 0, [], [], 0, []⟩) (imp_sub [] rfl (by decide) rfl rfl ⟨by kernel_rfl, trivial⟩ trivial rfl rfl rfl) ?_
    refine post_next ?_
    refine aw_ret ?_
    obtain rfl := Option.some.inj hF
    exact post_ret rfl rfl (.cons _ _ _ _ _ (.tmp _ _ rfl) (.p _) .nil) (.inl rfl)
theorem slices_Contains_int_ok {a0 : List Int} {a1 : Int} {r : Bool} (hF : slices_Contains_int a0 a1 = some r) : Abs.Fn Try.prog 68 [.vs 1 (List.map eI a0), .int .i64 a1] [.p (.bool r)] := by
  unfold slices_Contains_int at hF
  refine fn_of_body (n := 9) Try.func68 rfl rfl rfl ?_
  intro w O
  refine aw_seq ?_
  refine aw_region ?_
  refine reg_cons (guard_no rfl) (op_assign rfl rfl rfl rfl) ?_
  refine reg_nil ?_
  refine post_imp (s' := ⟨9, [(0, some (.pv (.vs 1 (List.map eI a0)))), (1, some (.pv (.int .i64 a1)))], [], 0, [], [], 0, []⟩) (imp_sub [] rfl (by decide) rfl rfl ⟨by kernel_rfl, by kernel_rfl, trivial⟩ trivial rfl rfl rfl) ?_
  refine post_next ?_
  refine aw_seq ?_
  refine aw_region ?_
  refine reg_cons (guard_no rfl) (op_move rfl rfl rfl rfl) ?_
  refine reg_cons (guard_no rfl) (op_move rfl rfl rfl rfl) ?_
  obtain ⟨y1, h2, hF⟩ := bind_some hF
  refine reg_cons (guard_no rfl) (op_call 0 rfl (caps := []) (args := [.vs 1 (List.map eI a0), .int .i64 a1]) (rs := [.p (.int .i64 y1)]) rfl rfl rfl Try_cal_82 (slices_Index_int_ok h2) rfl rfl rfl) ?_
  refine reg_cons (guard_no rfl) (op_int (k := .i64) (m := y1) (n := 0) rfl rfl rfl rfl rfl rfl) ?_
  refine reg_cons (guard_no rfl) (op_assign rfl rfl rfl rfl) ?_
  refine reg_nil ?_
  refine post_imp (s' := ⟨9, [(4, some (.pv (.bool (decide (y1 ≥ 0)))))], [], 0, [], [], 0, []⟩) (imp_sub [] rfl (by decide) rfl rfl ⟨by kernel_rfl, trivial⟩ trivial rfl rfl rfl) ?_
  refine post_next ?_
  refine aw_ret ?_
  obtain rfl := Option.some.inj hF
  exact post_ret rfl rfl (.cons _ _ _ _ _ (.tmp _ _ rfl) (.p _) .nil) (.inl rfl)
theorem above_Chain_ok {a0 : List GClass} {a1 : List UInt8} {r : (List Int)} (hF : above_Chain a0 a1 = some r) : Abs.Fn Try.prog 40 [.vs 7 (List.map eGClass a0), .str a1] [.own 3 1 (List.map eI r)] := by
  unfold above_Chain at hF
  refine fn_of_body (n := 19) Try.func40 rfl rfl rfl ?_
  intro w O
  refine aw_seq ?_
  refine aw_region ?_
  refine reg_cons (guard_no rfl) (op_assign rfl rfl rfl rfl) ?_
  refine reg_nil ?_
  refine post_imp (s' := ⟨19, [(0, some (.pv (.vs 7 (List.map eGClass a0)))), (1, some (.pv (.str a1)))], [], 0, [], [], 0, []⟩) (imp_sub [] rfl (by decide) rfl rfl ⟨by kernel_rfl, by kernel_rfl, trivial⟩ trivial rfl rfl rfl) ?_
  refine post_next ?_
  refine aw_seq ?_
  refine aw_region ?_
  refine reg_cons (guard_no rfl) (op_alloc 0 rfl (ps := [.nils]) rfl Try_zer_42 (by exact ⟨rfl, trivial⟩) rfl rfl) ?_
  refine reg_imp (imp_nil_box 0 0 42 3 1 1 rfl rfl rfl) ?_
  refine reg_nil ?_
  refine post_imp (s' := ⟨19, [(0, some (.pv (.vs 7 (List.map eGClass a0)))), (1, some (.pv (.str a1))), (5, some (.lp 0 0))], [(0, some (.box 42 [.ls 1])), (1, some (.row 3 1 (List.map eI [])))], 2, [], [], 0, []⟩) (imp_sub [0, 1] rfl (by decide) rfl rfl ⟨by kernel_rfl, by kernel_rfl, by kernel_rfl, trivial⟩ ⟨by kernel_rfl, by kernel_rfl, trivial⟩ rfl rfl rfl) ?_
  refine post_next ?_
  refine aw_seq ?_
  refine aw_seq ?_
  refine aw_region ?_
  refine reg_cons (guard_no rfl) (op_move rfl rfl rfl rfl) ?_
  refine reg_cons (guard_no rfl) (op_move rfl rfl rfl rfl) ?_
  obtain ⟨y3, h4, hF⟩ := bind_some hF
  refine reg_cons (guard_no rfl) (op_call 2 rfl (caps := []) (args := [.vs 7 (List.map eGClass a0), .str a1]) (rs := [.clo 81 [.vp ((eL 7 eGClass) y3.1)] 9 [.str y3.2] []]) rfl rfl rfl Try_cal_67 (above_up_ok h4) rfl rfl rfl) ?_
  refine reg_nil ?_
  refine post_imp (s' := ⟨19, [(5, some (.lp 0 0)), (9, some (.fn 81 [.pv (.vp ((eL 7 eGClass) y3.1)), .lp 2 0]))], [(0, some (.box 42 [.ls 1])), (1, some (.row 3 1 (List.map eI []))), (2, some (.box 9 [.pv (.str y3.2)]))], 3, [], [], 0, []⟩) (imp_sub [0, 1, 2] rfl (by decide) rfl rfl ⟨by kernel_rfl, by kernel_rfl, trivial⟩ ⟨by kernel_rfl, by kernel_rfl, by kernel_rfl, trivial⟩ rfl rfl rfl) ?_
  refine post_next ?_
  refine aw_block ?_
  refine aw_imp (s' := ⟨19, [(5, some (.lp 0 0)), (9, some (.fn 81 [.pv (.vp ((eL 7 eGClass) y3.1)), .lp 2 0]))], [(0, some (.box 42 [.ls 1])), (1, some (.row 3 1 (List.map eI []))), (2, some (.box 9 [.pv (.str y3.2)]))], 3, [], [], 0, []⟩) (imp_sub [0, 1, 2] rfl (by decide) rfl rfl ⟨by kernel_rfl, by kernel_rfl, trivial⟩ ⟨by kernel_rfl, by kernel_rfl, by kernel_rfl, trivial⟩ rfl rfl rfl) ?_
  obtain ⟨rows33, hR34, hF⟩ := bind_some hF
  obtain ⟨lr35, hL36, hF⟩ := bind_some hF
  refine aw_rangeFunc (X := Int) (Q := (List Int)) (E := (List Int)) (pre := [.vp ((eL 7 eGClass) y3.1)]) (bx := (some (9, [.str y3.2]))) (post := []) (kt := [5]) (psl := [10]) (some 2) [(6, 0)] (fun z : Int => ([.int .i64 z] : List PV)) rows33 above_Chain_B1 [] lr35 hL36 (fun q => ⟨19, [(5, some (.lp 0 0))], [(0, some (.box 42 [.ls 1])), (1, some (.row 3 1 (List.map eI q)))], 3, [], [], 0, []⟩) (fun z => ((.exit 0), ⟨19, [(5, some (.lp 0 0))], [(0, some (.box 42 [.ls 1])), (1, some (.row 3 1 (List.map eI z)))], 2, [], [], 0, []⟩)) ⟨_, _, rfl, rfl, rfl⟩ Try_cal_81 (fun sp => above_up_1_it (itR_up_ok hR34 sp)) (fun _ => rfl) rfl rfl (asg_region ⟨⟨rfl, rfl, _, rfl, rfl, rfl⟩, trivial⟩) (by decide) rfl rfl (fun q => ⟨rfl, rfl, rfl, rfl⟩) (fun z => ⟨rfl, rfl, rfl, rfl⟩) (fun z => rfl) rfl rfl ⟨rfl, trivial⟩ ⟨⟨rfl, rfl, rfl⟩, ⟨rfl, rfl, rfl⟩, trivial⟩ ?_ ?_ ?_
  · rintro l37 c38 x23 x13 r40 hc39 hF
    refine aw_block ?_
    refine aw_seq ?_
    refine aw_seq ?_
    refine aw_region ?_
    refine reg_cons (guard_no rfl) (op_load_lp (v := .ls 1) rfl rfl rfl rfl Try_one_42 rfl rfl) ?_
    refine reg_cons (guard_no rfl) (op_move rfl rfl rfl rfl) ?_
    obtain ⟨y26, h27, hF⟩ := bind_some hF
    refine reg_cons (guard_no rfl) (op_callB 3 rfl (caps := []) (args := [.vs 1 (List.map eI x13), .int .i64 x23]) [(1, some (.row 3 1 (List.map eI x13)))] rfl rfl rfl (FzH.spec ⟨rfl, trivial⟩) rfl rfl Try_cal_68 (slices_Contains_int_ok h27) rfl rfl rfl) ?_
    refine reg_nil ?_
    refine post_imp (s' := ⟨19, [(5, some (.lp 0 0)), (6, some (.pv (.int .i64 x23))), (13, some (.pv (.bool y26)))], [(0, some (.box 42 [.ls 1])), (1, some (.row 3 1 (List.map eI x13)))], 2, [], [], 0, [5]⟩) (imp_sub [0, 1] rfl (by decide) rfl rfl ⟨by kernel_rfl, by kernel_rfl, by kernel_rfl, trivial⟩ ⟨by kernel_rfl, by kernel_rfl, trivial⟩ rfl rfl rfl) ?_
    refine post_next ?_
    rcases ite_some hF with ⟨hb28, hF⟩ | ⟨hb28, hF⟩
    · refine aw_cond_t rfl hb28 ?_
      refine aw_exit ?_
      refine post_then_exit ?_
      refine post_block_other rfl ?_
      obtain rfl := Option.some.inj hF
      exact post_rnd_exit x13 rfl rfl (imp_sub [0, 1] rfl (by decide) rfl rfl ⟨by kernel_rfl, trivial⟩ ⟨by kernel_rfl, by kernel_rfl, trivial⟩ rfl rfl rfl)
    · refine aw_cond_f rfl hb28 ?_
      refine aw_skip ?_
      refine post_next ?_
      refine aw_region ?_
      refine reg_cons (guard_no rfl) (op_load_lp (v := .ls 1) rfl rfl rfl rfl Try_one_42 rfl rfl) ?_
      refine reg_cons (guard_no rfl) (op_move rfl rfl rfl rfl) ?_
      refine reg_cons (guard_no rfl) (op_lit (rows := List.map eI ([x23] : List Int)) (zs := [.int .i64 0]) rfl rfl Try_slc_42 Try_zer_3 (by exact ⟨rfl, trivial⟩) rfl rfl rfl rfl rfl rfl rfl rfl) ?_
      obtain ⟨u29, h30, hF⟩ := bind_some hF
      refine reg_cons (guard_no rfl) (op_append 2 rfl rfl rfl rfl rfl Try_slc_42 Try_elm_3 Try_zer_3 rfl rfl rfl (room_map (f := eI) (g := eI) h30) (List.map_append (f := eI) (l₁ := x13) (l₂ := [x23])).symm rfl rfl) ?_
      refine reg_cons (guard_no rfl) (op_store_lp (n := 1) rfl rfl rfl rfl rfl (or_one Try_one_42) (by rw [Try_one_42]; rfl) rfl rfl rfl) ?_
      refine reg_nil ?_
      refine post_imp (s' := ⟨19, [(5, some (.lp 0 0))], [(0, some (.box 42 [.ls 1])), (1, some (.row 3 1 (List.map eI (x13 ++ [x23]))))], 2, [], [], 0, [5]⟩) (imp_sub [0, 2] rfl (by decide) rfl rfl ⟨by kernel_rfl, trivial⟩ ⟨by kernel_rfl, by kernel_rfl, trivial⟩ rfl rfl rfl) ?_
      refine post_block_normal ?_
      obtain rfl := Option.some.inj hF
      exact post_rnd (x13 ++ [x23]) rfl (imp_sub [0, 1, 1000000] rfl (by decide) rfl rfl ⟨by kernel_rfl, trivial⟩ ⟨by kernel_rfl, by kernel_rfl, trivial⟩ rfl rfl rfl)
  · rintro x13 rfl
    have hF := elim_next hF
    refine post_block_normal ?_
    refine post_next ?_
    refine aw_seq ?_
    refine aw_region ?_
    refine reg_cons (guard_no rfl) (op_load_lp (v := .ls 1) rfl rfl rfl rfl Try_one_42 rfl rfl) ?_
    refine reg_cons (guard_no rfl) (op_assign rfl rfl rfl rfl) ?_
    refine reg_nil ?_
    refine post_imp (s' := ⟨19, [(4, some (.ls 0))], [(0, some (.row 3 1 (List.map eI x13)))], 1, [], [], 0, []⟩) (imp_sub [1] rfl (by decide) rfl rfl ⟨by kernel_rfl, trivial⟩ ⟨by kernel_rfl, trivial⟩ rfl rfl rfl) ?_
    refine post_next ?_
    refine aw_ret ?_
    obtain rfl := Option.some.inj hF
    exact post_ret rfl rfl (.cons _ _ _ _ _ (.tmp _ _ rfl) (.own _ _ _ _ rfl nolent3) .nil) (.inl rfl)
  · rintro x32 rfl
    have hF := elim_stop hF
    show Post _ _ (.exit 0) _
    refine post_block_exit ?_
    refine post_next ?_
    refine aw_seq ?_
    refine aw_region ?_
    refine reg_cons (guard_no rfl) (op_load_lp (v := .ls 1) rfl rfl rfl rfl Try_one_42 rfl rfl) ?_
    refine reg_cons (guard_no rfl) (op_assign rfl rfl rfl rfl) ?_
    refine reg_nil ?_
    refine post_imp (s' := ⟨19, [(4, some (.ls 0))], [(0, some (.row 3 1 (List.map eI x32)))], 1, [], [], 0, []⟩) (imp_sub [1] rfl (by decide) rfl rfl ⟨by kernel_rfl, trivial⟩ ⟨by kernel_rfl, trivial⟩ rfl rfl rfl) ?_
    refine post_next ?_
    refine aw_ret ?_
    obtain rfl := Option.some.inj hF
    exact post_ret rfl rfl (.cons _ _ _ _ _ (.tmp _ _ rfl) (.own _ _ _ _ rfl nolent3) .nil) (.inl rfl)
theorem law14_awake_ok  {r : Bool} (hF : law14_awake = some r) : Abs.Fn Try.prog 38 [] [.p (.bool r)] := by
  unfold law14_awake at hF
  refine fn_of_body (n := 22) Try.func38 rfl rfl rfl ?_
  intro w O
  refine aw_seq ?_
  refine aw_region ?_
  refine reg_cons (guard_no rfl) (op_assign rfl rfl rfl rfl) ?_
  refine reg_nil ?_
  refine post_imp (s' := ⟨22, [], [], 0, [], [], 0, []⟩) (imp_sub [] rfl (by decide) rfl rfl trivial trivial rfl rfl rfl) ?_
  refine post_next ?_
  refine aw_seq ?_
  refine aw_region ?_
  refine reg_cons (guard_no rfl) (op_build (zs := [.str (({ fName := [], fParams := [], fSuper := [], fAbove := [], fFields := [], fMethods := [], fAt := 0 } : GClass).fName), .vs 1 (List.map eS (({ fName := [], fParams := [], fSuper := [], fAbove := [], fFields := [], fMethods := [], fAt := 0 } : GClass).fParams)), .str (({ fName := [], fParams := [], fSuper := [], fAbove := [], fFields := [], fMethods := [], fAt := 0 } : GClass).fSuper), .vs 2 (List.map eGOwner (({ fName := [], fParams := [], fSuper := [], fAbove := [], fFields := [], fMethods := [], fAt := 0 } : GClass).fAbove)), .vs 13 (List.map eGVar (({ fName := [], fParams := [], fSuper := [], fAbove := [], fFields := [], fMethods := [], fAt := 0 } : GClass).fFields)), .vs 17 (List.map eGMethod (({ fName := [], fParams := [], fSuper := [], fAbove := [], fFields := [], fMethods := [], fAt := 0 } : GClass).fMethods)), .int .i64 (({ fName := [], fParams := [], fSuper := [], fAbove := [], fFields := [], fMethods := [], fAt := 0 } : GClass).fAt)]) (r := eGClass ({ fName := [65], fParams := [], fSuper := [66], fAbove := [], fFields := [], fMethods := [], fAt := 0 } : GClass)) rfl Try_zer_94 (by exact ⟨rfl, trivial, rfl, trivial, trivial, trivial, rfl, trivial⟩) Try_plc_94 rfl rfl rfl rfl) ?_
  refine reg_cons (guard_no rfl) (op_build (zs := [.str (({ fName := [], fParams := [], fSuper := [], fAbove := [], fFields := [], fMethods := [], fAt := 0 } : GClass).fName), .vs 1 (List.map eS (({ fName := [], fParams := [], fSuper := [], fAbove := [], fFields := [], fMethods := [], fAt := 0 } : GClass).fParams)), .str (({ fName := [], fParams := [], fSuper := [], fAbove := [], fFields := [], fMethods := [], fAt := 0 } : GClass).fSuper), .vs 2 (List.map eGOwner (({ fName := [], fParams := [], fSuper := [], fAbove := [], fFields := [], fMethods := [], fAt := 0 } : GClass).fAbove)), .vs 13 (List.map eGVar (({ fName := [], fParams := [], fSuper := [], fAbove := [], fFields := [], fMethods := [], fAt := 0 } : GClass).fFields)), .vs 17 (List.map eGMethod (({ fName := [], fParams := [], fSuper := [], fAbove := [], fFields := [], fMethods := [], fAt := 0 } : GClass).fMethods)), .int .i64 (({ fName := [], fParams := [], fSuper := [], fAbove := [], fFields := [], fMethods := [], fAt := 0 } : GClass).fAt)]) (r := eGClass ({ fName := [66], fParams := [], fSuper := [65], fAbove := [], fFields := [], fMethods := [], fAt := 9 } : GClass)) rfl Try_zer_94 (by exact ⟨rfl, trivial, rfl, trivial, trivial, trivial, rfl, trivial⟩) Try_plc_94 rfl rfl rfl rfl) ?_
  refine reg_cons (guard_no rfl) (op_lit (rows := List.map eGClass ([({ fName := [65], fParams := [], fSuper := [66], fAbove := [], fFields := [], fMethods := [], fAt := 0 } : GClass), ({ fName := [66], fParams := [], fSuper := [65], fAbove := [], fFields := [], fMethods := [], fAt := 9 } : GClass)] : List GClass)) (zs := [.str (({ fName := [], fParams := [], fSuper := [], fAbove := [], fFields := [], fMethods := [], fAt := 0 } : GClass).fName), .vs 1 (List.map eS (({ fName := [], fParams := [], fSuper := [], fAbove := [], fFields := [], fMethods := [], fAt := 0 } : GClass).fParams)), .str (({ fName := [], fParams := [], fSuper := [], fAbove := [], fFields := [], fMethods := [], fAt := 0 } : GClass).fSuper), .vs 2 (List.map eGOwner (({ fName := [], fParams := [], fSuper := [], fAbove := [], fFields := [], fMethods := [], fAt := 0 } : GClass).fAbove)), .vs 13 (List.map eGVar (({ fName := [], fParams := [], fSuper := [], fAbove := [], fFields := [], fMethods := [], fAt := 0 } : GClass).fFields)), .vs 17 (List.map eGMethod (({ fName := [], fParams := [], fSuper := [], fAbove := [], fFields := [], fMethods := [], fAt := 0 } : GClass).fMethods)), .int .i64 (({ fName := [], fParams := [], fSuper := [], fAbove := [], fFields := [], fMethods := [], fAt := 0 } : GClass).fAt)]) rfl rfl Try_slc_45 Try_zer_94 (by exact ⟨rfl, trivial, rfl, trivial, trivial, trivial, rfl, trivial⟩) rfl rfl rfl rfl rfl rfl rfl rfl) ?_
  refine reg_cons (guard_no rfl) (op_assign rfl rfl rfl rfl) ?_
  refine reg_nil ?_
  refine post_imp (s' := ⟨22, [(1, some (.pv (.vs 7 (List.map eGClass [({ fName := [65], fParams := [], fSuper := [66], fAbove := [], fFields := [], fMethods := [], fAt := 0 } : GClass), ({ fName := [66], fParams := [], fSuper := [65], fAbove := [], fFields := [], fMethods := [], fAt := 9 } : GClass)]))))], [], 0, [], [], 0, []⟩) (imp_sub [] rfl (by decide) rfl rfl ⟨by kernel_rfl, trivial⟩ trivial rfl rfl rfl) ?_
  refine post_next ?_
  refine aw_seq ?_
  refine aw_region ?_
  refine reg_cons (guard_no rfl) (op_move rfl rfl rfl rfl) ?_
  obtain ⟨y1, h2, hF⟩ := bind_some hF
  refine reg_cons (guard_no rfl) (op_call 0 rfl (caps := []) (args := [.vs 7 (List.map eGClass [({ fName := [65], fParams := [], fSuper := [66], fAbove := [], fFields := [], fMethods := [], fAt := 0 } : GClass), ({ fName := [66], fParams := [], fSuper := [65], fAbove := [], fFields := [], fMethods := [], fAt := 9 } : GClass)])]) (rs := [.p (.agg (eGFault y1))]) rfl rfl rfl Try_cal_42 (above_Check_ok h2) rfl rfl rfl) ?_
  refine reg_cons (guard_no rfl) (op_build (zs := [.int .i64 (({ fErr := 0, fAt := 0 } : GFault).fErr), .int .i64 (({ fErr := 0, fAt := 0 } : GFault).fAt)]) (r := eGFault ({ fErr := 9, fAt := 0 } : GFault)) rfl Try_zer_64 (by exact ⟨rfl, rfl, trivial⟩) Try_plc_64 rfl rfl rfl rfl) ?_
  refine reg_cons (guard_no rfl) (op_eqAgg_eql (r := bGFault y1 ({ fErr := 9, fAt := 0 } : GFault)) rfl rfl rfl Try_eqt_64 rfl rfl rfl rfl rfl) ?_
  refine reg_cons (guard_no rfl) (op_move rfl rfl rfl rfl) ?_
  rcases ite_some hF with ⟨hb3, hF⟩ | ⟨hb3, hF⟩
  · refine reg_cons (guard_on rfl rfl rfl rfl hb3) (op_move rfl rfl rfl rfl) ?_
    obtain ⟨y4, h5, hF⟩ := bind_some hF
    refine reg_cons (guard_on rfl rfl rfl rfl hb3) (op_slice_vs (nl := (some 1)) (nh := none) (nm := none) rfl rfl rfl rfl rfl (.inl rfl) Try_slc_45 (cut_map (nl := (some 1)) (nh := none) eGClass h5) rfl rfl) ?_
    obtain ⟨y6, h7, hF⟩ := bind_some hF
    refine reg_cons (guard_on rfl rfl rfl rfl hb3) (op_call 0 rfl (caps := []) (args := [.vs 7 (List.map eGClass y4)]) (rs := [.p (.agg (eGFault y6))]) rfl rfl rfl Try_cal_42 (above_Check_ok h7) rfl rfl rfl) ?_
    refine reg_cons (guard_on rfl rfl rfl rfl hb3) (op_build (zs := [.int .i64 (({ fErr := 0, fAt := 0 } : GFault).fErr), .int .i64 (({ fErr := 0, fAt := 0 } : GFault).fAt)]) (r := eGFault ({ fErr := 0, fAt := 0 } : GFault)) rfl Try_zer_64 (by exact ⟨rfl, rfl, trivial⟩) Try_plc_64 rfl rfl rfl rfl) ?_
    refine reg_cons (guard_on rfl rfl rfl rfl hb3) (op_eqAgg_eql (r := bGFault y6 ({ fErr := 0, fAt := 0 } : GFault)) rfl rfl rfl Try_eqt_64 rfl rfl rfl rfl rfl) ?_
    refine reg_cons (guard_no rfl) (op_pick_t rfl rfl hb3 rfl rfl rfl) ?_
    refine reg_cons (guard_no rfl) (op_move rfl rfl rfl rfl) ?_
    rcases ite_some hF with ⟨hb8, hF⟩ | ⟨hb8, hF⟩
    · refine reg_cons (guard_on rfl rfl rfl rfl hb8) (op_move rfl rfl rfl rfl) ?_
      obtain ⟨y9, h10, hF⟩ := bind_some hF
      refine reg_cons (guard_on rfl rfl rfl rfl hb8) (op_call 0 rfl (caps := []) (args := [.vs 7 (List.map eGClass [({ fName := [65], fParams := [], fSuper := [66], fAbove := [], fFields := [], fMethods := [], fAt := 0 } : GClass), ({ fName := [66], fParams := [], fSuper := [65], fAbove := [], fFields := [], fMethods := [], fAt := 9 } : GClass)]), .str [65]]) (rs := [.p (.vs 1 (List.map eI y9))]) rfl rfl rfl Try_cal_40 (Fn.frozen (above_Chain_ok h10)) rfl rfl rfl) ?_
      refine reg_cons (guard_on rfl rfl rfl rfl hb8) (op_len_vs (n := y9.length) rfl rfl (List.length_map ..) Try_slc_42 rfl rfl) ?_
      refine reg_cons (guard_on rfl rfl rfl rfl hb8) (op_int (k := .i64) (m := (y9.length : Int)) (n := 2) rfl rfl rfl rfl rfl rfl) ?_
      refine reg_cons (guard_no rfl) (op_pick_t rfl rfl hb8 rfl rfl rfl) ?_
      refine reg_cons (guard_no rfl) (op_assign rfl rfl rfl rfl) ?_
      refine reg_nil ?_
      refine post_imp (s' := ⟨22, [(0, some (.pv (.bool ((y9.length : Int) == 2))))], [], 0, [], [], 0, []⟩) (imp_sub [] rfl (by decide) rfl rfl ⟨by kernel_rfl, trivial⟩ trivial rfl rfl rfl) ?_
      refine post_next ?_
      refine aw_ret ?_
      obtain rfl := Option.some.inj hF
      exact post_ret rfl rfl (.cons _ _ _ _ _ (.tmp _ _ rfl) (.p _) .nil) (.inl rfl)
    · refine reg_off (guard_off rfl rfl rfl rfl hb8) rfl rfl ?_
      refine reg_off (guard_off rfl rfl rfl rfl hb8) rfl rfl ?_
      refine reg_off (guard_off rfl rfl rfl rfl hb8) rfl rfl ?_
      refine reg_off (guard_off rfl rfl rfl rfl hb8) rfl rfl ?_
      refine reg_cons (guard_no rfl) (op_pick_f rfl rfl hb8 rfl rfl rfl) ?_
      refine reg_cons (guard_no rfl) (op_assign rfl rfl rfl rfl) ?_
      refine reg_nil ?_
      refine post_imp (s' := ⟨22, [(0, some (.pv (.bool false)))], [], 0, [], [], 0, []⟩) (imp_sub [] rfl (by decide) rfl rfl ⟨by kernel_rfl, trivial⟩ trivial rfl rfl rfl) ?_
      refine post_next ?_
      refine aw_ret ?_
      obtain rfl := Option.some.inj hF
      exact post_ret rfl rfl (.cons _ _ _ _ _ (.tmp _ _ rfl) (.p _) .nil) (.inl rfl)
  · refine reg_off (guard_off rfl rfl rfl rfl hb3) rfl rfl ?_
    refine reg_off (guard_off rfl rfl rfl rfl hb3) rfl rfl ?_
    refine reg_off (guard_off rfl rfl rfl rfl hb3) rfl rfl ?_
    refine reg_off (guard_off rfl rfl rfl rfl hb3) rfl rfl ?_
    refine reg_off (guard_off rfl rfl rfl rfl hb3) rfl rfl ?_
    refine reg_cons (guard_no rfl) (op_pick_f rfl rfl hb3 rfl rfl rfl) ?_
    refine reg_cons (guard_no rfl) (op_move rfl rfl rfl rfl) ?_
    refine reg_off (guard_off rfl rfl rfl rfl rfl) rfl rfl ?_
    refine reg_off (guard_off rfl rfl rfl rfl rfl) rfl rfl ?_
    refine reg_off (guard_off rfl rfl rfl rfl rfl) rfl rfl ?_
    refine reg_off (guard_off rfl rfl rfl rfl rfl) rfl rfl ?_
    refine reg_cons (guard_no rfl) (op_pick_f rfl rfl rfl rfl rfl rfl) ?_
    refine reg_cons (guard_no rfl) (op_assign rfl rfl rfl rfl) ?_
    refine reg_nil ?_
    refine post_imp (s' := ⟨22, [(0, some (.pv (.bool false)))], [], 0, [], [], 0, []⟩) (imp_sub [] rfl (by decide) rfl rfl ⟨by kernel_rfl, trivial⟩ trivial rfl rfl rfl) ?_
    refine post_next ?_
    refine aw_ret ?_
    obtain rfl := Option.some.inj hF
    exact post_ret rfl rfl (.cons _ _ _ _ _ (.tmp _ _ rfl) (.p _) .nil) (.inl rfl)
theorem above_Below_ok {a0 : List GClass} {a1 : List UInt8} {a2 : List UInt8} {r : Bool} (hF : above_Below a0 a1 a2 = some r) : Abs.Fn Try.prog 44 [.vs 7 (List.map eGClass a0), .str a1, .str a2] [.p (.bool r)] := by
  unfold above_Below at hF
  refine fn_of_body (n := 19) Try.func44 rfl rfl rfl ?_
  intro w O
  refine aw_seq ?_
  refine aw_region ?_
  refine reg_cons (guard_no rfl) (op_alloc 0 rfl (ps := [.bool false]) rfl Try_zer_4 (by exact ⟨rfl, trivial⟩) rfl rfl) ?_
  refine reg_nil ?_
  refine post_imp (s' := ⟨19, [(0, some (.pv (.vs 7 (List.map eGClass a0)))), (1, some (.pv (.str a1))), (2, some (.pv (.str a2))), (6, some (.lp 0 0))], [(0, some (.box 4 [.pv (.bool false)]))], 1, [], [], 0, []⟩) (imp_sub [0] rfl (by decide) rfl rfl ⟨by kernel_rfl, by kernel_rfl, by kernel_rfl, by kernel_rfl, trivial⟩ ⟨by kernel_rfl, trivial⟩ rfl rfl rfl) ?_
  refine post_next ?_
  refine aw_seq ?_
  refine aw_region ?_
  refine reg_cons (guard_no rfl) (op_move rfl rfl rfl rfl) ?_
  refine reg_cons (guard_no rfl) (op_move rfl rfl rfl rfl) ?_
  obtain ⟨y3, h4, hF⟩ := bind_some hF
  refine reg_cons (guard_no rfl) (op_call 1 rfl (caps := []) (args := [.vs 7 (List.map eGClass a0), .str a2]) (rs := [.p (.int .i64 y3)]) rfl rfl rfl Try_cal_71 (table_Find_ok h4) rfl rfl rfl) ?_
  refine reg_cons (guard_no rfl) (op_alloc 1 rfl (ps := [.int .i64 0]) rfl Try_zer_3 (by exact ⟨rfl, trivial⟩) rfl rfl) ?_
  refine reg_cons (guard_no rfl) (op_store_lp (n := 1) rfl rfl rfl rfl rfl (or_one Try_one_3) (by rw [Try_one_3]; rfl) rfl rfl rfl) ?_
  refine reg_nil ?_
  refine post_imp (s' := ⟨19, [(0, some (.pv (.vs 7 (List.map eGClass a0)))), (1, some (.pv (.str a1))), (6, some (.lp 0 0)), (7, some (.lp 1 0))], [(0, some (.box 4 [.pv (.bool false)])), (1, some (.box 3 [.pv (.int .i64 y3)]))], 2, [], [], 0, []⟩) (imp_sub [0, 1] rfl (by decide) rfl rfl ⟨by kernel_rfl, by kernel_rfl, by kernel_rfl, by kernel_rfl, trivial⟩ ⟨by kernel_rfl, by kernel_rfl, trivial⟩ rfl rfl rfl) ?_
  refine post_next ?_
  refine aw_seq ?_
  refine aw_seq ?_
  refine aw_region ?_
  refine reg_cons (guard_no rfl) (op_move rfl rfl rfl rfl) ?_
  refine reg_cons (guard_no rfl) (op_move rfl rfl rfl rfl) ?_
  obtain ⟨y7, h8, hF⟩ := bind_some hF
  refine reg_cons (guard_no rfl) (op_call 2 rfl (caps := []) (args := [.vs 7 (List.map eGClass a0), .str a1]) (rs := [.clo 81 [.vp ((eL 7 eGClass) y7.1)] 9 [.str y7.2] []]) rfl rfl rfl Try_cal_67 (above_up_ok h8) rfl rfl rfl) ?_
  refine reg_nil ?_
  refine post_imp (s' := ⟨19, [(6, some (.lp 0 0)), (7, some (.lp 1 0)), (14, some (.fn 81 [.pv (.vp ((eL 7 eGClass) y7.1)), .lp 2 0]))], [(0, some (.box 4 [.pv (.bool false)])), (1, some (.box 3 [.pv (.int .i64 y3)])), (2, some (.box 9 [.pv (.str y7.2)]))], 3, [], [], 0, []⟩) (imp_sub [0, 1, 2] rfl (by decide) rfl rfl ⟨by kernel_rfl, by kernel_rfl, by kernel_rfl, trivial⟩ ⟨by kernel_rfl, by kernel_rfl, by kernel_rfl, trivial⟩ rfl rfl rfl) ?_
  refine post_next ?_
  refine aw_block ?_
  refine aw_imp (s' := ⟨19, [(6, some (.lp 0 0)), (7, some (.lp 1 0)), (14, some (.fn 81 [.pv (.vp ((eL 7 eGClass) y7.1)), .lp 2 0]))], [(0, some (.box 4 [.pv (.bool false)])), (1, some (.box 3 [.pv (.int .i64 y3)])), (2, some (.box 9 [.pv (.str y7.2)]))], 3, [], [], 0, []⟩) (imp_sub [0, 1, 2] rfl (by decide) rfl rfl ⟨by kernel_rfl, by kernel_rfl, by kernel_rfl, trivial⟩ ⟨by kernel_rfl, by kernel_rfl, by kernel_rfl, trivial⟩ rfl rfl rfl) ?_
  obtain ⟨rows15, hR16, hF⟩ := bind_some hF
  obtain ⟨lr17, hL18, hF⟩ := bind_some hF
  refine aw_rangeFunc (X := Int) (Q := Unit) (E := Unit) (pre := [.vp ((eL 7 eGClass) y7.1)]) (bx := (some (9, [.str y7.2]))) (post := []) (kt := [6, 7]) (psl := [15]) (some 2) [(8, 0)] (fun z : Int => ([.int .i64 z] : List PV)) rows15 (above_Below_B1 y3) () lr17 hL18 (fun q => ⟨19, [(6, some (.lp 0 0)), (7, some (.lp 1 0))], [(0, some (.box 4 [.pv (.bool false)])), (1, some (.box 3 [.pv (.int .i64 y3)]))], 3, [], [], 0, []⟩) (fun z => (.ret, ⟨19, [(6, some (.lp 0 0))], [(0, some (.box 4 [.pv (.bool true)]))], 1, [], [], 0, []⟩)) ⟨_, _, rfl, rfl, rfl⟩ Try_cal_81 (fun sp => above_up_1_it (itR_up_ok hR16 sp)) (fun _ => rfl) rfl rfl (asg_region ⟨⟨rfl, rfl, _, rfl, rfl, rfl⟩, trivial⟩) (by decide) rfl rfl (fun q => ⟨rfl, rfl, rfl, rfl⟩) (fun z => ⟨rfl, rfl, rfl, rfl⟩) (fun z => rfl) rfl rfl ⟨rfl, rfl, trivial⟩ ⟨⟨rfl, rfl, rfl⟩, ⟨rfl, rfl, rfl⟩, trivial⟩ ?_ ?_ ?_
  · rintro l19 c20 x13 ⟨⟩ r22 hc21 hF
    refine aw_block ?_
    refine aw_seq ?_
    refine aw_region ?_
    refine reg_cons (guard_no rfl) (op_move rfl rfl rfl rfl) ?_
    refine reg_cons (guard_no rfl) (op_load_lp (v := .pv (.int .i64 y3)) rfl rfl rfl rfl Try_one_3 rfl rfl) ?_
    refine reg_cons (guard_no rfl) (op_int (k := .i64) (m := x13) (n := y3) rfl rfl rfl rfl rfl rfl) ?_
    refine reg_nil ?_
    refine post_imp (s' := ⟨19, [(6, some (.lp 0 0)), (7, some (.lp 1 0)), (18, some (.pv (.bool (x13 == y3))))], [(0, some (.box 4 [.pv (.bool false)])), (1, some (.box 3 [.pv (.int .i64 y3)]))], 2, [], [], 0, [6, 7]⟩) (imp_sub [0, 1] rfl (by decide) rfl rfl ⟨by kernel_rfl, by kernel_rfl, by kernel_rfl, trivial⟩ ⟨by kernel_rfl, by kernel_rfl, trivial⟩ rfl rfl rfl) ?_
    refine post_next ?_
    rcases ite_some hF with ⟨hb14, hF⟩ | ⟨hb14, hF⟩
    · refine aw_cond_t rfl hb14 ?_
      refine aw_seq ?_
      refine aw_region ?_
      refine reg_cons (guard_no rfl) (op_store_lp (n := 1) rfl rfl rfl rfl rfl (or_one Try_one_4) (by rw [Try_one_4]; rfl) rfl rfl rfl) ?_
      refine reg_nil ?_
      refine post_imp (s' := ⟨19, [(6, some (.lp 0 0))], [(0, some (.box 4 [.pv (.bool true)]))], 1, [], [], 0, [6, 7]⟩) (imp_sub [0] rfl (by decide) rfl rfl ⟨by kernel_rfl, trivial⟩ ⟨by kernel_rfl, trivial⟩ rfl rfl rfl) ?_
      refine post_next ?_
      refine aw_ret ?_
      refine post_block_ret ?_
      obtain rfl := Option.some.inj hF
      exact post_rnd_ret () rfl rfl (imp_sub [0] rfl (by decide) rfl rfl ⟨by kernel_rfl, trivial⟩ ⟨by kernel_rfl, trivial⟩ rfl rfl rfl)
    · refine aw_cond_f rfl hb14 ?_
      refine aw_skip ?_
      refine post_block_normal ?_
      obtain rfl := Option.some.inj hF
      exact post_rnd () rfl (imp_sub [0, 1, 1000000] rfl (by decide) rfl rfl ⟨by kernel_rfl, by kernel_rfl, trivial⟩ ⟨by kernel_rfl, by kernel_rfl, trivial⟩ rfl rfl rfl)
  · rintro ⟨⟩ rfl
    have hF := elim_next hF
    refine post_block_normal ?_
    refine post_next ?_
    refine aw_seq ?_
    refine aw_region ?_
    refine reg_cons (guard_no rfl) (op_store_lp (n := 1) rfl rfl rfl rfl rfl (or_one Try_one_4) (by rw [Try_one_4]; rfl) rfl rfl rfl) ?_
    refine reg_nil ?_
    refine post_imp (s' := ⟨19, [(6, some (.lp 0 0))], [(0, some (.box 4 [.pv (.bool false)]))], 1, [], [], 0, []⟩) (imp_sub [0] rfl (by decide) rfl rfl ⟨by kernel_rfl, trivial⟩ ⟨by kernel_rfl, trivial⟩ rfl rfl rfl) ?_
    refine post_next ?_
    refine aw_ret ?_
    obtain rfl := Option.some.inj hF
    exact post_ret rfl rfl (.cons _ _ _ _ _ (.one _ _ _ _ _ _ _ rfl rfl Try_one_4 rfl) (.p _) .nil) (.inl rfl)
  · rintro ⟨⟩ rfl
    have hF := elim_stop hF
    show Post _ _ .ret _
    refine post_block_ret ?_
    refine post_then_ret ?_
    obtain rfl := Option.some.inj hF
    exact post_ret rfl rfl (.cons _ _ _ _ _ (.one _ _ _ _ _ _ _ rfl rfl Try_one_4 rfl) (.p _) .nil) (.inl rfl)
theorem above_Meet_ok {a0 : List GClass} {a1 : List UInt8} {a2 : List UInt8} {r : (List UInt8)} (hF : above_Meet a0 a1 a2 = some r) : Abs.Fn Try.prog 46 [.vs 7 (List.map eGClass a0), .str a1, .str a2] [.p (.str r)] := by
  unfold above_Meet at hF
  refine fn_of_body (n := 22) Try.func46 rfl rfl rfl ?_
  intro w O
  refine aw_seq ?_
  refine aw_region ?_
  refine reg_cons (guard_no rfl) (op_box 0 rfl rfl rfl rfl rfl rfl) ?_
  refine reg_cons (guard_no rfl) (op_box 1 rfl rfl rfl rfl rfl rfl) ?_
  refine reg_cons (guard_no rfl) (op_alloc 2 rfl (ps := [.str []]) rfl Try_zer_9 (by exact ⟨rfl, trivial⟩) rfl rfl) ?_
  refine reg_nil ?_
  refine post_imp (s' := ⟨22, [(1, some (.pv (.str a1))), (3, some (.lp 0 0)), (5, some (.lp 1 0)), (6, some (.lp 2 0))], [(0, some (.box 45 [.pv (.vs 7 (List.map eGClass a0))])), (1, some (.box 9 [.pv (.str a2)])), (2, some (.box 9 [.pv (.str [])]))], 3, [], [], 0, []⟩) (imp_sub [0, 1, 2] rfl (by decide) rfl rfl ⟨by kernel_rfl, by kernel_rfl, by kernel_rfl, by kernel_rfl, trivial⟩ ⟨by kernel_rfl, by kernel_rfl, by kernel_rfl, trivial⟩ rfl rfl rfl) ?_
  refine post_next ?_
  refine aw_seq ?_
  refine aw_seq ?_
  refine aw_region ?_
  refine reg_cons (guard_no rfl) (op_load_lp (v := .pv (.vs 7 (List.map eGClass a0))) rfl rfl rfl rfl Try_one_45 rfl rfl) ?_
  refine reg_cons (guard_no rfl) (op_move rfl rfl rfl rfl) ?_
  obtain ⟨y3, h4, hF⟩ := bind_some hF
  refine reg_cons (guard_no rfl) (op_call 3 rfl (caps := []) (args := [.vs 7 (List.map eGClass a0), .str a1]) (rs := [.clo 81 [.vp ((eL 7 eGClass) y3.1)] 9 [.str y3.2] []]) rfl rfl rfl Try_cal_67 (above_up_ok h4) rfl rfl rfl) ?_
  refine reg_nil ?_
  refine post_imp (s' := ⟨22, [(3, some (.lp 0 0)), (5, some (.lp 1 0)), (6, some (.lp 2 0)), (10, some (.fn 81 [.pv (.vp ((eL 7 eGClass) y3.1)), .lp 3 0]))], [(0, some (.box 45 [.pv (.vs 7 (List.map eGClass a0))])), (1, some (.box 9 [.pv (.str a2)])), (2, some (.box 9 [.pv (.str [])])), (3, some (.box 9 [.pv (.str y3.2)]))], 4, [], [], 0, []⟩) (imp_sub [0, 1, 2, 3] rfl (by decide) rfl rfl ⟨by kernel_rfl, by kernel_rfl, by kernel_rfl, by kernel_rfl, trivial⟩ ⟨by kernel_rfl, by kernel_rfl, by kernel_rfl, by kernel_rfl, trivial⟩ rfl rfl rfl) ?_
  refine post_next ?_
  refine aw_block ?_
  refine aw_imp (s' := ⟨22, [(3, some (.lp 0 0)), (5, some (.lp 1 0)), (6, some (.lp 2 0)), (10, some (.fn 81 [.pv (.vp ((eL 7 eGClass) y3.1)), .lp 3 0]))], [(0, some (.box 45 [.pv (.vs 7 (List.map eGClass a0))])), (1, some (.box 9 [.pv (.str a2)])), (2, some (.box 9 [.pv (.str [])])), (3, some (.box 9 [.pv (.str y3.2)]))], 4, [], [], 0, []⟩) (imp_sub [0, 1, 2, 3] rfl (by decide) rfl rfl ⟨by kernel_rfl, by kernel_rfl, by kernel_rfl, by kernel_rfl, trivial⟩ ⟨by kernel_rfl, by kernel_rfl, by kernel_rfl, by kernel_rfl, trivial⟩ rfl rfl rfl) ?_
  obtain ⟨rows42, hR43, hF⟩ := bind_some hF
  obtain ⟨lr44, hL45, hF⟩ := bind_some hF
  refine aw_rangeFunc (X := Int) (Q := Unit) (E := (List UInt8)) (pre := [.vp ((eL 7 eGClass) y3.1)]) (bx := (some (9, [.str y3.2]))) (post := []) (kt := [3, 5, 6]) (psl := [11]) (some 3) [(7, 0)] (fun z : Int => ([.int .i64 z] : List PV)) rows42 (above_Meet_B1 a0 a2) () lr44 hL45 (fun q => ⟨22, [(3, some (.lp 0 0)), (5, some (.lp 1 0)), (6, some (.lp 2 0))], [(0, some (.box 45 [.pv (.vs 7 (List.map eGClass a0))])), (1, some (.box 9 [.pv (.str a2)])), (2, some (.box 9 [.pv (.str [])]))], 4, [], [], 0, []⟩) (fun z => (.ret, ⟨22, [(6, some (.lp 0 0))], [(0, some (.box 9 [.pv (.str z)]))], 1, [], [], 0, []⟩)) ⟨_, _, rfl, rfl, rfl⟩ Try_cal_81 (fun sp => above_up_1_it (itR_up_ok hR43 sp)) (fun _ => rfl) rfl rfl (asg_region ⟨⟨rfl, rfl, _, rfl, rfl, rfl⟩, trivial⟩) (by decide) rfl rfl (fun q => ⟨rfl, rfl, rfl, rfl⟩) (fun z => ⟨rfl, rfl, rfl, rfl⟩) (fun z => rfl) rfl rfl ⟨rfl, rfl, rfl, trivial⟩ ⟨⟨rfl, rfl, rfl⟩, ⟨rfl, rfl, rfl⟩, ⟨rfl, rfl, rfl⟩, trivial⟩ ?_ ?_ ?_
  · rintro l46 c47 x29 ⟨⟩ r49 hc48 hF
    refine aw_block ?_
    refine aw_seq ?_
    refine aw_region ?_
    refine reg_cons (guard_no rfl) (op_load_lp (v := .pv (.vs 7 (List.map eGClass a0))) rfl rfl rfl rfl Try_one_45 rfl rfl) ?_
    refine reg_cons (guard_no rfl) (op_load_lp (v := .pv (.str a2)) rfl rfl rfl rfl Try_one_9 rfl rfl) ?_
    obtain ⟨y34, h35, hF⟩ := bind_some hF
    refine reg_cons (guard_no rfl) (op_call 4 rfl (caps := []) (args := [.vs 7 (List.map eGClass a0), .str a2]) (rs := [.p (.vs 1 (List.map eI y34))]) rfl rfl rfl Try_cal_40 (Fn.frozen (above_Chain_ok h35)) rfl rfl rfl) ?_
    refine reg_cons (guard_no rfl) (op_move rfl rfl rfl rfl) ?_
    obtain ⟨y36, h37, hF⟩ := bind_some hF
    refine reg_cons (guard_no rfl) (op_call 4 rfl (caps := []) (args := [.vs 1 (List.map eI y34), .int .i64 x29]) (rs := [.p (.bool y36)]) rfl rfl rfl Try_cal_68 (slices_Contains_int_ok h37) rfl rfl rfl) ?_
    refine reg_nil ?_
    refine post_imp (s' := ⟨22, [(3, some (.lp 0 0)), (5, some (.lp 1 0)), (6, some (.lp 2 0)), (7, some (.pv (.int .i64 x29))), (16, some (.pv (.bool y36)))], [(0, some (.box 45 [.pv (.vs 7 (List.map eGClass a0))])), (1, some (.box 9 [.pv (.str a2)])), (2, some (.box 9 [.pv (.str [])]))], 3, [], [], 0, [3, 5, 6]⟩) (imp_sub [0, 1, 2] rfl (by decide) rfl rfl ⟨by kernel_rfl, by kernel_rfl, by kernel_rfl, by kernel_rfl, by kernel_rfl, trivial⟩ ⟨by kernel_rfl, by kernel_rfl, by kernel_rfl, trivial⟩ rfl rfl rfl) ?_
    refine post_next ?_
    rcases ite_some hF with ⟨hb38, hF⟩ | ⟨hb38, hF⟩
    · refine aw_cond_t rfl hb38 ?_
      refine aw_seq ?_
      refine aw_region ?_
      refine reg_cons (guard_no rfl) (op_load_lp (v := .pv (.vs 7 (List.map eGClass a0))) rfl rfl rfl rfl Try_one_45 rfl rfl) ?_
      refine reg_cons (guard_no rfl) (op_move rfl rfl rfl rfl) ?_
      obtain ⟨y39, h40, hF⟩ := bind_some hF
      refine reg_cons (guard_no rfl) (op_index_vs (k := .i64) rfl rfl rfl (idx_map eGClass h40) Try_slc_45 rfl rfl) ?_
      refine reg_cons (guard_no rfl) (op_field_vp rfl rfl Try_fld_94_0 rfl rfl) ?_
      refine reg_cons (guard_no rfl) (op_load_vp (p := .str y39.fName) rfl rfl rfl Try_one_9 rfl rfl) ?_
      refine reg_cons (guard_no rfl) (op_store_lp (n := 1) rfl rfl rfl rfl rfl (or_one Try_one_9) (by rw [Try_one_9]; rfl) rfl rfl rfl) ?_
      refine reg_nil ?_
      refine post_imp (s' := ⟨22, [(6, some (.lp 0 0))], [(0, some (.box 9 [.pv (.str y39.fName)]))], 1, [], [], 0, [3, 5, 6]⟩) (imp_sub [2] rfl (by decide) rfl rfl ⟨by kernel_rfl, trivial⟩ ⟨by kernel_rfl, trivial⟩ rfl rfl rfl) ?_
      refine post_next ?_
      refine aw_ret ?_
      refine post_block_ret ?_
      obtain rfl := Option.some.inj hF
      exact post_rnd_ret y39.fName rfl rfl (imp_sub [0] rfl (by decide) rfl rfl ⟨by kernel_rfl, trivial⟩ ⟨by kernel_rfl, trivial⟩ rfl rfl rfl)
    · refine aw_cond_f rfl hb38 ?_
      refine aw_skip ?_
      refine post_block_normal ?_
      obtain rfl := Option.some.inj hF
      exact post_rnd () rfl (imp_sub [0, 1, 2, 1000000] rfl (by decide) rfl rfl ⟨by kernel_rfl, by kernel_rfl, by kernel_rfl, trivial⟩ ⟨by kernel_rfl, by kernel_rfl, by kernel_rfl, trivial⟩ rfl rfl rfl)
  · rintro ⟨⟩ rfl
    have hF := elim_next hF
    refine post_block_normal ?_
    refine post_next ?_
    refine aw_seq ?_
    refine aw_region ?_
    refine reg_cons (guard_no rfl) (op_store_lp (n := 1) rfl rfl rfl rfl rfl (or_one Try_one_9) (by rw [Try_one_9]; rfl) rfl rfl rfl) ?_
    refine reg_nil ?_
    refine post_imp (s' := ⟨22, [(6, some (.lp 0 0))], [(0, some (.box 9 [.pv (.str [])]))], 1, [], [], 0, []⟩) (imp_sub [2] rfl (by decide) rfl rfl ⟨by kernel_rfl, trivial⟩ ⟨by kernel_rfl, trivial⟩ rfl rfl rfl) ?_
    refine post_next ?_
    refine aw_ret ?_
    obtain rfl := Option.some.inj hF
    exact post_ret rfl rfl (.cons _ _ _ _ _ (.one _ _ _ _ _ _ _ rfl rfl Try_one_9 rfl) (.p _) .nil) (.inl rfl)
  · rintro x41 rfl
    have hF := elim_stop hF
    show Post _ _ .ret _
    refine post_block_ret ?_
    refine post_then_ret ?_
    obtain rfl := Option.some.inj hF
    exact post_ret rfl rfl (.cons _ _ _ _ _ (.one _ _ _ _ _ _ _ rfl rfl Try_one_9 rfl) (.p _) .nil) (.inl rfl)
theorem law14_AboveOrder_ok {a0 : List GClass} {a1 : A3 (List UInt8)} {r : Bool} (hF : law14_AboveOrder a0 a1 = some r) : Abs.Fn Try.prog 10 [.vs 7 (List.map eGClass a0), .agg ((eA3 eS) a1)] [.p (.bool r)] := by
  unfold law14_AboveOrder at hF
  refine fn_of_body (n := 95) Try.func10 rfl rfl rfl ?_
  intro w O
  refine aw_seq ?_
  refine aw_region ?_
  refine reg_cons (guard_no rfl) (op_box 0 rfl rfl rfl rfl rfl rfl) ?_
  refine reg_cons (guard_no rfl) (op_assign rfl rfl rfl rfl) ?_
  refine reg_nil ?_
  refine post_imp (s' := ⟨95, [(0, some (.pv (.vs 7 (List.map eGClass a0)))), (3, some (.lp 0 0))], [(0, some (.box 69 [.pv (.str a1.a0), .pv (.str a1.a1), .pv (.str a1.a2)]))], 1, [], [], 0, []⟩) (imp_sub [0] rfl (by decide) rfl rfl ⟨by kernel_rfl, by kernel_rfl, trivial⟩ ⟨by kernel_rfl, trivial⟩ rfl rfl rfl) ?_
  refine post_next ?_
  refine aw_seq ?_
  refine aw_seq ?_
  refine aw_region ?_
  refine reg_cons (guard_no rfl) (op_move rfl rfl rfl rfl) ?_
  refine reg_cons (guard_no rfl) (op_len_vs (n := a0.length) rfl rfl (List.length_map ..) Try_slc_45 rfl rfl) ?_
  refine reg_cons (guard_no rfl) (op_int (k := .i64) (m := (a0.length : Int)) (n := 40) rfl rfl rfl rfl rfl rfl) ?_
  refine reg_nil ?_
  refine post_imp (s' := ⟨95, [(0, some (.pv (.vs 7 (List.map eGClass a0)))), (3, some (.lp 0 0)), (13, some (.pv (.bool (decide ((a0.length : Int) > 40)))))], [(0, some (.box 69 [.pv (.str a1.a0), .pv (.str a1.a1), .pv (.str a1.a2)]))], 1, [], [], 0, []⟩) (imp_sub [0] rfl (by decide) rfl rfl ⟨by kernel_rfl, by kernel_rfl, by kernel_rfl, trivial⟩ ⟨by kernel_rfl, trivial⟩ rfl rfl rfl) ?_
  refine post_next ?_
  rcases ite_some hF with ⟨hb1, hF⟩ | ⟨hb1, hF⟩
  · refine aw_cond_t rfl hb1 ?_
    refine aw_seq ?_
    refine aw_region ?_
    obtain ⟨y2, h3, hF⟩ := bind_some hF
    refine reg_cons (guard_no rfl) (op_call 1 rfl (caps := []) (args := []) (rs := [.p (.bool y2)]) rfl rfl rfl Try_cal_38 (law14_awake_ok h3) rfl rfl rfl) ?_
    refine reg_cons (guard_no rfl) (op_assign rfl rfl rfl rfl) ?_
    refine reg_nil ?_
    refine post_imp (s' := ⟨95, [(4, some (.pv (.bool y2)))], [], 0, [], [], 0, []⟩) (imp_sub [] rfl (by decide) rfl rfl ⟨by kernel_rfl, trivial⟩ trivial rfl rfl rfl) ?_
    refine post_next ?_
    refine aw_ret ?_
    refine post_then_ret ?_
    obtain rfl := Option.some.inj hF
    exact post_ret rfl rfl (.cons _ _ _ _ _ (.tmp _ _ rfl) (.p _) .nil) (.inl rfl)
  · refine aw_cond_f rfl hb1 ?_
    refine aw_skip ?_
    refine post_next ?_
    refine aw_seq ?_
    refine aw_drawn ({ need := [(3, .lp 0 0)], dst := some 15, val := some (.lp 0 0) } :: { need := [(15, .lp 0 0)], hneed := [(0, .box 69 [.pv (.str a1.a0), .pv (.str a1.a1), .pv (.str a1.a2)])], dst := some 16, val := some (.pv (.str a1.a0)) } :: { need := [(3, .lp 0 0)], dst := some 17, val := some (.lp 0 1) } :: { need := [(17, .lp 0 1)], hneed := [(0, .box 69 [.pv (.str a1.a0), .pv (.str a1.a1), .pv (.str a1.a2)])], dst := some 18, val := some (.pv (.str a1.a1)) } :: { need := [(3, .lp 0 0)], dst := some 19, val := some (.lp 0 2) } :: { need := [(19, .lp 0 2)], hneed := [(0, .box 69 [.pv (.str a1.a0), .pv (.str a1.a1), .pv (.str a1.a2)])], dst := some 20, val := some (.pv (.str a1.a2)) } :: { need := [(16, .pv (.str a1.a0))], dst := some 5, val := some (.pv (.str a1.a0)) } :: { need := [(18, .pv (.str a1.a1))], dst := some 6, val := some (.pv (.str a1.a1)) } :: { need := [(20, .pv (.str a1.a2))], dst := some 7, val := some (.pv (.str a1.a2)) } :: []) ⟨_, _, _⟩ Try_mixed rfl ⟨fun m h => step_on (guard_no rfl) (op_arr_lp (k := .i64) (m := 0) (n := 3) rfl h.1.1 rfl Try_arr_69 rfl rfl rfl rfl) rfl, fun m h => step_on (guard_no rfl) (op_load_lp (v := .pv (.str a1.a0)) rfl h.1.1 h.2.1.1 rfl Try_one_9 rfl rfl) rfl, fun m h => step_on (guard_no rfl) (op_arr_lp (k := .i64) (m := 1) (n := 3) rfl h.1.1 rfl Try_arr_69 rfl rfl rfl rfl) rfl, fun m h => step_on (guard_no rfl) (op_load_lp (v := .pv (.str a1.a1)) rfl h.1.1 h.2.1.1 rfl Try_one_9 rfl rfl) rfl, fun m h => step_on (guard_no rfl) (op_arr_lp (k := .i64) (m := 2) (n := 3) rfl h.1.1 rfl Try_arr_69 rfl rfl rfl rfl) rfl, fun m h => step_on (guard_no rfl) (op_load_lp (v := .pv (.str a1.a2)) rfl h.1.1 h.2.1.1 rfl Try_one_9 rfl rfl) rfl, fun m h => step_on (guard_no rfl) (op_assign rfl h.1.1 rfl rfl) rfl, fun m h => step_on (guard_no rfl) (op_assign rfl h.1.1 rfl rfl) rfl, fun m h => step_on (guard_no rfl) (op_assign rfl h.1.1 rfl rfl) rfl, trivial⟩ ⟨⟨⟨rfl, trivial⟩, trivial, trivial⟩, ⟨⟨rfl, trivial⟩, ⟨rfl, trivial⟩, trivial⟩, ⟨⟨rfl, trivial⟩, trivial, trivial⟩, ⟨⟨rfl, trivial⟩, ⟨rfl, trivial⟩, trivial⟩, ⟨⟨rfl, trivial⟩, trivial, trivial⟩, ⟨⟨rfl, trivial⟩, ⟨rfl, trivial⟩, trivial⟩, ⟨⟨rfl, trivial⟩, trivial, trivial⟩, ⟨⟨rfl, trivial⟩, trivial, trivial⟩, ⟨⟨rfl, trivial⟩, trivial, trivial⟩, trivial⟩ (by kernel_rfl) ?_
    refine post_imp (s' := ⟨95, [(0, some (.pv (.vs 7 (List.map eGClass a0)))), (5, some (.pv (.str a1.a0))), (6, some (.pv (.str a1.a1))), (7, some (.pv (.str a1.a2)))], [], 0, [], [], 0, []⟩) (imp_sub [] rfl (by decide) rfl rfl ⟨by kernel_rfl, by kernel_rfl, by kernel_rfl, by kernel_rfl, trivial⟩ trivial rfl rfl rfl) ?_
    refine post_next ?_
    refine aw_seq ?_
    refine aw_region ?_
    refine reg_cons (guard_no rfl) (op_move rfl rfl rfl rfl) ?_
    refine reg_cons (guard_no rfl) (op_move rfl rfl rfl rfl) ?_
    refine reg_cons (guard_no rfl) (op_move rfl rfl rfl rfl) ?_
    obtain ⟨y8, h9, hF⟩ := bind_some hF
    refine reg_cons (guard_no rfl) (op_call 0 rfl (caps := []) (args := [.vs 7 (List.map eGClass a0), .str a1.a0, .str a1.a1]) (rs := [.p (.bool y8)]) rfl rfl rfl Try_cal_44 (above_Below_ok h9) rfl rfl rfl) ?_
    refine reg_cons (guard_no rfl) (op_move rfl rfl rfl rfl) ?_
    refine reg_cons (guard_no rfl) (op_move rfl rfl rfl rfl) ?_
    refine reg_cons (guard_no rfl) (op_move rfl rfl rfl rfl) ?_
    obtain ⟨y10, h11, hF⟩ := bind_some hF
    refine reg_cons (guard_no rfl) (op_call 0 rfl (caps := []) (args := [.vs 7 (List.map eGClass a0), .str a1.a1, .str a1.a2]) (rs := [.p (.bool y10)]) rfl rfl rfl Try_cal_44 (above_Below_ok h11) rfl rfl rfl) ?_
    refine reg_cons (guard_no rfl) (op_assign rfl rfl rfl rfl) ?_
    refine reg_cons (guard_no rfl) (op_assign rfl rfl rfl rfl) ?_
    refine reg_nil ?_
    refine post_imp (s' := ⟨95, [(0, some (.pv (.vs 7 (List.map eGClass a0)))), (5, some (.pv (.str a1.a0))), (6, some (.pv (.str a1.a1))), (7, some (.pv (.str a1.a2))), (8, some (.pv (.bool y8))), (9, some (.pv (.bool y10)))], [], 0, [], [], 0, []⟩) (imp_sub [] rfl (by decide) rfl rfl ⟨by kernel_rfl, by kernel_rfl, by kernel_rfl, by kernel_rfl, by kernel_rfl, by kernel_rfl, trivial⟩ trivial rfl rfl rfl) ?_
    refine post_next ?_
    refine aw_seq ?_
    refine aw_seq ?_
    obtain ⟨x29, hF, hK31⟩ := bind_some hF
    refine aw_cut (fun s1 => s1 = ⟨95, [(0, some (.pv (.vs 7 (List.map eGClass a0)))), (5, some (.pv (.str a1.a0))), (6, some (.pv (.str a1.a1))), (8, some (.pv (.bool y8))), (51, some (.pv (.bool x29)))], [], 0, [], [], 0, []⟩) ?_ ?_
    · refine aw_region ?_
      refine reg_cons (guard_no rfl) (op_move rfl rfl rfl rfl) ?_
      refine reg_cons (guard_no rfl) (op_move rfl rfl rfl rfl) ?_
      rcases ite_some hF with ⟨hb12, hF⟩ | ⟨hb12, hF⟩
      · refine reg_cons (guard_on rfl rfl rfl rfl hb12) (op_move rfl rfl rfl rfl) ?_
        refine reg_cons (guard_no rfl) (op_pick_t rfl rfl hb12 rfl rfl rfl) ?_
        refine reg_cons (guard_no rfl) (op_move rfl rfl rfl rfl) ?_
        rcases ite_some hF with ⟨hb13, hF⟩ | ⟨hb13, hF⟩
        · refine reg_cons (guard_on rfl rfl rfl rfl hb13) (op_move rfl rfl rfl rfl) ?_
          refine reg_cons (guard_on rfl rfl rfl rfl hb13) (op_move rfl rfl rfl rfl) ?_
          refine reg_cons (guard_on rfl rfl rfl rfl hb13) (op_move rfl rfl rfl rfl) ?_
          obtain ⟨y14, h15, hF⟩ := bind_some hF
          refine reg_cons (guard_on rfl rfl rfl rfl hb13) (op_call 0 rfl (caps := []) (args := [.vs 7 (List.map eGClass a0), .str a1.a0, .str a1.a2]) (rs := [.p (.bool y14)]) rfl rfl rfl Try_cal_44 (above_Below_ok h15) rfl rfl rfl) ?_
          refine reg_cons (guard_on rfl rfl rfl rfl hb13) (op_not rfl rfl rfl rfl) ?_
          refine reg_cons (guard_no rfl) (op_pick_t rfl rfl hb13 rfl rfl rfl) ?_
          refine reg_cons (guard_no rfl) (op_move rfl rfl rfl rfl) ?_
          rcases ite_some hF with ⟨hb16, hF⟩ | ⟨hb16, hF⟩
          · refine reg_off (guard_off rfl rfl rfl rfl hb16) rfl rfl ?_
            refine reg_off (guard_off rfl rfl rfl rfl hb16) rfl rfl ?_
            refine reg_off (guard_off rfl rfl rfl rfl hb16) rfl rfl ?_
            refine reg_off (guard_off rfl rfl rfl rfl hb16) rfl rfl ?_
            refine reg_off (guard_off rfl rfl rfl rfl hb16) rfl rfl ?_
            refine reg_off (guard_off rfl rfl rfl rfl hb16) rfl rfl ?_
            refine reg_off (guard_off rfl rfl rfl rfl hb16) rfl rfl ?_
            refine reg_off (guard_off rfl rfl rfl rfl hb16) rfl rfl ?_
            refine reg_off (guard_off rfl rfl rfl rfl hb16) rfl rfl ?_
            refine reg_off (guard_off rfl rfl rfl rfl hb16) rfl rfl ?_
            refine reg_cons (guard_no rfl) (op_pick_t rfl rfl hb16 rfl rfl rfl) ?_
            refine reg_nil ?_
            cases hF
            exact post_cut _ rfl (imp_sub [] rfl (by decide) rfl rfl ⟨by kernel_rfl, by kernel_rfl, by kernel_rfl, by kernel_rfl, by kernel_rfl, trivial⟩ trivial rfl rfl rfl)
          · refine reg_cons (guard_on rfl rfl rfl rfl hb16) (op_move rfl rfl rfl rfl) ?_
            refine reg_cons (guard_on rfl rfl rfl rfl hb16) (op_move rfl rfl rfl rfl) ?_
            refine reg_cons (guard_on rfl rfl rfl rfl hb16) (op_move rfl rfl rfl rfl) ?_
            obtain ⟨y17, h18, hF⟩ := bind_some hF
            refine reg_cons (guard_on rfl rfl rfl rfl hb16) (op_call 0 rfl (caps := []) (args := [.vs 7 (List.map eGClass a0), .str a1.a0, .str a1.a0]) (rs := [.p (.bool y17)]) rfl rfl rfl Try_cal_44 (above_Below_ok h18) rfl rfl rfl) ?_
            refine reg_cons (guard_on rfl rfl rfl rfl hb16) (op_move rfl rfl rfl rfl) ?_
            refine reg_cons (guard_on rfl rfl rfl rfl hb16) (op_move rfl rfl rfl rfl) ?_
            obtain ⟨y19, h20, hF⟩ := bind_some hF
            refine reg_cons (guard_on rfl rfl rfl rfl hb16) (op_call 0 rfl (caps := []) (args := [.vs 7 (List.map eGClass a0), .str a1.a0]) (rs := [.p (.vs 1 (List.map eI y19))]) rfl rfl rfl Try_cal_40 (Fn.frozen (above_Chain_ok h20)) rfl rfl rfl) ?_
            refine reg_cons (guard_on rfl rfl rfl rfl hb16) (op_len_vs (n := y19.length) rfl rfl (List.length_map ..) Try_slc_42 rfl rfl) ?_
            refine reg_cons (guard_on rfl rfl rfl rfl hb16) (op_int (k := .i64) (m := (y19.length : Int)) (n := 0) rfl rfl rfl rfl rfl rfl) ?_
            refine reg_cons (guard_on rfl rfl rfl rfl hb16) (op_eqBool_neq rfl rfl rfl Try_und_4 rfl rfl) ?_
            refine reg_cons (guard_no rfl) (op_pick_f rfl rfl hb16 rfl rfl rfl) ?_
            refine reg_nil ?_
            cases hF
            exact post_cut _ rfl (imp_sub [] rfl (by decide) rfl rfl ⟨by kernel_rfl, by kernel_rfl, by kernel_rfl, by kernel_rfl, by kernel_rfl, trivial⟩ trivial rfl rfl rfl)
        · refine reg_off (guard_off rfl rfl rfl rfl hb13) rfl rfl ?_
          refine reg_off (guard_off rfl rfl rfl rfl hb13) rfl rfl ?_
          refine reg_off (guard_off rfl rfl rfl rfl hb13) rfl rfl ?_
          refine reg_off (guard_off rfl rfl rfl rfl hb13) rfl rfl ?_
          refine reg_off (guard_off rfl rfl rfl rfl hb13) rfl rfl ?_
          refine reg_cons (guard_no rfl) (op_pick_f rfl rfl hb13 rfl rfl rfl) ?_
          refine reg_cons (guard_no rfl) (op_move rfl rfl rfl rfl) ?_
          refine reg_cons (guard_on rfl rfl rfl rfl rfl) (op_move rfl rfl rfl rfl) ?_
          refine reg_cons (guard_on rfl rfl rfl rfl rfl) (op_move rfl rfl rfl rfl) ?_
          refine reg_cons (guard_on rfl rfl rfl rfl rfl) (op_move rfl rfl rfl rfl) ?_
          obtain ⟨y21, h22, hF⟩ := bind_some hF
          refine reg_cons (guard_on rfl rfl rfl rfl rfl) (op_call 0 rfl (caps := []) (args := [.vs 7 (List.map eGClass a0), .str a1.a0, .str a1.a0]) (rs := [.p (.bool y21)]) rfl rfl rfl Try_cal_44 (above_Below_ok h22) rfl rfl rfl) ?_
          refine reg_cons (guard_on rfl rfl rfl rfl rfl) (op_move rfl rfl rfl rfl) ?_
          refine reg_cons (guard_on rfl rfl rfl rfl rfl) (op_move rfl rfl rfl rfl) ?_
          obtain ⟨y23, h24, hF⟩ := bind_some hF
          refine reg_cons (guard_on rfl rfl rfl rfl rfl) (op_call 0 rfl (caps := []) (args := [.vs 7 (List.map eGClass a0), .str a1.a0]) (rs := [.p (.vs 1 (List.map eI y23))]) rfl rfl rfl Try_cal_40 (Fn.frozen (above_Chain_ok h24)) rfl rfl rfl) ?_
          refine reg_cons (guard_on rfl rfl rfl rfl rfl) (op_len_vs (n := y23.length) rfl rfl (List.length_map ..) Try_slc_42 rfl rfl) ?_
          refine reg_cons (guard_on rfl rfl rfl rfl rfl) (op_int (k := .i64) (m := (y23.length : Int)) (n := 0) rfl rfl rfl rfl rfl rfl) ?_
          refine reg_cons (guard_on rfl rfl rfl rfl rfl) (op_eqBool_neq rfl rfl rfl Try_und_4 rfl rfl) ?_
          refine reg_cons (guard_no rfl) (op_pick_f rfl rfl rfl rfl rfl rfl) ?_
          refine reg_nil ?_
          cases hF
          exact post_cut _ rfl (imp_sub [] rfl (by decide) rfl rfl ⟨by kernel_rfl, by kernel_rfl, by kernel_rfl, by kernel_rfl, by kernel_rfl, trivial⟩ trivial rfl rfl rfl)
      · refine reg_off (guard_off rfl rfl rfl rfl hb12) rfl rfl ?_
        refine reg_cons (guard_no rfl) (op_pick_f rfl rfl hb12 rfl rfl rfl) ?_
        refine reg_cons (guard_no rfl) (op_move rfl rfl rfl rfl) ?_
        refine reg_off (guard_off rfl rfl rfl rfl rfl) rfl rfl ?_
        refine reg_off (guard_off rfl rfl rfl rfl rfl) rfl rfl ?_
        refine reg_off (guard_off rfl rfl rfl rfl rfl) rfl rfl ?_
        refine reg_off (guard_off rfl rfl rfl rfl rfl) rfl rfl ?_
        refine reg_off (guard_off rfl rfl rfl rfl rfl) rfl rfl ?_
        refine reg_cons (guard_no rfl) (op_pick_f rfl rfl rfl rfl rfl rfl) ?_
        refine reg_cons (guard_no rfl) (op_move rfl rfl rfl rfl) ?_
        refine reg_cons (guard_on rfl rfl rfl rfl rfl) (op_move rfl rfl rfl rfl) ?_
        refine reg_cons (guard_on rfl rfl rfl rfl rfl) (op_move rfl rfl rfl rfl) ?_
        refine reg_cons (guard_on rfl rfl rfl rfl rfl) (op_move rfl rfl rfl rfl) ?_
        obtain ⟨y25, h26, hF⟩ := bind_some hF
        refine reg_cons (guard_on rfl rfl rfl rfl rfl) (op_call 0 rfl (caps := []) (args := [.vs 7 (List.map eGClass a0), .str a1.a0, .str a1.a0]) (rs := [.p (.bool y25)]) rfl rfl rfl Try_cal_44 (above_Below_ok h26) rfl rfl rfl) ?_
        refine reg_cons (guard_on rfl rfl rfl rfl rfl) (op_move rfl rfl rfl rfl) ?_
        refine reg_cons (guard_on rfl rfl rfl rfl rfl) (op_move rfl rfl rfl rfl) ?_
        obtain ⟨y27, h28, hF⟩ := bind_some hF
        refine reg_cons (guard_on rfl rfl rfl rfl rfl) (op_call 0 rfl (caps := []) (args := [.vs 7 (List.map eGClass a0), .str a1.a0]) (rs := [.p (.vs 1 (List.map eI y27))]) rfl rfl rfl Try_cal_40 (Fn.frozen (above_Chain_ok h28)) rfl rfl rfl) ?_
        refine reg_cons (guard_on rfl rfl rfl rfl rfl) (op_len_vs (n := y27.length) rfl rfl (List.length_map ..) Try_slc_42 rfl rfl) ?_
        refine reg_cons (guard_on rfl rfl rfl rfl rfl) (op_int (k := .i64) (m := (y27.length : Int)) (n := 0) rfl rfl rfl rfl rfl rfl) ?_
        refine reg_cons (guard_on rfl rfl rfl rfl rfl) (op_eqBool_neq rfl rfl rfl Try_und_4 rfl rfl) ?_
        refine reg_cons (guard_no rfl) (op_pick_f rfl rfl rfl rfl rfl rfl) ?_
        refine reg_nil ?_
        cases hF
        exact post_cut _ rfl (imp_sub [] rfl (by decide) rfl rfl ⟨by kernel_rfl, by kernel_rfl, by kernel_rfl, by kernel_rfl, by kernel_rfl, trivial⟩ trivial rfl rfl rfl)
    · rintro _ rfl
      have hF := hK31
      clear hK31
      refine post_next ?_
      rcases ite_some hF with ⟨hb32, hF⟩ | ⟨hb32, hF⟩
      · refine aw_cond_t rfl hb32 ?_
        refine aw_seq ?_
        refine aw_region ?_
        refine reg_cons (guard_no rfl) (op_assign rfl rfl rfl rfl) ?_
        refine reg_nil ?_
        refine post_imp (s' := ⟨95, [(4, some (.pv (.bool false)))], [], 0, [], [], 0, []⟩) (imp_sub [] rfl (by decide) rfl rfl ⟨by kernel_rfl, trivial⟩ trivial rfl rfl rfl) ?_
        refine post_next ?_
        refine aw_ret ?_
        refine post_then_ret ?_
        obtain rfl := Option.some.inj hF
        exact post_ret rfl rfl (.cons _ _ _ _ _ (.tmp _ _ rfl) (.p _) .nil) (.inl rfl)
      · refine aw_cond_f rfl hb32 ?_
        refine aw_skip ?_
        refine post_next ?_
        refine aw_seq ?_
        refine aw_region ?_
        refine reg_cons (guard_no rfl) (op_move rfl rfl rfl rfl) ?_
        refine reg_cons (guard_no rfl) (op_move rfl rfl rfl rfl) ?_
        refine reg_cons (guard_no rfl) (op_move rfl rfl rfl rfl) ?_
        obtain ⟨y35, h36, hF⟩ := bind_some hF
        refine reg_cons (guard_no rfl) (op_call 0 rfl (caps := []) (args := [.vs 7 (List.map eGClass a0), .str a1.a0, .str a1.a1]) (rs := [.p (.str y35)]) rfl rfl rfl Try_cal_46 (above_Meet_ok h36) rfl rfl rfl) ?_
        refine reg_cons (guard_no rfl) (op_assign rfl rfl rfl rfl) ?_
        refine reg_nil ?_
        refine post_imp (s' := ⟨95, [(0, some (.pv (.vs 7 (List.map eGClass a0)))), (5, some (.pv (.str a1.a0))), (6, some (.pv (.str a1.a1))), (8, some (.pv (.bool y8))), (10, some (.pv (.str y35)))], [], 0, [], [], 0, []⟩) (imp_sub [] rfl (by decide) rfl rfl ⟨by kernel_rfl, by kernel_rfl, by kernel_rfl, by kernel_rfl, by kernel_rfl, trivial⟩ trivial rfl rfl rfl) ?_
        refine post_next ?_
        refine aw_seq ?_
        refine aw_seq ?_
        obtain ⟨x43, hF, hK45⟩ := bind_some hF
        refine aw_cut (fun s1 => s1 = ⟨95, [(0, some (.pv (.vs 7 (List.map eGClass a0)))), (5, some (.pv (.str a1.a0))), (6, some (.pv (.str a1.a1))), (8, some (.pv (.bool y8))), (71, some (.pv (.bool x43)))], [], 0, [], [], 0, []⟩) ?_ ?_
        · refine aw_region ?_
          refine reg_cons (guard_no rfl) (op_move rfl rfl rfl rfl) ?_
          refine reg_cons (guard_no rfl) (op_str rfl rfl rfl rfl rfl rfl) ?_
          refine reg_cons (guard_no rfl) (op_move rfl rfl rfl rfl) ?_
          rcases ite_some hF with ⟨hb37, hF⟩ | ⟨hb37, hF⟩
          · refine reg_cons (guard_on rfl rfl rfl rfl hb37) (op_move rfl rfl rfl rfl) ?_
            refine reg_cons (guard_on rfl rfl rfl rfl hb37) (op_move rfl rfl rfl rfl) ?_
            refine reg_cons (guard_on rfl rfl rfl rfl hb37) (op_move rfl rfl rfl rfl) ?_
            obtain ⟨y38, h39, hF⟩ := bind_some hF
            refine reg_cons (guard_on rfl rfl rfl rfl hb37) (op_call 0 rfl (caps := []) (args := [.vs 7 (List.map eGClass a0), .str a1.a0, .str y35]) (rs := [.p (.bool y38)]) rfl rfl rfl Try_cal_44 (above_Below_ok h39) rfl rfl rfl) ?_
            refine reg_cons (guard_on rfl rfl rfl rfl hb37) (op_not rfl rfl rfl rfl) ?_
            refine reg_cons (guard_on rfl rfl rfl rfl hb37) (op_move rfl rfl rfl rfl) ?_
            rcases ite_some hF with ⟨hb40, hF⟩ | ⟨hb40, hF⟩
            · refine reg_off (guard_off rfl rfl rfl rfl hb40) rfl rfl ?_
              refine reg_off (guard_off rfl rfl rfl rfl hb40) rfl rfl ?_
              refine reg_off (guard_off rfl rfl rfl rfl hb40) rfl rfl ?_
              refine reg_off (guard_off rfl rfl rfl rfl hb40) rfl rfl ?_
              refine reg_off (guard_off rfl rfl rfl rfl hb40) rfl rfl ?_
              refine reg_cons (guard_on rfl rfl rfl rfl hb37) (op_pick_t rfl rfl hb40 rfl rfl rfl) ?_
              refine reg_cons (guard_no rfl) (op_pick_t rfl rfl hb37 rfl rfl rfl) ?_
              refine reg_nil ?_
              cases hF
              exact post_cut _ rfl (imp_sub [] rfl (by decide) rfl rfl ⟨by kernel_rfl, by kernel_rfl, by kernel_rfl, by kernel_rfl, by kernel_rfl, trivial⟩ trivial rfl rfl rfl)
            · refine reg_cons (guard_on rfl rfl rfl rfl hb40) (op_move rfl rfl rfl rfl) ?_
              refine reg_cons (guard_on rfl rfl rfl rfl hb40) (op_move rfl rfl rfl rfl) ?_
              refine reg_cons (guard_on rfl rfl rfl rfl hb40) (op_move rfl rfl rfl rfl) ?_
              obtain ⟨y41, h42, hF⟩ := bind_some hF
              refine reg_cons (guard_on rfl rfl rfl rfl hb40) (op_call 0 rfl (caps := []) (args := [.vs 7 (List.map eGClass a0), .str a1.a1, .str y35]) (rs := [.p (.bool y41)]) rfl rfl rfl Try_cal_44 (above_Below_ok h42) rfl rfl rfl) ?_
              refine reg_cons (guard_on rfl rfl rfl rfl hb40) (op_not rfl rfl rfl rfl) ?_
              refine reg_cons (guard_on rfl rfl rfl rfl hb37) (op_pick_f rfl rfl hb40 rfl rfl rfl) ?_
              refine reg_cons (guard_no rfl) (op_pick_t rfl rfl hb37 rfl rfl rfl) ?_
              refine reg_nil ?_
              cases hF
              exact post_cut _ rfl (imp_sub [] rfl (by decide) rfl rfl ⟨by kernel_rfl, by kernel_rfl, by kernel_rfl, by kernel_rfl, by kernel_rfl, trivial⟩ trivial rfl rfl rfl)
          · refine reg_off (guard_off rfl rfl rfl rfl hb37) rfl rfl ?_
            refine reg_off (guard_off rfl rfl rfl rfl hb37) rfl rfl ?_
            refine reg_off (guard_off rfl rfl rfl rfl hb37) rfl rfl ?_
            refine reg_off (guard_off rfl rfl rfl rfl hb37) rfl rfl ?_
            refine reg_off (guard_off rfl rfl rfl rfl hb37) rfl rfl ?_
            refine reg_off (guard_off rfl rfl rfl rfl hb37) rfl rfl ?_
            refine reg_off (guard_undef rfl rfl rfl rfl) rfl rfl ?_
            refine reg_off (guard_undef rfl rfl rfl rfl) rfl rfl ?_
            refine reg_off (guard_undef rfl rfl rfl rfl) rfl rfl ?_
            refine reg_off (guard_undef rfl rfl rfl rfl) rfl rfl ?_
            refine reg_off (guard_undef rfl rfl rfl rfl) rfl rfl ?_
            refine reg_off (guard_off rfl rfl rfl rfl hb37) rfl rfl ?_
            refine reg_cons (guard_no rfl) (op_pick_f rfl rfl hb37 rfl rfl rfl) ?_
            refine reg_nil ?_
            cases hF
            exact post_cut _ rfl (imp_sub [] rfl (by decide) rfl rfl ⟨by kernel_rfl, by kernel_rfl, by kernel_rfl, by kernel_rfl, by kernel_rfl, trivial⟩ trivial rfl rfl rfl)
        · rintro _ rfl
          have hF := hK45
          clear hK45
          refine post_next ?_
          rcases ite_some hF with ⟨hb46, hF⟩ | ⟨hb46, hF⟩
          · refine aw_cond_t rfl hb46 ?_
            refine aw_seq ?_
            refine aw_region ?_
            refine reg_cons (guard_no rfl) (op_assign rfl rfl rfl rfl) ?_
            refine reg_nil ?_
            refine post_imp (s' := ⟨95, [(4, some (.pv (.bool false)))], [], 0, [], [], 0, []⟩) (imp_sub [] rfl (by decide) rfl rfl ⟨by kernel_rfl, trivial⟩ trivial rfl rfl rfl) ?_
            refine post_next ?_
            refine aw_ret ?_
            refine post_then_ret ?_
            obtain rfl := Option.some.inj hF
            exact post_ret rfl rfl (.cons _ _ _ _ _ (.tmp _ _ rfl) (.p _) .nil) (.inl rfl)
          · refine aw_cond_f rfl hb46 ?_
            refine aw_skip ?_
            refine post_next ?_
            refine aw_seq ?_
            refine aw_region ?_
            refine reg_cons (guard_no rfl) (op_move rfl rfl rfl rfl) ?_
            obtain ⟨y47, h48, hF⟩ := bind_some hF
            refine reg_cons (guard_no rfl) (op_call 0 rfl (caps := []) (args := [.vs 7 (List.map eGClass a0)]) (rs := [.p (.agg (eGFault y47))]) rfl rfl rfl Try_cal_42 (above_Check_ok h48) rfl rfl rfl) ?_
            refine reg_cons (guard_no rfl) (op_field1 (p := .int .i64 y47.fErr) rfl rfl Try_ftb_64_0 Try_one_62 rfl rfl rfl) ?_
            refine reg_cons (guard_no rfl) (op_int (k := .i64) (m := y47.fErr) (n := 0) rfl rfl rfl rfl rfl rfl) ?_
            refine reg_cons (guard_no rfl) (op_move rfl rfl rfl rfl) ?_
            rcases ite_some hF with ⟨hb49, hF⟩ | ⟨hb49, hF⟩
            · refine reg_off (guard_off rfl rfl rfl rfl hb49) rfl rfl ?_
              refine reg_off (guard_off rfl rfl rfl rfl hb49) rfl rfl ?_
              refine reg_off (guard_off rfl rfl rfl rfl hb49) rfl rfl ?_
              refine reg_cons (guard_no rfl) (op_pick_t rfl rfl hb49 rfl rfl rfl) ?_
              refine reg_cons (guard_no rfl) (op_move rfl rfl rfl rfl) ?_
              refine reg_off (guard_off rfl rfl rfl rfl rfl) rfl rfl ?_
              refine reg_off (guard_off rfl rfl rfl rfl rfl) rfl rfl ?_
              refine reg_cons (guard_no rfl) (op_pick_t rfl rfl rfl rfl rfl rfl) ?_
              refine reg_cons (guard_no rfl) (op_move rfl rfl rfl rfl) ?_
              refine reg_off (guard_off rfl rfl rfl rfl rfl) rfl rfl ?_
              refine reg_off (guard_off rfl rfl rfl rfl rfl) rfl rfl ?_
              refine reg_off (guard_off rfl rfl rfl rfl rfl) rfl rfl ?_
              refine reg_off (guard_off rfl rfl rfl rfl rfl) rfl rfl ?_
              refine reg_off (guard_off rfl rfl rfl rfl rfl) rfl rfl ?_
              refine reg_cons (guard_no rfl) (op_pick_t rfl rfl rfl rfl rfl rfl) ?_
              refine reg_cons (guard_no rfl) (op_move rfl rfl rfl rfl) ?_
              obtain ⟨y50, h51, hF⟩ := bind_some hF
              refine reg_cons (guard_on rfl rfl rfl rfl rfl) (op_call 0 rfl (caps := []) (args := []) (rs := [.p (.bool y50)]) rfl rfl rfl Try_cal_38 (law14_awake_ok h51) rfl rfl rfl) ?_
              refine reg_cons (guard_no rfl) (op_pick_t rfl rfl rfl rfl rfl rfl) ?_
              refine reg_cons (guard_no rfl) (op_assign rfl rfl rfl rfl) ?_
              refine reg_nil ?_
              refine post_imp (s' := ⟨95, [(4, some (.pv (.bool y50)))], [], 0, [], [], 0, []⟩) (imp_sub [] rfl (by decide) rfl rfl ⟨by kernel_rfl, trivial⟩ trivial rfl rfl rfl) ?_
              refine post_next ?_
              refine aw_ret ?_
              obtain rfl := Option.some.inj hF
              exact post_ret rfl rfl (.cons _ _ _ _ _ (.tmp _ _ rfl) (.p _) .nil) (.inl rfl)
            · refine reg_cons (guard_on rfl rfl rfl rfl hb49) (op_move rfl rfl rfl rfl) ?_
              refine reg_cons (guard_on rfl rfl rfl rfl hb49) (op_move rfl rfl rfl rfl) ?_
              refine reg_cons (guard_on rfl rfl rfl rfl hb49) (op_str rfl rfl rfl rfl rfl rfl) ?_
              refine reg_cons (guard_no rfl) (op_pick_f rfl rfl hb49 rfl rfl rfl) ?_
              refine reg_cons (guard_no rfl) (op_move rfl rfl rfl rfl) ?_
              rcases ite_some hF with ⟨hb52, hF⟩ | ⟨hb52, hF⟩
              · refine reg_off (guard_off rfl rfl rfl rfl hb52) rfl rfl ?_
                refine reg_off (guard_off rfl rfl rfl rfl hb52) rfl rfl ?_
                refine reg_cons (guard_no rfl) (op_pick_t rfl rfl hb52 rfl rfl rfl) ?_
                refine reg_cons (guard_no rfl) (op_move rfl rfl rfl rfl) ?_
                refine reg_off (guard_off rfl rfl rfl rfl rfl) rfl rfl ?_
                refine reg_off (guard_off rfl rfl rfl rfl rfl) rfl rfl ?_
                refine reg_off (guard_off rfl rfl rfl rfl rfl) rfl rfl ?_
                refine reg_off (guard_off rfl rfl rfl rfl rfl) rfl rfl ?_
                refine reg_off (guard_off rfl rfl rfl rfl rfl) rfl rfl ?_
                refine reg_cons (guard_no rfl) (op_pick_t rfl rfl rfl rfl rfl rfl) ?_
                refine reg_cons (guard_no rfl) (op_move rfl rfl rfl rfl) ?_
                obtain ⟨y53, h54, hF⟩ := bind_some hF
                refine reg_cons (guard_on rfl rfl rfl rfl rfl) (op_call 0 rfl (caps := []) (args := []) (rs := [.p (.bool y53)]) rfl rfl rfl Try_cal_38 (law14_awake_ok h54) rfl rfl rfl) ?_
                refine reg_cons (guard_no rfl) (op_pick_t rfl rfl rfl rfl rfl rfl) ?_
                refine reg_cons (guard_no rfl) (op_assign rfl rfl rfl rfl) ?_
                refine reg_nil ?_
                refine post_imp (s' := ⟨95, [(4, some (.pv (.bool y53)))], [], 0, [], [], 0, []⟩) (imp_sub [] rfl (by decide) rfl rfl ⟨by kernel_rfl, trivial⟩ trivial rfl rfl rfl) ?_
                refine post_next ?_
                refine aw_ret ?_
                obtain rfl := Option.some.inj hF
                exact post_ret rfl rfl (.cons _ _ _ _ _ (.tmp _ _ rfl) (.p _) .nil) (.inl rfl)
              · refine reg_cons (guard_on rfl rfl rfl rfl hb52) (op_move rfl rfl rfl rfl) ?_
                refine reg_cons (guard_on rfl rfl rfl rfl hb52) (op_not rfl rfl rfl rfl) ?_
                refine reg_cons (guard_no rfl) (op_pick_f rfl rfl hb52 rfl rfl rfl) ?_
                refine reg_cons (guard_no rfl) (op_move rfl rfl rfl rfl) ?_
                rcases ite_some hF with ⟨hb55, hF⟩ | ⟨hb55, hF⟩
                · refine reg_off (guard_off rfl rfl rfl rfl hb55) rfl rfl ?_
                  refine reg_off (guard_off rfl rfl rfl rfl hb55) rfl rfl ?_
                  refine reg_off (guard_off rfl rfl rfl rfl hb55) rfl rfl ?_
                  refine reg_off (guard_off rfl rfl rfl rfl hb55) rfl rfl ?_
                  refine reg_off (guard_off rfl rfl rfl rfl hb55) rfl rfl ?_
                  refine reg_cons (guard_no rfl) (op_pick_t rfl rfl hb55 rfl rfl rfl) ?_
                  refine reg_cons (guard_no rfl) (op_move rfl rfl rfl rfl) ?_
                  obtain ⟨y56, h57, hF⟩ := bind_some hF
                  refine reg_cons (guard_on rfl rfl rfl rfl rfl) (op_call 0 rfl (caps := []) (args := []) (rs := [.p (.bool y56)]) rfl rfl rfl Try_cal_38 (law14_awake_ok h57) rfl rfl rfl) ?_
                  refine reg_cons (guard_no rfl) (op_pick_t rfl rfl rfl rfl rfl rfl) ?_
                  refine reg_cons (guard_no rfl) (op_assign rfl rfl rfl rfl) ?_
                  refine reg_nil ?_
                  refine post_imp (s' := ⟨95, [(4, some (.pv (.bool y56)))], [], 0, [], [], 0, []⟩) (imp_sub [] rfl (by decide) rfl rfl ⟨by kernel_rfl, trivial⟩ trivial rfl rfl rfl) ?_
                  refine post_next ?_
                  refine aw_ret ?_
                  obtain rfl := Option.some.inj hF
                  exact post_ret rfl rfl (.cons _ _ _ _ _ (.tmp _ _ rfl) (.p _) .nil) (.inl rfl)
                · refine reg_cons (guard_on rfl rfl rfl rfl hb55) (op_move rfl rfl rfl rfl) ?_
                  refine reg_cons (guard_on rfl rfl rfl rfl hb55) (op_move rfl rfl rfl rfl) ?_
                  refine reg_cons (guard_on rfl rfl rfl rfl hb55) (op_move rfl rfl rfl rfl) ?_
                  obtain ⟨y58, h59, hF⟩ := bind_some hF
                  refine reg_cons (guard_on rfl rfl rfl rfl hb55) (op_call 0 rfl (caps := []) (args := [.vs 7 (List.map eGClass a0), .str a1.a1, .str a1.a0]) (rs := [.p (.bool y58)]) rfl rfl rfl Try_cal_44 (above_Below_ok h59) rfl rfl rfl) ?_
                  refine reg_cons (guard_on rfl rfl rfl rfl hb55) (op_not rfl rfl rfl rfl) ?_
                  refine reg_cons (guard_no rfl) (op_pick_f rfl rfl hb55 rfl rfl rfl) ?_
                  refine reg_cons (guard_no rfl) (op_move rfl rfl rfl rfl) ?_
                  rcases ite_some hF with ⟨hb60, hF⟩ | ⟨hb60, hF⟩
                  · obtain ⟨y61, h62, hF⟩ := bind_some hF
                    refine reg_cons (guard_on rfl rfl rfl rfl hb60) (op_call 0 rfl (caps := []) (args := []) (rs := [.p (.bool y61)]) rfl rfl rfl Try_cal_38 (law14_awake_ok h62) rfl rfl rfl) ?_
                    refine reg_cons (guard_no rfl) (op_pick_t rfl rfl hb60 rfl rfl rfl) ?_
                    refine reg_cons (guard_no rfl) (op_assign rfl rfl rfl rfl) ?_
                    refine reg_nil ?_
                    refine post_imp (s' := ⟨95, [(4, some (.pv (.bool y61)))], [], 0, [], [], 0, []⟩) (imp_sub [] rfl (by decide) rfl rfl ⟨by kernel_rfl, trivial⟩ trivial rfl rfl rfl) ?_
                    refine post_next ?_
                    refine aw_ret ?_
                    obtain rfl := Option.some.inj hF
                    exact post_ret rfl rfl (.cons _ _ _ _ _ (.tmp _ _ rfl) (.p _) .nil) (.inl rfl)
                  · refine reg_off (guard_off rfl rfl rfl rfl hb60) rfl rfl ?_
                    refine reg_cons (guard_no rfl) (op_pick_f rfl rfl hb60 rfl rfl rfl) ?_
                    refine reg_cons (guard_no rfl) (op_assign rfl rfl rfl rfl) ?_
                    refine reg_nil ?_
                    refine post_imp (s' := ⟨95, [(4, some (.pv (.bool false)))], [], 0, [], [], 0, []⟩) (imp_sub [] rfl (by decide) rfl rfl ⟨by kernel_rfl, trivial⟩ trivial rfl rfl rfl) ?_
                    refine post_next ?_
                    refine aw_ret ?_
                    obtain rfl := Option.some.inj hF
                    exact post_ret rfl rfl (.cons _ _ _ _ _ (.tmp _ _ rfl) (.p _) .nil) (.inl rfl)
end Go.Proofs.Ytpbbeljmmabeeaa
