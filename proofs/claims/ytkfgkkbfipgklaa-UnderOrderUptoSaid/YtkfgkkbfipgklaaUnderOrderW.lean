/- A part of the proof that the law UnderOrder gives true for every input. -/
import Derived.Test.YtkfgkkbfipgklaaUnderOrderT
import Derived.Test.YtkfgkkbfipgklaaUnderOrderX
import Derived.Test.YtkfgkkbfipgklaaUnderOrderI
import Derived.Test.YtkfgkkbfipgklaaUnderOrderW2
/- Each Go function computes its plain function. -/
namespace Go.Proofs.Ytkfgkkbfipgklaa
open Go.RowKit Go.Abs
set_option maxRecDepth 100000
set_option maxHeartbeats 4000000
theorem slices_IndexFunc_api_Class_ok {a0 : List GClass} {q1 : GClass → Option Bool} {r : Int} {q1_f : Nat} {q1_c : List PV} (q1_b : callB Try.prog q1_f = true) (q1_h : ∀ (x0 : GClass) (r : Bool), q1 x0 = some r → Abs.Fn Try.prog q1_f ([.agg (eGClass x0)] ++ q1_c) [.p (.bool r)]) (hF : slices_IndexFunc_api_Class a0 q1 = some r) : Abs.Fn Try.prog 79 [.vs 7 (List.map eGClass a0), .fn q1_f q1_c] [.p (.int .i64 r)] := by
  unfold slices_IndexFunc_api_Class at hF
  refine fn_of_body (n := 19) Try.func79 rfl rfl rfl ?_
  intro w O
  refine aw_seq ?_
  refine aw_region ?_
  refine ras ?_
  refine reg_nil ?_
  refine post_imp (s' := ⟨19, [(0, some (.pv (.vs 7 (List.map eGClass a0)))), (1, some (.pv (.fn q1_f q1_c)))], [], 0, [], [], 0, []⟩) (imps [] ⟨by kernel_rfl, by kernel_rfl, trivial⟩ trivial) ?_
  refine post_next ?_
  iterate 2 (refine aw_seq ?_)
  refine aw_region ?_
  refine rmv ?_
  refine reg_cons (guard_no rfl) (op_len_vs (n := a0.length) rfl rfl (List.length_map ..) Try_slc_22 rfl rfl) ?_
  refine rmv ?_
  refine reg_nil ?_
  refine post_imp (s' := ⟨19, [(0, some (.pv (.vs 7 (List.map eGClass a0)))), (1, some (.pv (.fn q1_f q1_c))), (7, some (.pv (.int .i64 (a0.length : Int)))), (8, some (.pv (.int .i64 0)))], [], 0, [], [], 0, []⟩) (imps [] ⟨by kernel_rfl, by kernel_rfl, by kernel_rfl, by kernel_rfl, trivial⟩ trivial) ?_
  refine post_next ?_
  obtain ⟨lr34, hF, hK35⟩ := bind_some hF
  refine aw_for ((((a0.length : Int) : Int) - (0)).toNat + 1) (fun s1 => ∃ q, lr34 = .next q ∧ s1 = ⟨19, [], [], 0, [], [], 0, []⟩) ?_ ?_
  · refine rnd_loop (α := Int) (fun q => ⟨19, [(0, some (.pv (.vs 7 (List.map eGClass a0)))), (1, some (.pv (.fn q1_f q1_c))), (7, some (.pv (.int .i64 (a0.length : Int)))), (8, some (.pv (.int .i64 q)))], [], 0, [], [], 0, []⟩) (fun k q => slices_IndexFunc_api_Class_L1 a0 q1 k q = some lr34) 0 (imps [] ⟨by kernel_rfl, by kernel_rfl, by kernel_rfl, by kernel_rfl, trivial⟩ trivial) hF (fun q h => by cases h) ?_
    clear hF
    rintro k x11 hF ih
    refine rnd_succ ?_
    refine aw_seq ?_
    refine aw_region ?_
    refine reg_cons (guard_no rfl) (op_int (k := .i64) (m := x11) (n := (a0.length : Int)) rfl rfl rfl rfl rfl rfl) ?_
    refine reg_nil ?_
    refine post_imp (s' := ⟨19, [(0, some (.pv (.vs 7 (List.map eGClass a0)))), (1, some (.pv (.fn q1_f q1_c))), (7, some (.pv (.int .i64 (a0.length : Int)))), (8, some (.pv (.int .i64 x11))), (9, some (.pv (.bool (decide (x11 < (a0.length : Int))))))], [], 0, [], [], 0, []⟩) (imps [] ⟨by kernel_rfl, by kernel_rfl, by kernel_rfl, by kernel_rfl, by kernel_rfl, trivial⟩ trivial) ?_
    refine post_next ?_
    refine aw_seq ?_
    rcases ite_some hF with ⟨hb23, hF⟩ | ⟨hb23, hF⟩
    · refine aw_cond_t rfl hb23 ?_
      refine aw_skip ?_
      refine post_next ?_
      refine aw_seq ?_
      refine aw_block ?_
      refine aw_seq ?_
      refine aw_region ?_
      refine rmv ?_
      refine ras ?_
      refine reg_nil ?_
      refine post_imp (s' := ⟨19, [(0, some (.pv (.vs 7 (List.map eGClass a0)))), (1, some (.pv (.fn q1_f q1_c))), (5, some (.pv (.int .i64 x11))), (7, some (.pv (.int .i64 (a0.length : Int)))), (8, some (.pv (.int .i64 x11)))], [], 0, [], [], 0, []⟩) (imps [] ⟨by kernel_rfl, by kernel_rfl, by kernel_rfl, by kernel_rfl, by kernel_rfl, trivial⟩ trivial) ?_
      refine post_next ?_
      refine aw_seq ?_
      refine aw_region ?_
      iterate 3 (refine rmv ?_)
      obtain ⟨y28, h29, hF⟩ := bind_some hF
      refine reg_cons (guard_no rfl) (op_index_vs (k := .i64) rfl rfl rfl (idx_map eGClass h29) Try_slc_22 rfl rfl) ?_
      refine reg_cons (guard_no rfl) (op_load_vp_agg (ps := eGClass y28) rfl rfl rfl rfl Try_agg_43 rfl rfl) ?_
      obtain ⟨y30, h31, hF⟩ := bind_some hF
      refine reg_cons (guard_no rfl) (op_call 0 rfl (caps := q1_c) (args := [.agg (eGClass y28)]) (rs := [.p (.bool y30)]) rfl rfl rfl q1_b (q1_h y28 _ h31) rfl rfl rfl) ?_
      refine reg_nil ?_
      refine post_imp (s' := ⟨19, [(0, some (.pv (.vs 7 (List.map eGClass a0)))), (1, some (.pv (.fn q1_f q1_c))), (5, some (.pv (.int .i64 x11))), (7, some (.pv (.int .i64 (a0.length : Int)))), (8, some (.pv (.int .i64 x11))), (16, some (.pv (.bool y30)))], [], 0, [], [], 0, []⟩) (imps [] ⟨by kernel_rfl, by kernel_rfl, by kernel_rfl, by kernel_rfl, by kernel_rfl, by kernel_rfl, trivial⟩ trivial) ?_
      refine post_next ?_
      rcases ite_some hF with ⟨hb32, hF⟩ | ⟨hb32, hF⟩
      · refine aw_cond_t rfl hb32 ?_
        refine aw_seq ?_
        refine aw_region ?_
        refine rmv ?_
        refine ras ?_
        refine reg_nil ?_
        refine post_imp (s' := ⟨19, [(4, some (.pv (.int .i64 x11)))], [], 0, [], [], 0, []⟩) (imps [] ⟨by kernel_rfl, trivial⟩ trivial) ?_
        refine post_next ?_
        refine aw_ret ?_
        refine post_block_ret ?_
        iterate 2 (refine post_then_ret ?_)
        refine post_lp_ret ?_
        obtain rfl := Option.some.inj hF
        have hF := elim_stop hK35
        refine post_then_ret ?_
        obtain rfl := Option.some.inj hF
        exact post_ret rfl rfl (.cons _ _ _ _ _ (.tmp _ _ rfl) (.p _) .nil) (.inl rfl)
      refine aw_cond_f rfl hb32 ?_
      refine aw_skip ?_
      refine post_block_normal ?_
      refine post_next ?_
      refine aw_region ?_
      refine reg_cons (guard_no rfl) (op_int (k := .i64) (m := x11) (n := 1) rfl rfl rfl rfl rfl rfl) ?_
      refine rmv ?_
      refine reg_nil ?_
      refine post_round ?_
      exact rnd_back (ih (w_i64 (x11 + 1)) hF) (imps [] ⟨by kernel_rfl, by kernel_rfl, by kernel_rfl, by kernel_rfl, trivial⟩ trivial)
    refine aw_cond_f rfl hb23 ?_
    refine aw_exit ?_
    iterate 2 (refine post_then_exit ?_)
    obtain rfl := Option.some.inj hF
    exact post_lp_break _ ⟨_, rfl, rfl⟩ (imps [] trivial trivial)
  rintro _ ⟨⟨⟩, rfl, rfl⟩
  have hF := elim_next hK35
  clear hK35
  refine post_next ?_
  refine aw_seq ?_
  refine aw_region ?_
  refine ras ?_
  refine reg_nil ?_
  refine post_imp (s' := ⟨19, [(4, some (.pv (.int .i64 (-1))))], [], 0, [], [], 0, []⟩) (imps [] ⟨by kernel_rfl, trivial⟩ trivial) ?_
  refine post_next ?_
  refine aw_ret ?_
  obtain rfl := Option.some.inj hF
  exact post_ret rfl rfl (.cons _ _ _ _ _ (.tmp _ _ rfl) (.p _) .nil) (.inl rfl)
theorem table_Find_1_ok {a0 : GClass} {c0 : List UInt8} {r : Bool} (hF : table_Find_1 a0 c0 = some r) : Abs.Fn Try.prog 80 [.agg (eGClass a0), .vp (eS c0)] [.p (.bool r)] := by
  unfold table_Find_1 at hF
  refine fn_of_body (n := 8) Try.func80 rfl rfl rfl ?_
  intro w O
  refine aw_seq ?_
  refine aw_region ?_
  refine reg_cons (guard_no rfl) (op_box 0 rfl rfl rfl rfl rfl rfl) ?_
  refine ras ?_
  refine reg_nil ?_
  refine post_imp (s' := ⟨8, [(1, some (.pv (.vp (eS c0)))), (2, some (.lp 0 0))], [(0, some (.box 43 (bxv (eGClass a0))))], 1, [], [], 0, []⟩) (imps [0] ⟨by kernel_rfl, by kernel_rfl, trivial⟩ ⟨by kernel_rfl, trivial⟩) ?_
  refine post_next ?_
  refine aw_seq ?_
  refine aw_region ?_
  refine reg_cons (guard_no rfl) (op_field_lp rfl rfl Try_fld_43_0 rfl rfl) ?_
  refine reg_cons (guard_no rfl) (op_load_lp (v := .pv (.str a0.fName)) rfl rfl rfl rfl Try_one_9 rfl rfl) ?_
  refine reg_cons (guard_no rfl) (op_load_vp (p := .str c0) rfl rfl rfl Try_one_9 rfl rfl) ?_
  refine reg_cons (guard_no rfl) (op_str rfl rfl rfl rfl rfl rfl) ?_
  refine ras ?_
  refine reg_nil ?_
  refine post_imp (s' := ⟨8, [(3, some (.pv (.bool (a0.fName == c0))))], [], 0, [], [], 0, []⟩) (imps [] ⟨by kernel_rfl, trivial⟩ trivial) ?_
  refine post_next ?_
  refine aw_ret ?_
  obtain rfl := Option.some.inj hF
  exact post_ret rfl rfl (.cons _ _ _ _ _ (.tmp _ _ rfl) (.p _) .nil) (.inl rfl)
theorem table_Find_ok {a0 : List GClass} {a1 : List UInt8} {r : Int} (hF : table_Find a0 a1 = some r) : Abs.Fn Try.prog 59 [.vs 7 (List.map eGClass a0), .str a1] [.p (.int .i64 r)] := by
  unfold table_Find at hF
  refine fn_of_body (n := 8) Try.func59 rfl rfl rfl ?_
  intro w O
  refine aw_seq ?_
  refine aw_region ?_
  refine reg_cons (guard_no rfl) (op_box 0 rfl rfl rfl rfl rfl rfl) ?_
  refine ras ?_
  refine reg_nil ?_
  refine post_imp (s' := ⟨8, [(0, some (.pv (.vs 7 (List.map eGClass a0)))), (3, some (.lp 0 0))], [(0, some (.box 9 [.pv (.str a1)]))], 1, [], [], 0, []⟩) (imps [0] ⟨by kernel_rfl, by kernel_rfl, trivial⟩ ⟨by kernel_rfl, trivial⟩) ?_
  refine post_next ?_
  refine aw_seq ?_
  refine aw_region ?_
  refine rmv ?_
  refine reg_cons (guard_no rfl) (op_makeFunc rfl rfl rfl rfl) ?_
  obtain ⟨y2, h3, hF⟩ := bind_some hF
  refine reg_cons (guard_no rfl) (op_callB 1 rfl (caps := []) (args := [.vs 7 (List.map eGClass a0), .fn 80 [.vp (eS a1)]]) [(0, some (.box 9 [.pv (.str a1)]))] rfl rfl rfl (FzH.spec ⟨rfl, trivial⟩) rfl rfl Try_cal_79 (slices_IndexFunc_api_Class_ok (q1_f := 80) (q1_c := [.vp (eS a1)]) (q1_b := Try_cal_80) (q1_h := fun _ r h => (table_Find_1_ok h)) h3) rfl rfl rfl) ?_
  refine ras ?_
  refine reg_nil ?_
  refine post_imp (s' := ⟨8, [(4, some (.pv (.int .i64 y2)))], [], 0, [], [], 0, []⟩) (imps [] ⟨by kernel_rfl, trivial⟩ trivial) ?_
  refine post_next ?_
  refine aw_ret ?_
  obtain rfl := Option.some.inj hF
  exact post_ret rfl rfl (.cons _ _ _ _ _ (.tmp _ _ rfl) (.p _) .nil) (.inl rfl)
theorem above_up_ok {a0 : List GClass} {a1 : List UInt8} {r : (List GClass) × (List UInt8)} (hF : above_up a0 a1 = some r) : Abs.Fn Try.prog 60 [.vs 7 (List.map eGClass a0), .str a1] [.clo 81 [.vp ((eL 7 eGClass) r.1)] 9 [.str r.2] []] := by
  unfold above_up at hF
  refine fn_of_body (n := 6) Try.func60 rfl rfl rfl ?_
  intro w O
  refine aw_seq ?_
  refine aw_region ?_
  refine reg_cons (guard_no rfl) (op_box 0 rfl rfl rfl rfl rfl rfl) ?_
  refine reg_cons (guard_no rfl) (op_box 1 rfl rfl rfl rfl rfl rfl) ?_
  refine ras ?_
  refine reg_nil ?_
  refine post_imp (s' := ⟨6, [(2, some (.lp 0 0)), (3, some (.lp 1 0))], [(0, some (.box 22 [.pv (.vs 7 (List.map eGClass a0))])), (1, some (.box 9 [.pv (.str a1)]))], 2, [], [], 0, []⟩) (imps [0, 1] ⟨by kernel_rfl, by kernel_rfl, trivial⟩ ⟨by kernel_rfl, by kernel_rfl, trivial⟩) ?_
  refine post_next ?_
  refine aw_seq ?_
  refine aw_region ?_
  refine reg_cons (guard_no rfl) (op_makeFunc rfl rfl rfl rfl) ?_
  refine ras ?_
  refine reg_nil ?_
  refine post_imp (s' := ⟨6, [(4, some (.fn 81 [.lp 0 0, .lp 1 0]))], [(0, some (.box 22 [.pv (.vs 7 (List.map eGClass a0))])), (1, some (.box 9 [.pv (.str a1)]))], 2, [], [], 0, []⟩) (imps [0, 1] ⟨by kernel_rfl, trivial⟩ ⟨by kernel_rfl, by kernel_rfl, trivial⟩) ?_
  refine post_next ?_
  refine aw_ret ?_
  refine post_imp (imp_freeze_cap 4 0 [.pv (.vp ((eL 7 eGClass) a0)), .lp 1 0] rfl rfl rfl rfl ⟨.inr ⟨rfl, rfl⟩, .inl rfl, trivial⟩) ?_
  obtain rfl := Option.some.inj hF
  exact post_ret rfl rfl (.cons _ _ _ _ _ (.tmp _ _ rfl) (.clo 81 [.vp ((eL 7 eGClass) a0)] [] 1 9 [.str a1] rfl nolent3) .nil) (.inl rfl)
theorem above_up_1_it {rows : List (Int)} {sp : Nat} {c0 : List GClass} {c1 : List UInt8} (hF : above_up_1 rows sp c0 c1 = some (min (sp + 1) rows.length)) : It Try.prog 81 1 [.vp ((eL 7 eGClass) c0)] (some (9, [.str c1])) [] (rows.map (fun z : Int => ([.int .i64 z] : List PV))) sp := by
  unfold above_up_1 at hF
  refine it_of_body (n := 29) Try.func81 rfl rfl rfl ?_
  intro l c hcx
  refine aw_seq ?_
  refine aw_region ?_
  refine reg_cons (guard_no rfl) (op_load_vp (p := .vs 7 (List.map eGClass c0)) rfl rfl rfl Try_one_22 rfl rfl) ?_
  refine reg_cons (guard_no rfl) (op_len_vs (n := c0.length) rfl rfl (List.length_map ..) Try_slc_22 rfl rfl) ?_
  refine reg_cons (guard_no rfl) (op_int (k := .i64) (m := (c0.length : Int)) (n := 1) rfl rfl rfl rfl rfl rfl) ?_
  refine rmv ?_
  refine reg_nil ?_
  refine post_imp (s' := ⟨29, [(0, some (.pv (.yld l))), (1, some (.pv (.vp ((eL 7 eGClass) c0)))), (2, some (.lp 0 0)), (7, some (.pv (.int .i64 (w_i64 ((c0.length : Int) + 1))))), (8, some (.pv (.int .i64 0)))], [(0, some (.box 9 [.pv (.str c1)]))], 1, [], [], 0, []⟩) (imps [0] ⟨by kernel_rfl, by kernel_rfl, by kernel_rfl, by kernel_rfl, by kernel_rfl, trivial⟩ ⟨by kernel_rfl, trivial⟩) ?_
  refine post_next ?_
  obtain ⟨lr65, hF, hK66⟩ := bind_some hF
  refine aw_for ((((w_i64 ((c0.length : Int) + 1)) : Int) - (0)).toNat + 1) (fun s1 => ∃ q, lr65 = .next q ∧ s1 = ⟨29, [], [], 0, [], [], q, []⟩) ?_ ?_
  · refine rnd_loop (α := Nat × (List UInt8) × Int) (fun q => ⟨29, [(0, some (.pv (.yld l))), (1, some (.pv (.vp ((eL 7 eGClass) c0)))), (2, some (.lp 0 0)), (7, some (.pv (.int .i64 (w_i64 ((c0.length : Int) + 1))))), (8, some (.pv (.int .i64 q.2.2)))], [(0, some (.box 9 [.pv (.str q.2.1)]))], 1, [], [], q.1, []⟩) (fun k q => above_up_1_L1 c0 sp rows k q.1 q.2.1 q.2.2 = some lr65) (0, c1, 0) (imps [0] ⟨by kernel_rfl, by kernel_rfl, by kernel_rfl, by kernel_rfl, by kernel_rfl, trivial⟩ ⟨by kernel_rfl, trivial⟩) hF (fun q h => by cases h) ?_
    clear hF
    rintro k ⟨x19, x20, x21⟩ hF ih
    refine rnd_succ ?_
    refine aw_seq ?_
    refine aw_region ?_
    refine reg_cons (guard_no rfl) (op_int (k := .i64) (m := x21) (n := w_i64 ((c0.length : Int) + 1)) rfl rfl rfl rfl rfl rfl) ?_
    refine reg_nil ?_
    refine post_imp (s' := ⟨29, [(0, some (.pv (.yld l))), (1, some (.pv (.vp ((eL 7 eGClass) c0)))), (2, some (.lp 0 0)), (7, some (.pv (.int .i64 (w_i64 ((c0.length : Int) + 1))))), (8, some (.pv (.int .i64 x21))), (9, some (.pv (.bool (decide (x21 < (w_i64 ((c0.length : Int) + 1)))))))], [(0, some (.box 9 [.pv (.str x20)]))], 1, [], [], x19, []⟩) (imps [0] ⟨by kernel_rfl, by kernel_rfl, by kernel_rfl, by kernel_rfl, by kernel_rfl, by kernel_rfl, trivial⟩ ⟨by kernel_rfl, trivial⟩) ?_
    refine post_next ?_
    refine aw_seq ?_
    rcases ite_some hF with ⟨hb43, hF⟩ | ⟨hb43, hF⟩
    · refine aw_cond_t rfl hb43 ?_
      refine aw_skip ?_
      refine post_next ?_
      refine aw_seq ?_
      refine aw_block ?_
      refine aw_seq ?_
      refine aw_region ?_
      refine reg_cons (guard_no rfl) (op_load_vp (p := .vs 7 (List.map eGClass c0)) rfl rfl rfl Try_one_22 rfl rfl) ?_
      refine reg_cons (guard_no rfl) (op_load_lp (v := .pv (.str x20)) rfl rfl rfl rfl Try_one_9 rfl rfl) ?_
      obtain ⟨y46, h47, hF⟩ := bind_some hF
      refine reg_cons (guard_no rfl) (op_call 1 rfl (caps := []) (args := [.vs 7 (List.map eGClass c0), .str x20]) (rs := [.p (.int .i64 y46)]) rfl rfl rfl Try_cal_59 (table_Find_ok h47) rfl rfl rfl) ?_
      refine ras ?_
      refine reg_nil ?_
      refine post_imp (s' := ⟨29, [(0, some (.pv (.yld l))), (1, some (.pv (.vp ((eL 7 eGClass) c0)))), (2, some (.lp 0 0)), (4, some (.pv (.int .i64 y46))), (7, some (.pv (.int .i64 (w_i64 ((c0.length : Int) + 1))))), (8, some (.pv (.int .i64 x21)))], [(0, some (.box 9 [.pv (.str x20)]))], 1, [], [], x19, []⟩) (imps [0] ⟨by kernel_rfl, by kernel_rfl, by kernel_rfl, by kernel_rfl, by kernel_rfl, by kernel_rfl, trivial⟩ ⟨by kernel_rfl, trivial⟩) ?_
      refine post_next ?_
      iterate 2 (refine aw_seq ?_)
      obtain ⟨p53, hF, hK54⟩ := bind_some hF
      obtain ⟨x51, x52⟩ := p53
      refine aw_cut (fun s1 => s1 = ⟨29, [(0, some (.pv (.yld l))), (1, some (.pv (.vp ((eL 7 eGClass) c0)))), (2, some (.lp 0 0)), (4, some (.pv (.int .i64 y46))), (7, some (.pv (.int .i64 (w_i64 ((c0.length : Int) + 1))))), (8, some (.pv (.int .i64 x21))), (20, some (.pv (.bool x52)))], [(0, some (.box 9 [.pv (.str x20)]))], 1, [], [], x51, []⟩) ?_ ?_
      · refine aw_region ?_
        refine rmv ?_
        refine reg_cons (guard_no rfl) (op_int (k := .i64) (m := y46) (n := 0) rfl rfl rfl rfl rfl rfl) ?_
        refine rmv ?_
        rcases ite_some hF with ⟨hb48, hF⟩ | ⟨hb48, hF⟩
        · refine rgo_t hb48 ?_
          iterate 3 (refine rgo_t hb48 ?_)
          refine rpt hb48 ?_
          refine reg_nil ?_
          cases hF
          exact post_cut _ rfl (imps [0] ⟨by kernel_rfl, by kernel_rfl, by kernel_rfl, by kernel_rfl, by kernel_rfl, by kernel_rfl, by kernel_rfl, trivial⟩ ⟨by kernel_rfl, trivial⟩)
        iterate 2 (refine reg_cons (guard_on rfl rfl rfl rfl hb48) (op_move rfl rfl rfl rfl) ?_)
        obtain ⟨u49, h50, hF⟩ := bind_some hF
        refine reg_cons (guard_on rfl rfl rfl rfl hb48) (op_yield (row := (fun z : Int => ([.int .i64 z] : List PV)) y46) hcx rfl rfl rfl rfl (yck_row (fun z : Int => ([.int .i64 z] : List PV)) h50) (yck_spec h50).2 rfl rfl) ?_
        refine reg_cons (guard_on rfl rfl rfl rfl hb48) (op_not rfl rfl rfl rfl) ?_
        refine rpf hb48 ?_
        refine reg_nil ?_
        cases hF
        exact post_cut _ rfl (imps [0] ⟨by kernel_rfl, by kernel_rfl, by kernel_rfl, by kernel_rfl, by kernel_rfl, by kernel_rfl, by kernel_rfl, trivial⟩ ⟨by kernel_rfl, trivial⟩)
      rintro _ rfl
      have hF := hK54
      clear hK54
      refine post_next ?_
      rcases ite_some hF with ⟨hb55, hF⟩ | ⟨hb55, hF⟩
      · refine aw_cond_t rfl hb55 ?_
        refine aw_ret ?_
        refine post_then_ret ?_
        refine post_block_ret ?_
        iterate 2 (refine post_then_ret ?_)
        refine post_lp_ret ?_
        obtain rfl := Option.some.inj hF
        have hF := elim_stop hK66
        exact post_it (it_len hF) rfl (.inl rfl)
      refine aw_cond_f rfl hb55 ?_
      refine aw_skip ?_
      refine post_next ?_
      refine aw_seq ?_
      refine aw_region ?_
      refine reg_cons (guard_no rfl) (op_load_vp (p := .vs 7 (List.map eGClass c0)) rfl rfl rfl Try_one_22 rfl rfl) ?_
      refine rmv ?_
      obtain ⟨y58, h59, hF⟩ := bind_some hF
      refine reg_cons (guard_no rfl) (op_index_vs (k := .i64) rfl rfl rfl (idx_map eGClass h59) Try_slc_22 rfl rfl) ?_
      refine reg_cons (guard_no rfl) (op_field_vp rfl rfl Try_fld_43_2 rfl rfl) ?_
      refine reg_cons (guard_no rfl) (op_load_vp (p := .str y58.fSuper) rfl rfl rfl Try_one_9 rfl rfl) ?_
      refine reg_cons (guard_no rfl) (op_store_lp (n := 1) rfl rfl rfl rfl rfl (or_one Try_one_9) (by rw [Try_one_9]; rfl) rfl rfl rfl) ?_
      refine reg_nil ?_
      refine post_imp (s' := ⟨29, [(0, some (.pv (.yld l))), (1, some (.pv (.vp ((eL 7 eGClass) c0)))), (2, some (.lp 0 0)), (7, some (.pv (.int .i64 (w_i64 ((c0.length : Int) + 1))))), (8, some (.pv (.int .i64 x21)))], [(0, some (.box 9 [.pv (.str y58.fSuper)]))], 1, [], [], x51, []⟩) (imps [0] ⟨by kernel_rfl, by kernel_rfl, by kernel_rfl, by kernel_rfl, by kernel_rfl, trivial⟩ ⟨by kernel_rfl, trivial⟩) ?_
      refine post_next ?_
      refine aw_seq ?_
      refine aw_region ?_
      refine reg_cons (guard_no rfl) (op_load_lp (v := .pv (.str y58.fSuper)) rfl rfl rfl rfl Try_one_9 rfl rfl) ?_
      refine reg_cons (guard_no rfl) (op_str rfl rfl rfl rfl rfl rfl) ?_
      refine reg_nil ?_
      refine post_imp (s' := ⟨29, [(0, some (.pv (.yld l))), (1, some (.pv (.vp ((eL 7 eGClass) c0)))), (2, some (.lp 0 0)), (7, some (.pv (.int .i64 (w_i64 ((c0.length : Int) + 1))))), (8, some (.pv (.int .i64 x21))), (27, some (.pv (.bool (y58.fSuper == []))))], [(0, some (.box 9 [.pv (.str y58.fSuper)]))], 1, [], [], x51, []⟩) (imps [0] ⟨by kernel_rfl, by kernel_rfl, by kernel_rfl, by kernel_rfl, by kernel_rfl, by kernel_rfl, trivial⟩ ⟨by kernel_rfl, trivial⟩) ?_
      refine post_next ?_
      rcases ite_some hF with ⟨hb60, hF⟩ | ⟨hb60, hF⟩
      · refine aw_cond_t rfl hb60 ?_
        refine aw_ret ?_
        refine post_block_ret ?_
        iterate 2 (refine post_then_ret ?_)
        refine post_lp_ret ?_
        obtain rfl := Option.some.inj hF
        have hF := elim_stop hK66
        exact post_it (it_len hF) rfl (.inl rfl)
      refine aw_cond_f rfl hb60 ?_
      refine aw_skip ?_
      refine post_block_normal ?_
      refine post_next ?_
      refine aw_region ?_
      refine reg_cons (guard_no rfl) (op_int (k := .i64) (m := x21) (n := 1) rfl rfl rfl rfl rfl rfl) ?_
      refine rmv ?_
      refine reg_nil ?_
      refine post_round ?_
      exact rnd_back (ih (x51, y58.fSuper, w_i64 (x21 + 1)) hF) (imps [0] ⟨by kernel_rfl, by kernel_rfl, by kernel_rfl, by kernel_rfl, by kernel_rfl, trivial⟩ ⟨by kernel_rfl, trivial⟩)
    refine aw_cond_f rfl hb43 ?_
    refine aw_exit ?_
    iterate 2 (refine post_then_exit ?_)
    obtain rfl := Option.some.inj hF
    exact post_lp_break _ ⟨_, rfl, rfl⟩ (imps [] trivial trivial)
  rintro _ ⟨x64, rfl, rfl⟩
  have hF := elim_next hK66
  clear hK66
  exact post_it (it_len hF) rfl (.inr rfl)

theorem above_Below_ok {a0 : List GClass} {a1 : List UInt8} {a2 : List UInt8} {r : Bool} (hF : above_Below a0 a1 a2 = some r) : Abs.Fn Try.prog 36 [.vs 7 (List.map eGClass a0), .str a1, .str a2] [.p (.bool r)] := by
  unfold above_Below at hF
  refine fn_of_body (n := 19) Try.func36 rfl rfl rfl ?_
  intro w O
  refine aw_seq ?_
  refine aw_region ?_
  refine reg_cons (guard_no rfl) (op_alloc 0 rfl (ps := [.bool false]) rfl Try_zer_4 (by exact ⟨rfl, trivial⟩) rfl rfl) ?_
  refine reg_nil ?_
  refine post_imp (s' := ⟨19, [(0, some (.pv (.vs 7 (List.map eGClass a0)))), (1, some (.pv (.str a1))), (2, some (.pv (.str a2))), (6, some (.lp 0 0))], [(0, some (.box 4 [.pv (.bool false)]))], 1, [], [], 0, []⟩) (imps [0] ⟨by kernel_rfl, by kernel_rfl, by kernel_rfl, by kernel_rfl, trivial⟩ ⟨by kernel_rfl, trivial⟩) ?_
  refine post_next ?_
  refine aw_seq ?_
  refine aw_region ?_
  iterate 2 (refine rmv ?_)
  obtain ⟨y3, h4, hF⟩ := bind_some hF
  refine reg_cons (guard_no rfl) (op_call 1 rfl (caps := []) (args := [.vs 7 (List.map eGClass a0), .str a2]) (rs := [.p (.int .i64 y3)]) rfl rfl rfl Try_cal_59 (table_Find_ok h4) rfl rfl rfl) ?_
  refine reg_cons (guard_no rfl) (op_alloc 1 rfl (ps := [.int .i64 0]) rfl Try_zer_3 (by exact ⟨rfl, trivial⟩) rfl rfl) ?_
  refine reg_cons (guard_no rfl) (op_store_lp (n := 1) rfl rfl rfl rfl rfl (or_one Try_one_3) (by rw [Try_one_3]; rfl) rfl rfl rfl) ?_
  refine reg_nil ?_
  refine post_imp (s' := ⟨19, [(0, some (.pv (.vs 7 (List.map eGClass a0)))), (1, some (.pv (.str a1))), (6, some (.lp 0 0)), (7, some (.lp 1 0))], [(0, some (.box 4 [.pv (.bool false)])), (1, some (.box 3 [.pv (.int .i64 y3)]))], 2, [], [], 0, []⟩) (imps [0, 1] ⟨by kernel_rfl, by kernel_rfl, by kernel_rfl, by kernel_rfl, trivial⟩ ⟨by kernel_rfl, by kernel_rfl, trivial⟩) ?_
  refine post_next ?_
  iterate 2 (refine aw_seq ?_)
  refine aw_region ?_
  iterate 2 (refine rmv ?_)
  obtain ⟨y7, h8, hF⟩ := bind_some hF
  refine reg_cons (guard_no rfl) (op_call 2 rfl (caps := []) (args := [.vs 7 (List.map eGClass a0), .str a1]) (rs := [.clo 81 [.vp ((eL 7 eGClass) y7.1)] 9 [.str y7.2] []]) rfl rfl rfl Try_cal_60 (above_up_ok h8) rfl rfl rfl) ?_
  refine reg_nil ?_
  refine post_imp (s' := ⟨19, [(6, some (.lp 0 0)), (7, some (.lp 1 0)), (14, some (.fn 81 [.pv (.vp ((eL 7 eGClass) y7.1)), .lp 2 0]))], [(0, some (.box 4 [.pv (.bool false)])), (1, some (.box 3 [.pv (.int .i64 y3)])), (2, some (.box 9 [.pv (.str y7.2)]))], 3, [], [], 0, []⟩) (imps [0, 1, 2] ⟨by kernel_rfl, by kernel_rfl, by kernel_rfl, trivial⟩ ⟨by kernel_rfl, by kernel_rfl, by kernel_rfl, trivial⟩) ?_
  refine post_next ?_
  refine aw_block ?_
  refine aw_imp (s' := ⟨19, [(6, some (.lp 0 0)), (7, some (.lp 1 0)), (14, some (.fn 81 [.pv (.vp ((eL 7 eGClass) y7.1)), .lp 2 0]))], [(0, some (.box 4 [.pv (.bool false)])), (1, some (.box 3 [.pv (.int .i64 y3)])), (2, some (.box 9 [.pv (.str y7.2)]))], 3, [], [], 0, []⟩) (imps [0, 1, 2] ⟨by kernel_rfl, by kernel_rfl, by kernel_rfl, trivial⟩ ⟨by kernel_rfl, by kernel_rfl, by kernel_rfl, trivial⟩) ?_
  obtain ⟨rows15, hR16, hF⟩ := bind_some hF
  obtain ⟨lr17, hL18, hF⟩ := bind_some hF
  refine aw_rangeFunc (X := Int) (Q := Unit) (E := Unit) (pre := [.vp ((eL 7 eGClass) y7.1)]) (bx := (some (9, [.str y7.2]))) (post := []) (kt := [6, 7]) (psl := [15]) (some 2) (fun z : Int => ([.int .i64 z] : List PV)) rows15 (above_Below_B1 y3) () lr17 hL18 (fun q => ⟨19, [(6, some (.lp 0 0)), (7, some (.lp 1 0))], [(0, some (.box 4 [.pv (.bool false)])), (1, some (.box 3 [.pv (.int .i64 y3)]))], 3, [], [], 0, []⟩) (fun z => (.ret, ⟨19, [(6, some (.lp 0 0))], [(0, some (.box 4 [.pv (.bool true)]))], 1, [], [], 0, []⟩)) ⟨_, _, rfl, rfl, rfl⟩ Try_cal_81 (fun sp => above_up_1_it (itR_up_ok hR16 sp)) (fun _ => rfl) rfl rfl (by decide) rfl (fun x q => ⟨19, [(6, some (.lp 0 0)), (7, some (.lp 1 0)), (8, some (.pv (.int .i64 x))), (15, some (.pv (.int .i64 x)))], [(0, some (.box 4 [.pv (.bool false)])), (1, some (.box 3 [.pv (.int .i64 y3)]))], 3, [], [], 0, [6, 7]⟩) (fun q => ⟨rfl, rfl, rfl, rfl⟩) (fun z => ⟨rfl, rfl, rfl, rfl⟩) (fun z => rfl) rfl rfl ⟨rfl, rfl, trivial⟩ ⟨⟨rfl, rfl, rfl⟩, ⟨rfl, rfl, rfl⟩, trivial⟩ ?_ ?_ ?_ ?_
  · rintro l19 c20 x13 ⟨⟩ hc21
    refine aw_region ?_
    refine ras ?_
    refine reg_nil ?_
    exact post_cut1 (imps [0, 1, 2] ⟨by kernel_rfl, by kernel_rfl, by kernel_rfl, by kernel_rfl, trivial⟩ ⟨by kernel_rfl, by kernel_rfl, trivial⟩)
  · rintro l19 c20 x13 ⟨⟩ r22 hc21 hF
    refine aw_block ?_
    refine aw_seq ?_
    refine aw_region ?_
    refine rmv ?_
    refine reg_cons (guard_no rfl) (op_load_lp (v := .pv (.int .i64 y3)) rfl rfl rfl rfl Try_one_3 rfl rfl) ?_
    refine reg_cons (guard_no rfl) (op_int (k := .i64) (m := x13) (n := y3) rfl rfl rfl rfl rfl rfl) ?_
    refine reg_nil ?_
    refine post_imp (s' := ⟨19, [(6, some (.lp 0 0)), (7, some (.lp 1 0)), (18, some (.pv (.bool (x13 == y3))))], [(0, some (.box 4 [.pv (.bool false)])), (1, some (.box 3 [.pv (.int .i64 y3)]))], 2, [], [], 0, [6, 7]⟩) (imps [0, 1] ⟨by kernel_rfl, by kernel_rfl, by kernel_rfl, trivial⟩ ⟨by kernel_rfl, by kernel_rfl, trivial⟩) ?_
    refine post_next ?_
    rcases ite_some hF with ⟨hb14, hF⟩ | ⟨hb14, hF⟩
    · refine aw_cond_t rfl hb14 ?_
      refine aw_seq ?_
      refine aw_region ?_
      refine reg_cons (guard_no rfl) (op_store_lp (n := 1) rfl rfl rfl rfl rfl (or_one Try_one_4) (by rw [Try_one_4]; rfl) rfl rfl rfl) ?_
      refine reg_nil ?_
      refine post_imp (s' := ⟨19, [(6, some (.lp 0 0))], [(0, some (.box 4 [.pv (.bool true)]))], 1, [], [], 0, [6, 7]⟩) (imps [0] ⟨by kernel_rfl, trivial⟩ ⟨by kernel_rfl, trivial⟩) ?_
      refine post_next ?_
      refine aw_ret ?_
      refine post_block_ret ?_
      obtain rfl := Option.some.inj hF
      exact post_rnd_ret () rfl rfl (imps [0] ⟨by kernel_rfl, trivial⟩ ⟨by kernel_rfl, trivial⟩)
    refine aw_cond_f rfl hb14 ?_
    refine aw_skip ?_
    refine post_block_normal ?_
    obtain rfl := Option.some.inj hF
    exact post_rnd () rfl (imps [0, 1, 1000000] ⟨by kernel_rfl, by kernel_rfl, trivial⟩ ⟨by kernel_rfl, by kernel_rfl, trivial⟩)
  · rintro ⟨⟩ rfl
    have hF := elim_next hF
    refine post_block_normal ?_
    refine post_next ?_
    refine aw_seq ?_
    refine aw_region ?_
    refine reg_cons (guard_no rfl) (op_store_lp (n := 1) rfl rfl rfl rfl rfl (or_one Try_one_4) (by rw [Try_one_4]; rfl) rfl rfl rfl) ?_
    refine reg_nil ?_
    refine post_imp (s' := ⟨19, [(6, some (.lp 0 0))], [(0, some (.box 4 [.pv (.bool false)]))], 1, [], [], 0, []⟩) (imps [0] ⟨by kernel_rfl, trivial⟩ ⟨by kernel_rfl, trivial⟩) ?_
    refine post_next ?_
    refine aw_ret ?_
    obtain rfl := Option.some.inj hF
    exact post_ret rfl rfl (.cons _ _ _ _ _ (.one _ _ _ _ _ _ _ rfl rfl Try_one_4 rfl) (.p _) .nil) (.inl rfl)
  rintro ⟨⟩ rfl
  have hF := elim_stop hF
  show Post _ _ .ret _
  refine post_block_ret ?_
  refine post_then_ret ?_
  obtain rfl := Option.some.inj hF
  exact post_ret rfl rfl (.cons _ _ _ _ _ (.one _ _ _ _ _ _ _ rfl rfl Try_one_4 rfl) (.p _) .nil) (.inl rfl)
theorem table_Arity_ok {a0 : List GClass} {a1 : List UInt8} {r : Int} (hF : table_Arity a0 a1 = some r) : Abs.Fn Try.prog 82 [.vs 7 (List.map eGClass a0), .str a1] [.p (.int .i64 r)] := by
  unfold table_Arity at hF
  refine fn_of_body (n := 17) Try.func82 rfl rfl rfl ?_
  intro w O
  refine aw_seq ?_
  refine aw_region ?_
  refine ras ?_
  refine reg_nil ?_
  refine post_imp (s' := ⟨17, [(0, some (.pv (.vs 7 (List.map eGClass a0)))), (1, some (.pv (.str a1)))], [], 0, [], [], 0, []⟩) (imps [] ⟨by kernel_rfl, by kernel_rfl, trivial⟩ trivial) ?_
  refine post_next ?_
  refine aw_seq ?_
  refine aw_region ?_
  iterate 2 (refine rmv ?_)
  obtain ⟨y3, h4, hF⟩ := bind_some hF
  refine reg_cons (guard_no rfl) (op_call 0 rfl (caps := []) (args := [.vs 7 (List.map eGClass a0), .str a1]) (rs := [.p (.int .i64 y3)]) rfl rfl rfl Try_cal_59 (table_Find_ok h4) rfl rfl rfl) ?_
  refine ras ?_
  refine reg_nil ?_
  refine post_imp (s' := ⟨17, [(0, some (.pv (.vs 7 (List.map eGClass a0)))), (5, some (.pv (.int .i64 y3)))], [], 0, [], [], 0, []⟩) (imps [] ⟨by kernel_rfl, by kernel_rfl, trivial⟩ trivial) ?_
  refine post_next ?_
  iterate 2 (refine aw_seq ?_)
  refine aw_region ?_
  refine rmv ?_
  refine reg_cons (guard_no rfl) (op_int (k := .i64) (m := y3) (n := 0) rfl rfl rfl rfl rfl rfl) ?_
  refine reg_nil ?_
  refine post_imp (s' := ⟨17, [(0, some (.pv (.vs 7 (List.map eGClass a0)))), (5, some (.pv (.int .i64 y3))), (10, some (.pv (.bool (decide (y3 < 0)))))], [], 0, [], [], 0, []⟩) (imps [] ⟨by kernel_rfl, by kernel_rfl, by kernel_rfl, trivial⟩ trivial) ?_
  refine post_next ?_
  rcases ite_some hF with ⟨hb5, hF⟩ | ⟨hb5, hF⟩
  · refine aw_cond_t rfl hb5 ?_
    refine aw_seq ?_
    refine aw_region ?_
    refine ras ?_
    refine reg_nil ?_
    refine post_imp (s' := ⟨17, [(4, some (.pv (.int .i64 (-1))))], [], 0, [], [], 0, []⟩) (imps [] ⟨by kernel_rfl, trivial⟩ trivial) ?_
    refine post_next ?_
    refine aw_ret ?_
    refine post_then_ret ?_
    obtain rfl := Option.some.inj hF
    exact post_ret rfl rfl (.cons _ _ _ _ _ (.tmp _ _ rfl) (.p _) .nil) (.inl rfl)
  refine aw_cond_f rfl hb5 ?_
  refine aw_skip ?_
  refine post_next ?_
  refine aw_seq ?_
  refine aw_region ?_
  iterate 2 (refine rmv ?_)
  obtain ⟨y6, h7, hF⟩ := bind_some hF
  refine reg_cons (guard_no rfl) (op_index_vs (k := .i64) rfl rfl rfl (idx_map eGClass h7) Try_slc_22 rfl rfl) ?_
  refine reg_cons (guard_no rfl) (op_field_vp rfl rfl Try_fld_43_1 rfl rfl) ?_
  refine reg_cons (guard_no rfl) (op_load_vp (p := .vs 1 (List.map eS y6.fParams)) rfl rfl rfl Try_one_38 rfl rfl) ?_
  refine reg_cons (guard_no rfl) (op_len_vs (n := y6.fParams.length) rfl rfl (List.length_map ..) Try_slc_38 rfl rfl) ?_
  refine ras ?_
  refine reg_nil ?_
  refine post_imp (s' := ⟨17, [(4, some (.pv (.int .i64 (y6.fParams.length : Int))))], [], 0, [], [], 0, []⟩) (imps [] ⟨by kernel_rfl, trivial⟩ trivial) ?_
  refine post_next ?_
  refine aw_ret ?_
  obtain rfl := Option.some.inj hF
  exact post_ret rfl rfl (.cons _ _ _ _ _ (.tmp _ _ rfl) (.p _) .nil) (.inl rfl)
theorem above_Chain_ok {a0 : List GClass} {a1 : List UInt8} {r : (List Int)} (hF : above_Chain a0 a1 = some r) : Abs.Fn Try.prog 83 [.vs 7 (List.map eGClass a0), .str a1] [.own 3 1 (List.map eI r)] := by
  unfold above_Chain at hF
  refine fn_of_body (n := 19) Try.func83 rfl rfl rfl ?_
  intro w O
  refine aw_seq ?_
  refine aw_region ?_
  refine ras ?_
  refine reg_nil ?_
  refine post_imp (s' := ⟨19, [(0, some (.pv (.vs 7 (List.map eGClass a0)))), (1, some (.pv (.str a1)))], [], 0, [], [], 0, []⟩) (imps [] ⟨by kernel_rfl, by kernel_rfl, trivial⟩ trivial) ?_
  refine post_next ?_
  refine aw_seq ?_
  refine aw_region ?_
  refine reg_cons (guard_no rfl) (op_alloc 0 rfl (ps := [.nils]) rfl Try_zer_55 (by exact ⟨rfl, trivial⟩) rfl rfl) ?_
  refine reg_imp (imp_nil_box 0 0 55 3 1 1 rfl rfl rfl) ?_
  refine reg_nil ?_
  refine post_imp (s' := ⟨19, [(0, some (.pv (.vs 7 (List.map eGClass a0)))), (1, some (.pv (.str a1))), (5, some (.lp 0 0))], [(0, some (.box 55 [.ls 1])), (1, some (.row 3 1 (List.map eI [])))], 2, [], [], 0, []⟩) (imps [0, 1] ⟨by kernel_rfl, by kernel_rfl, by kernel_rfl, trivial⟩ ⟨by kernel_rfl, by kernel_rfl, trivial⟩) ?_
  refine post_next ?_
  iterate 2 (refine aw_seq ?_)
  refine aw_region ?_
  iterate 2 (refine rmv ?_)
  obtain ⟨y3, h4, hF⟩ := bind_some hF
  refine reg_cons (guard_no rfl) (op_call 2 rfl (caps := []) (args := [.vs 7 (List.map eGClass a0), .str a1]) (rs := [.clo 81 [.vp ((eL 7 eGClass) y3.1)] 9 [.str y3.2] []]) rfl rfl rfl Try_cal_60 (above_up_ok h4) rfl rfl rfl) ?_
  refine reg_nil ?_
  refine post_imp (s' := ⟨19, [(5, some (.lp 0 0)), (9, some (.fn 81 [.pv (.vp ((eL 7 eGClass) y3.1)), .lp 2 0]))], [(0, some (.box 55 [.ls 1])), (1, some (.row 3 1 (List.map eI []))), (2, some (.box 9 [.pv (.str y3.2)]))], 3, [], [], 0, []⟩) (imps [0, 1, 2] ⟨by kernel_rfl, by kernel_rfl, trivial⟩ ⟨by kernel_rfl, by kernel_rfl, by kernel_rfl, trivial⟩) ?_
  refine post_next ?_
  refine aw_block ?_
  refine aw_imp (s' := ⟨19, [(5, some (.lp 0 0)), (9, some (.fn 81 [.pv (.vp ((eL 7 eGClass) y3.1)), .lp 2 0]))], [(0, some (.box 55 [.ls 1])), (1, some (.row 3 1 (List.map eI []))), (2, some (.box 9 [.pv (.str y3.2)]))], 3, [], [], 0, []⟩) (imps [0, 1, 2] ⟨by kernel_rfl, by kernel_rfl, trivial⟩ ⟨by kernel_rfl, by kernel_rfl, by kernel_rfl, trivial⟩) ?_
  obtain ⟨rows33, hR34, hF⟩ := bind_some hF
  obtain ⟨lr35, hL36, hF⟩ := bind_some hF
  refine aw_rangeFunc (X := Int) (Q := (List Int)) (E := (List Int)) (pre := [.vp ((eL 7 eGClass) y3.1)]) (bx := (some (9, [.str y3.2]))) (post := []) (kt := [5]) (psl := [10]) (some 2) (fun z : Int => ([.int .i64 z] : List PV)) rows33 above_Chain_B1 [] lr35 hL36 (fun q => ⟨19, [(5, some (.lp 0 0))], [(0, some (.box 55 [.ls 1])), (1, some (.row 3 1 (List.map eI q)))], 3, [], [], 0, []⟩) (fun z => ((.exit 0), ⟨19, [(5, some (.lp 0 0))], [(0, some (.box 55 [.ls 1])), (1, some (.row 3 1 (List.map eI z)))], 2, [], [], 0, []⟩)) ⟨_, _, rfl, rfl, rfl⟩ Try_cal_81 (fun sp => above_up_1_it (itR_up_ok hR34 sp)) (fun _ => rfl) rfl rfl (by decide) rfl (fun x q => ⟨19, [(5, some (.lp 0 0)), (6, some (.pv (.int .i64 x))), (10, some (.pv (.int .i64 x)))], [(0, some (.box 55 [.ls 1])), (1, some (.row 3 1 (List.map eI q)))], 3, [], [], 0, [5]⟩) (fun q => ⟨rfl, rfl, rfl, rfl⟩) (fun z => ⟨rfl, rfl, rfl, rfl⟩) (fun z => rfl) rfl rfl ⟨rfl, trivial⟩ ⟨⟨rfl, rfl, rfl⟩, ⟨rfl, rfl, rfl⟩, trivial⟩ ?_ ?_ ?_ ?_
  · rintro l37 c38 x23 x13 hc39
    refine aw_region ?_
    refine ras ?_
    refine reg_nil ?_
    exact post_cut1 (imps [0, 1, 2] ⟨by kernel_rfl, by kernel_rfl, by kernel_rfl, trivial⟩ ⟨by kernel_rfl, by kernel_rfl, trivial⟩)
  · rintro l37 c38 x23 x13 r40 hc39 hF
    refine aw_block ?_
    iterate 2 (refine aw_seq ?_)
    refine aw_region ?_
    refine reg_cons (guard_no rfl) (op_load_lp (v := .ls 1) rfl rfl rfl rfl Try_one_55 rfl rfl) ?_
    refine rmv ?_
    obtain ⟨y26, h27, hF⟩ := bind_some hF
    refine reg_cons (guard_no rfl) (op_callB 3 rfl (caps := []) (args := [.vs 1 (List.map eI x13), .int .i64 x23]) [(1, some (.row 3 1 (List.map eI x13)))] rfl rfl rfl (FzH.spec ⟨rfl, trivial⟩) rfl rfl Try_cal_66 (slices_Contains_int_ok h27) rfl rfl rfl) ?_
    refine reg_nil ?_
    refine post_imp (s' := ⟨19, [(5, some (.lp 0 0)), (6, some (.pv (.int .i64 x23))), (13, some (.pv (.bool y26)))], [(0, some (.box 55 [.ls 1])), (1, some (.row 3 1 (List.map eI x13)))], 2, [], [], 0, [5]⟩) (imps [0, 1] ⟨by kernel_rfl, by kernel_rfl, by kernel_rfl, trivial⟩ ⟨by kernel_rfl, by kernel_rfl, trivial⟩) ?_
    refine post_next ?_
    rcases ite_some hF with ⟨hb28, hF⟩ | ⟨hb28, hF⟩
    · refine aw_cond_t rfl hb28 ?_
      refine aw_exit ?_
      refine post_then_exit ?_
      refine post_block_other rfl ?_
      obtain rfl := Option.some.inj hF
      exact post_rnd_exit x13 rfl rfl (imps [0, 1] ⟨by kernel_rfl, trivial⟩ ⟨by kernel_rfl, by kernel_rfl, trivial⟩)
    refine aw_cond_f rfl hb28 ?_
    refine aw_skip ?_
    refine post_next ?_
    refine aw_region ?_
    refine reg_cons (guard_no rfl) (op_load_lp (v := .ls 1) rfl rfl rfl rfl Try_one_55 rfl rfl) ?_
    refine rmv ?_
    refine reg_cons (guard_no rfl) (op_lit (rows := List.map eI ([x23] : List Int)) (zs := [.int .i64 0]) rfl rfl Try_slc_55 Try_zer_3 (by exact ⟨rfl, trivial⟩) rfl rfl rfl rfl rfl rfl rfl rfl) ?_
    obtain ⟨u29, h30, hF⟩ := bind_some hF
    refine reg_cons (guard_no rfl) (op_append 2 rfl rfl rfl rfl rfl Try_slc_55 Try_elm_3 Try_zer_3 rfl rfl rfl (room_map (f := eI) (g := eI) h30) (List.map_append (f := eI) (l₁ := x13) (l₂ := [x23])).symm rfl rfl) ?_
    refine reg_cons (guard_no rfl) (op_store_lp (n := 1) rfl rfl rfl rfl rfl (or_one Try_one_55) (by rw [Try_one_55]; rfl) rfl rfl rfl) ?_
    refine reg_nil ?_
    refine post_imp (s' := ⟨19, [(5, some (.lp 0 0))], [(0, some (.box 55 [.ls 1])), (1, some (.row 3 1 (List.map eI (x13 ++ [x23]))))], 2, [], [], 0, [5]⟩) (imps [0, 2] ⟨by kernel_rfl, trivial⟩ ⟨by kernel_rfl, by kernel_rfl, trivial⟩) ?_
    refine post_block_normal ?_
    obtain rfl := Option.some.inj hF
    exact post_rnd (x13 ++ [x23]) rfl (imps [0, 1, 1000000] ⟨by kernel_rfl, trivial⟩ ⟨by kernel_rfl, by kernel_rfl, trivial⟩)
  · rintro x13 rfl
    have hF := elim_next hF
    refine post_block_normal ?_
    refine post_next ?_
    refine aw_seq ?_
    refine aw_region ?_
    refine reg_cons (guard_no rfl) (op_load_lp (v := .ls 1) rfl rfl rfl rfl Try_one_55 rfl rfl) ?_
    refine ras ?_
    refine reg_nil ?_
    refine post_imp (s' := ⟨19, [(4, some (.ls 0))], [(0, some (.row 3 1 (List.map eI x13)))], 1, [], [], 0, []⟩) (imps [1] ⟨by kernel_rfl, trivial⟩ ⟨by kernel_rfl, trivial⟩) ?_
    refine post_next ?_
    refine aw_ret ?_
    obtain rfl := Option.some.inj hF
    exact post_ret rfl rfl (.cons _ _ _ _ _ (.tmp _ _ rfl) (.own _ _ _ _ rfl nolent3) .nil) (.inl rfl)
  rintro x32 rfl
  have hF := elim_stop hF
  show Post _ _ (.exit 0) _
  refine post_block_exit ?_
  refine post_next ?_
  refine aw_seq ?_
  refine aw_region ?_
  refine reg_cons (guard_no rfl) (op_load_lp (v := .ls 1) rfl rfl rfl rfl Try_one_55 rfl rfl) ?_
  refine ras ?_
  refine reg_nil ?_
  refine post_imp (s' := ⟨19, [(4, some (.ls 0))], [(0, some (.row 3 1 (List.map eI x32)))], 1, [], [], 0, []⟩) (imps [1] ⟨by kernel_rfl, trivial⟩ ⟨by kernel_rfl, trivial⟩) ?_
  refine post_next ?_
  refine aw_ret ?_
  obtain rfl := Option.some.inj hF
  exact post_ret rfl rfl (.cons _ _ _ _ _ (.tmp _ _ rfl) (.own _ _ _ _ rfl nolent3) .nil) (.inl rfl)
theorem raise_raise_api_Owner__ok {a0 : List GClass} {a1 : List UInt8} {a2 : List GOwner} {a3 : List UInt8} {q4 : GOwner → (List GOwner) → Option GOwner} {r : (List GOwner) × Bool} {q4_f : Nat} {q4_c : List PV} (q4_b : callB Try.prog q4_f = true) (q4_h : ∀ (x0 : GOwner) (x1 : List GOwner) (r : GOwner), q4 x0 x1 = some r → Abs.Fn Try.prog q4_f ([.agg (eGOwner x0), .vs 2 (List.map eGOwner x1)] ++ q4_c) [.p (.agg (eGOwner r))]) (hF : raise_raise_api_Owner_ a0 a1 a2 a3 q4 = some r) : Abs.Fn Try.prog 61 [.vs 7 (List.map eGClass a0), .str a1, .vs 2 (List.map eGOwner a2), .str a3, .fn q4_f q4_c] [.own 24 2 (List.map eGOwner r.1), .p (.bool r.2)] := by
  unfold raise_raise_api_Owner_ at hF
  refine fn_of_body (n := 73) Try.func61 rfl rfl rfl ?_
  intro w O
  refine aw_seq ?_
  refine aw_region ?_
  iterate 2 (refine ras ?_)
  refine reg_nil ?_
  refine post_imp (s' := ⟨73, [(0, some (.pv (.vs 7 (List.map eGClass a0)))), (1, some (.pv (.str a1))), (2, some (.pv (.vs 2 (List.map eGOwner a2)))), (3, some (.pv (.str a3))), (4, some (.pv (.fn q4_f q4_c)))], [], 0, [], [], 0, []⟩) (imps [] ⟨by kernel_rfl, by kernel_rfl, by kernel_rfl, by kernel_rfl, by kernel_rfl, trivial⟩ trivial) ?_
  refine post_next ?_
  refine aw_seq ?_
  refine aw_region ?_
  iterate 2 (refine rmv ?_)
  obtain ⟨y3, h4, hF⟩ := bind_some hF
  refine reg_cons (guard_no rfl) (op_call 0 rfl (caps := []) (args := [.vs 7 (List.map eGClass a0), .str a3]) (rs := [.p (.int .i64 y3)]) rfl rfl rfl Try_cal_59 (table_Find_ok h4) rfl rfl rfl) ?_
  refine ras ?_
  refine reg_nil ?_
  refine post_imp (s' := ⟨73, [(0, some (.pv (.vs 7 (List.map eGClass a0)))), (1, some (.pv (.str a1))), (2, some (.pv (.vs 2 (List.map eGOwner a2)))), (4, some (.pv (.fn q4_f q4_c))), (12, some (.pv (.int .i64 y3)))], [], 0, [], [], 0, []⟩) (imps [] ⟨by kernel_rfl, by kernel_rfl, by kernel_rfl, by kernel_rfl, by kernel_rfl, trivial⟩ trivial) ?_
  refine post_next ?_
  iterate 2 (refine aw_seq ?_)
  obtain ⟨x9, hF, hK11⟩ := bind_some hF
  refine aw_cut (fun s1 => s1 = ⟨73, [(0, some (.pv (.vs 7 (List.map eGClass a0)))), (1, some (.pv (.str a1))), (2, some (.pv (.vs 2 (List.map eGOwner a2)))), (4, some (.pv (.fn q4_f q4_c))), (12, some (.pv (.int .i64 y3))), (36, some (.pv (.bool x9)))], [], 0, [], [], 0, []⟩) ?_ ?_
  · refine aw_region ?_
    refine rmv ?_
    refine reg_cons (guard_no rfl) (op_int (k := .i64) (m := y3) (n := 0) rfl rfl rfl rfl rfl rfl) ?_
    refine rmv ?_
    rcases ite_some hF with ⟨hb5, hF⟩ | ⟨hb5, hF⟩
    · refine rgo_t hb5 ?_
      iterate 6 (refine rgo_t hb5 ?_)
      refine rpt hb5 ?_
      refine rmv ?_
      iterate 3 (refine rgo_t rfl ?_)
      refine rpt rfl ?_
      refine reg_nil ?_
      cases hF
      exact post_cut _ rfl (imps [] ⟨by kernel_rfl, by kernel_rfl, by kernel_rfl, by kernel_rfl, by kernel_rfl, by kernel_rfl, trivial⟩ trivial)
    refine reg_cons (guard_on rfl rfl rfl rfl hb5) (op_move rfl rfl rfl rfl) ?_
    refine reg_cons (guard_on rfl rfl rfl rfl hb5) (op_len_vs (n := a2.length) rfl rfl (List.length_map ..) Try_slc_39 rfl rfl) ?_
    iterate 2 (refine reg_cons (guard_on rfl rfl rfl rfl hb5) (op_move rfl rfl rfl rfl) ?_)
    obtain ⟨y6, h7, hF⟩ := bind_some hF
    refine reg_cons (guard_on rfl rfl rfl rfl hb5) (op_call 0 rfl (caps := []) (args := [.vs 7 (List.map eGClass a0), .str a1]) (rs := [.p (.int .i64 y6)]) rfl rfl rfl Try_cal_82 (table_Arity_ok h7) rfl rfl rfl) ?_
    refine reg_cons (guard_on rfl rfl rfl rfl hb5) (op_int (k := .i64) (m := y6) (n := 1) rfl rfl rfl rfl rfl rfl) ?_
    refine reg_cons (guard_on rfl rfl rfl rfl hb5) (op_int (k := .i64) (m := (a2.length : Int)) (n := w_i64 (y6 + 1)) rfl rfl rfl rfl rfl rfl) ?_
    refine rpf hb5 ?_
    refine rmv ?_
    rcases ite_some hF with ⟨hb8, hF⟩ | ⟨hb8, hF⟩
    · refine rgo_t hb8 ?_
      iterate 2 (refine rgo_t hb8 ?_)
      refine rpt hb8 ?_
      refine reg_nil ?_
      cases hF
      exact post_cut _ rfl (imps [] ⟨by kernel_rfl, by kernel_rfl, by kernel_rfl, by kernel_rfl, by kernel_rfl, by kernel_rfl, trivial⟩ trivial)
    refine reg_cons (guard_on rfl rfl rfl rfl hb8) (op_move rfl rfl rfl rfl) ?_
    refine reg_cons (guard_on rfl rfl rfl rfl hb8) (op_len_vs (n := a2.length) rfl rfl (List.length_map ..) Try_slc_39 rfl rfl) ?_
    refine reg_cons (guard_on rfl rfl rfl rfl hb8) (op_int (k := .i64) (m := (a2.length : Int)) (n := 0) rfl rfl rfl rfl rfl rfl) ?_
    refine rpf hb8 ?_
    refine reg_nil ?_
    cases hF
    exact post_cut _ rfl (imps [] ⟨by kernel_rfl, by kernel_rfl, by kernel_rfl, by kernel_rfl, by kernel_rfl, by kernel_rfl, trivial⟩ trivial)
  rintro _ rfl
  have hF := hK11
  clear hK11
  refine post_next ?_
  rcases ite_some hF with ⟨hb12, hF⟩ | ⟨hb12, hF⟩
  · refine aw_cond_t rfl hb12 ?_
    refine aw_seq ?_
    refine aw_region ?_
    iterate 2 (refine ras ?_)
    refine reg_nil ?_
    refine post_imp (s' := ⟨73, [(10, some (.pv .nils)), (11, some (.pv (.bool false)))], [], 0, [], [], 0, []⟩) (imps [] ⟨by kernel_rfl, by kernel_rfl, trivial⟩ trivial) ?_
    refine post_next ?_
    refine aw_ret ?_
    refine post_then_ret ?_
    refine post_imp (imp_nil_own 10 24 2 0 rfl rfl) ?_
    obtain rfl := Option.some.inj hF
    exact post_ret rfl rfl (.cons _ _ _ _ _ (.tmp _ _ rfl) (.own _ _ _ _ rfl nolent3) (.cons _ _ _ _ _ (.tmp _ _ rfl) (.p _) .nil)) (.inl rfl)
  refine aw_cond_f rfl hb12 ?_
  refine aw_skip ?_
  refine post_next ?_
  refine aw_seq ?_
  refine aw_region ?_
  refine rmv ?_
  obtain ⟨y15, h16, hF⟩ := bind_some hF
  refine reg_cons (guard_no rfl) (op_call 0 rfl (caps := []) (args := [.vs 2 (List.map eGOwner a2)]) (rs := [.own 24 2 (List.map eGOwner y15)]) rfl rfl rfl Try_cal_63 (slices_Clone_api_Owner_ok h16) rfl rfl rfl) ?_
  refine ras ?_
  refine reg_nil ?_
  refine post_imp (s' := ⟨73, [(0, some (.pv (.vs 7 (List.map eGClass a0)))), (1, some (.pv (.str a1))), (2, some (.ls 0)), (4, some (.pv (.fn q4_f q4_c))), (12, some (.pv (.int .i64 y3)))], [(0, some (.row 24 2 (List.map eGOwner y15)))], 1, [], [], 0, []⟩) (imps [0] ⟨by kernel_rfl, by kernel_rfl, by kernel_rfl, by kernel_rfl, by kernel_rfl, trivial⟩ ⟨by kernel_rfl, trivial⟩) ?_
  refine post_next ?_
  iterate 2 (refine aw_seq ?_)
  refine aw_region ?_
  iterate 2 (refine rmv ?_)
  obtain ⟨y19, h20, hF⟩ := bind_some hF
  refine reg_cons (guard_no rfl) (op_call 1 rfl (caps := []) (args := [.vs 7 (List.map eGClass a0), .str a1]) (rs := [.p (.vs 1 (List.map eI y19))]) rfl rfl rfl Try_cal_83 (Fn.frozen (above_Chain_ok h20)) rfl rfl rfl) ?_
  refine reg_cons (guard_no rfl) (op_len_vs (n := y19.length) rfl rfl (List.length_map ..) Try_slc_55 rfl rfl) ?_
  refine rmv ?_
  refine reg_nil ?_
  refine post_imp (s' := ⟨73, [(0, some (.pv (.vs 7 (List.map eGClass a0)))), (2, some (.ls 0)), (4, some (.pv (.fn q4_f q4_c))), (12, some (.pv (.int .i64 y3))), (41, some (.pv (.vs 1 (List.map eI y19)))), (42, some (.pv (.int .i64 (y19.length : Int)))), (43, some (.pv (.int .i64 0)))], [(0, some (.row 24 2 (List.map eGOwner y15)))], 1, [], [], 0, []⟩) (imps [0] ⟨by kernel_rfl, by kernel_rfl, by kernel_rfl, by kernel_rfl, by kernel_rfl, by kernel_rfl, by kernel_rfl, trivial⟩ ⟨by kernel_rfl, trivial⟩) ?_
  refine post_next ?_
  obtain ⟨lr252, hF, hK253⟩ := bind_some hF
  refine aw_for ((((y19.length : Int) : Int) - (0)).toNat + 1) (fun s1 => ∃ q, lr252 = .next q ∧ s1 = ⟨73, [], [], 0, [], [], 0, []⟩) ?_ ?_
  · refine rnd_loop (α := (List GOwner) × Int) (fun q => ⟨73, [(0, some (.pv (.vs 7 (List.map eGClass a0)))), (2, some (.ls 0)), (4, some (.pv (.fn q4_f q4_c))), (12, some (.pv (.int .i64 y3))), (41, some (.pv (.vs 1 (List.map eI y19)))), (42, some (.pv (.int .i64 (y19.length : Int)))), (43, some (.pv (.int .i64 q.2)))], [(0, some (.row 24 2 (List.map eGOwner q.1)))], 1, [], [], 0, []⟩) (fun k q => raise_raise_api_Owner__L1 a0 q4 y3 y19 k q.1 q.2 = some lr252) (y15, 0) (imps [0] ⟨by kernel_rfl, by kernel_rfl, by kernel_rfl, by kernel_rfl, by kernel_rfl, by kernel_rfl, by kernel_rfl, trivial⟩ ⟨by kernel_rfl, trivial⟩) hF (fun q h => by cases h) ?_
    clear hF
    rintro k ⟨x96, x97⟩ hF ih
    refine rnd_succ ?_
    refine aw_seq ?_
    refine aw_region ?_
    refine reg_cons (guard_no rfl) (op_int (k := .i64) (m := x97) (n := (y19.length : Int)) rfl rfl rfl rfl rfl rfl) ?_
    refine reg_nil ?_
    refine post_imp (s' := ⟨73, [(0, some (.pv (.vs 7 (List.map eGClass a0)))), (2, some (.ls 0)), (4, some (.pv (.fn q4_f q4_c))), (12, some (.pv (.int .i64 y3))), (41, some (.pv (.vs 1 (List.map eI y19)))), (42, some (.pv (.int .i64 (y19.length : Int)))), (43, some (.pv (.int .i64 x97))), (44, some (.pv (.bool (decide (x97 < (y19.length : Int))))))], [(0, some (.row 24 2 (List.map eGOwner x96)))], 1, [], [], 0, []⟩) (imps [0] ⟨by kernel_rfl, by kernel_rfl, by kernel_rfl, by kernel_rfl, by kernel_rfl, by kernel_rfl, by kernel_rfl, by kernel_rfl, trivial⟩ ⟨by kernel_rfl, trivial⟩) ?_
    refine post_next ?_
    refine aw_seq ?_
    rcases ite_some hF with ⟨hb175, hF⟩ | ⟨hb175, hF⟩
    · refine aw_cond_t rfl hb175 ?_
      refine aw_skip ?_
      refine post_next ?_
      refine aw_seq ?_
      refine aw_block ?_
      refine aw_seq ?_
      refine aw_region ?_
      obtain ⟨y178, h179, hF⟩ := bind_some hF
      refine reg_cons (guard_no rfl) (op_index_vs (k := .i64) rfl rfl rfl (idx_map eI h179) Try_slc_55 rfl rfl) ?_
      refine reg_cons (guard_no rfl) (op_load_vp (p := .int .i64 y178) rfl rfl rfl Try_one_3 rfl rfl) ?_
      refine ras ?_
      refine reg_nil ?_
      refine post_imp (s' := ⟨73, [(0, some (.pv (.vs 7 (List.map eGClass a0)))), (2, some (.ls 0)), (4, some (.pv (.fn q4_f q4_c))), (12, some (.pv (.int .i64 y3))), (14, some (.pv (.int .i64 y178))), (41, some (.pv (.vs 1 (List.map eI y19)))), (42, some (.pv (.int .i64 (y19.length : Int)))), (43, some (.pv (.int .i64 x97)))], [(0, some (.row 24 2 (List.map eGOwner x96)))], 1, [], [], 0, []⟩) (imps [0] ⟨by kernel_rfl, by kernel_rfl, by kernel_rfl, by kernel_rfl, by kernel_rfl, by kernel_rfl, by kernel_rfl, by kernel_rfl, trivial⟩ ⟨by kernel_rfl, trivial⟩) ?_
      refine post_next ?_
      iterate 2 (refine aw_seq ?_)
      refine aw_region ?_
      iterate 2 (refine rmv ?_)
      refine reg_cons (guard_no rfl) (op_int (k := .i64) (m := y178) (n := y3) rfl rfl rfl rfl rfl rfl) ?_
      refine reg_nil ?_
      refine post_imp (s' := ⟨73, [(0, some (.pv (.vs 7 (List.map eGClass a0)))), (2, some (.ls 0)), (4, some (.pv (.fn q4_f q4_c))), (12, some (.pv (.int .i64 y3))), (14, some (.pv (.int .i64 y178))), (41, some (.pv (.vs 1 (List.map eI y19)))), (42, some (.pv (.int .i64 (y19.length : Int)))), (43, some (.pv (.int .i64 x97))), (49, some (.pv (.bool (y178 == y3))))], [(0, some (.row 24 2 (List.map eGOwner x96)))], 1, [], [], 0, []⟩) (imps [0] ⟨by kernel_rfl, by kernel_rfl, by kernel_rfl, by kernel_rfl, by kernel_rfl, by kernel_rfl, by kernel_rfl, by kernel_rfl, by kernel_rfl, trivial⟩ ⟨by kernel_rfl, trivial⟩) ?_
      refine post_next ?_
      rcases ite_some hF with ⟨hb180, hF⟩ | ⟨hb180, hF⟩
      · refine aw_cond_t rfl hb180 ?_
        refine aw_seq ?_
        refine aw_region ?_
        refine rmv ?_
        iterate 2 (refine ras ?_)
        refine reg_nil ?_
        refine post_imp (s' := ⟨73, [(10, some (.ls 0)), (11, some (.pv (.bool true)))], [(0, some (.row 24 2 (List.map eGOwner x96)))], 1, [], [], 0, []⟩) (imps [0] ⟨by kernel_rfl, by kernel_rfl, trivial⟩ ⟨by kernel_rfl, trivial⟩) ?_
        refine post_next ?_
        refine aw_ret ?_
        refine post_then_ret ?_
        refine post_block_ret ?_
        iterate 2 (refine post_then_ret ?_)
        refine post_lp_ret ?_
        obtain rfl := Option.some.inj hF
        have hF := elim_stop hK253
        refine post_then_ret ?_
        obtain rfl := Option.some.inj hF
        exact post_ret rfl rfl (.cons _ _ _ _ _ (.tmp _ _ rfl) (.own _ _ _ _ rfl nolent3) (.cons _ _ _ _ _ (.tmp _ _ rfl) (.p _) .nil)) (.inl rfl)
      refine aw_cond_f rfl hb180 ?_
      refine aw_skip ?_
      refine post_next ?_
      refine aw_seq ?_
      refine aw_region ?_
      refine rmv ?_
      obtain ⟨y183, h184, hF⟩ := bind_some hF
      refine reg_cons (guard_no rfl) (op_slice_ra (k := 1) rfl rfl rfl rfl rfl Try_slc_39 (cutL_map eGOwner h184) rfl rfl rfl) ?_
      refine ras ?_
      refine reg_nil ?_
      refine post_imp (s' := ⟨73, [(0, some (.pv (.vs 7 (List.map eGClass a0)))), (2, some (.ls 0)), (4, some (.pv (.fn q4_f q4_c))), (12, some (.pv (.int .i64 y3))), (14, some (.pv (.int .i64 y178))), (15, some (.ra 0 (1 : Int).toNat)), (41, some (.pv (.vs 1 (List.map eI y19)))), (42, some (.pv (.int .i64 (y19.length : Int)))), (43, some (.pv (.int .i64 x97)))], [(0, some (.row 24 2 (List.map eGOwner x96)))], 1, [], [], 0, []⟩) (imps [0] ⟨by kernel_rfl, by kernel_rfl, by kernel_rfl, by kernel_rfl, by kernel_rfl, by kernel_rfl, by kernel_rfl, by kernel_rfl, by kernel_rfl, trivial⟩ ⟨by kernel_rfl, trivial⟩) ?_
      refine post_next ?_
      iterate 2 (refine aw_seq ?_)
      refine aw_region ?_
      iterate 2 (refine rmv ?_)
      obtain ⟨y187, h188, hF⟩ := bind_some hF
      refine reg_cons (guard_no rfl) (op_index_vs (k := .i64) rfl rfl rfl (idx_map eGClass h188) Try_slc_22 rfl rfl) ?_
      refine reg_cons (guard_no rfl) (op_field_vp rfl rfl Try_fld_43_3 rfl rfl) ?_
      refine reg_cons (guard_no rfl) (op_load_vp (p := .vs 2 (List.map eGOwner y187.fAbove)) rfl rfl rfl Try_one_39 rfl rfl) ?_
      refine reg_cons (guard_no rfl) (op_len_vs (n := y187.fAbove.length) rfl rfl (List.length_map ..) Try_slc_39 rfl rfl) ?_
      refine rmv ?_
      refine reg_nil ?_
      refine post_imp (s' := ⟨73, [(0, some (.pv (.vs 7 (List.map eGClass a0)))), (2, some (.ls 0)), (4, some (.pv (.fn q4_f q4_c))), (12, some (.pv (.int .i64 y3))), (15, some (.ra 0 (1 : Int).toNat)), (41, some (.pv (.vs 1 (List.map eI y19)))), (42, some (.pv (.int .i64 (y19.length : Int)))), (43, some (.pv (.int .i64 x97))), (57, some (.pv (.vs 2 (List.map eGOwner y187.fAbove)))), (58, some (.pv (.int .i64 (y187.fAbove.length : Int)))), (59, some (.pv (.int .i64 0)))], [(0, some (.row 24 2 (List.map eGOwner x96)))], 1, [], [], 0, []⟩) (imps [0] ⟨by kernel_rfl, by kernel_rfl, by kernel_rfl, by kernel_rfl, by kernel_rfl, by kernel_rfl, by kernel_rfl, by kernel_rfl, by kernel_rfl, by kernel_rfl, by kernel_rfl, trivial⟩ ⟨by kernel_rfl, trivial⟩) ?_
      refine post_next ?_
      obtain ⟨x248, hF, hK249⟩ := bind_some hF
      refine aw_for ((((y187.fAbove.length : Int) : Int) - ((w_i64 (0 + 1)))).toNat + 1 + 1) (fun s1 => s1 = ⟨73, [(0, some (.pv (.vs 7 (List.map eGClass a0)))), (4, some (.pv (.fn q4_f q4_c))), (12, some (.pv (.int .i64 y3))), (15, some (.ls 0)), (41, some (.pv (.vs 1 (List.map eI y19)))), (42, some (.pv (.int .i64 (y19.length : Int)))), (43, some (.pv (.int .i64 x97)))], [(0, some (.row 24 2 (List.map eGOwner x248)))], 1, [], [], 0, []⟩) ?_ ?_
      · refine rnd_succ ?_
        refine aw_seq ?_
        refine aw_region ?_
        refine reg_cons (guard_no rfl) (op_int (k := .i64) (m := 0) (n := (y187.fAbove.length : Int)) rfl rfl rfl rfl rfl rfl) ?_
        refine reg_nil ?_
        refine post_imp (s' := ⟨73, [(0, some (.pv (.vs 7 (List.map eGClass a0)))), (2, some (.ls 0)), (4, some (.pv (.fn q4_f q4_c))), (12, some (.pv (.int .i64 y3))), (15, some (.ra 0 (1 : Int).toNat)), (41, some (.pv (.vs 1 (List.map eI y19)))), (42, some (.pv (.int .i64 (y19.length : Int)))), (43, some (.pv (.int .i64 x97))), (57, some (.pv (.vs 2 (List.map eGOwner y187.fAbove)))), (58, some (.pv (.int .i64 (y187.fAbove.length : Int)))), (59, some (.pv (.int .i64 0))), (60, some (.pv (.bool (decide (0 < (y187.fAbove.length : Int))))))], [(0, some (.row 24 2 (List.map eGOwner x96)))], 1, [], [], 0, []⟩) (imps [0] ⟨by kernel_rfl, by kernel_rfl, by kernel_rfl, by kernel_rfl, by kernel_rfl, by kernel_rfl, by kernel_rfl, by kernel_rfl, by kernel_rfl, by kernel_rfl, by kernel_rfl, by kernel_rfl, trivial⟩ ⟨by kernel_rfl, trivial⟩) ?_
        refine post_next ?_
        refine aw_seq ?_
        rcases ite_some hF with ⟨hb189, hF⟩ | ⟨hb189, hF⟩
        · refine aw_cond_t rfl hb189 ?_
          refine aw_skip ?_
          refine post_next ?_
          refine aw_seq ?_
          refine aw_block ?_
          refine aw_seq ?_
          refine aw_region ?_
          obtain ⟨y192, h193, hF⟩ := bind_some hF
          refine reg_cons (guard_no rfl) (op_index_vs (k := .i64) rfl rfl rfl (idx_map eGOwner h193) Try_slc_39 rfl rfl) ?_
          refine reg_cons (guard_no rfl) (op_load_vp_agg (ps := eGOwner y192) rfl rfl rfl rfl Try_agg_24 rfl rfl) ?_
          refine reg_cons (guard_no rfl) (op_alloc 1 rfl (ps := (eGOwner zGOwner)) rfl Try_zer_24 (by exact ⟨rfl, rfl, trivial⟩) rfl rfl) ?_
          refine reg_cons (guard_no rfl) (op_store_lp (n := 2) rfl rfl rfl rfl rfl (or_agg Try_agg_24) (by rw [Try_non_24]; rfl) rfl rfl rfl) ?_
          refine reg_nil ?_
          refine post_imp (s' := ⟨73, [(0, some (.pv (.vs 7 (List.map eGClass a0)))), (2, some (.ls 0)), (4, some (.pv (.fn q4_f q4_c))), (12, some (.pv (.int .i64 y3))), (15, some (.ra 0 (1 : Int).toNat)), (17, some (.lp 1 0)), (41, some (.pv (.vs 1 (List.map eI y19)))), (42, some (.pv (.int .i64 (y19.length : Int)))), (43, some (.pv (.int .i64 x97))), (57, some (.pv (.vs 2 (List.map eGOwner y187.fAbove)))), (58, some (.pv (.int .i64 (y187.fAbove.length : Int)))), (59, some (.pv (.int .i64 0)))], [(0, some (.row 24 2 (List.map eGOwner x96))), (1, some (.box 24 (bxv (eGOwner y192))))], 2, [], [], 0, []⟩) (imps [0, 1] ⟨by kernel_rfl, by kernel_rfl, by kernel_rfl, by kernel_rfl, by kernel_rfl, by kernel_rfl, by kernel_rfl, by kernel_rfl, by kernel_rfl, by kernel_rfl, by kernel_rfl, by kernel_rfl, trivial⟩ ⟨by kernel_rfl, by kernel_rfl, trivial⟩) ?_
          refine post_next ?_
          refine aw_region ?_
          iterate 2 (refine rmv ?_)
          refine reg_cons (guard_no rfl) (op_load_lp_agg (ps := eGOwner y192) rfl rfl rfl rfl rfl rfl Try_agg_24 rfl rfl) ?_
          refine rmv ?_
          obtain ⟨y198, h199, hF⟩ := bind_some hF
          refine reg_cons (guard_no rfl) (op_callB 2 rfl (caps := q4_c) (args := [.agg (eGOwner y192), .vs 2 (List.map eGOwner x96)]) [(0, some (.row 24 2 (List.map eGOwner x96)))] rfl rfl rfl (FzH.spec ⟨rfl, trivial⟩) rfl rfl q4_b (q4_h y192 x96 _ h199) rfl rfl rfl) ?_
          refine reg_cons (guard_no rfl) (op_lit (rows := List.map eGOwner ([y198] : List GOwner)) (zs := (eGOwner zGOwner)) rfl rfl Try_slc_39 Try_zer_24 (by exact ⟨rfl, rfl, trivial⟩) rfl rfl rfl rfl rfl rfl rfl rfl) ?_
          obtain ⟨u200, h201, hF⟩ := bind_some hF
          refine reg_cons (guard_no rfl) (op_append_ra 2 rfl rfl rfl rfl (cut_take eGOwner h184) (cut_len eGOwner h184) rfl rfl Try_slc_39 Try_elm_24 Try_zer_24 rfl rfl rfl (room_map (f := eGOwner) (g := eGOwner) h201) (List.map_append (f := eGOwner) (l₁ := y183) (l₂ := [y198])).symm rfl rfl) ?_
          refine ras ?_
          refine reg_nil ?_
          refine post_imp (s' := ⟨73, [(0, some (.pv (.vs 7 (List.map eGClass a0)))), (2, some (.ls 0)), (4, some (.pv (.fn q4_f q4_c))), (12, some (.pv (.int .i64 y3))), (15, some (.ls 1)), (41, some (.pv (.vs 1 (List.map eI y19)))), (42, some (.pv (.int .i64 (y19.length : Int)))), (43, some (.pv (.int .i64 x97))), (57, some (.pv (.vs 2 (List.map eGOwner y187.fAbove)))), (58, some (.pv (.int .i64 (y187.fAbove.length : Int)))), (59, some (.pv (.int .i64 0)))], [(0, some (.row 24 2 (List.map eGOwner x96))), (1, some (.row 24 2 (List.map eGOwner (y183 ++ [y198]))))], 2, [], [], 0, []⟩) (imps [0, 2] ⟨by kernel_rfl, by kernel_rfl, by kernel_rfl, by kernel_rfl, by kernel_rfl, by kernel_rfl, by kernel_rfl, by kernel_rfl, by kernel_rfl, by kernel_rfl, by kernel_rfl, trivial⟩ ⟨by kernel_rfl, by kernel_rfl, trivial⟩) ?_
          refine post_block_normal ?_
          refine post_next ?_
          refine aw_region ?_
          refine reg_cons (guard_no rfl) (op_int (k := .i64) (m := 0) (n := 1) rfl rfl rfl rfl rfl rfl) ?_
          refine rmv ?_
          refine reg_nil ?_
          replace hF : raise_raise_api_Owner__L2 q4 x96 y187 ((((y187.fAbove.length : Int) : Int) - ((w_i64 (0 + 1)))).toNat + 1) (y183 ++ [y198]) (w_i64 (0 + 1)) = some x248 := hF
          refine post_round ?_
          refine rnd_loop (α := (List GOwner) × Int) (fun q => ⟨73, [(0, some (.pv (.vs 7 (List.map eGClass a0)))), (2, some (.ls 0)), (4, some (.pv (.fn q4_f q4_c))), (12, some (.pv (.int .i64 y3))), (15, some (.ls 1)), (41, some (.pv (.vs 1 (List.map eI y19)))), (42, some (.pv (.int .i64 (y19.length : Int)))), (43, some (.pv (.int .i64 x97))), (57, some (.pv (.vs 2 (List.map eGOwner y187.fAbove)))), (58, some (.pv (.int .i64 (y187.fAbove.length : Int)))), (59, some (.pv (.int .i64 q.2)))], [(0, some (.row 24 2 (List.map eGOwner x96))), (1, some (.row 24 2 (List.map eGOwner q.1)))], 2, [], [], 0, []⟩) (fun k q => raise_raise_api_Owner__L2 q4 x96 y187 k q.1 q.2 = some x248) ((y183 ++ [y198]), w_i64 (0 + 1)) (imps [0, 1] ⟨by kernel_rfl, by kernel_rfl, by kernel_rfl, by kernel_rfl, by kernel_rfl, by kernel_rfl, by kernel_rfl, by kernel_rfl, by kernel_rfl, by kernel_rfl, by kernel_rfl, trivial⟩ ⟨by kernel_rfl, by kernel_rfl, trivial⟩) (by exact hF) (fun q h => by cases h) ?_
          clear hF
          rintro k ⟨x216, x217⟩ hF ih
          refine rnd_succ ?_
          refine aw_seq ?_
          refine aw_region ?_
          refine reg_cons (guard_no rfl) (op_int (k := .i64) (m := x217) (n := (y187.fAbove.length : Int)) rfl rfl rfl rfl rfl rfl) ?_
          refine reg_nil ?_
          refine post_imp (s' := ⟨73, [(0, some (.pv (.vs 7 (List.map eGClass a0)))), (2, some (.ls 0)), (4, some (.pv (.fn q4_f q4_c))), (12, some (.pv (.int .i64 y3))), (15, some (.ls 1)), (41, some (.pv (.vs 1 (List.map eI y19)))), (42, some (.pv (.int .i64 (y19.length : Int)))), (43, some (.pv (.int .i64 x97))), (57, some (.pv (.vs 2 (List.map eGOwner y187.fAbove)))), (58, some (.pv (.int .i64 (y187.fAbove.length : Int)))), (59, some (.pv (.int .i64 x217))), (60, some (.pv (.bool (decide (x217 < (y187.fAbove.length : Int))))))], [(0, some (.row 24 2 (List.map eGOwner x96))), (1, some (.row 24 2 (List.map eGOwner x216)))], 2, [], [], 0, []⟩) (imps [0, 1] ⟨by kernel_rfl, by kernel_rfl, by kernel_rfl, by kernel_rfl, by kernel_rfl, by kernel_rfl, by kernel_rfl, by kernel_rfl, by kernel_rfl, by kernel_rfl, by kernel_rfl, by kernel_rfl, trivial⟩ ⟨by kernel_rfl, by kernel_rfl, trivial⟩) ?_
          refine post_next ?_
          refine aw_seq ?_
          rcases ite_some hF with ⟨hb233, hF⟩ | ⟨hb233, hF⟩
          · refine aw_cond_t rfl hb233 ?_
            refine aw_skip ?_
            refine post_next ?_
            refine aw_seq ?_
            refine aw_block ?_
            refine aw_seq ?_
            refine aw_region ?_
            obtain ⟨y236, h237, hF⟩ := bind_some hF
            refine reg_cons (guard_no rfl) (op_index_vs (k := .i64) rfl rfl rfl (idx_map eGOwner h237) Try_slc_39 rfl rfl) ?_
            refine reg_cons (guard_no rfl) (op_load_vp_agg (ps := eGOwner y236) rfl rfl rfl rfl Try_agg_24 rfl rfl) ?_
            refine reg_cons (guard_no rfl) (op_alloc 2 rfl (ps := (eGOwner zGOwner)) rfl Try_zer_24 (by exact ⟨rfl, rfl, trivial⟩) rfl rfl) ?_
            refine reg_cons (guard_no rfl) (op_store_lp (n := 2) rfl rfl rfl rfl rfl (or_agg Try_agg_24) (by rw [Try_non_24]; rfl) rfl rfl rfl) ?_
            refine reg_nil ?_
            refine post_imp (s' := ⟨73, [(0, some (.pv (.vs 7 (List.map eGClass a0)))), (2, some (.ls 0)), (4, some (.pv (.fn q4_f q4_c))), (12, some (.pv (.int .i64 y3))), (15, some (.ls 1)), (17, some (.lp 2 0)), (41, some (.pv (.vs 1 (List.map eI y19)))), (42, some (.pv (.int .i64 (y19.length : Int)))), (43, some (.pv (.int .i64 x97))), (57, some (.pv (.vs 2 (List.map eGOwner y187.fAbove)))), (58, some (.pv (.int .i64 (y187.fAbove.length : Int)))), (59, some (.pv (.int .i64 x217)))], [(0, some (.row 24 2 (List.map eGOwner x96))), (1, some (.row 24 2 (List.map eGOwner x216))), (2, some (.box 24 (bxv (eGOwner y236))))], 3, [], [], 0, []⟩) (imps [0, 1, 2] ⟨by kernel_rfl, by kernel_rfl, by kernel_rfl, by kernel_rfl, by kernel_rfl, by kernel_rfl, by kernel_rfl, by kernel_rfl, by kernel_rfl, by kernel_rfl, by kernel_rfl, by kernel_rfl, trivial⟩ ⟨by kernel_rfl, by kernel_rfl, by kernel_rfl, trivial⟩) ?_
            refine post_next ?_
            refine aw_region ?_
            iterate 2 (refine rmv ?_)
            refine reg_cons (guard_no rfl) (op_load_lp_agg (ps := eGOwner y236) rfl rfl rfl rfl rfl rfl Try_agg_24 rfl rfl) ?_
            refine rmv ?_
            obtain ⟨y242, h243, hF⟩ := bind_some hF
            refine reg_cons (guard_no rfl) (op_callB 3 rfl (caps := q4_c) (args := [.agg (eGOwner y236), .vs 2 (List.map eGOwner x96)]) [(0, some (.row 24 2 (List.map eGOwner x96)))] rfl rfl rfl (FzH.spec ⟨rfl, trivial⟩) rfl rfl q4_b (q4_h y236 x96 _ h243) rfl rfl rfl) ?_
            refine reg_cons (guard_no rfl) (op_lit (rows := List.map eGOwner ([y242] : List GOwner)) (zs := (eGOwner zGOwner)) rfl rfl Try_slc_39 Try_zer_24 (by exact ⟨rfl, rfl, trivial⟩) rfl rfl rfl rfl rfl rfl rfl rfl) ?_
            obtain ⟨u244, h245, hF⟩ := bind_some hF
            refine reg_cons (guard_no rfl) (op_append 3 rfl rfl rfl rfl rfl Try_slc_39 Try_elm_24 Try_zer_24 rfl rfl rfl (room_map (f := eGOwner) (g := eGOwner) h245) (List.map_append (f := eGOwner) (l₁ := x216) (l₂ := [y242])).symm rfl rfl) ?_
            refine ras ?_
            refine reg_nil ?_
            refine post_imp (s' := ⟨73, [(0, some (.pv (.vs 7 (List.map eGClass a0)))), (2, some (.ls 0)), (4, some (.pv (.fn q4_f q4_c))), (12, some (.pv (.int .i64 y3))), (15, some (.ls 1)), (41, some (.pv (.vs 1 (List.map eI y19)))), (42, some (.pv (.int .i64 (y19.length : Int)))), (43, some (.pv (.int .i64 x97))), (57, some (.pv (.vs 2 (List.map eGOwner y187.fAbove)))), (58, some (.pv (.int .i64 (y187.fAbove.length : Int)))), (59, some (.pv (.int .i64 x217)))], [(0, some (.row 24 2 (List.map eGOwner x96))), (1, some (.row 24 2 (List.map eGOwner (x216 ++ [y242]))))], 2, [], [], 0, []⟩) (imps [0, 3] ⟨by kernel_rfl, by kernel_rfl, by kernel_rfl, by kernel_rfl, by kernel_rfl, by kernel_rfl, by kernel_rfl, by kernel_rfl, by kernel_rfl, by kernel_rfl, by kernel_rfl, trivial⟩ ⟨by kernel_rfl, by kernel_rfl, trivial⟩) ?_
            refine post_block_normal ?_
            refine post_next ?_
            refine aw_region ?_
            refine reg_cons (guard_no rfl) (op_int (k := .i64) (m := x217) (n := 1) rfl rfl rfl rfl rfl rfl) ?_
            refine rmv ?_
            refine reg_nil ?_
            refine post_round ?_
            exact rnd_back (ih ((x216 ++ [y242]), w_i64 (x217 + 1)) hF) (imps [0, 1] ⟨by kernel_rfl, by kernel_rfl, by kernel_rfl, by kernel_rfl, by kernel_rfl, by kernel_rfl, by kernel_rfl, by kernel_rfl, by kernel_rfl, by kernel_rfl, by kernel_rfl, trivial⟩ ⟨by kernel_rfl, by kernel_rfl, trivial⟩)
          refine aw_cond_f rfl hb233 ?_
          refine aw_exit ?_
          iterate 2 (refine post_then_exit ?_)
          obtain rfl := Option.some.inj hF
          exact post_lp_break _ rfl (imps [1] ⟨by kernel_rfl, by kernel_rfl, by kernel_rfl, by kernel_rfl, by kernel_rfl, by kernel_rfl, by kernel_rfl, trivial⟩ ⟨by kernel_rfl, trivial⟩)
        refine aw_cond_f rfl hb189 ?_
        refine aw_exit ?_
        iterate 2 (refine post_then_exit ?_)
        obtain rfl := Option.some.inj hF
        refine post_imp (imp_ra 15 0 1 rfl rfl rfl (cut_take eGOwner h184) (cut_len eGOwner h184)) ?_
        exact post_lp_break _ rfl (imps [1] ⟨by kernel_rfl, by kernel_rfl, by kernel_rfl, by kernel_rfl, by kernel_rfl, by kernel_rfl, by kernel_rfl, trivial⟩ ⟨by kernel_rfl, trivial⟩)
      rintro _ rfl
      have hF := hK249
      clear hK249
      refine post_next ?_
      refine aw_region ?_
      refine rmv ?_
      refine ras ?_
      refine reg_nil ?_
      refine post_imp (s' := ⟨73, [(0, some (.pv (.vs 7 (List.map eGClass a0)))), (2, some (.ls 0)), (4, some (.pv (.fn q4_f q4_c))), (12, some (.pv (.int .i64 y3))), (41, some (.pv (.vs 1 (List.map eI y19)))), (42, some (.pv (.int .i64 (y19.length : Int)))), (43, some (.pv (.int .i64 x97)))], [(0, some (.row 24 2 (List.map eGOwner x248)))], 1, [], [], 0, []⟩) (imps [0] ⟨by kernel_rfl, by kernel_rfl, by kernel_rfl, by kernel_rfl, by kernel_rfl, by kernel_rfl, by kernel_rfl, trivial⟩ ⟨by kernel_rfl, trivial⟩) ?_
      refine post_block_normal ?_
      refine post_next ?_
      refine aw_region ?_
      refine reg_cons (guard_no rfl) (op_int (k := .i64) (m := x97) (n := 1) rfl rfl rfl rfl rfl rfl) ?_
      refine rmv ?_
      refine reg_nil ?_
      refine post_round ?_
      exact rnd_back (ih (x248, w_i64 (x97 + 1)) hF) (imps [0] ⟨by kernel_rfl, by kernel_rfl, by kernel_rfl, by kernel_rfl, by kernel_rfl, by kernel_rfl, by kernel_rfl, trivial⟩ ⟨by kernel_rfl, trivial⟩)
    refine aw_cond_f rfl hb175 ?_
    refine aw_exit ?_
    iterate 2 (refine post_then_exit ?_)
    obtain rfl := Option.some.inj hF
    exact post_lp_break _ ⟨_, rfl, rfl⟩ (imps [] trivial trivial)
  rintro _ ⟨⟨⟩, rfl, rfl⟩
  have hF := elim_next hK253
  clear hK253
  refine post_next ?_
  refine aw_seq ?_
  refine aw_region ?_
  iterate 2 (refine ras ?_)
  refine reg_nil ?_
  refine post_imp (s' := ⟨73, [(10, some (.pv .nils)), (11, some (.pv (.bool false)))], [], 0, [], [], 0, []⟩) (imps [] ⟨by kernel_rfl, by kernel_rfl, trivial⟩ trivial) ?_
  refine post_next ?_
  refine aw_ret ?_
  refine post_imp (imp_nil_own 10 24 2 0 rfl rfl) ?_
  obtain rfl := Option.some.inj hF
  exact post_ret rfl rfl (.cons _ _ _ _ _ (.tmp _ _ rfl) (.own _ _ _ _ rfl nolent3) (.cons _ _ _ _ _ (.tmp _ _ rfl) (.p _) .nil)) (.inl rfl)
theorem owner_Put_ok {a0 : GOwner} {a1 : List GOwner} {r : GOwner} (hF : owner_Put a0 a1 = some r) : Abs.Fn Try.prog 62 [.agg (eGOwner a0), .vs 2 (List.map eGOwner a1)] [.p (.agg (eGOwner r))] := by
  unfold owner_Put at hF
  refine fn_of_body (n := 28) Try.func62 rfl rfl rfl ?_
  intro w O
  refine aw_seq ?_
  refine aw_region ?_
  refine reg_cons (guard_no rfl) (op_box 0 rfl rfl rfl rfl rfl rfl) ?_
  refine reg_cons (guard_no rfl) (op_alloc 1 rfl (ps := (eGOwner zGOwner)) rfl Try_zer_24 (by exact ⟨rfl, rfl, trivial⟩) rfl rfl) ?_
  refine reg_nil ?_
  refine post_imp (s' := ⟨28, [(1, some (.pv (.vs 2 (List.map eGOwner a1)))), (2, some (.lp 0 0)), (4, some (.lp 1 0))], [(0, some (.box 24 (bxv (eGOwner a0)))), (1, some (.box 24 (bxv (eGOwner zGOwner))))], 2, [], [], 0, []⟩) (imps [0, 1] ⟨by kernel_rfl, by kernel_rfl, by kernel_rfl, trivial⟩ ⟨by kernel_rfl, by kernel_rfl, trivial⟩) ?_
  refine post_next ?_
  refine aw_seq ?_
  refine aw_region ?_
  refine ras ?_
  refine reg_nil ?_
  refine post_imp (s' := ⟨28, [(1, some (.pv (.vs 2 (List.map eGOwner a1)))), (2, some (.lp 0 0)), (4, some (.lp 1 0)), (5, some (.pv (.int .i64 0)))], [(0, some (.box 24 (bxv (eGOwner a0)))), (1, some (.box 24 (bxv (eGOwner zGOwner))))], 2, [], [], 0, []⟩) (imps [0, 1] ⟨by kernel_rfl, by kernel_rfl, by kernel_rfl, by kernel_rfl, trivial⟩ ⟨by kernel_rfl, by kernel_rfl, trivial⟩) ?_
  refine post_next ?_
  iterate 2 (refine aw_seq ?_)
  refine aw_region ?_
  refine reg_cons (guard_no rfl) (op_field_lp rfl rfl Try_fld_24_0 rfl rfl) ?_
  refine reg_cons (guard_no rfl) (op_load_lp (v := .pv (.int .i64 a0.fKind)) rfl rfl rfl rfl Try_one_3 rfl rfl) ?_
  refine reg_nil ?_
  refine post_imp (s' := ⟨28, [(1, some (.pv (.vs 2 (List.map eGOwner a1)))), (2, some (.lp 0 0)), (4, some (.lp 1 0)), (5, some (.pv (.int .i64 0))), (7, some (.pv (.int .i64 a0.fKind)))], [(0, some (.box 24 (bxv (eGOwner a0)))), (1, some (.box 24 (bxv (eGOwner zGOwner))))], 2, [], [], 0, []⟩) (imps [0, 1] ⟨by kernel_rfl, by kernel_rfl, by kernel_rfl, by kernel_rfl, by kernel_rfl, trivial⟩ ⟨by kernel_rfl, by kernel_rfl, trivial⟩) ?_
  refine post_next ?_
  refine aw_block ?_
  refine aw_seq ?_
  refine aw_join hF (fun q => ⟨28, [(1, some (.pv (.vs 2 (List.map eGOwner a1)))), (4, some (.lp 0 0)), (5, some (.pv (.int .i64 q)))], [(0, some (.box 24 (bxv (eGOwner zGOwner))))], 1, [], [], 0, []⟩) ?_ ?_
  · refine aw_block ?_
    refine aw_seq ?_
    refine aw_block ?_
    iterate 3 (refine aw_seq ?_)
    refine aw_region ?_
    refine reg_cons (guard_no rfl) (op_int (k := .i64) (m := a0.fKind) (n := 3) rfl rfl rfl rfl rfl rfl) ?_
    refine ras ?_
    refine reg_nil ?_
    refine post_imp (s' := ⟨28, [(1, some (.pv (.vs 2 (List.map eGOwner a1)))), (2, some (.lp 0 0)), (4, some (.lp 1 0)), (5, some (.pv (.int .i64 0))), (7, some (.pv (.int .i64 a0.fKind))), (8, some (.pv (.bool (a0.fKind == 3))))], [(0, some (.box 24 (bxv (eGOwner a0)))), (1, some (.box 24 (bxv (eGOwner zGOwner))))], 2, [], [], 0, []⟩) (imps [0, 1] ⟨by kernel_rfl, by kernel_rfl, by kernel_rfl, by kernel_rfl, by kernel_rfl, by kernel_rfl, trivial⟩ ⟨by kernel_rfl, by kernel_rfl, trivial⟩) ?_
    refine post_next ?_
    rcases go_ite hF with ⟨hb1, hF⟩ | ⟨hb1, hF⟩
    · refine aw_cond_t rfl hb1 ?_
      refine aw_exit ?_
      iterate 2 (refine post_then_exit ?_)
      refine post_block_exit ?_
      refine post_next ?_
      refine aw_region ?_
      refine reg_cons (guard_no rfl) (op_field_lp rfl rfl Try_fld_24_1 rfl rfl) ?_
      refine reg_cons (guard_no rfl) (op_load_lp (v := .pv (.int .i64 a0.fN)) rfl rfl rfl rfl Try_one_3 rfl rfl) ?_
      refine ras ?_
      refine reg_nil ?_
      refine post_imp (s' := ⟨28, [(1, some (.pv (.vs 2 (List.map eGOwner a1)))), (4, some (.lp 0 0)), (5, some (.pv (.int .i64 a0.fN)))], [(0, some (.box 24 (bxv (eGOwner zGOwner))))], 1, [], [], 0, []⟩) (imps [1] ⟨by kernel_rfl, by kernel_rfl, by kernel_rfl, trivial⟩ ⟨by kernel_rfl, trivial⟩) ?_
      refine post_block_normal ?_
      exact post_cut _ ⟨a0.fN, rfl, hF⟩ (imps [0] ⟨by kernel_rfl, by kernel_rfl, by kernel_rfl, trivial⟩ ⟨by kernel_rfl, trivial⟩)
    refine aw_cond_f rfl hb1 ?_
    refine aw_skip ?_
    refine post_next ?_
    refine aw_seq ?_
    refine aw_region ?_
    refine reg_cons (guard_no rfl) (op_int (k := .i64) (m := a0.fKind) (n := 2) rfl rfl rfl rfl rfl rfl) ?_
    refine ras ?_
    refine reg_nil ?_
    refine post_imp (s' := ⟨28, [(1, some (.pv (.vs 2 (List.map eGOwner a1)))), (2, some (.lp 0 0)), (4, some (.lp 1 0)), (5, some (.pv (.int .i64 0))), (10, some (.pv (.bool (a0.fKind == 2))))], [(0, some (.box 24 (bxv (eGOwner a0)))), (1, some (.box 24 (bxv (eGOwner zGOwner))))], 2, [], [], 0, []⟩) (imps [0, 1] ⟨by kernel_rfl, by kernel_rfl, by kernel_rfl, by kernel_rfl, by kernel_rfl, trivial⟩ ⟨by kernel_rfl, by kernel_rfl, trivial⟩) ?_
    refine post_next ?_
    rcases go_ite hF with ⟨hb2, hF⟩ | ⟨hb2, hF⟩
    · refine aw_cond_t rfl hb2 ?_
      refine aw_exit ?_
      refine post_then_exit ?_
      refine post_block_other rfl ?_
      refine post_then_exit ?_
      refine post_block_exit ?_
      exact post_cut _ ⟨0, rfl, hF⟩ (imps [1] ⟨by kernel_rfl, by kernel_rfl, by kernel_rfl, trivial⟩ ⟨by kernel_rfl, trivial⟩)
    refine aw_cond_f rfl hb2 ?_
    refine aw_skip ?_
    refine post_next ?_
    refine aw_exit ?_
    refine post_block_other rfl ?_
    refine post_then_exit ?_
    refine post_block_other rfl ?_
    refine post_cut_exit ?_
    replace hF := go_stop hF
    refine post_then_exit ?_
    refine post_block_exit ?_
    refine post_next ?_
    refine aw_seq ?_
    refine aw_region ?_
    refine reg_cons (guard_no rfl) (op_load_lp_agg (ps := eGOwner a0) rfl rfl rfl rfl rfl rfl Try_agg_24 rfl rfl) ?_
    refine reg_cons (guard_no rfl) (op_store_lp (n := 2) rfl rfl rfl rfl rfl (or_agg Try_agg_24) (by rw [Try_non_24]; rfl) rfl rfl rfl) ?_
    refine reg_nil ?_
    refine post_imp (s' := ⟨28, [(4, some (.lp 0 0))], [(0, some (.box 24 (bxv (eGOwner a0))))], 1, [], [], 0, []⟩) (imps [1] ⟨by kernel_rfl, trivial⟩ ⟨by kernel_rfl, trivial⟩) ?_
    refine post_next ?_
    refine aw_ret ?_
    obtain rfl := Option.some.inj hF
    exact post_ret rfl rfl (.cons _ _ _ _ _ (.agg _ _ _ _ _ 2 _ _ rfl rfl Try_agg_24 rfl rfl rfl) (.p _) .nil) (.inl rfl)
  rintro x3 hF
  refine post_next ?_
  iterate 3 (refine aw_seq ?_)
  obtain ⟨x5, hF, hK7⟩ := bind_some hF
  refine aw_cut (fun s1 => s1 = ⟨28, [(1, some (.pv (.vs 2 (List.map eGOwner a1)))), (4, some (.lp 0 0)), (5, some (.pv (.int .i64 x3))), (21, some (.pv (.bool x5)))], [(0, some (.box 24 (bxv (eGOwner zGOwner))))], 1, [], [], 0, []⟩) ?_ ?_
  · refine aw_region ?_
    refine rmv ?_
    refine reg_cons (guard_no rfl) (op_int (k := .i64) (m := x3) (n := 0) rfl rfl rfl rfl rfl rfl) ?_
    refine rmv ?_
    rcases ite_some hF with ⟨hb4, hF⟩ | ⟨hb4, hF⟩
    · refine rgo_t hb4 ?_
      iterate 3 (refine rgo_t hb4 ?_)
      refine rpt hb4 ?_
      refine reg_nil ?_
      cases hF
      exact post_cut _ rfl (imps [0] ⟨by kernel_rfl, by kernel_rfl, by kernel_rfl, by kernel_rfl, trivial⟩ ⟨by kernel_rfl, trivial⟩)
    iterate 2 (refine reg_cons (guard_on rfl rfl rfl rfl hb4) (op_move rfl rfl rfl rfl) ?_)
    refine reg_cons (guard_on rfl rfl rfl rfl hb4) (op_len_vs (n := a1.length) rfl rfl (List.length_map ..) Try_slc_39 rfl rfl) ?_
    refine reg_cons (guard_on rfl rfl rfl rfl hb4) (op_int (k := .i64) (m := x3) (n := (a1.length : Int)) rfl rfl rfl rfl rfl rfl) ?_
    refine rpf hb4 ?_
    refine reg_nil ?_
    cases hF
    exact post_cut _ rfl (imps [0] ⟨by kernel_rfl, by kernel_rfl, by kernel_rfl, by kernel_rfl, trivial⟩ ⟨by kernel_rfl, trivial⟩)
  rintro _ rfl
  have hF := hK7
  clear hK7
  refine post_next ?_
  rcases ite_some hF with ⟨hb8, hF⟩ | ⟨hb8, hF⟩
  · refine aw_cond_t rfl hb8 ?_
    refine aw_seq ?_
    refine aw_region ?_
    refine reg_cons (guard_no rfl) (op_build (zs := (eGOwner zGOwner)) (r := eGOwner ({ fKind := 8, fN := 0 } : GOwner)) rfl Try_zer_24 (by exact ⟨rfl, rfl, trivial⟩) Try_plc_24 rfl rfl rfl rfl) ?_
    refine reg_cons (guard_no rfl) (op_store_lp (n := 2) rfl rfl rfl rfl rfl (or_agg Try_agg_24) (by rw [Try_non_24]; rfl) rfl rfl rfl) ?_
    refine reg_nil ?_
    refine post_imp (s' := ⟨28, [(4, some (.lp 0 0))], [(0, some (.box 24 (bxv (eGOwner ({ fKind := 8, fN := 0 } : GOwner)))))], 1, [], [], 0, []⟩) (imps [0] ⟨by kernel_rfl, trivial⟩ ⟨by kernel_rfl, trivial⟩) ?_
    refine post_next ?_
    refine aw_ret ?_
    iterate 2 (refine post_then_ret ?_)
    refine post_block_ret ?_
    refine post_then_ret ?_
    obtain rfl := Option.some.inj hF
    exact post_ret rfl rfl (.cons _ _ _ _ _ (.agg _ _ _ _ _ 2 _ _ rfl rfl Try_agg_24 rfl rfl rfl) (.p _) .nil) (.inl rfl)
  refine aw_cond_f rfl hb8 ?_
  refine aw_skip ?_
  refine post_next ?_
  refine aw_seq ?_
  refine aw_region ?_
  iterate 2 (refine rmv ?_)
  obtain ⟨y9, h10, hF⟩ := bind_some hF
  refine reg_cons (guard_no rfl) (op_index_vs (k := .i64) rfl rfl rfl (idx_map eGOwner h10) Try_slc_39 rfl rfl) ?_
  refine reg_cons (guard_no rfl) (op_load_vp_agg (ps := eGOwner y9) rfl rfl rfl rfl Try_agg_24 rfl rfl) ?_
  refine reg_cons (guard_no rfl) (op_store_lp (n := 2) rfl rfl rfl rfl rfl (or_agg Try_agg_24) (by rw [Try_non_24]; rfl) rfl rfl rfl) ?_
  refine reg_nil ?_
  refine post_imp (s' := ⟨28, [(4, some (.lp 0 0))], [(0, some (.box 24 (bxv (eGOwner y9))))], 1, [], [], 0, []⟩) (imps [0] ⟨by kernel_rfl, trivial⟩ ⟨by kernel_rfl, trivial⟩) ?_
  refine post_next ?_
  refine aw_ret ?_
  refine post_then_ret ?_
  refine post_block_ret ?_
  refine post_then_ret ?_
  obtain rfl := Option.some.inj hF
  exact post_ret rfl rfl (.cons _ _ _ _ _ (.agg _ _ _ _ _ 2 _ _ rfl rfl Try_agg_24 rfl rfl rfl) (.p _) .nil) (.inl rfl)
theorem raise_Raise_ok {a0 : List GClass} {a1 : List UInt8} {a2 : List GOwner} {a3 : List UInt8} {r : (List GOwner) × Bool} (hF : raise_Raise a0 a1 a2 a3 = some r) : Abs.Fn Try.prog 37 [.vs 7 (List.map eGClass a0), .str a1, .vs 2 (List.map eGOwner a2), .str a3] [.own 24 2 (List.map eGOwner r.1), .p (.bool r.2)] := by
  unfold raise_Raise at hF
  refine fn_of_body (n := 17) Try.func37 rfl rfl rfl ?_
  intro w O
  refine aw_seq ?_
  refine aw_region ?_
  refine ras ?_
  refine reg_imp (imp_nil_own 8 24 2 0 rfl rfl) ?_
  refine ras ?_
  refine reg_nil ?_
  refine post_imp (s' := ⟨17, [(0, some (.pv (.vs 7 (List.map eGClass a0)))), (1, some (.pv (.str a1))), (2, some (.pv (.vs 2 (List.map eGOwner a2)))), (3, some (.pv (.str a3)))], [], 0, [], [], 0, []⟩) (imps [] ⟨by kernel_rfl, by kernel_rfl, by kernel_rfl, by kernel_rfl, trivial⟩ trivial) ?_
  refine post_next ?_
  refine aw_seq ?_
  refine aw_region ?_
  iterate 4 (refine rmv ?_)
  obtain ⟨y3, h4, hF⟩ := bind_some hF
  refine reg_cons (guard_no rfl) (op_call 0 rfl (caps := []) (args := [.vs 7 (List.map eGClass a0), .str a1, .vs 2 (List.map eGOwner a2), .str a3, .fn 62 []]) (rs := [.own 24 2 (List.map eGOwner y3.1), .p (.bool y3.2)]) rfl rfl rfl Try_cal_61 (raise_raise_api_Owner__ok (q4_f := 62) (q4_c := []) (q4_b := Try_cal_62) (q4_h := fun _ _ r h => (owner_Put_ok h)) h4) rfl rfl rfl) ?_
  iterate 2 (refine reg_cons (guard_no rfl) (op_extract rfl rfl rfl rfl rfl) ?_)
  iterate 2 (refine ras ?_)
  refine reg_nil ?_
  refine post_imp (s' := ⟨17, [(8, some (.ls 0)), (9, some (.pv (.bool y3.2)))], [(0, some (.row 24 2 (List.map eGOwner y3.1)))], 1, [], [], 0, []⟩) (imps [0] ⟨by kernel_rfl, by kernel_rfl, trivial⟩ ⟨by kernel_rfl, trivial⟩) ?_
  refine post_next ?_
  refine aw_ret ?_
  obtain rfl := Option.some.inj hF
  exact post_ret rfl rfl (.cons _ _ _ _ _ (.tmp _ _ rfl) (.own _ _ _ _ rfl nolent3) (.cons _ _ _ _ _ (.tmp _ _ rfl) (.p _) .nil)) (.inl rfl)
theorem slices_Equal_api_Owner_ok {a0 : List GOwner} {a1 : List GOwner} {r : Bool} (hF : slices_Equal_api_Owner a0 a1 = some r) : Abs.Fn Try.prog 40 [.vs 2 (List.map eGOwner a0), .vs 2 (List.map eGOwner a1)] [.p (.bool r)] := by
  unfold slices_Equal_api_Owner at hF
  refine fn_of_body (n := 26) Try.func40 rfl rfl rfl ?_
  intro w O
  refine aw_seq ?_
  refine aw_region ?_
  refine ras ?_
  refine reg_nil ?_
  refine post_imp (s' := ⟨26, [(0, some (.pv (.vs 2 (List.map eGOwner a0)))), (1, some (.pv (.vs 2 (List.map eGOwner a1))))], [], 0, [], [], 0, []⟩) (imps [] ⟨by kernel_rfl, by kernel_rfl, trivial⟩ trivial) ?_
  refine post_next ?_
  iterate 2 (refine aw_seq ?_)
  refine aw_region ?_
  refine rmv ?_
  refine reg_cons (guard_no rfl) (op_len_vs (n := a0.length) rfl rfl (List.length_map ..) Try_slc_39 rfl rfl) ?_
  refine rmv ?_
  refine reg_cons (guard_no rfl) (op_len_vs (n := a1.length) rfl rfl (List.length_map ..) Try_slc_39 rfl rfl) ?_
  refine reg_cons (guard_no rfl) (op_int (k := .i64) (m := (a0.length : Int)) (n := (a1.length : Int)) rfl rfl rfl rfl rfl rfl) ?_
  refine reg_nil ?_
  refine post_imp (s' := ⟨26, [(0, some (.pv (.vs 2 (List.map eGOwner a0)))), (1, some (.pv (.vs 2 (List.map eGOwner a1)))), (10, some (.pv (.bool ((a0.length : Int) != (a1.length : Int)))))], [], 0, [], [], 0, []⟩) (imps [] ⟨by kernel_rfl, by kernel_rfl, by kernel_rfl, trivial⟩ trivial) ?_
  refine post_next ?_
  rcases ite_some hF with ⟨hb1, hF⟩ | ⟨hb1, hF⟩
  · refine aw_cond_t rfl hb1 ?_
    refine aw_seq ?_
    refine aw_region ?_
    refine ras ?_
    refine reg_nil ?_
    refine post_imp (s' := ⟨26, [(4, some (.pv (.bool false)))], [], 0, [], [], 0, []⟩) (imps [] ⟨by kernel_rfl, trivial⟩ trivial) ?_
    refine post_next ?_
    refine aw_ret ?_
    refine post_then_ret ?_
    obtain rfl := Option.some.inj hF
    exact post_ret rfl rfl (.cons _ _ _ _ _ (.tmp _ _ rfl) (.p _) .nil) (.inl rfl)
  refine aw_cond_f rfl hb1 ?_
  refine aw_skip ?_
  refine post_next ?_
  iterate 2 (refine aw_seq ?_)
  refine aw_region ?_
  refine rmv ?_
  refine reg_cons (guard_no rfl) (op_len_vs (n := a0.length) rfl rfl (List.length_map ..) Try_slc_39 rfl rfl) ?_
  refine rmv ?_
  refine reg_nil ?_
  refine post_imp (s' := ⟨26, [(0, some (.pv (.vs 2 (List.map eGOwner a0)))), (1, some (.pv (.vs 2 (List.map eGOwner a1)))), (12, some (.pv (.int .i64 (a0.length : Int)))), (13, some (.pv (.int .i64 0)))], [], 0, [], [], 0, []⟩) (imps [] ⟨by kernel_rfl, by kernel_rfl, by kernel_rfl, by kernel_rfl, trivial⟩ trivial) ?_
  refine post_next ?_
  obtain ⟨lr35, hF, hK36⟩ := bind_some hF
  refine aw_for ((((a0.length : Int) : Int) - (0)).toNat + 1) (fun s1 => ∃ q, lr35 = .next q ∧ s1 = ⟨26, [], [], 0, [], [], 0, []⟩) ?_ ?_
  · refine rnd_loop (α := Int) (fun q => ⟨26, [(0, some (.pv (.vs 2 (List.map eGOwner a0)))), (1, some (.pv (.vs 2 (List.map eGOwner a1)))), (12, some (.pv (.int .i64 (a0.length : Int)))), (13, some (.pv (.int .i64 q)))], [], 0, [], [], 0, []⟩) (fun k q => slices_Equal_api_Owner_L1 a0 a1 k q = some lr35) 0 (imps [] ⟨by kernel_rfl, by kernel_rfl, by kernel_rfl, by kernel_rfl, trivial⟩ trivial) hF (fun q h => by cases h) ?_
    clear hF
    rintro k x12 hF ih
    refine rnd_succ ?_
    refine aw_seq ?_
    refine aw_region ?_
    refine reg_cons (guard_no rfl) (op_int (k := .i64) (m := x12) (n := (a0.length : Int)) rfl rfl rfl rfl rfl rfl) ?_
    refine reg_nil ?_
    refine post_imp (s' := ⟨26, [(0, some (.pv (.vs 2 (List.map eGOwner a0)))), (1, some (.pv (.vs 2 (List.map eGOwner a1)))), (12, some (.pv (.int .i64 (a0.length : Int)))), (13, some (.pv (.int .i64 x12))), (14, some (.pv (.bool (decide (x12 < (a0.length : Int))))))], [], 0, [], [], 0, []⟩) (imps [] ⟨by kernel_rfl, by kernel_rfl, by kernel_rfl, by kernel_rfl, by kernel_rfl, trivial⟩ trivial) ?_
    refine post_next ?_
    refine aw_seq ?_
    rcases ite_some hF with ⟨hb24, hF⟩ | ⟨hb24, hF⟩
    · refine aw_cond_t rfl hb24 ?_
      refine aw_skip ?_
      refine post_next ?_
      refine aw_seq ?_
      refine aw_block ?_
      refine aw_seq ?_
      refine aw_region ?_
      refine rmv ?_
      refine ras ?_
      refine reg_nil ?_
      refine post_imp (s' := ⟨26, [(0, some (.pv (.vs 2 (List.map eGOwner a0)))), (1, some (.pv (.vs 2 (List.map eGOwner a1)))), (5, some (.pv (.int .i64 x12))), (12, some (.pv (.int .i64 (a0.length : Int)))), (13, some (.pv (.int .i64 x12)))], [], 0, [], [], 0, []⟩) (imps [] ⟨by kernel_rfl, by kernel_rfl, by kernel_rfl, by kernel_rfl, by kernel_rfl, trivial⟩ trivial) ?_
      refine post_next ?_
      refine aw_seq ?_
      refine dr_start ⟨_, _, _⟩ rfl ?_
      iterate 2 (refine drm ?_)
      obtain ⟨y29, h30, hF⟩ := bind_some hF
      refine dr_cons { need := [(16, .pv (.vs 2 (List.map eGOwner a0))), (17, .pv (.int .i64 x12))], dst := some 18, val := some (.pv (.vp (eGOwner y29))) } (fun m h => step_on (guard_no rfl) (op_index_vs (k := .i64) rfl h.1.1 h.1.2.1 (idx_map eGOwner h30) Try_slc_39 rfl rfl) rfl) ⟨⟨rfl, rfl, trivial⟩, trivial, trivial⟩ ?_
      refine dr_cons { need := [(18, .pv (.vp (eGOwner y29)))], dst := some 19, val := some (.pv (.agg (eGOwner y29))) } (fun m h => step_on (guard_no rfl) (op_load_vp_agg (ps := eGOwner y29) rfl h.1.1 rfl rfl Try_agg_24 rfl rfl) rfl) ⟨⟨rfl, trivial⟩, trivial, trivial⟩ ?_
      iterate 2 (refine drm ?_)
      obtain ⟨y31, h32, hF⟩ := bind_some hF
      refine dr_cons { need := [(20, .pv (.vs 2 (List.map eGOwner a1))), (21, .pv (.int .i64 x12))], dst := some 22, val := some (.pv (.vp (eGOwner y31))) } (fun m h => step_on (guard_no rfl) (op_index_vs (k := .i64) rfl h.1.1 h.1.2.1 (idx_map eGOwner h32) Try_slc_39 rfl rfl) rfl) ⟨⟨rfl, rfl, trivial⟩, trivial, trivial⟩ ?_
      refine dr_cons { need := [(22, .pv (.vp (eGOwner y31)))], dst := some 23, val := some (.pv (.agg (eGOwner y31))) } (fun m h => step_on (guard_no rfl) (op_load_vp_agg (ps := eGOwner y31) rfl h.1.1 rfl rfl Try_agg_24 rfl rfl) rfl) ⟨⟨rfl, trivial⟩, trivial, trivial⟩ ?_
      refine dr_cons { need := [(19, .pv (.agg (eGOwner y29))), (23, .pv (.agg (eGOwner y31)))], dst := some 24, val := some (.pv (.bool (!(bGOwner y29 y31)))) } (fun m h => step_on (guard_no rfl) (op_eqAgg_neq (r := bGOwner y29 y31) rfl h.1.1 h.1.2.1 Try_eqt_24 rfl rfl rfl rfl rfl) rfl) ⟨⟨rfl, rfl, trivial⟩, trivial, trivial⟩ ?_
      refine dr_nil Try_mixed rfl (by kernel_rfl) ?_
      refine post_imp (s' := ⟨26, [(0, some (.pv (.vs 2 (List.map eGOwner a0)))), (1, some (.pv (.vs 2 (List.map eGOwner a1)))), (12, some (.pv (.int .i64 (a0.length : Int)))), (13, some (.pv (.int .i64 x12))), (24, some (.pv (.bool (!(bGOwner y29 y31)))))], [], 0, [], [], 0, []⟩) (imps [] ⟨by kernel_rfl, by kernel_rfl, by kernel_rfl, by kernel_rfl, by kernel_rfl, trivial⟩ trivial) ?_
      refine post_next ?_
      rcases ite_some hF with ⟨hb33, hF⟩ | ⟨hb33, hF⟩
      · refine aw_cond_t rfl hb33 ?_
        refine aw_seq ?_
        refine aw_region ?_
        refine ras ?_
        refine reg_nil ?_
        refine post_imp (s' := ⟨26, [(4, some (.pv (.bool false)))], [], 0, [], [], 0, []⟩) (imps [] ⟨by kernel_rfl, trivial⟩ trivial) ?_
        refine post_next ?_
        refine aw_ret ?_
        refine post_block_ret ?_
        iterate 2 (refine post_then_ret ?_)
        refine post_lp_ret ?_
        obtain rfl := Option.some.inj hF
        have hF := elim_stop hK36
        refine post_then_ret ?_
        obtain rfl := Option.some.inj hF
        exact post_ret rfl rfl (.cons _ _ _ _ _ (.tmp _ _ rfl) (.p _) .nil) (.inl rfl)
      refine aw_cond_f rfl hb33 ?_
      refine aw_skip ?_
      refine post_block_normal ?_
      refine post_next ?_
      refine aw_region ?_
      refine reg_cons (guard_no rfl) (op_int (k := .i64) (m := x12) (n := 1) rfl rfl rfl rfl rfl rfl) ?_
      refine rmv ?_
      refine reg_nil ?_
      refine post_round ?_
      exact rnd_back (ih (w_i64 (x12 + 1)) hF) (imps [] ⟨by kernel_rfl, by kernel_rfl, by kernel_rfl, by kernel_rfl, trivial⟩ trivial)
    refine aw_cond_f rfl hb24 ?_
    refine aw_exit ?_
    iterate 2 (refine post_then_exit ?_)
    obtain rfl := Option.some.inj hF
    exact post_lp_break _ ⟨_, rfl, rfl⟩ (imps [] trivial trivial)
  rintro _ ⟨⟨⟩, rfl, rfl⟩
  have hF := elim_next hK36
  clear hK36
  refine post_next ?_
  refine aw_seq ?_
  refine aw_region ?_
  refine ras ?_
  refine reg_nil ?_
  refine post_imp (s' := ⟨26, [(4, some (.pv (.bool true)))], [], 0, [], [], 0, []⟩) (imps [] ⟨by kernel_rfl, trivial⟩ trivial) ?_
  refine post_next ?_
  refine aw_ret ?_
  obtain rfl := Option.some.inj hF
  exact post_ret rfl rfl (.cons _ _ _ _ _ (.tmp _ _ rfl) (.p _) .nil) (.inl rfl)
theorem under_Is_ok {a0 : List GClass} {a1 : GType} {a2 : GType} {r : Bool} (hF : under_Is a0 a1 a2 = some r) : Abs.Fn Try.prog 12 [.vs 7 (List.map eGClass a0), .agg (eGType a1), .agg (eGType a2)] [.p (.bool r)] := by
  unfold under_Is at hF
  refine fn_of_body (n := 83) Try.func12 rfl rfl rfl ?_
  intro w O
  refine aw_seq ?_
  refine aw_region ?_
  refine reg_cons (guard_no rfl) (op_box 0 rfl rfl rfl rfl rfl rfl) ?_
  refine reg_cons (guard_no rfl) (op_box 1 rfl rfl rfl rfl rfl rfl) ?_
  refine ras ?_
  refine reg_nil ?_
  refine post_imp (s' := ⟨83, [(0, some (.pv (.vs 7 (List.map eGClass a0)))), (4, some (.lp 0 0)), (5, some (.lp 1 0))], [(0, some (.box 27 (bxv (eGType a1)))), (1, some (.box 27 (bxv (eGType a2))))], 2, [], [], 0, []⟩) (imps [0, 1] ⟨by kernel_rfl, by kernel_rfl, by kernel_rfl, trivial⟩ ⟨by kernel_rfl, by kernel_rfl, trivial⟩) ?_
  refine post_next ?_
  refine aw_seq ?_
  refine aw_block ?_
  refine aw_seq ?_
  refine aw_region ?_
  refine reg_cons (guard_no rfl) (op_field_lp rfl rfl Try_fld_27_0 rfl rfl) ?_
  refine reg_cons (guard_no rfl) (op_load_lp (v := .pv (.int .i64 a1.fKind)) rfl rfl rfl rfl Try_one_3 rfl rfl) ?_
  refine reg_cons (guard_no rfl) (op_int (k := .i64) (m := a1.fKind) (n := 1) rfl rfl rfl rfl rfl rfl) ?_
  refine ras ?_
  refine reg_nil ?_
  refine post_imp (s' := ⟨83, [(0, some (.pv (.vs 7 (List.map eGClass a0)))), (4, some (.lp 0 0)), (5, some (.lp 1 0)), (11, some (.pv (.bool (a1.fKind == 1))))], [(0, some (.box 27 (bxv (eGType a1)))), (1, some (.box 27 (bxv (eGType a2))))], 2, [], [], 0, []⟩) (imps [0, 1] ⟨by kernel_rfl, by kernel_rfl, by kernel_rfl, by kernel_rfl, trivial⟩ ⟨by kernel_rfl, by kernel_rfl, trivial⟩) ?_
  refine post_next ?_
  rcases ite_some hF with ⟨hb1, hF⟩ | ⟨hb1, hF⟩
  · refine aw_cond_t rfl hb1 ?_
    refine aw_seq ?_
    refine aw_region ?_
    refine reg_cons (guard_no rfl) (op_field_lp rfl rfl Try_fld_27_0 rfl rfl) ?_
    refine reg_cons (guard_no rfl) (op_load_lp (v := .pv (.int .i64 a2.fKind)) rfl rfl rfl rfl Try_one_3 rfl rfl) ?_
    refine reg_cons (guard_no rfl) (op_int (k := .i64) (m := a2.fKind) (n := 1) rfl rfl rfl rfl rfl rfl) ?_
    refine ras ?_
    refine reg_nil ?_
    refine post_imp (s' := ⟨83, [(6, some (.pv (.bool (a2.fKind == 1))))], [], 0, [], [], 0, []⟩) (imps [] ⟨by kernel_rfl, trivial⟩ trivial) ?_
    refine post_next ?_
    refine aw_ret ?_
    refine post_block_ret ?_
    refine post_then_ret ?_
    obtain rfl := Option.some.inj hF
    exact post_ret rfl rfl (.cons _ _ _ _ _ (.tmp _ _ rfl) (.p _) .nil) (.inl rfl)
  refine aw_cond_f rfl hb1 ?_
  refine aw_seq ?_
  obtain ⟨x5, hF, hK7⟩ := bind_some hF
  refine aw_cut (fun s1 => s1 = ⟨83, [(0, some (.pv (.vs 7 (List.map eGClass a0)))), (4, some (.lp 0 0)), (5, some (.lp 1 0)), (18, some (.pv (.bool x5)))], [(0, some (.box 27 (bxv (eGType a1)))), (1, some (.box 27 (bxv (eGType a2))))], 2, [], [], 0, []⟩) ?_ ?_
  · refine aw_region ?_
    refine reg_cons (guard_no rfl) (op_field_lp rfl rfl Try_fld_27_0 rfl rfl) ?_
    refine reg_cons (guard_no rfl) (op_load_lp (v := .pv (.int .i64 a2.fKind)) rfl rfl rfl rfl Try_one_3 rfl rfl) ?_
    refine reg_cons (guard_no rfl) (op_int (k := .i64) (m := a2.fKind) (n := 2) rfl rfl rfl rfl rfl rfl) ?_
    refine rmv ?_
    rcases ite_some hF with ⟨hb2, hF⟩ | ⟨hb2, hF⟩
    · refine rgo_t hb2 ?_
      refine rgo_t hb2 ?_
      refine rpt hb2 ?_
      refine ras ?_
      refine reg_nil ?_
      cases hF
      exact post_cut _ rfl (imps [0, 1] ⟨by kernel_rfl, by kernel_rfl, by kernel_rfl, by kernel_rfl, trivial⟩ ⟨by kernel_rfl, by kernel_rfl, trivial⟩)
    refine reg_cons (guard_on rfl rfl rfl rfl hb2) (op_load_lp_agg (ps := eGType a2) rfl rfl rfl rfl rfl rfl Try_agg_27 rfl rfl) ?_
    obtain ⟨y3, h4, hF⟩ := bind_some hF
    refine reg_cons (guard_on rfl rfl rfl rfl hb2) (op_call 2 rfl (caps := []) (args := [.agg (eGType a2)]) (rs := [.p (.bool y3)]) rfl rfl rfl Try_cal_35 (under_dim_ok h4) rfl rfl rfl) ?_
    refine rpf hb2 ?_
    refine ras ?_
    refine reg_nil ?_
    cases hF
    exact post_cut _ rfl (imps [0, 1] ⟨by kernel_rfl, by kernel_rfl, by kernel_rfl, by kernel_rfl, trivial⟩ ⟨by kernel_rfl, by kernel_rfl, trivial⟩)
  rintro _ rfl
  have hF := hK7
  clear hK7
  refine post_next ?_
  rcases ite_some hF with ⟨hb8, hF⟩ | ⟨hb8, hF⟩
  · refine aw_cond_t rfl hb8 ?_
    refine aw_seq ?_
    refine aw_region ?_
    refine ras ?_
    refine reg_nil ?_
    refine post_imp (s' := ⟨83, [(6, some (.pv (.bool false)))], [], 0, [], [], 0, []⟩) (imps [] ⟨by kernel_rfl, trivial⟩ trivial) ?_
    refine post_next ?_
    refine aw_ret ?_
    refine post_block_ret ?_
    refine post_then_ret ?_
    obtain rfl := Option.some.inj hF
    exact post_ret rfl rfl (.cons _ _ _ _ _ (.tmp _ _ rfl) (.p _) .nil) (.inl rfl)
  refine aw_cond_f rfl hb8 ?_
  refine aw_seq ?_
  refine aw_region ?_
  refine reg_cons (guard_no rfl) (op_field_lp rfl rfl Try_fld_27_0 rfl rfl) ?_
  refine reg_cons (guard_no rfl) (op_load_lp (v := .pv (.int .i64 a1.fKind)) rfl rfl rfl rfl Try_one_3 rfl rfl) ?_
  refine reg_cons (guard_no rfl) (op_int (k := .i64) (m := a1.fKind) (n := 2) rfl rfl rfl rfl rfl rfl) ?_
  refine ras ?_
  refine reg_nil ?_
  refine post_imp (s' := ⟨83, [(0, some (.pv (.vs 7 (List.map eGClass a0)))), (4, some (.lp 0 0)), (5, some (.lp 1 0)), (26, some (.pv (.bool (a1.fKind != 2))))], [(0, some (.box 27 (bxv (eGType a1)))), (1, some (.box 27 (bxv (eGType a2))))], 2, [], [], 0, []⟩) (imps [0, 1] ⟨by kernel_rfl, by kernel_rfl, by kernel_rfl, by kernel_rfl, trivial⟩ ⟨by kernel_rfl, by kernel_rfl, trivial⟩) ?_
  refine post_next ?_
  rcases ite_some hF with ⟨hb9, hF⟩ | ⟨hb9, hF⟩
  · refine aw_cond_t rfl hb9 ?_
    refine aw_seq ?_
    refine aw_region ?_
    refine reg_cons (guard_no rfl) (op_field_lp rfl rfl Try_fld_27_0 rfl rfl) ?_
    refine reg_cons (guard_no rfl) (op_load_lp (v := .pv (.int .i64 a1.fKind)) rfl rfl rfl rfl Try_one_3 rfl rfl) ?_
    refine reg_cons (guard_no rfl) (op_int (k := .i64) (m := a1.fKind) (n := 3) rfl rfl rfl rfl rfl rfl) ?_
    refine ras ?_
    refine reg_nil ?_
    refine post_imp (s' := ⟨83, [(6, some (.pv (.bool (a1.fKind == 3))))], [], 0, [], [], 0, []⟩) (imps [] ⟨by kernel_rfl, trivial⟩ trivial) ?_
    refine post_next ?_
    refine aw_ret ?_
    refine post_block_ret ?_
    refine post_then_ret ?_
    obtain rfl := Option.some.inj hF
    exact post_ret rfl rfl (.cons _ _ _ _ _ (.tmp _ _ rfl) (.p _) .nil) (.inl rfl)
  refine aw_cond_f rfl hb9 ?_
  refine aw_seq ?_
  obtain ⟨x17, hF, hK19⟩ := bind_some hF
  refine aw_cut (fun s1 => s1 = ⟨83, [(0, some (.pv (.vs 7 (List.map eGClass a0)))), (4, some (.lp 0 0)), (5, some (.lp 1 0)), (33, some (.pv (.bool x17)))], [(0, some (.box 27 (bxv (eGType a1)))), (1, some (.box 27 (bxv (eGType a2))))], 2, [], [], 0, []⟩) ?_ ?_
  · refine aw_region ?_
    refine reg_cons (guard_no rfl) (op_load_lp_agg (ps := eGType a1) rfl rfl rfl rfl rfl rfl Try_agg_27 rfl rfl) ?_
    obtain ⟨y12, h13, hF⟩ := bind_some hF
    refine reg_cons (guard_no rfl) (op_call 2 rfl (caps := []) (args := [.agg (eGType a1)]) (rs := [.p (.bool y12)]) rfl rfl rfl Try_cal_35 (under_dim_ok h13) rfl rfl rfl) ?_
    refine rmv ?_
    rcases ite_some hF with ⟨hb14, hF⟩ | ⟨hb14, hF⟩
    · refine rgo_t hb14 ?_
      iterate 6 (refine rgo_t hb14 ?_)
      refine rpt hb14 ?_
      refine ras ?_
      refine reg_nil ?_
      cases hF
      exact post_cut _ rfl (imps [0, 1] ⟨by kernel_rfl, by kernel_rfl, by kernel_rfl, by kernel_rfl, trivial⟩ ⟨by kernel_rfl, by kernel_rfl, trivial⟩)
    refine reg_cons (guard_on rfl rfl rfl rfl hb14) (op_move rfl rfl rfl rfl) ?_
    refine reg_cons (guard_on rfl rfl rfl rfl hb14) (op_field_lp rfl rfl Try_fld_27_1 rfl rfl) ?_
    refine reg_cons (guard_on rfl rfl rfl rfl hb14) (op_load_lp (v := .pv (.str a1.fClass)) rfl rfl rfl rfl Try_one_9 rfl rfl) ?_
    refine reg_cons (guard_on rfl rfl rfl rfl hb14) (op_field_lp rfl rfl Try_fld_27_1 rfl rfl) ?_
    refine reg_cons (guard_on rfl rfl rfl rfl hb14) (op_load_lp (v := .pv (.str a2.fClass)) rfl rfl rfl rfl Try_one_9 rfl rfl) ?_
    obtain ⟨y15, h16, hF⟩ := bind_some hF
    refine reg_cons (guard_on rfl rfl rfl rfl hb14) (op_call 2 rfl (caps := []) (args := [.vs 7 (List.map eGClass a0), .str a1.fClass, .str a2.fClass]) (rs := [.p (.bool y15)]) rfl rfl rfl Try_cal_36 (above_Below_ok h16) rfl rfl rfl) ?_
    refine reg_cons (guard_on rfl rfl rfl rfl hb14) (op_not rfl rfl rfl rfl) ?_
    refine rpf hb14 ?_
    refine ras ?_
    refine reg_nil ?_
    cases hF
    exact post_cut _ rfl (imps [0, 1] ⟨by kernel_rfl, by kernel_rfl, by kernel_rfl, by kernel_rfl, trivial⟩ ⟨by kernel_rfl, by kernel_rfl, trivial⟩)
  rintro _ rfl
  have hF := hK19
  clear hK19
  refine post_next ?_
  rcases ite_some hF with ⟨hb20, hF⟩ | ⟨hb20, hF⟩
  · refine aw_cond_t rfl hb20 ?_
    refine aw_seq ?_
    refine aw_region ?_
    refine ras ?_
    refine reg_nil ?_
    refine post_imp (s' := ⟨83, [(6, some (.pv (.bool false)))], [], 0, [], [], 0, []⟩) (imps [] ⟨by kernel_rfl, trivial⟩ trivial) ?_
    refine post_next ?_
    refine aw_ret ?_
    refine post_block_ret ?_
    refine post_then_ret ?_
    obtain rfl := Option.some.inj hF
    exact post_ret rfl rfl (.cons _ _ _ _ _ (.tmp _ _ rfl) (.p _) .nil) (.inl rfl)
  refine aw_cond_f rfl hb20 ?_
  refine aw_skip ?_
  refine post_block_normal ?_
  refine post_next ?_
  refine aw_seq ?_
  refine aw_imp (imp_names 1) ?_
  refine dr_start ⟨_, _, _⟩ rfl ?_
  refine drm ?_
  refine dr_cons { need := [(4, .lp 0 0)], dst := some 47, val := some (.lp 0 1) } (fun m h => step_on (guard_no rfl) (op_field_lp rfl h.1.1 Try_fld_27_1 rfl rfl) rfl) ⟨⟨rfl, trivial⟩, trivial, trivial⟩ ?_
  refine dr_cons { need := [(47, .lp 0 1)], hneed := [(0, .box 27 (bxv (eGType a1)))], dst := some 48, val := some (.pv (.str a1.fClass)) } (fun m h => step_on (guard_no rfl) (op_load_lp (v := .pv (.str a1.fClass)) rfl h.1.1 h.2.1.1 rfl Try_one_9 rfl rfl) rfl) ⟨⟨rfl, trivial⟩, ⟨rfl, trivial⟩, trivial⟩ ?_
  refine dr_cons { need := [(4, .lp 0 0)], hneed := [(0, .box 27 (bxv (eGType a1)))], dst := some 49, val := some (.pv (.agg (eGType a1))) } (fun m h => step_on (guard_no rfl) (op_load_lp_agg (ps := eGType a1) rfl h.1.1 h.2.1.1 rfl rfl rfl Try_agg_27 rfl rfl) rfl) ⟨⟨rfl, trivial⟩, ⟨rfl, trivial⟩, trivial⟩ ?_
  obtain ⟨y25, h26, hF⟩ := bind_some hF
  refine dr_cons { need := [(49, .pv (.agg (eGType a1)))], dst := some 50, val := some (.pv (.vs 2 (List.map eGOwner y25))) } (fun m h => step_on (guard_no rfl) (op_call 3 rfl (caps := []) (args := [.agg (eGType a1)]) (rs := [.p (.vs 2 (List.map eGOwner y25))]) rfl rfl (evl_cons h.1.1 evl_nil) Try_cal_38 (kind_Owners_ok h26) rfl rfl rfl) rfl) ⟨⟨rfl, trivial⟩, trivial, trivial⟩ ?_
  refine dr_cons { need := [(5, .lp 1 0)], dst := some 51, val := some (.lp 1 1) } (fun m h => step_on (guard_no rfl) (op_field_lp rfl h.1.1 Try_fld_27_1 rfl rfl) rfl) ⟨⟨rfl, trivial⟩, trivial, trivial⟩ ?_
  refine dr_cons { need := [(51, .lp 1 1)], hneed := [(1, .box 27 (bxv (eGType a2)))], dst := some 52, val := some (.pv (.str a2.fClass)) } (fun m h => step_on (guard_no rfl) (op_load_lp (v := .pv (.str a2.fClass)) rfl h.1.1 h.2.1.1 rfl Try_one_9 rfl rfl) rfl) ⟨⟨rfl, trivial⟩, ⟨rfl, trivial⟩, trivial⟩ ?_
  obtain ⟨y27, h28, hF⟩ := bind_some hF
  refine dr_cons { need := [(52, .pv (.str a2.fClass)), (50, .pv (.vs 2 (List.map eGOwner y25))), (48, .pv (.str a1.fClass)), (46, .pv (.vs 7 (List.map eGClass a0)))], names := [2], dst := some 53, val := some (.tup [.ls 2, .pv (.bool y27.2)]), upd := [(2, some (.row 24 2 (List.map eGOwner y27.1)))] } (fun m h => step_on (guard_no rfl) (op_call 2 (fresh_free h.2.2.1) (caps := []) (args := [.vs 7 (List.map eGClass a0), .str a1.fClass, .vs 2 (List.map eGOwner y25), .str a2.fClass]) (rs := [.own 24 2 (List.map eGOwner y27.1), .p (.bool y27.2)]) rfl rfl (evl_cons h.1.2.2.2.1 (evl_cons h.1.2.2.1 (evl_cons h.1.2.1 (evl_cons h.1.1 evl_nil)))) Try_cal_37 (raise_Raise_ok h28) rfl rfl rfl) rfl) ⟨⟨rfl, rfl, rfl, rfl, trivial⟩, trivial, ⟨rfl, trivial⟩⟩ ?_
  refine drm ?_
  refine dr_cons { need := [(45, .tup [.ls 2, .pv (.bool y27.2)])], dst := some 54, val := some (.ls 2) } (fun m h => step_on (guard_no rfl) (op_extract rfl h.1.1 rfl rfl rfl) rfl) ⟨⟨rfl, trivial⟩, trivial, trivial⟩ ?_
  refine dr_cons { need := [(45, .tup [.ls 2, .pv (.bool y27.2)])], dst := some 55, val := some (.pv (.bool y27.2)) } (fun m h => step_on (guard_no rfl) (op_extract rfl h.1.1 rfl rfl rfl) rfl) ⟨⟨rfl, trivial⟩, trivial, trivial⟩ ?_
  refine dr_cons { need := [(54, .ls 2)], dst := some 7, val := some (.ls 2) } (fun m h => step_on (guard_no rfl) (op_assign rfl h.1.1 rfl rfl) rfl) ⟨⟨rfl, trivial⟩, trivial, trivial⟩ ?_
  refine dr_cons { need := [(55, .pv (.bool y27.2))], dst := some 8, val := some (.pv (.bool y27.2)) } (fun m h => step_on (guard_no rfl) (op_assign rfl h.1.1 rfl rfl) rfl) ⟨⟨rfl, trivial⟩, trivial, trivial⟩ ?_
  refine dr_nil Try_mixed rfl (by kernel_rfl) ?_
  refine post_imp (s' := ⟨83, [(5, some (.lp 0 0)), (7, some (.ls 1)), (8, some (.pv (.bool y27.2)))], [(0, some (.box 27 (bxv (eGType a2)))), (1, some (.row 24 2 (List.map eGOwner y27.1)))], 2, [], [], 0, []⟩) (imps [1, 2] ⟨by kernel_rfl, by kernel_rfl, by kernel_rfl, trivial⟩ ⟨by kernel_rfl, by kernel_rfl, trivial⟩) ?_
  refine post_next ?_
  iterate 2 (refine aw_seq ?_)
  refine aw_region ?_
  refine rmv ?_
  refine reg_cons (guard_no rfl) (op_not rfl rfl rfl rfl) ?_
  refine reg_nil ?_
  refine post_imp (s' := ⟨83, [(5, some (.lp 0 0)), (7, some (.ls 1)), (57, some (.pv (.bool (!y27.2))))], [(0, some (.box 27 (bxv (eGType a2)))), (1, some (.row 24 2 (List.map eGOwner y27.1)))], 2, [], [], 0, []⟩) (imps [0, 1] ⟨by kernel_rfl, by kernel_rfl, by kernel_rfl, trivial⟩ ⟨by kernel_rfl, by kernel_rfl, trivial⟩) ?_
  refine post_next ?_
  rcases ite_some hF with ⟨hb29, hF⟩ | ⟨hb29, hF⟩
  · refine aw_cond_t rfl hb29 ?_
    refine aw_seq ?_
    refine aw_region ?_
    refine ras ?_
    refine reg_nil ?_
    refine post_imp (s' := ⟨83, [(6, some (.pv (.bool false)))], [], 0, [], [], 0, []⟩) (imps [] ⟨by kernel_rfl, trivial⟩ trivial) ?_
    refine post_next ?_
    refine aw_ret ?_
    refine post_then_ret ?_
    obtain rfl := Option.some.inj hF
    exact post_ret rfl rfl (.cons _ _ _ _ _ (.tmp _ _ rfl) (.p _) .nil) (.inl rfl)
  refine aw_cond_f rfl hb29 ?_
  refine aw_skip ?_
  refine post_next ?_
  refine aw_seq ?_
  refine aw_region ?_
  refine reg_cons (guard_no rfl) (op_load_lp_agg (ps := eGType a2) rfl rfl rfl rfl rfl rfl Try_agg_27 rfl rfl) ?_
  obtain ⟨y32, h33, hF⟩ := bind_some hF
  refine reg_cons (guard_no rfl) (op_call 2 rfl (caps := []) (args := [.agg (eGType a2)]) (rs := [.p (.vs 2 (List.map eGOwner y32))]) rfl rfl rfl Try_cal_38 (kind_Owners_ok h33) rfl rfl rfl) ?_
  refine ras ?_
  refine reg_nil ?_
  refine post_imp (s' := ⟨83, [(7, some (.ls 0)), (9, some (.pv (.vs 2 (List.map eGOwner y32))))], [(0, some (.row 24 2 (List.map eGOwner y27.1)))], 1, [], [], 0, []⟩) (imps [1] ⟨by kernel_rfl, by kernel_rfl, trivial⟩ ⟨by kernel_rfl, trivial⟩) ?_
  refine post_next ?_
  refine aw_seq ?_
  obtain ⟨x55, hF, hK57⟩ := bind_some hF
  refine aw_cut (fun s1 => s1 = ⟨83, [(7, some (.ls 0)), (9, some (.pv (.vs 2 (List.map eGOwner y32))))], [(0, some (.row 24 2 (List.map eGOwner x55)))], 1, [], [], 0, []⟩) ?_ ?_
  · refine aw_seq ?_
    refine aw_region ?_
    refine reg_cons (guard_no rfl) (op_lit (rows := List.map eI ([6, 8, 7] : List Int)) (zs := [.int .i64 0]) rfl rfl Try_slc_55 Try_zer_3 (by exact ⟨rfl, trivial⟩) rfl rfl rfl rfl rfl rfl rfl rfl) ?_
    obtain ⟨y36, h37, hF⟩ := bind_some hF
    refine reg_cons (guard_no rfl) (op_call 1 rfl (caps := []) (args := [.vs 1 (List.map eI [6, 8, 7])]) (rs := [.p (.fn 65 [.vp ((eL 1 eI) y36)])]) rfl rfl rfl Try_cal_39 (under_of_ok h37) rfl rfl rfl) ?_
    refine ras ?_
    refine reg_nil ?_
    refine post_imp (s' := ⟨83, [(7, some (.ls 0)), (9, some (.pv (.vs 2 (List.map eGOwner y32)))), (10, some (.pv (.fn 65 [.vp ((eL 1 eI) y36)])))], [(0, some (.row 24 2 (List.map eGOwner y27.1)))], 1, [], [], 0, []⟩) (imps [0] ⟨by kernel_rfl, by kernel_rfl, by kernel_rfl, trivial⟩ ⟨by kernel_rfl, trivial⟩) ?_
    refine post_next ?_
    refine aw_seq ?_
    obtain ⟨x47, hF, hK49⟩ := bind_some hF
    refine aw_cut (fun s1 => s1 = ⟨83, [(7, some (.ls 0)), (9, some (.pv (.vs 2 (List.map eGOwner y32)))), (74, some (.pv (.bool x47)))], [(0, some (.row 24 2 (List.map eGOwner y27.1)))], 1, [], [], 0, []⟩) ?_ ?_
    · refine aw_region ?_
      refine rmv ?_
      obtain ⟨y40, h41, hF⟩ := bind_some hF
      refine reg_cons (guard_no rfl) (op_index_vs (k := .i64) rfl rfl rfl (idx_map eGOwner h41) Try_slc_39 rfl rfl) ?_
      refine reg_cons (guard_no rfl) (op_field_vp rfl rfl Try_fld_24_0 rfl rfl) ?_
      refine reg_cons (guard_no rfl) (op_load_vp (p := .int .i64 y40.fKind) rfl rfl rfl Try_one_3 rfl rfl) ?_
      refine reg_cons (guard_no rfl) (op_int (k := .i64) (m := y40.fKind) (n := 5) rfl rfl rfl rfl rfl rfl) ?_
      refine rmv ?_
      rcases ite_some hF with ⟨hb42, hF⟩ | ⟨hb42, hF⟩
      · refine reg_cons (guard_on rfl rfl rfl rfl hb42) (op_move rfl rfl rfl rfl) ?_
        refine reg_cons (guard_on rfl rfl rfl rfl hb42) (op_move rfl rfl rfl rfl) ?_
        obtain ⟨y43, h44, hF⟩ := bind_some hF
        refine reg_cons (guard_on rfl rfl rfl rfl hb42) (op_index_ls (k := .i64) rfl rfl rfl rfl (idx_map eGOwner h44) Try_slc_39 rfl rfl) ?_
        refine reg_cons (guard_on rfl rfl rfl rfl hb42) (op_load_le_agg (ps := eGOwner y43) rfl rfl rfl (map_get eGOwner h44) rfl rfl Try_agg_24 rfl rfl) ?_
        obtain ⟨y45, h46, hF⟩ := bind_some hF
        refine reg_cons (guard_on rfl rfl rfl rfl hb42) (op_call 1 rfl (caps := [.vp ((eL 1 eI) y36)]) (args := [.agg (eGOwner y43)]) (rs := [.p (.bool y45)]) rfl rfl rfl Try_cal_65 (under_of_1_ok h46) rfl rfl rfl) ?_
        refine reg_cons (guard_on rfl rfl rfl rfl hb42) (op_not rfl rfl rfl rfl) ?_
        refine rpt hb42 ?_
        refine reg_nil ?_
        cases hF
        exact post_cut _ rfl (imps [0] ⟨by kernel_rfl, by kernel_rfl, by kernel_rfl, trivial⟩ ⟨by kernel_rfl, trivial⟩)
      iterate 6 (refine rgo_f hb42 ?_)
      refine rpf hb42 ?_
      refine reg_nil ?_
      cases hF
      exact post_cut _ rfl (imps [0] ⟨by kernel_rfl, by kernel_rfl, by kernel_rfl, trivial⟩ ⟨by kernel_rfl, trivial⟩)
    rintro _ rfl
    have hF := hK49
    clear hK49
    refine post_next ?_
    rcases ite_some hF with ⟨hb50, hF⟩ | ⟨hb50, hF⟩
    · refine aw_cond_t rfl hb50 ?_
      refine aw_region ?_
      iterate 2 (refine rmv ?_)
      obtain ⟨y51, h52, hF⟩ := bind_some hF
      refine reg_cons (guard_no rfl) (op_index_vs (k := .i64) rfl rfl rfl (idx_map eGOwner h52) Try_slc_39 rfl rfl) ?_
      refine reg_cons (guard_no rfl) (op_load_vp_agg (ps := eGOwner y51) rfl rfl rfl rfl Try_agg_24 rfl rfl) ?_
      obtain ⟨y53, h54, hF⟩ := bind_some hF
      refine reg_cons (guard_no rfl) (op_index_ls (k := .i64) rfl rfl rfl rfl (idx_map eGOwner h54) Try_slc_39 rfl rfl) ?_
      refine reg_cons (guard_no rfl) (op_store_le (n := 2) rfl rfl rfl rfl rfl (map_get eGOwner h54) (or_agg Try_agg_24) (by rw [Try_non_24]; rfl) rfl (map_set' eGOwner y27.1 _ y51) rfl rfl) ?_
      refine reg_nil ?_
      cases hF
      exact post_cut _ rfl (imps [0] ⟨by kernel_rfl, by kernel_rfl, trivial⟩ ⟨by kernel_rfl, trivial⟩)
    refine aw_cond_f rfl hb50 ?_
    refine aw_skip ?_
    cases hF
    exact post_cut _ rfl (imps [0] ⟨by kernel_rfl, by kernel_rfl, trivial⟩ ⟨by kernel_rfl, trivial⟩)
  rintro _ rfl
  have hF := hK57
  clear hK57
  refine post_next ?_
  refine aw_seq ?_
  refine aw_region ?_
  iterate 2 (refine rmv ?_)
  obtain ⟨y58, h59, hF⟩ := bind_some hF
  refine reg_cons (guard_no rfl) (op_callB 1 rfl (caps := []) (args := [.vs 2 (List.map eGOwner x55), .vs 2 (List.map eGOwner y32)]) [(0, some (.row 24 2 (List.map eGOwner x55)))] rfl rfl rfl (FzH.spec ⟨rfl, trivial⟩) rfl rfl Try_cal_40 (slices_Equal_api_Owner_ok h59) rfl rfl rfl) ?_
  refine ras ?_
  refine reg_nil ?_
  refine post_imp (s' := ⟨83, [(6, some (.pv (.bool y58)))], [], 0, [], [], 0, []⟩) (imps [] ⟨by kernel_rfl, trivial⟩ trivial) ?_
  refine post_next ?_
  refine aw_ret ?_
  obtain rfl := Option.some.inj hF
  exact post_ret rfl rfl (.cons _ _ _ _ _ (.tmp _ _ rfl) (.p _) .nil) (.inl rfl)
theorem law27_awake_ok  {r : Bool} (hF : law27_awake = some r) : Abs.Fn Try.prog 11 [] [.p (.bool r)] := by
  unfold law27_awake at hF
  refine fn_of_body (n := 37) Try.func11 rfl rfl rfl ?_
  intro w O
  refine aw_seq ?_
  refine aw_region ?_
  refine ras ?_
  refine reg_nil ?_
  refine post_imp (s' := ⟨37, [], [], 0, [], [], 0, []⟩) (imps [] trivial trivial) ?_
  refine post_next ?_
  refine aw_seq ?_
  refine aw_region ?_
  refine reg_cons (guard_no rfl) (op_build (zs := (eGClass zGClass)) (r := eGClass ({ fName := [65], fParams := [], fSuper := [], fAbove := [], fFields := [], fMethods := [], fAt := 0 } : GClass)) rfl Try_zer_43 (by exact ⟨rfl, trivial, rfl, trivial, trivial, trivial, rfl, trivial⟩) Try_plc_43 rfl rfl rfl rfl) ?_
  refine reg_cons (guard_no rfl) (op_build (zs := (eGClass zGClass)) (r := eGClass ({ fName := [66], fParams := [], fSuper := [65], fAbove := [], fFields := [], fMethods := [], fAt := 0 } : GClass)) rfl Try_zer_43 (by exact ⟨rfl, trivial, rfl, trivial, trivial, trivial, rfl, trivial⟩) Try_plc_43 rfl rfl rfl rfl) ?_
  refine reg_cons (guard_no rfl) (op_lit (rows := List.map eGClass ([({ fName := [65], fParams := [], fSuper := [], fAbove := [], fFields := [], fMethods := [], fAt := 0 } : GClass), ({ fName := [66], fParams := [], fSuper := [65], fAbove := [], fFields := [], fMethods := [], fAt := 0 } : GClass)] : List GClass)) (zs := (eGClass zGClass)) rfl rfl Try_slc_22 Try_zer_43 (by exact ⟨rfl, trivial, rfl, trivial, trivial, trivial, rfl, trivial⟩) rfl rfl rfl rfl rfl rfl rfl rfl) ?_
  refine ras ?_
  refine reg_nil ?_
  refine post_imp (s' := ⟨37, [(1, some (.pv (.vs 7 (List.map eGClass [({ fName := [65], fParams := [], fSuper := [], fAbove := [], fFields := [], fMethods := [], fAt := 0 } : GClass), ({ fName := [66], fParams := [], fSuper := [65], fAbove := [], fFields := [], fMethods := [], fAt := 0 } : GClass)]))))], [], 0, [], [], 0, []⟩) (imps [] ⟨by kernel_rfl, trivial⟩ trivial) ?_
  refine post_next ?_
  refine aw_seq ?_
  refine aw_region ?_
  refine reg_cons (guard_no rfl) (op_build (zs := (eGOwner zGOwner)) (r := eGOwner ({ fKind := 1, fN := 0 } : GOwner)) rfl Try_zer_24 (by exact ⟨rfl, rfl, trivial⟩) Try_plc_24 rfl rfl rfl rfl) ?_
  refine reg_cons (guard_no rfl) (op_buildArr (zs := ((eA4 eGOwner) (⟨zGOwner, zGOwner, zGOwner, zGOwner⟩ : A4 GOwner))) (r := (eA4 eGOwner) (⟨({ fKind := 1, fN := 0 } : GOwner), zGOwner, zGOwner, zGOwner⟩ : A4 GOwner)) rfl Try_zer_25 (by exact ⟨rfl, rfl, rfl, rfl, rfl, rfl, rfl, rfl, trivial⟩) Try_arr_25 rfl rfl rfl rfl) ?_
  refine reg_cons (guard_no rfl) (op_build (zs := (eGOwner zGOwner)) (r := eGOwner ({ fKind := 2, fN := 0 } : GOwner)) rfl Try_zer_24 (by exact ⟨rfl, rfl, trivial⟩) Try_plc_24 rfl rfl rfl rfl) ?_
  refine reg_cons (guard_no rfl) (op_buildArr (zs := ((eA4 eGOwner) (⟨zGOwner, zGOwner, zGOwner, zGOwner⟩ : A4 GOwner))) (r := (eA4 eGOwner) (⟨({ fKind := 2, fN := 0 } : GOwner), zGOwner, zGOwner, zGOwner⟩ : A4 GOwner)) rfl Try_zer_25 (by exact ⟨rfl, rfl, rfl, rfl, rfl, rfl, rfl, rfl, trivial⟩) Try_arr_25 rfl rfl rfl rfl) ?_
  refine reg_cons (guard_no rfl) (op_build (zs := (eGOwner zGOwner)) (r := eGOwner ({ fKind := 5, fN := 0 } : GOwner)) rfl Try_zer_24 (by exact ⟨rfl, rfl, trivial⟩) Try_plc_24 rfl rfl rfl rfl) ?_
  refine reg_cons (guard_no rfl) (op_buildArr (zs := ((eA4 eGOwner) (⟨zGOwner, zGOwner, zGOwner, zGOwner⟩ : A4 GOwner))) (r := (eA4 eGOwner) (⟨({ fKind := 5, fN := 0 } : GOwner), zGOwner, zGOwner, zGOwner⟩ : A4 GOwner)) rfl Try_zer_25 (by exact ⟨rfl, rfl, rfl, rfl, rfl, rfl, rfl, rfl, trivial⟩) Try_arr_25 rfl rfl rfl rfl) ?_
  refine reg_cons (guard_no rfl) (op_alloc 0 rfl (ps := ((eA4 eGOwner) (⟨zGOwner, zGOwner, zGOwner, zGOwner⟩ : A4 GOwner))) rfl Try_zer_25 (by exact ⟨rfl, rfl, rfl, rfl, rfl, rfl, rfl, rfl, trivial⟩) rfl rfl) ?_
  refine reg_cons (guard_no rfl) (op_alloc 1 rfl (ps := ((eA4 eGOwner) (⟨zGOwner, zGOwner, zGOwner, zGOwner⟩ : A4 GOwner))) rfl Try_zer_25 (by exact ⟨rfl, rfl, rfl, rfl, rfl, rfl, rfl, rfl, trivial⟩) rfl rfl) ?_
  refine reg_cons (guard_no rfl) (op_alloc 2 rfl (ps := ((eA4 eGOwner) (⟨zGOwner, zGOwner, zGOwner, zGOwner⟩ : A4 GOwner))) rfl Try_zer_25 (by exact ⟨rfl, rfl, rfl, rfl, rfl, rfl, rfl, rfl, trivial⟩) rfl rfl) ?_
  iterate 3 (refine reg_cons (guard_no rfl) (op_store_lp (n := 8) rfl rfl rfl rfl rfl (or_agg Try_agg_25) (by rw [Try_non_25]; rfl) rfl rfl rfl) ?_)
  refine reg_nil ?_
  refine post_imp (s' := ⟨37, [(1, some (.pv (.vs 7 (List.map eGClass [({ fName := [65], fParams := [], fSuper := [], fAbove := [], fFields := [], fMethods := [], fAt := 0 } : GClass), ({ fName := [66], fParams := [], fSuper := [65], fAbove := [], fFields := [], fMethods := [], fAt := 0 } : GClass)])))), (2, some (.lp 0 0)), (3, some (.lp 1 0)), (4, some (.lp 2 0))], [(0, some (.box 25 (bxv ((eA4 eGOwner) (⟨({ fKind := 1, fN := 0 } : GOwner), zGOwner, zGOwner, zGOwner⟩ : A4 GOwner))))), (1, some (.box 25 (bxv ((eA4 eGOwner) (⟨({ fKind := 2, fN := 0 } : GOwner), zGOwner, zGOwner, zGOwner⟩ : A4 GOwner))))), (2, some (.box 25 (bxv ((eA4 eGOwner) (⟨({ fKind := 5, fN := 0 } : GOwner), zGOwner, zGOwner, zGOwner⟩ : A4 GOwner)))))], 3, [], [], 0, []⟩) (imps [0, 1, 2] ⟨by kernel_rfl, by kernel_rfl, by kernel_rfl, by kernel_rfl, trivial⟩ ⟨by kernel_rfl, by kernel_rfl, by kernel_rfl, trivial⟩) ?_
  refine post_next ?_
  refine aw_seq ?_
  refine aw_region ?_
  refine reg_cons (guard_no rfl) (op_load_lp_agg (ps := (eA4 eGOwner) (⟨({ fKind := 1, fN := 0 } : GOwner), zGOwner, zGOwner, zGOwner⟩ : A4 GOwner)) rfl rfl rfl rfl rfl rfl Try_agg_25 rfl rfl) ?_
  refine reg_cons (guard_no rfl) (op_build (zs := (eGType zGType)) (r := eGType ({ fKind := 2, fClass := [66], fN := 0, fOwn := (⟨({ fKind := 1, fN := 0 } : GOwner), zGOwner, zGOwner, zGOwner⟩ : A4 GOwner) } : GType)) rfl Try_zer_27 (by exact ⟨rfl, rfl, rfl, rfl, rfl, rfl, rfl, rfl, rfl, rfl, rfl, trivial⟩) Try_plc_27 rfl rfl rfl rfl) ?_
  refine reg_cons (guard_no rfl) (op_alloc 3 rfl (ps := (eGType zGType)) rfl Try_zer_27 (by exact ⟨rfl, rfl, rfl, rfl, rfl, rfl, rfl, rfl, rfl, rfl, rfl, trivial⟩) rfl rfl) ?_
  refine reg_cons (guard_no rfl) (op_store_lp (n := 11) rfl rfl rfl rfl rfl (or_agg Try_agg_27) (by rw [Try_non_27]; rfl) rfl rfl rfl) ?_
  refine reg_nil ?_
  refine post_imp (s' := ⟨37, [(1, some (.pv (.vs 7 (List.map eGClass [({ fName := [65], fParams := [], fSuper := [], fAbove := [], fFields := [], fMethods := [], fAt := 0 } : GClass), ({ fName := [66], fParams := [], fSuper := [65], fAbove := [], fFields := [], fMethods := [], fAt := 0 } : GClass)])))), (2, some (.lp 0 0)), (3, some (.lp 1 0)), (4, some (.lp 2 0)), (5, some (.lp 3 0))], [(0, some (.box 25 (bxv ((eA4 eGOwner) (⟨({ fKind := 1, fN := 0 } : GOwner), zGOwner, zGOwner, zGOwner⟩ : A4 GOwner))))), (1, some (.box 25 (bxv ((eA4 eGOwner) (⟨({ fKind := 2, fN := 0 } : GOwner), zGOwner, zGOwner, zGOwner⟩ : A4 GOwner))))), (2, some (.box 25 (bxv ((eA4 eGOwner) (⟨({ fKind := 5, fN := 0 } : GOwner), zGOwner, zGOwner, zGOwner⟩ : A4 GOwner))))), (3, some (.box 27 (bxv (eGType ({ fKind := 2, fClass := [66], fN := 0, fOwn := (⟨({ fKind := 1, fN := 0 } : GOwner), zGOwner, zGOwner, zGOwner⟩ : A4 GOwner) } : GType)))))], 4, [], [], 0, []⟩) (imps [0, 1, 2, 3] ⟨by kernel_rfl, by kernel_rfl, by kernel_rfl, by kernel_rfl, by kernel_rfl, trivial⟩ ⟨by kernel_rfl, by kernel_rfl, by kernel_rfl, by kernel_rfl, trivial⟩) ?_
  refine post_next ?_
  refine aw_seq ?_
  refine aw_region ?_
  refine rmv ?_
  refine reg_cons (guard_no rfl) (op_load_lp_agg (ps := eGType ({ fKind := 2, fClass := [66], fN := 0, fOwn := (⟨({ fKind := 1, fN := 0 } : GOwner), zGOwner, zGOwner, zGOwner⟩ : A4 GOwner) } : GType)) rfl rfl rfl rfl rfl rfl Try_agg_27 rfl rfl) ?_
  refine reg_cons (guard_no rfl) (op_load_lp_agg (ps := (eA4 eGOwner) (⟨({ fKind := 1, fN := 0 } : GOwner), zGOwner, zGOwner, zGOwner⟩ : A4 GOwner)) rfl rfl rfl rfl rfl rfl Try_agg_25 rfl rfl) ?_
  refine reg_cons (guard_no rfl) (op_build (zs := (eGType zGType)) (r := eGType ({ fKind := 2, fClass := [65], fN := 0, fOwn := (⟨({ fKind := 1, fN := 0 } : GOwner), zGOwner, zGOwner, zGOwner⟩ : A4 GOwner) } : GType)) rfl Try_zer_27 (by exact ⟨rfl, rfl, rfl, rfl, rfl, rfl, rfl, rfl, rfl, rfl, rfl, trivial⟩) Try_plc_27 rfl rfl rfl rfl) ?_
  obtain ⟨y1, h2, hF⟩ := bind_some hF
  refine reg_cons (guard_no rfl) (op_call 4 rfl (caps := []) (args := [.vs 7 (List.map eGClass [({ fName := [65], fParams := [], fSuper := [], fAbove := [], fFields := [], fMethods := [], fAt := 0 } : GClass), ({ fName := [66], fParams := [], fSuper := [65], fAbove := [], fFields := [], fMethods := [], fAt := 0 } : GClass)]), .agg (eGType ({ fKind := 2, fClass := [66], fN := 0, fOwn := (⟨({ fKind := 1, fN := 0 } : GOwner), zGOwner, zGOwner, zGOwner⟩ : A4 GOwner) } : GType)), .agg (eGType ({ fKind := 2, fClass := [65], fN := 0, fOwn := (⟨({ fKind := 1, fN := 0 } : GOwner), zGOwner, zGOwner, zGOwner⟩ : A4 GOwner) } : GType))]) (rs := [.p (.bool y1)]) rfl rfl rfl Try_cal_12 (under_Is_ok h2) rfl rfl rfl) ?_
  refine rmv ?_
  rcases ite_some hF with ⟨hb3, hF⟩ | ⟨hb3, hF⟩
  · refine reg_cons (guard_on rfl rfl rfl rfl hb3) (op_move rfl rfl rfl rfl) ?_
    refine reg_cons (guard_on rfl rfl rfl rfl hb3) (op_load_lp_agg (ps := eGType ({ fKind := 2, fClass := [66], fN := 0, fOwn := (⟨({ fKind := 1, fN := 0 } : GOwner), zGOwner, zGOwner, zGOwner⟩ : A4 GOwner) } : GType)) rfl rfl rfl rfl rfl rfl Try_agg_27 rfl rfl) ?_
    refine reg_cons (guard_on rfl rfl rfl rfl hb3) (op_load_lp_agg (ps := (eA4 eGOwner) (⟨({ fKind := 5, fN := 0 } : GOwner), zGOwner, zGOwner, zGOwner⟩ : A4 GOwner)) rfl rfl rfl rfl rfl rfl Try_agg_25 rfl rfl) ?_
    refine reg_cons (guard_on rfl rfl rfl rfl hb3) (op_build (zs := (eGType zGType)) (r := eGType ({ fKind := 2, fClass := [65], fN := 0, fOwn := (⟨({ fKind := 5, fN := 0 } : GOwner), zGOwner, zGOwner, zGOwner⟩ : A4 GOwner) } : GType)) rfl Try_zer_27 (by exact ⟨rfl, rfl, rfl, rfl, rfl, rfl, rfl, rfl, rfl, rfl, rfl, trivial⟩) Try_plc_27 rfl rfl rfl rfl) ?_
    obtain ⟨y4, h5, hF⟩ := bind_some hF
    refine reg_cons (guard_on rfl rfl rfl rfl hb3) (op_call 4 rfl (caps := []) (args := [.vs 7 (List.map eGClass [({ fName := [65], fParams := [], fSuper := [], fAbove := [], fFields := [], fMethods := [], fAt := 0 } : GClass), ({ fName := [66], fParams := [], fSuper := [65], fAbove := [], fFields := [], fMethods := [], fAt := 0 } : GClass)]), .agg (eGType ({ fKind := 2, fClass := [66], fN := 0, fOwn := (⟨({ fKind := 1, fN := 0 } : GOwner), zGOwner, zGOwner, zGOwner⟩ : A4 GOwner) } : GType)), .agg (eGType ({ fKind := 2, fClass := [65], fN := 0, fOwn := (⟨({ fKind := 5, fN := 0 } : GOwner), zGOwner, zGOwner, zGOwner⟩ : A4 GOwner) } : GType))]) (rs := [.p (.bool y4)]) rfl rfl rfl Try_cal_12 (under_Is_ok h5) rfl rfl rfl) ?_
    refine rpt hb3 ?_
    refine rmv ?_
    rcases ite_some hF with ⟨hb6, hF⟩ | ⟨hb6, hF⟩
    · refine reg_cons (guard_on rfl rfl rfl rfl hb6) (op_move rfl rfl rfl rfl) ?_
      refine reg_cons (guard_on rfl rfl rfl rfl hb6) (op_load_lp_agg (ps := eGType ({ fKind := 2, fClass := [66], fN := 0, fOwn := (⟨({ fKind := 1, fN := 0 } : GOwner), zGOwner, zGOwner, zGOwner⟩ : A4 GOwner) } : GType)) rfl rfl rfl rfl rfl rfl Try_agg_27 rfl rfl) ?_
      refine reg_cons (guard_on rfl rfl rfl rfl hb6) (op_load_lp_agg (ps := (eA4 eGOwner) (⟨({ fKind := 2, fN := 0 } : GOwner), zGOwner, zGOwner, zGOwner⟩ : A4 GOwner)) rfl rfl rfl rfl rfl rfl Try_agg_25 rfl rfl) ?_
      refine reg_cons (guard_on rfl rfl rfl rfl hb6) (op_build (zs := (eGType zGType)) (r := eGType ({ fKind := 2, fClass := [65], fN := 0, fOwn := (⟨({ fKind := 2, fN := 0 } : GOwner), zGOwner, zGOwner, zGOwner⟩ : A4 GOwner) } : GType)) rfl Try_zer_27 (by exact ⟨rfl, rfl, rfl, rfl, rfl, rfl, rfl, rfl, rfl, rfl, rfl, trivial⟩) Try_plc_27 rfl rfl rfl rfl) ?_
      obtain ⟨y7, h8, hF⟩ := bind_some hF
      refine reg_cons (guard_on rfl rfl rfl rfl hb6) (op_call 4 rfl (caps := []) (args := [.vs 7 (List.map eGClass [({ fName := [65], fParams := [], fSuper := [], fAbove := [], fFields := [], fMethods := [], fAt := 0 } : GClass), ({ fName := [66], fParams := [], fSuper := [65], fAbove := [], fFields := [], fMethods := [], fAt := 0 } : GClass)]), .agg (eGType ({ fKind := 2, fClass := [66], fN := 0, fOwn := (⟨({ fKind := 1, fN := 0 } : GOwner), zGOwner, zGOwner, zGOwner⟩ : A4 GOwner) } : GType)), .agg (eGType ({ fKind := 2, fClass := [65], fN := 0, fOwn := (⟨({ fKind := 2, fN := 0 } : GOwner), zGOwner, zGOwner, zGOwner⟩ : A4 GOwner) } : GType))]) (rs := [.p (.bool y7)]) rfl rfl rfl Try_cal_12 (under_Is_ok h8) rfl rfl rfl) ?_
      refine reg_cons (guard_on rfl rfl rfl rfl hb6) (op_not rfl rfl rfl rfl) ?_
      refine rpt hb6 ?_
      refine ras ?_
      refine reg_nil ?_
      refine post_imp (s' := ⟨37, [(0, some (.pv (.bool (!y7))))], [], 0, [], [], 0, []⟩) (imps [] ⟨by kernel_rfl, trivial⟩ trivial) ?_
      refine post_next ?_
      refine aw_ret ?_
      obtain rfl := Option.some.inj hF
      exact post_ret rfl rfl (.cons _ _ _ _ _ (.tmp _ _ rfl) (.p _) .nil) (.inl rfl)
    iterate 6 (refine rgo_f hb6 ?_)
    refine rpf hb6 ?_
    refine ras ?_
    refine reg_nil ?_
    refine post_imp (s' := ⟨37, [(0, some (.pv (.bool false)))], [], 0, [], [], 0, []⟩) (imps [] ⟨by kernel_rfl, trivial⟩ trivial) ?_
    refine post_next ?_
    refine aw_ret ?_
    obtain rfl := Option.some.inj hF
    exact post_ret rfl rfl (.cons _ _ _ _ _ (.tmp _ _ rfl) (.p _) .nil) (.inl rfl)
  iterate 5 (refine rgo_f hb3 ?_)
  refine rpf hb3 ?_
  refine rmv ?_
  iterate 6 (refine rgo_f rfl ?_)
  refine rpf rfl ?_
  refine ras ?_
  refine reg_nil ?_
  refine post_imp (s' := ⟨37, [(0, some (.pv (.bool false)))], [], 0, [], [], 0, []⟩) (imps [] ⟨by kernel_rfl, trivial⟩ trivial) ?_
  refine post_next ?_
  refine aw_ret ?_
  obtain rfl := Option.some.inj hF
  exact post_ret rfl rfl (.cons _ _ _ _ _ (.tmp _ _ rfl) (.p _) .nil) (.inl rfl)
theorem law27_UnderOrder_ok {a0 : List GClass} {a1 : A3 GType} {r : Bool} (hF : law27_UnderOrder a0 a1 = some r) : Abs.Fn Try.prog 3 [.vs 7 (List.map eGClass a0), .agg ((eA3 eGType) a1)] [.p (.bool r)] := by
  unfold law27_UnderOrder at hF
  refine fn_of_body (n := 47) Try.func3 rfl rfl rfl ?_
  intro w O
  refine aw_seq ?_
  refine aw_region ?_
  refine reg_cons (guard_no rfl) (op_box 0 rfl rfl rfl rfl rfl rfl) ?_
  refine ras ?_
  refine reg_nil ?_
  refine post_imp (s' := ⟨47, [(0, some (.pv (.vs 7 (List.map eGClass a0)))), (3, some (.lp 0 0))], [(0, some (.box 28 (bxv ((eA3 eGType) a1))))], 1, [], [], 0, []⟩) (imps [0] ⟨by kernel_rfl, by kernel_rfl, trivial⟩ ⟨by kernel_rfl, trivial⟩) ?_
  refine post_next ?_
  iterate 2 (refine aw_seq ?_)
  obtain ⟨x11, hF, hK13⟩ := bind_some hF
  refine aw_cut (fun s1 => s1 = ⟨47, [(0, some (.pv (.vs 7 (List.map eGClass a0)))), (3, some (.lp 0 0)), (18, some (.pv (.bool x11)))], [(0, some (.box 28 (bxv ((eA3 eGType) a1))))], 1, [], [], 0, []⟩) ?_ ?_
  · refine aw_region ?_
    refine rmv ?_
    obtain ⟨y3, h4, hF⟩ := bind_some hF
    refine reg_cons (guard_no rfl) (op_call 1 rfl (caps := []) (args := [.vs 7 (List.map eGClass a0)]) (rs := [.p (.bool y3)]) rfl rfl rfl Try_cal_8 (law27_great_ok h4) rfl rfl rfl) ?_
    refine rmv ?_
    rcases ite_some hF with ⟨hb5, hF⟩ | ⟨hb5, hF⟩
    · refine rgo_t hb5 ?_
      iterate 3 (refine rgo_t hb5 ?_)
      refine rpt hb5 ?_
      refine rmv ?_
      iterate 4 (refine rgo_t rfl ?_)
      refine rpt rfl ?_
      refine reg_nil ?_
      cases hF
      exact post_cut _ rfl (imps [0] ⟨by kernel_rfl, by kernel_rfl, by kernel_rfl, trivial⟩ ⟨by kernel_rfl, trivial⟩)
    refine reg_cons (guard_on rfl rfl rfl rfl hb5) (op_move rfl rfl rfl rfl) ?_
    obtain ⟨y6, h7, hF⟩ := bind_some hF
    refine reg_cons (guard_on rfl rfl rfl rfl hb5) (op_call 1 rfl (caps := []) (args := [.vs 7 (List.map eGClass a0)]) (rs := [.p (.agg (eGFault y6))]) rfl rfl rfl Try_cal_9 (ref13_Check_ok h7) rfl rfl rfl) ?_
    refine reg_cons (guard_on rfl rfl rfl rfl hb5) (op_field1 (p := .int .i64 y6.fErr) rfl rfl Try_ftb_32_0 Try_one_30 rfl rfl rfl) ?_
    refine reg_cons (guard_on rfl rfl rfl rfl hb5) (op_int (k := .i64) (m := y6.fErr) (n := 0) rfl rfl rfl rfl rfl rfl) ?_
    refine rpf hb5 ?_
    refine rmv ?_
    rcases ite_some hF with ⟨hb8, hF⟩ | ⟨hb8, hF⟩
    · refine rgo_t hb8 ?_
      iterate 3 (refine rgo_t hb8 ?_)
      refine rpt hb8 ?_
      refine reg_nil ?_
      cases hF
      exact post_cut _ rfl (imps [0] ⟨by kernel_rfl, by kernel_rfl, by kernel_rfl, trivial⟩ ⟨by kernel_rfl, trivial⟩)
    refine reg_cons (guard_on rfl rfl rfl rfl hb8) (op_move rfl rfl rfl rfl) ?_
    obtain ⟨y9, h10, hF⟩ := bind_some hF
    refine reg_cons (guard_on rfl rfl rfl rfl hb8) (op_call 1 rfl (caps := []) (args := [.vs 7 (List.map eGClass a0)]) (rs := [.p (.agg (eGFault y9))]) rfl rfl rfl Try_cal_10 (ref14_Check_ok h10) rfl rfl rfl) ?_
    refine reg_cons (guard_on rfl rfl rfl rfl hb8) (op_field1 (p := .int .i64 y9.fErr) rfl rfl Try_ftb_32_0 Try_one_30 rfl rfl rfl) ?_
    refine reg_cons (guard_on rfl rfl rfl rfl hb8) (op_int (k := .i64) (m := y9.fErr) (n := 0) rfl rfl rfl rfl rfl rfl) ?_
    refine rpf hb8 ?_
    refine reg_nil ?_
    cases hF
    exact post_cut _ rfl (imps [0] ⟨by kernel_rfl, by kernel_rfl, by kernel_rfl, trivial⟩ ⟨by kernel_rfl, trivial⟩)
  rintro _ rfl
  have hF := hK13
  clear hK13
  refine post_next ?_
  rcases ite_some hF with ⟨hb14, hF⟩ | ⟨hb14, hF⟩
  · refine aw_cond_t rfl hb14 ?_
    refine aw_seq ?_
    refine aw_region ?_
    obtain ⟨y15, h16, hF⟩ := bind_some hF
    refine reg_cons (guard_no rfl) (op_call 1 rfl (caps := []) (args := []) (rs := [.p (.bool y15)]) rfl rfl rfl Try_cal_11 (law27_awake_ok h16) rfl rfl rfl) ?_
    refine ras ?_
    refine reg_nil ?_
    refine post_imp (s' := ⟨47, [(4, some (.pv (.bool y15)))], [], 0, [], [], 0, []⟩) (imps [] ⟨by kernel_rfl, trivial⟩ trivial) ?_
    refine post_next ?_
    refine aw_ret ?_
    refine post_then_ret ?_
    obtain rfl := Option.some.inj hF
    exact post_ret rfl rfl (.cons _ _ _ _ _ (.tmp _ _ rfl) (.p _) .nil) (.inl rfl)
  refine aw_cond_f rfl hb14 ?_
  refine aw_skip ?_
  refine post_next ?_
  refine aw_seq ?_
  refine aw_region ?_
  refine rmv ?_
  refine reg_cons (guard_no rfl) (op_arr_lp (k := .i64) (m := 0) (n := 3) rfl rfl rfl Try_arr_28 rfl rfl rfl rfl) ?_
  refine reg_cons (guard_no rfl) (op_load_lp_agg (ps := eGType a1.a0) rfl rfl rfl rfl rfl rfl Try_agg_27 rfl rfl) ?_
  refine reg_cons (guard_no rfl) (op_arr_lp (k := .i64) (m := 1) (n := 3) rfl rfl rfl Try_arr_28 rfl rfl rfl rfl) ?_
  refine reg_cons (guard_no rfl) (op_load_lp_agg (ps := eGType a1.a1) rfl rfl rfl rfl rfl rfl Try_agg_27 rfl rfl) ?_
  obtain ⟨y17, h18, hF⟩ := bind_some hF
  refine reg_cons (guard_no rfl) (op_call 1 rfl (caps := []) (args := [.vs 7 (List.map eGClass a0), .agg (eGType a1.a0), .agg (eGType a1.a1)]) (rs := [.p (.bool y17)]) rfl rfl rfl Try_cal_12 (under_Is_ok h18) rfl rfl rfl) ?_
  refine reg_cons (guard_no rfl) (op_not rfl rfl rfl rfl) ?_
  refine rmv ?_
  rcases ite_some hF with ⟨hb19, hF⟩ | ⟨hb19, hF⟩
  · refine rgo_t hb19 ?_
    iterate 6 (refine rgo_t hb19 ?_)
    refine rpt hb19 ?_
    refine rmv ?_
    iterate 6 (refine rgo_t rfl ?_)
    refine rpt rfl ?_
    refine rmv ?_
    obtain ⟨y20, h21, hF⟩ := bind_some hF
    refine reg_cons (guard_on rfl rfl rfl rfl rfl) (op_call 1 rfl (caps := []) (args := []) (rs := [.p (.bool y20)]) rfl rfl rfl Try_cal_11 (law27_awake_ok h21) rfl rfl rfl) ?_
    refine rpt rfl ?_
    refine ras ?_
    refine reg_nil ?_
    refine post_imp (s' := ⟨47, [(4, some (.pv (.bool y20)))], [], 0, [], [], 0, []⟩) (imps [] ⟨by kernel_rfl, trivial⟩ trivial) ?_
    refine post_next ?_
    refine aw_ret ?_
    obtain rfl := Option.some.inj hF
    exact post_ret rfl rfl (.cons _ _ _ _ _ (.tmp _ _ rfl) (.p _) .nil) (.inl rfl)
  refine reg_cons (guard_on rfl rfl rfl rfl hb19) (op_move rfl rfl rfl rfl) ?_
  refine reg_cons (guard_on rfl rfl rfl rfl hb19) (op_arr_lp (k := .i64) (m := 1) (n := 3) rfl rfl rfl Try_arr_28 rfl rfl rfl rfl) ?_
  refine reg_cons (guard_on rfl rfl rfl rfl hb19) (op_load_lp_agg (ps := eGType a1.a1) rfl rfl rfl rfl rfl rfl Try_agg_27 rfl rfl) ?_
  refine reg_cons (guard_on rfl rfl rfl rfl hb19) (op_arr_lp (k := .i64) (m := 2) (n := 3) rfl rfl rfl Try_arr_28 rfl rfl rfl rfl) ?_
  refine reg_cons (guard_on rfl rfl rfl rfl hb19) (op_load_lp_agg (ps := eGType a1.a2) rfl rfl rfl rfl rfl rfl Try_agg_27 rfl rfl) ?_
  obtain ⟨y22, h23, hF⟩ := bind_some hF
  refine reg_cons (guard_on rfl rfl rfl rfl hb19) (op_call 1 rfl (caps := []) (args := [.vs 7 (List.map eGClass a0), .agg (eGType a1.a1), .agg (eGType a1.a2)]) (rs := [.p (.bool y22)]) rfl rfl rfl Try_cal_12 (under_Is_ok h23) rfl rfl rfl) ?_
  refine reg_cons (guard_on rfl rfl rfl rfl hb19) (op_not rfl rfl rfl rfl) ?_
  refine rpf hb19 ?_
  refine rmv ?_
  rcases ite_some hF with ⟨hb24, hF⟩ | ⟨hb24, hF⟩
  · refine rgo_t hb24 ?_
    iterate 5 (refine rgo_t hb24 ?_)
    refine rpt hb24 ?_
    refine rmv ?_
    obtain ⟨y25, h26, hF⟩ := bind_some hF
    refine reg_cons (guard_on rfl rfl rfl rfl rfl) (op_call 1 rfl (caps := []) (args := []) (rs := [.p (.bool y25)]) rfl rfl rfl Try_cal_11 (law27_awake_ok h26) rfl rfl rfl) ?_
    refine rpt rfl ?_
    refine ras ?_
    refine reg_nil ?_
    refine post_imp (s' := ⟨47, [(4, some (.pv (.bool y25)))], [], 0, [], [], 0, []⟩) (imps [] ⟨by kernel_rfl, trivial⟩ trivial) ?_
    refine post_next ?_
    refine aw_ret ?_
    obtain rfl := Option.some.inj hF
    exact post_ret rfl rfl (.cons _ _ _ _ _ (.tmp _ _ rfl) (.p _) .nil) (.inl rfl)
  refine reg_cons (guard_on rfl rfl rfl rfl hb24) (op_move rfl rfl rfl rfl) ?_
  refine reg_cons (guard_on rfl rfl rfl rfl hb24) (op_arr_lp (k := .i64) (m := 0) (n := 3) rfl rfl rfl Try_arr_28 rfl rfl rfl rfl) ?_
  refine reg_cons (guard_on rfl rfl rfl rfl hb24) (op_load_lp_agg (ps := eGType a1.a0) rfl rfl rfl rfl rfl rfl Try_agg_27 rfl rfl) ?_
  refine reg_cons (guard_on rfl rfl rfl rfl hb24) (op_arr_lp (k := .i64) (m := 2) (n := 3) rfl rfl rfl Try_arr_28 rfl rfl rfl rfl) ?_
  refine reg_cons (guard_on rfl rfl rfl rfl hb24) (op_load_lp_agg (ps := eGType a1.a2) rfl rfl rfl rfl rfl rfl Try_agg_27 rfl rfl) ?_
  obtain ⟨y27, h28, hF⟩ := bind_some hF
  refine reg_cons (guard_on rfl rfl rfl rfl hb24) (op_call 1 rfl (caps := []) (args := [.vs 7 (List.map eGClass a0), .agg (eGType a1.a0), .agg (eGType a1.a2)]) (rs := [.p (.bool y27)]) rfl rfl rfl Try_cal_12 (under_Is_ok h28) rfl rfl rfl) ?_
  refine rpf hb24 ?_
  refine rmv ?_
  rcases ite_some hF with ⟨hb29, hF⟩ | ⟨hb29, hF⟩
  · obtain ⟨y30, h31, hF⟩ := bind_some hF
    refine reg_cons (guard_on rfl rfl rfl rfl hb29) (op_call 1 rfl (caps := []) (args := []) (rs := [.p (.bool y30)]) rfl rfl rfl Try_cal_11 (law27_awake_ok h31) rfl rfl rfl) ?_
    refine rpt hb29 ?_
    refine ras ?_
    refine reg_nil ?_
    refine post_imp (s' := ⟨47, [(4, some (.pv (.bool y30)))], [], 0, [], [], 0, []⟩) (imps [] ⟨by kernel_rfl, trivial⟩ trivial) ?_
    refine post_next ?_
    refine aw_ret ?_
    obtain rfl := Option.some.inj hF
    exact post_ret rfl rfl (.cons _ _ _ _ _ (.tmp _ _ rfl) (.p _) .nil) (.inl rfl)
  refine rgo_f hb29 ?_
  refine rpf hb29 ?_
  refine ras ?_
  refine reg_nil ?_
  refine post_imp (s' := ⟨47, [(4, some (.pv (.bool false)))], [], 0, [], [], 0, []⟩) (imps [] ⟨by kernel_rfl, trivial⟩ trivial) ?_
  refine post_next ?_
  refine aw_ret ?_
  obtain rfl := Option.some.inj hF
  exact post_ret rfl rfl (.cons _ _ _ _ _ (.tmp _ _ rfl) (.p _) .nil) (.inl rfl)
end Go.Proofs.Ytkfgkkbfipgklaa
