/- A part of the proof that the law KindWith gives true for every input. -/
import Derived.Test.YtkmaieldmcjbfaaDoorKindWithT
import Derived.Test.YtkmaieldmcjbfaaDoorKindWithS
import Derived.Test.YtkmaieldmcjbfaaDoorKindWithX
/- Each Go function computes its plain function. -/
namespace Go.Proofs.YtkmaieldmcjbfaaDoor
open Go.RowKit Go.Abs
set_option maxRecDepth 100000
set_option maxHeartbeats 4000000
theorem word_Letter_ok {a0 : Int} {r : Bool} (hF : word_Letter a0 = some r) : Abs.Fn globs_Tryd Tryd.prog 55 [.int .u8 a0] [.p (.bool r)] := by
  unfold word_Letter at hF
  refine fn_of_body (n := 12) Tryd.func55 rfl rfl rfl ?_
  intro w O
  refine aw_seq ?_
  refine aw_region ?_
  refine ras ?_
  refine reg_nil ?_
  refine post_imp (s' := ⟨12, [(0, some (.pv (.int .u8 a0)))], [], 0, [], [], 0, []⟩) (imps [] ⟨by kernel_rfl, trivial⟩ trivial) ?_
  refine post_next ?_
  refine aw_seq ?_
  refine aw_region ?_
  refine rmv ?_
  refine rgp (op_int2 (k := .u8) (m := a0) (n := 32) rfl rfl rfl rfl rfl rfl) ?_
  refine ras ?_
  refine reg_nil ?_
  refine post_imp (s' := ⟨12, [(3, some (.pv (.int .u8 (orI .u8 a0 32))))], [], 0, [], [], 0, []⟩) (imps [] ⟨by kernel_rfl, trivial⟩ trivial) ?_
  refine post_next ?_
  refine aw_seq ?_
  refine aw_region ?_
  refine rmv ?_
  refine rgp (op_int (k := .u8) (m := orI .u8 a0 32) (n := 97) rfl rfl rfl rfl rfl rfl) ?_
  refine rmv ?_
  rcases ite_some hF with ⟨hb1, hF⟩ | ⟨hb1, hF⟩
  · refine rgn hb1 (op_move rfl rfl rfl rfl) ?_
    refine rgn hb1 (op_int (k := .u8) (m := orI .u8 a0 32) (n := 122) rfl rfl rfl rfl rfl rfl) ?_
    refine rpt hb1 ?_
    refine ras ?_
    refine reg_nil ?_
    refine post_imp (s' := ⟨12, [(2, some (.pv (.bool (decide ((orI .u8 a0 32) ≤ 122)))))], [], 0, [], [], 0, []⟩) (imps [] ⟨by kernel_rfl, trivial⟩ trivial) ?_
    refine post_next ?_
    refine aw_ret ?_
    obtain rfl := Option.some.inj hF
    exact prt
  iterate 2 (refine rgo_f hb1 ?_)
  refine rpf hb1 ?_
  refine ras ?_
  refine reg_nil ?_
  refine post_imp (s' := ⟨12, [(2, some (.pv (.bool false)))], [], 0, [], [], 0, []⟩) (imps [] ⟨by kernel_rfl, trivial⟩ trivial) ?_
  refine post_next ?_
  refine aw_ret ?_
  obtain rfl := Option.some.inj hF
  exact prt
theorem word_Digit_ok {a0 : Int} {r : Bool} (hF : word_Digit a0 = some r) : Abs.Fn globs_Tryd Tryd.prog 56 [.int .u8 a0] [.p (.bool r)] := by
  unfold word_Digit at hF
  refine fn_of_body (n := 6) Tryd.func56 rfl rfl rfl ?_
  intro w O
  refine aw_seq ?_
  refine aw_region ?_
  refine ras ?_
  refine reg_nil ?_
  refine post_imp (s' := ⟨6, [(0, some (.pv (.int .u8 a0)))], [], 0, [], [], 0, []⟩) (imps [] ⟨by kernel_rfl, trivial⟩ trivial) ?_
  refine post_next ?_
  refine aw_seq ?_
  refine aw_region ?_
  refine rmv ?_
  refine rgp (op_int (k := .u8) (m := a0) (n := 48) rfl rfl rfl rfl rfl rfl) ?_
  refine rgp (op_int (k := .u8) (m := w_u8 (a0 - 48)) (n := 10) rfl rfl rfl rfl rfl rfl) ?_
  refine ras ?_
  refine reg_nil ?_
  refine post_imp (s' := ⟨6, [(2, some (.pv (.bool (decide ((w_u8 (a0 - 48)) < 10)))))], [], 0, [], [], 0, []⟩) (imps [] ⟨by kernel_rfl, trivial⟩ trivial) ?_
  refine post_next ?_
  refine aw_ret ?_
  obtain rfl := Option.some.inj hF
  exact prt

theorem word_is_ok {a0 : List UInt8} {r : (List UInt8)} (hF : word_is a0 = some r) : Abs.Fn globs_Tryd Tryd.prog 80 [.str a0] [.p (.fn 99 [.vp (eS r)])] := by
  unfold word_is at hF
  refine fn_of_body (n := 4) Tryd.func80 rfl rfl rfl ?_
  intro w O
  refine aw_seq ?_
  refine aw_region ?_
  refine rgp (op_box 0 rfl rfl rfl rfl rfl rfl) ?_
  refine ras ?_
  refine reg_nil ?_
  refine post_imp (s' := ⟨4, [(1, some (.lp 0 0))], [(0, some (.box 9 [.pv (.str a0)]))], 1, [], [], 0, []⟩) (imps [0] ⟨by kernel_rfl, trivial⟩ ⟨by kernel_rfl, trivial⟩) ?_
  refine post_next ?_
  refine aw_seq ?_
  refine aw_region ?_
  refine rgp (op_makeFunc rfl rfl rfl rfl) ?_
  refine ras ?_
  refine reg_nil ?_
  refine post_imp (s' := ⟨4, [(2, some (.fn 99 [.lp 0 0]))], [(0, some (.box 9 [.pv (.str a0)]))], 1, [], [], 0, []⟩) (imps [0] ⟨by kernel_rfl, trivial⟩ ⟨by kernel_rfl, trivial⟩) ?_
  refine post_next ?_
  refine aw_ret ?_
  refine post_imp (imp_freeze [(0, some (.box 9 [.pv (.str a0)]))] [(2, some (.pv (.fn 99 [.vp (eS a0)])))] (FzH.spec ⟨rfl, trivial⟩) ⟨⟨_, rfl, rfl⟩, trivial⟩) ?_
  obtain rfl := Option.some.inj hF
  exact post_ret rfl rfl (.cons _ _ _ _ _ (.tmp _ _ rfl) (.p _) .nil) (.inl rfl)
theorem slices_IndexFunc_string_ok {a0 : List (List UInt8)} {q1 : (List UInt8) → Option Bool} {r : Int} {q1_f : Nat} {q1_c : List PV} (q1_b : callB Tryd.prog q1_f = true) (q1_h : ∀ (x0 : List UInt8) (r : Bool), q1 x0 = some r → Abs.Fn globs_Tryd Tryd.prog q1_f ([.str x0] ++ q1_c) [.p (.bool r)]) (hF : slices_IndexFunc_string a0 q1 = some r) : Abs.Fn globs_Tryd Tryd.prog 79 [.vs 1 (List.map eS a0), .fn q1_f q1_c] [.p (.int .i64 r)] := by
  unfold slices_IndexFunc_string at hF
  refine fn_of_body (n := 19) Tryd.func79 rfl rfl rfl ?_
  intro w O
  refine aw_seq ?_
  refine aw_region ?_
  refine ras ?_
  refine reg_nil ?_
  refine post_imp (s' := ⟨19, [(0, some (.pv (.vs 1 (List.map eS a0)))), (1, some (.pv (.fn q1_f q1_c)))], [], 0, [], [], 0, []⟩) (imps [] ⟨by kernel_rfl, by kernel_rfl, trivial⟩ trivial) ?_
  refine post_next ?_
  iterate 2 (refine aw_seq ?_)
  refine aw_region ?_
  refine rmv ?_
  refine rgp (op_len_vs (n := a0.length) rfl rfl (List.length_map ..) Tryd_slc_27 rfl rfl) ?_
  refine rmv ?_
  refine reg_nil ?_
  refine post_imp (s' := ⟨19, [(0, some (.pv (.vs 1 (List.map eS a0)))), (1, some (.pv (.fn q1_f q1_c))), (7, some (.pv (.int .i64 (a0.length : Int)))), (8, some (.pv (.int .i64 0)))], [], 0, [], [], 0, []⟩) (imps [] ⟨by kernel_rfl, by kernel_rfl, by kernel_rfl, by kernel_rfl, trivial⟩ trivial) ?_
  refine post_next ?_
  obtain ⟨lr34, hF, hK35⟩ := bind_some hF
  refine aw_for ((((a0.length : Int) : Int) - (0)).toNat + 1) (fun s1 => ∃ q, lr34 = .next q ∧ s1 = ⟨19, [], [], 0, [], [], 0, []⟩) ?_ ?_
  · refine rnd_loop (α := Int) (fun q => ⟨19, [(0, some (.pv (.vs 1 (List.map eS a0)))), (1, some (.pv (.fn q1_f q1_c))), (7, some (.pv (.int .i64 (a0.length : Int)))), (8, some (.pv (.int .i64 q)))], [], 0, [], [], 0, []⟩) (fun k q => slices_IndexFunc_string_L1 a0 q1 k q = some lr34) 0 (imps [] ⟨by kernel_rfl, by kernel_rfl, by kernel_rfl, by kernel_rfl, trivial⟩ trivial) hF (fun q h => by cases h) ?_
    clear hF
    rintro k x11 hF ih
    refine rnd_succ ?_
    refine aw_seq ?_
    refine aw_region ?_
    refine rgp (op_int (k := .i64) (m := x11) (n := (a0.length : Int)) rfl rfl rfl rfl rfl rfl) ?_
    refine reg_nil ?_
    refine post_imp (s' := ⟨19, [(0, some (.pv (.vs 1 (List.map eS a0)))), (1, some (.pv (.fn q1_f q1_c))), (7, some (.pv (.int .i64 (a0.length : Int)))), (8, some (.pv (.int .i64 x11))), (9, some (.pv (.bool (decide (x11 < (a0.length : Int))))))], [], 0, [], [], 0, []⟩) (imps [] ⟨by kernel_rfl, by kernel_rfl, by kernel_rfl, by kernel_rfl, by kernel_rfl, trivial⟩ trivial) ?_
    refine post_next ?_
    refine aw_seq ?_
    rcases ite_some hF with ⟨hb23, hF⟩ | ⟨hb23, hF⟩
    · refine aw_cond_t rfl hb23 ?_
      refine aw_skip ?_
      refine post_next ?_
      refine aw_seq ?_
      refine aw_block ?_
      refine aw_seq ?_
      refine aw_region ?_
      refine rmv ?_
      refine ras ?_
      refine reg_nil ?_
      refine post_imp (s' := ⟨19, [(0, some (.pv (.vs 1 (List.map eS a0)))), (1, some (.pv (.fn q1_f q1_c))), (5, some (.pv (.int .i64 x11))), (7, some (.pv (.int .i64 (a0.length : Int)))), (8, some (.pv (.int .i64 x11)))], [], 0, [], [], 0, []⟩) (imps [] ⟨by kernel_rfl, by kernel_rfl, by kernel_rfl, by kernel_rfl, by kernel_rfl, trivial⟩ trivial) ?_
      refine post_next ?_
      refine aw_seq ?_
      refine aw_region ?_
      iterate 3 (refine rmv ?_)
      obtain ⟨y28, h29, hF⟩ := bind_some hF
      refine rgp (op_index_vs (k := .i64) rfl rfl rfl (idx_map eS h29) Tryd_slc_27 rfl rfl) ?_
      refine rgp (op_load_vp (p := .str y28) rfl rfl rfl Tryd_one_9 rfl rfl) ?_
      obtain ⟨y30, h31, hF⟩ := bind_some hF
      refine rgp (op_call 0 rfl (caps := q1_c) (args := [.str y28]) (rs := [.p (.bool y30)]) rfl rfl rfl q1_b (q1_h y28 _ h31) rfl rfl rfl) ?_
      refine reg_nil ?_
      refine post_imp (s' := ⟨19, [(0, some (.pv (.vs 1 (List.map eS a0)))), (1, some (.pv (.fn q1_f q1_c))), (5, some (.pv (.int .i64 x11))), (7, some (.pv (.int .i64 (a0.length : Int)))), (8, some (.pv (.int .i64 x11))), (16, some (.pv (.bool y30)))], [], 0, [], [], 0, []⟩) (imps [] ⟨by kernel_rfl, by kernel_rfl, by kernel_rfl, by kernel_rfl, by kernel_rfl, by kernel_rfl, trivial⟩ trivial) ?_
      refine post_next ?_
      rcases ite_some hF with ⟨hb32, hF⟩ | ⟨hb32, hF⟩
      · refine aw_cond_t rfl hb32 ?_
        refine aw_seq ?_
        refine aw_region ?_
        refine rmv ?_
        refine ras ?_
        refine reg_nil ?_
        refine post_imp (s' := ⟨19, [(4, some (.pv (.int .i64 x11)))], [], 0, [], [], 0, []⟩) (imps [] ⟨by kernel_rfl, trivial⟩ trivial) ?_
        refine post_next ?_
        refine aw_ret ?_
        refine post_block_ret ?_
        iterate 2 (refine post_then_ret ?_)
        refine post_lp_ret ?_
        obtain rfl := Option.some.inj hF
        have hF := elim_stop hK35
        refine post_then_ret ?_
        obtain rfl := Option.some.inj hF
        exact prt
      refine aw_cond_f rfl hb32 ?_
      refine aw_skip ?_
      refine post_block_normal ?_
      refine post_next ?_
      refine aw_region ?_
      refine rgp (op_int (k := .i64) (m := x11) (n := 1) rfl rfl rfl rfl rfl rfl) ?_
      refine rmv ?_
      refine reg_nil ?_
      refine post_round ?_
      exact rnd_back (ih (w_i64 (x11 + 1)) hF) (imps [] ⟨by kernel_rfl, by kernel_rfl, by kernel_rfl, by kernel_rfl, trivial⟩ trivial)
    refine aw_cond_f rfl hb23 ?_
    refine aw_exit ?_
    iterate 2 (refine post_then_exit ?_)
    obtain rfl := Option.some.inj hF
    exact post_lp_break _ ⟨_, rfl, rfl⟩ (imps [] trivial trivial)
  rintro _ ⟨⟨⟩, rfl, rfl⟩
  have hF := elim_next hK35
  clear hK35
  refine post_next ?_
  refine aw_seq ?_
  refine aw_region ?_
  refine ras ?_
  refine reg_nil ?_
  refine post_imp (s' := ⟨19, [(4, some (.pv (.int .i64 (-1))))], [], 0, [], [], 0, []⟩) (imps [] ⟨by kernel_rfl, trivial⟩ trivial) ?_
  refine post_next ?_
  refine aw_ret ?_
  obtain rfl := Option.some.inj hF
  exact prt
theorem word_is_1_ok {a0 : List UInt8} {c0 : List UInt8} {r : Bool} (hF : word_is_1 a0 c0 = some r) : Abs.Fn globs_Tryd Tryd.prog 99 [.str a0, .vp (eS c0)] [.p (.bool r)] := by
  unfold word_is_1 at hF
  refine fn_of_body (n := 7) Tryd.func99 rfl rfl rfl ?_
  intro w O
  refine aw_seq ?_
  refine aw_region ?_
  refine ras ?_
  refine reg_nil ?_
  refine post_imp (s' := ⟨7, [(0, some (.pv (.str a0))), (1, some (.pv (.vp (eS c0))))], [], 0, [], [], 0, []⟩) (imps [] ⟨by kernel_rfl, by kernel_rfl, trivial⟩ trivial) ?_
  refine post_next ?_
  refine aw_seq ?_
  refine aw_region ?_
  refine rmv ?_
  refine rgp (op_load_vp (p := .str c0) rfl rfl rfl Tryd_one_9 rfl rfl) ?_
  refine rgp (op_str rfl rfl rfl rfl rfl rfl) ?_
  refine ras ?_
  refine reg_nil ?_
  refine post_imp (s' := ⟨7, [(3, some (.pv (.bool (a0 == c0))))], [], 0, [], [], 0, []⟩) (imps [] ⟨by kernel_rfl, trivial⟩ trivial) ?_
  refine post_next ?_
  refine aw_ret ?_
  obtain rfl := Option.some.inj hF
  exact prt
theorem word_Find_ok {a0 : List UInt8} {r : Int} (hF : word_Find a0 = some r) : Abs.Fn globs_Tryd Tryd.prog 57 [.str a0] [.p (.int .i64 r)] := by
  unfold word_Find at hF
  refine fn_of_body (n := 8) Tryd.func57 rfl rfl rfl ?_
  intro w O
  refine aw_seq ?_
  refine aw_region ?_
  refine ras ?_
  refine reg_nil ?_
  refine post_imp (s' := ⟨8, [(0, some (.pv (.str a0)))], [], 0, [], [], 0, []⟩) (imps [] ⟨by kernel_rfl, trivial⟩ trivial) ?_
  refine post_next ?_
  refine aw_seq ?_
  refine dr_start ⟨_, _, _⟩ rfl ?_
  refine dr_cons { dst := some 3, val := some (.pv (.vs 1 (List.map eS glob_0))) } (fun m h => step_on (guard_no rfl) (op_glob_slice (l := glob_0) (f := eS) rfl globm_0 Tryd_arr_107 globe_0 (fun _ => rfl) rfl rfl rfl rfl) rfl) ⟨trivial, trivial, trivial⟩ ?_
  refine drm ?_
  obtain ⟨y1, h2, hF⟩ := bind_some hF
  refine dr_cons { need := [(4, .pv (.str a0))], dst := some 5, val := some (.pv (.fn 99 [.vp (eS y1)])) } (fun m h => step_on (guard_no rfl) (op_call 0 rfl (caps := []) (args := [.str a0]) (rs := [.p (.fn 99 [.vp (eS y1)])]) rfl rfl (evl_cons h.1.1 evl_nil) Tryd_cal_80 (word_is_ok h2) rfl rfl rfl) rfl) ⟨⟨rfl, trivial⟩, trivial, trivial⟩ ?_
  obtain ⟨y4, h5, hF⟩ := bind_some hF
  refine dr_cons { need := [(5, .pv (.fn 99 [.vp (eS y1)])), (3, .pv (.vs 1 (List.map eS glob_0)))], dst := some 6, val := some (.pv (.int .i64 y4)) } (fun m h => step_on (guard_no rfl) (op_call 0 rfl (caps := []) (args := [.vs 1 (List.map eS glob_0), .fn 99 [.vp (eS y1)]]) (rs := [.p (.int .i64 y4)]) rfl rfl (evl_cons h.1.2.1 (evl_cons h.1.1 evl_nil)) Tryd_cal_79 (slices_IndexFunc_string_ok (q1_f := 99) (q1_c := [.vp (eS y1)]) (q1_b := Tryd_cal_99) (q1_h := fun _ r h => (word_is_1_ok h)) h5) rfl rfl rfl) rfl) ⟨⟨rfl, rfl, trivial⟩, trivial, trivial⟩ ?_
  refine dr_cons { need := [(6, .pv (.int .i64 y4))], dst := some 7, val := some (.pv (.int .i64 (w_i64 (y4 + 1)))) } (fun m h => step_on (guard_no rfl) (op_int (k := .i64) (m := y4) (n := 1) rfl h.1.1 rfl rfl rfl rfl) rfl) ⟨⟨rfl, trivial⟩, trivial, trivial⟩ ?_
  refine dr_cons { need := [(7, .pv (.int .i64 (w_i64 (y4 + 1))))], dst := some 2, val := some (.pv (.int .i64 (w_i64 (y4 + 1)))) } (fun m h => step_on (guard_no rfl) (op_assign rfl h.1.1 rfl rfl) rfl) ⟨⟨rfl, trivial⟩, trivial, trivial⟩ ?_
  refine dr_nil Tryd_mixed rfl (by kernel_rfl) ?_
  refine post_imp (s' := ⟨8, [(2, some (.pv (.int .i64 (w_i64 (y4 + 1)))))], [], 0, [], [], 0, []⟩) (imps [] ⟨by kernel_rfl, trivial⟩ trivial) ?_
  refine post_next ?_
  refine aw_ret ?_
  obtain rfl := Option.some.inj hF
  exact prt
theorem word_Name_ok {a0 : List UInt8} {r : Bool} (hF : word_Name a0 = some r) : Abs.Fn globs_Tryd Tryd.prog 32 [.str a0] [.p (.bool r)] := by
  unfold word_Name at hF
  refine fn_of_body (n := 37) Tryd.func32 rfl rfl rfl ?_
  intro w O
  refine aw_seq ?_
  refine aw_region ?_
  refine ras ?_
  refine reg_nil ?_
  refine post_imp (s' := ⟨37, [(0, some (.pv (.str a0)))], [], 0, [], [], 0, []⟩) (imps [] ⟨by kernel_rfl, trivial⟩ trivial) ?_
  refine post_next ?_
  iterate 2 (refine aw_seq ?_)
  obtain ⟨x7, hF, hK9⟩ := bind_some hF
  refine aw_cut (fun s1 => s1 = ⟨37, [(0, some (.pv (.str a0))), (17, some (.pv (.bool x7)))], [], 0, [], [], 0, []⟩) ?_ ?_
  · refine aw_region ?_
    refine rmv ?_
    refine rgp (op_str rfl rfl rfl rfl rfl rfl) ?_
    refine rmv ?_
    rcases ite_some hF with ⟨hb1, hF⟩ | ⟨hb1, hF⟩
    · refine rgo_t hb1 ?_
      iterate 2 (refine rgo_t hb1 ?_)
      refine rpt hb1 ?_
      refine rmv ?_
      iterate 4 (refine rgo_t rfl ?_)
      refine rpt rfl ?_
      refine reg_nil ?_
      cases hF
      exact post_cut _ rfl (imps [] ⟨by kernel_rfl, by kernel_rfl, trivial⟩ trivial)
    refine rgn hb1 (op_move rfl rfl rfl rfl) ?_
    refine rgn hb1 (op_len_str rfl rfl Tryd_und_9 rfl rfl) ?_
    refine rgn hb1 (op_int (k := .i64) (m := (a0.length : Int)) (n := 20) rfl rfl rfl rfl rfl rfl) ?_
    refine rpf hb1 ?_
    refine rmv ?_
    rcases ite_some hF with ⟨hb2, hF⟩ | ⟨hb2, hF⟩
    · refine rgo_t hb2 ?_
      iterate 3 (refine rgo_t hb2 ?_)
      refine rpt hb2 ?_
      refine reg_nil ?_
      cases hF
      exact post_cut _ rfl (imps [] ⟨by kernel_rfl, by kernel_rfl, trivial⟩ trivial)
    refine rgn hb2 (op_move rfl rfl rfl rfl) ?_
    obtain ⟨y3, h4, hF⟩ := bind_some hF
    refine rgn hb2 (op_index_str (k := .i64) rfl rfl rfl h4 Tryd_und_9 rfl rfl) ?_
    obtain ⟨y5, h6, hF⟩ := bind_some hF
    refine rgn hb2 (op_call 0 rfl (caps := []) (args := [.int .u8 (y3.toNat : Int)]) (rs := [.p (.bool y5)]) rfl rfl rfl Tryd_cal_55 (word_Letter_ok h6) rfl rfl rfl) ?_
    refine rgn hb2 (op_not rfl rfl rfl rfl) ?_
    refine rpf hb2 ?_
    refine reg_nil ?_
    cases hF
    exact post_cut _ rfl (imps [] ⟨by kernel_rfl, by kernel_rfl, trivial⟩ trivial)
  rintro _ rfl
  have hF := hK9
  clear hK9
  refine post_next ?_
  rcases ite_some hF with ⟨hb10, hF⟩ | ⟨hb10, hF⟩
  · refine aw_cond_t rfl hb10 ?_
    refine aw_seq ?_
    refine aw_region ?_
    refine ras ?_
    refine reg_nil ?_
    refine post_imp (s' := ⟨37, [(2, some (.pv (.bool false)))], [], 0, [], [], 0, []⟩) (imps [] ⟨by kernel_rfl, trivial⟩ trivial) ?_
    refine post_next ?_
    refine aw_ret ?_
    refine post_then_ret ?_
    obtain rfl := Option.some.inj hF
    exact prt
  refine aw_cond_f rfl hb10 ?_
  refine aw_skip ?_
  refine post_next ?_
  iterate 2 (refine aw_seq ?_)
  refine aw_region ?_
  refine rmv ?_
  obtain ⟨u13, h14, hF⟩ := bind_some hF
  refine rgp (op_strBytes (E := eI_u8) rfl rfl Tryd_und_9 Tryd_und_80 Tryd_und_5 h14 rfl rfl rfl) ?_
  refine rgp (op_len_vs (n := (bytesL a0).length) rfl rfl (List.length_map ..) Tryd_slc_80 rfl rfl) ?_
  refine rmv ?_
  refine reg_nil ?_
  refine post_imp (s' := ⟨37, [(0, some (.pv (.str a0))), (19, some (.pv (.vs 1 (List.map eI_u8 (bytesL a0))))), (20, some (.pv (.int .i64 ((bytesL a0).length : Int)))), (21, some (.pv (.int .i64 0)))], [], 0, [], [], 0, []⟩) (imps [] ⟨by kernel_rfl, by kernel_rfl, by kernel_rfl, by kernel_rfl, trivial⟩ trivial) ?_
  refine post_next ?_
  obtain ⟨lr66, hF, hK67⟩ := bind_some hF
  refine aw_for (((((bytesL a0).length : Int) : Int) - (0)).toNat + 1) (fun s1 => ∃ q, lr66 = .next q ∧ s1 = ⟨37, [(0, some (.pv (.str a0)))], [], 0, [], [], 0, []⟩) ?_ ?_
  · refine rnd_loop (α := Int) (fun q => ⟨37, [(0, some (.pv (.str a0))), (19, some (.pv (.vs 1 (List.map eI_u8 (bytesL a0))))), (20, some (.pv (.int .i64 ((bytesL a0).length : Int)))), (21, some (.pv (.int .i64 q)))], [], 0, [], [], 0, []⟩) (fun k q => word_Name_L1 a0 k q = some lr66) 0 (imps [] ⟨by kernel_rfl, by kernel_rfl, by kernel_rfl, by kernel_rfl, trivial⟩ trivial) hF (fun q h => by cases h) ?_
    clear hF
    rintro k x31 hF ih
    refine rnd_succ ?_
    refine aw_seq ?_
    refine aw_region ?_
    refine rgp (op_int (k := .i64) (m := x31) (n := ((bytesL a0).length : Int)) rfl rfl rfl rfl rfl rfl) ?_
    refine reg_nil ?_
    refine post_imp (s' := ⟨37, [(0, some (.pv (.str a0))), (19, some (.pv (.vs 1 (List.map eI_u8 (bytesL a0))))), (20, some (.pv (.int .i64 ((bytesL a0).length : Int)))), (21, some (.pv (.int .i64 x31))), (22, some (.pv (.bool (decide (x31 < ((bytesL a0).length : Int))))))], [], 0, [], [], 0, []⟩) (imps [] ⟨by kernel_rfl, by kernel_rfl, by kernel_rfl, by kernel_rfl, by kernel_rfl, trivial⟩ trivial) ?_
    refine post_next ?_
    refine aw_seq ?_
    rcases ite_some hF with ⟨hb49, hF⟩ | ⟨hb49, hF⟩
    · refine aw_cond_t rfl hb49 ?_
      refine aw_skip ?_
      refine post_next ?_
      refine aw_seq ?_
      refine aw_block ?_
      refine aw_seq ?_
      refine aw_region ?_
      obtain ⟨y52, h53, hF⟩ := bind_some hF
      refine rgp (op_index_vs (k := .i64) rfl rfl rfl (idx_map eI_u8 h53) Tryd_slc_80 rfl rfl) ?_
      refine rgp (op_load_vp (p := .int .u8 y52) rfl rfl rfl Tryd_one_5 rfl rfl) ?_
      refine ras ?_
      refine reg_nil ?_
      refine post_imp (s' := ⟨37, [(0, some (.pv (.str a0))), (4, some (.pv (.int .u8 y52))), (19, some (.pv (.vs 1 (List.map eI_u8 (bytesL a0))))), (20, some (.pv (.int .i64 ((bytesL a0).length : Int)))), (21, some (.pv (.int .i64 x31)))], [], 0, [], [], 0, []⟩) (imps [] ⟨by kernel_rfl, by kernel_rfl, by kernel_rfl, by kernel_rfl, by kernel_rfl, trivial⟩ trivial) ?_
      refine post_next ?_
      refine aw_seq ?_
      obtain ⟨x61, hF, hK63⟩ := bind_some hF
      refine aw_cut (fun s1 => s1 = ⟨37, [(0, some (.pv (.str a0))), (19, some (.pv (.vs 1 (List.map eI_u8 (bytesL a0))))), (20, some (.pv (.int .i64 ((bytesL a0).length : Int)))), (21, some (.pv (.int .i64 x31))), (32, some (.pv (.bool x61)))], [], 0, [], [], 0, []⟩) ?_ ?_
      · refine aw_region ?_
        refine rmv ?_
        obtain ⟨y56, h57, hF⟩ := bind_some hF
        refine rgp (op_call 0 rfl (caps := []) (args := [.int .u8 y52]) (rs := [.p (.bool y56)]) rfl rfl rfl Tryd_cal_55 (word_Letter_ok h57) rfl rfl rfl) ?_
        refine rgp (op_not rfl rfl rfl rfl) ?_
        refine rmv ?_
        rcases ite_some hF with ⟨hb58, hF⟩ | ⟨hb58, hF⟩
        · refine rgn hb58 (op_move rfl rfl rfl rfl) ?_
          obtain ⟨y59, h60, hF⟩ := bind_some hF
          refine rgn hb58 (op_call 0 rfl (caps := []) (args := [.int .u8 y52]) (rs := [.p (.bool y59)]) rfl rfl rfl Tryd_cal_56 (word_Digit_ok h60) rfl rfl rfl) ?_
          refine rgn hb58 (op_not rfl rfl rfl rfl) ?_
          refine rpt hb58 ?_
          refine reg_nil ?_
          cases hF
          exact post_cut _ rfl (imps [] ⟨by kernel_rfl, by kernel_rfl, by kernel_rfl, by kernel_rfl, by kernel_rfl, trivial⟩ trivial)
        iterate 3 (refine rgo_f hb58 ?_)
        refine rpf hb58 ?_
        refine reg_nil ?_
        cases hF
        exact post_cut _ rfl (imps [] ⟨by kernel_rfl, by kernel_rfl, by kernel_rfl, by kernel_rfl, by kernel_rfl, trivial⟩ trivial)
      rintro _ rfl
      have hF := hK63
      clear hK63
      refine post_next ?_
      rcases ite_some hF with ⟨hb64, hF⟩ | ⟨hb64, hF⟩
      · refine aw_cond_t rfl hb64 ?_
        refine aw_seq ?_
        refine aw_region ?_
        refine ras ?_
        refine reg_nil ?_
        refine post_imp (s' := ⟨37, [(2, some (.pv (.bool false)))], [], 0, [], [], 0, []⟩) (imps [] ⟨by kernel_rfl, trivial⟩ trivial) ?_
        refine post_next ?_
        refine aw_ret ?_
        refine post_block_ret ?_
        iterate 2 (refine post_then_ret ?_)
        refine post_lp_ret ?_
        obtain rfl := Option.some.inj hF
        have hF := elim_stop hK67
        refine post_then_ret ?_
        obtain rfl := Option.some.inj hF
        exact prt
      refine aw_cond_f rfl hb64 ?_
      refine aw_skip ?_
      refine post_block_normal ?_
      refine post_next ?_
      refine aw_region ?_
      refine rgp (op_int (k := .i64) (m := x31) (n := 1) rfl rfl rfl rfl rfl rfl) ?_
      refine rmv ?_
      refine reg_nil ?_
      refine post_round ?_
      exact rnd_back (ih (w_i64 (x31 + 1)) hF) (imps [] ⟨by kernel_rfl, by kernel_rfl, by kernel_rfl, by kernel_rfl, trivial⟩ trivial)
    refine aw_cond_f rfl hb49 ?_
    refine aw_exit ?_
    iterate 2 (refine post_then_exit ?_)
    obtain rfl := Option.some.inj hF
    exact post_lp_break _ ⟨_, rfl, rfl⟩ (imps [] ⟨by kernel_rfl, trivial⟩ trivial)
  rintro _ ⟨⟨⟩, rfl, rfl⟩
  have hF := elim_next hK67
  clear hK67
  refine post_next ?_
  refine aw_seq ?_
  refine aw_region ?_
  refine rmv ?_
  obtain ⟨y68, h69, hF⟩ := bind_some hF
  refine rgp (op_call 0 rfl (caps := []) (args := [.str a0]) (rs := [.p (.int .i64 y68)]) rfl rfl rfl Tryd_cal_57 (word_Find_ok h69) rfl rfl rfl) ?_
  refine rgp (op_int (k := .i64) (m := y68) (n := 0) rfl rfl rfl rfl rfl rfl) ?_
  refine ras ?_
  refine reg_nil ?_
  refine post_imp (s' := ⟨37, [(2, some (.pv (.bool (y68 == 0))))], [], 0, [], [], 0, []⟩) (imps [] ⟨by kernel_rfl, trivial⟩ trivial) ?_
  refine post_next ?_
  refine aw_ret ?_
  obtain rfl := Option.some.inj hF
  exact prt
theorem kind_own_ok {a0 : GType} {r : (List GOwner)} (hF : kind_own a0 = some r) : Abs.Fn globs_Tryd Tryd.prog 33 [.vp (eGType a0)] [.p (.vs 2 (List.map eGOwner r))] := by
  unfold kind_own at hF
  refine fn_of_body (n := 17) Tryd.func33 rfl rfl rfl ?_
  intro w O
  refine aw_seq ?_
  refine aw_region ?_
  refine ras ?_
  refine reg_nil ?_
  refine post_imp (s' := ⟨17, [(0, some (.pv (.vp (eGType a0))))], [], 0, [], [], 0, []⟩) (imps [] ⟨by kernel_rfl, trivial⟩ trivial) ?_
  refine post_next ?_
  refine aw_seq ?_
  refine aw_region ?_
  refine rmv ?_
  refine rgp (op_nilCheck rfl rfl rfl rfl rfl) ?_
  refine rgp (op_field_vp rfl rfl Tryd_fld_26_2 rfl rfl) ?_
  refine rgp (op_load_vp (p := .int .i64 a0.fN) rfl rfl rfl Tryd_one_3 rfl rfl) ?_
  refine rgp (op_min2 rfl rfl rfl rfl rfl) ?_
  refine rgp (op_max2 rfl rfl rfl rfl rfl) ?_
  refine rgp (op_int (k := .i64) (m := (if (if 3 < a0.fN then 3 else a0.fN) > 0 then (if 3 < a0.fN then 3 else a0.fN) else 0)) (n := 1) rfl rfl rfl rfl rfl rfl) ?_
  refine ras ?_
  refine reg_nil ?_
  refine post_imp (s' := ⟨17, [(0, some (.pv (.vp (eGType a0)))), (3, some (.pv (.int .i64 (w_i64 ((if (if 3 < a0.fN then 3 else a0.fN) > 0 then (if 3 < a0.fN then 3 else a0.fN) else 0) + 1)))))], [], 0, [], [], 0, []⟩) (imps [] ⟨by kernel_rfl, by kernel_rfl, trivial⟩ trivial) ?_
  refine post_next ?_
  refine aw_seq ?_
  refine aw_region ?_
  refine rmv ?_
  refine rgp (op_nilCheck rfl rfl rfl rfl rfl) ?_
  refine rgp (op_field_vp rfl rfl Tryd_fld_26_3 rfl rfl) ?_
  iterate 2 (refine rmv ?_)
  obtain ⟨y1, h2, hF⟩ := bind_some hF
  refine rgp (op_sliceArr (f := eGOwner) (l := (a0.fOwn).l) (nl := none) (nh := (some (w_i64 ((if (if 3 < a0.fN then 3 else a0.fN) > 0 then (if 3 < a0.fN then 3 else a0.fN) else 0) + 1)))) (nm := (some (w_i64 ((if (if 3 < a0.fN then 3 else a0.fN) > 0 then (if 3 < a0.fN then 3 else a0.fN) else 0) + 1)))) rfl rfl rfl rfl rfl (.inr rfl) Tryd_arr_24 rfl (fun _ => rfl) rfl rfl h2 rfl rfl) ?_
  refine ras ?_
  refine reg_nil ?_
  refine post_imp (s' := ⟨17, [(2, some (.pv (.vs 2 (List.map eGOwner y1))))], [], 0, [], [], 0, []⟩) (imps [] ⟨by kernel_rfl, trivial⟩ trivial) ?_
  refine post_next ?_
  refine aw_ret ?_
  obtain rfl := Option.some.inj hF
  exact prt
theorem owner_Right_ok {a0 : GOwner} {a1 : Int} {r : Bool} (hF : owner_Right a0 a1 = some r) : Abs.Fn globs_Tryd Tryd.prog 34 [.agg (eGOwner a0), .int .i64 a1] [.p (.bool r)] := by
  unfold owner_Right at hF
  refine fn_of_body (n := 34) Tryd.func34 rfl rfl rfl ?_
  intro w O
  refine aw_seq ?_
  refine aw_region ?_
  refine rgp (op_box 0 rfl rfl rfl rfl rfl rfl) ?_
  refine ras ?_
  refine reg_nil ?_
  refine post_imp (s' := ⟨34, [(1, some (.pv (.int .i64 a1))), (2, some (.lp 0 0))], [(0, some (.box 23 (bxv (eGOwner a0))))], 1, [], [], 0, []⟩) (imps [0] ⟨by kernel_rfl, by kernel_rfl, trivial⟩ ⟨by kernel_rfl, trivial⟩) ?_
  refine post_next ?_
  iterate 2 (refine aw_seq ?_)
  refine aw_region ?_
  refine rgp (op_field_lp rfl rfl Tryd_fld_23_0 rfl rfl) ?_
  refine rgp (op_load_lp (v := .pv (.int .i64 a0.fKind)) rfl rfl rfl rfl Tryd_one_3 rfl rfl) ?_
  refine reg_nil ?_
  refine post_imp (s' := ⟨34, [(1, some (.pv (.int .i64 a1))), (2, some (.lp 0 0)), (6, some (.pv (.int .i64 a0.fKind)))], [(0, some (.box 23 (bxv (eGOwner a0))))], 1, [], [], 0, []⟩) (imps [0] ⟨by kernel_rfl, by kernel_rfl, by kernel_rfl, trivial⟩ ⟨by kernel_rfl, trivial⟩) ?_
  refine post_next ?_
  refine aw_block ?_
  refine aw_seq ?_
  refine aw_join hF (fun q => ⟨34, [(2, some (.lp 0 0))], [(0, some (.box 23 (bxv (eGOwner a0))))], 1, [], [], 0, []⟩) ?_ ?_
  · refine aw_block ?_
    iterate 2 (refine aw_block ?_)
    refine aw_seq ?_
    refine aw_block ?_
    refine aw_seq ?_
    refine aw_block ?_
    iterate 3 (refine aw_seq ?_)
    refine aw_region ?_
    refine rgp (op_int (k := .i64) (m := a0.fKind) (n := 3) rfl rfl rfl rfl rfl rfl) ?_
    refine ras ?_
    refine reg_nil ?_
    refine post_imp (s' := ⟨34, [(1, some (.pv (.int .i64 a1))), (2, some (.lp 0 0)), (6, some (.pv (.int .i64 a0.fKind))), (7, some (.pv (.bool (a0.fKind == 3))))], [(0, some (.box 23 (bxv (eGOwner a0))))], 1, [], [], 0, []⟩) (imps [0] ⟨by kernel_rfl, by kernel_rfl, by kernel_rfl, by kernel_rfl, trivial⟩ ⟨by kernel_rfl, trivial⟩) ?_
    refine post_next ?_
    rcases go_ite hF with ⟨hb1, hF⟩ | ⟨hb1, hF⟩
    · refine aw_cond_t rfl hb1 ?_
      refine aw_exit ?_
      iterate 2 (refine post_then_exit ?_)
      refine post_block_exit ?_
      refine post_next ?_
      iterate 2 (refine aw_seq ?_)
      refine aw_region ?_
      refine rgp (op_field_lp rfl rfl Tryd_fld_23_1 rfl rfl) ?_
      refine rgp (op_load_lp (v := .pv (.int .i64 a0.fN)) rfl rfl rfl rfl Tryd_one_3 rfl rfl) ?_
      refine rgp (op_int (k := .i64) (m := a0.fN) (n := 0) rfl rfl rfl rfl rfl rfl) ?_
      refine rmv ?_
      rcases go_ite hF with ⟨hb2, hF⟩ | ⟨hb2, hF⟩
      · refine rgn hb2 (op_field_lp rfl rfl Tryd_fld_23_1 rfl rfl) ?_
        refine rgn hb2 (op_load_lp (v := .pv (.int .i64 a0.fN)) rfl rfl rfl rfl Tryd_one_3 rfl rfl) ?_
        refine rgn hb2 (op_move rfl rfl rfl rfl) ?_
        refine rgn hb2 (op_int (k := .i64) (m := a0.fN) (n := a1) rfl rfl rfl rfl rfl rfl) ?_
        refine rpt hb2 ?_
        refine ras ?_
        refine reg_nil ?_
        refine post_imp (s' := ⟨34, [(4, some (.pv (.bool (decide (a0.fN ≤ a1)))))], [], 0, [], [], 0, []⟩) (imps [] ⟨by kernel_rfl, trivial⟩ trivial) ?_
        refine post_next ?_
        refine aw_ret ?_
        refine post_then_ret ?_
        refine post_block_ret ?_
        refine post_then_ret ?_
        iterate 3 (refine post_block_ret ?_)
        refine post_cut_ret ?_
        replace hF := go_stop hF
        refine post_then_ret ?_
        refine post_block_ret ?_
        refine post_then_ret ?_
        obtain rfl := Option.some.inj hF
        exact prt
      iterate 4 (refine rgo_f hb2 ?_)
      refine rpf hb2 ?_
      refine ras ?_
      refine reg_nil ?_
      refine post_imp (s' := ⟨34, [(4, some (.pv (.bool false)))], [], 0, [], [], 0, []⟩) (imps [] ⟨by kernel_rfl, trivial⟩ trivial) ?_
      refine post_next ?_
      refine aw_ret ?_
      refine post_then_ret ?_
      refine post_block_ret ?_
      refine post_then_ret ?_
      iterate 3 (refine post_block_ret ?_)
      refine post_cut_ret ?_
      replace hF := go_stop hF
      refine post_then_ret ?_
      refine post_block_ret ?_
      refine post_then_ret ?_
      obtain rfl := Option.some.inj hF
      exact prt
    refine aw_cond_f rfl hb1 ?_
    refine aw_skip ?_
    refine post_next ?_
    iterate 2 (refine aw_seq ?_)
    refine aw_region ?_
    refine rgp (op_int (k := .i64) (m := a0.fKind) (n := 7) rfl rfl rfl rfl rfl rfl) ?_
    refine ras ?_
    refine reg_nil ?_
    refine post_imp (s' := ⟨34, [(2, some (.lp 0 0)), (6, some (.pv (.int .i64 a0.fKind))), (9, some (.pv (.bool (a0.fKind == 7))))], [(0, some (.box 23 (bxv (eGOwner a0))))], 1, [], [], 0, []⟩) (imps [0] ⟨by kernel_rfl, by kernel_rfl, by kernel_rfl, trivial⟩ ⟨by kernel_rfl, trivial⟩) ?_
    refine post_next ?_
    rcases go_ite hF with ⟨hb3, hF⟩ | ⟨hb3, hF⟩
    · refine aw_cond_t rfl hb3 ?_
      refine aw_exit ?_
      iterate 2 (refine post_then_exit ?_)
      refine post_block_other rfl ?_
      refine post_then_exit ?_
      refine post_block_exit ?_
      refine post_next ?_
      iterate 2 (refine aw_seq ?_)
      refine aw_region ?_
      refine rgp (op_field_lp rfl rfl Tryd_fld_23_1 rfl rfl) ?_
      refine rgp (op_load_lp (v := .pv (.int .i64 a0.fN)) rfl rfl rfl rfl Tryd_one_3 rfl rfl) ?_
      refine rgp (op_int (k := .i64) (m := a0.fN) (n := 0) rfl rfl rfl rfl rfl rfl) ?_
      refine ras ?_
      refine reg_nil ?_
      refine post_imp (s' := ⟨34, [(4, some (.pv (.bool (decide (a0.fN ≥ 0)))))], [], 0, [], [], 0, []⟩) (imps [] ⟨by kernel_rfl, trivial⟩ trivial) ?_
      refine post_next ?_
      refine aw_ret ?_
      refine post_then_ret ?_
      iterate 3 (refine post_block_ret ?_)
      refine post_cut_ret ?_
      replace hF := go_stop hF
      refine post_then_ret ?_
      refine post_block_ret ?_
      refine post_then_ret ?_
      obtain rfl := Option.some.inj hF
      exact prt
    refine aw_cond_f rfl hb3 ?_
    refine aw_skip ?_
    refine post_next ?_
    iterate 2 (refine aw_seq ?_)
    refine aw_region ?_
    refine rgp (op_int (k := .i64) (m := a0.fKind) (n := 1) rfl rfl rfl rfl rfl rfl) ?_
    refine ras ?_
    refine reg_nil ?_
    refine post_imp (s' := ⟨34, [(2, some (.lp 0 0)), (6, some (.pv (.int .i64 a0.fKind))), (11, some (.pv (.bool (a0.fKind == 1))))], [(0, some (.box 23 (bxv (eGOwner a0))))], 1, [], [], 0, []⟩) (imps [0] ⟨by kernel_rfl, by kernel_rfl, by kernel_rfl, trivial⟩ ⟨by kernel_rfl, trivial⟩) ?_
    refine post_next ?_
    rcases go_ite hF with ⟨hb4, hF⟩ | ⟨hb4, hF⟩
    · refine aw_cond_t rfl hb4 ?_
      refine aw_exit ?_
      iterate 2 (refine post_then_exit ?_)
      refine post_block_other rfl ?_
      refine post_then_exit ?_
      refine post_block_other rfl ?_
      refine post_then_exit ?_
      refine post_block_exit ?_
      iterate 2 (refine post_block_normal ?_)
      exact post_cut _ ⟨(), rfl, hF⟩ (imps [0] ⟨by kernel_rfl, trivial⟩ ⟨by kernel_rfl, trivial⟩)
    refine aw_cond_f rfl hb4 ?_
    refine aw_skip ?_
    refine post_next ?_
    iterate 2 (refine aw_seq ?_)
    refine aw_region ?_
    refine rgp (op_int (k := .i64) (m := a0.fKind) (n := 2) rfl rfl rfl rfl rfl rfl) ?_
    refine ras ?_
    refine reg_nil ?_
    refine post_imp (s' := ⟨34, [(2, some (.lp 0 0)), (6, some (.pv (.int .i64 a0.fKind))), (13, some (.pv (.bool (a0.fKind == 2))))], [(0, some (.box 23 (bxv (eGOwner a0))))], 1, [], [], 0, []⟩) (imps [0] ⟨by kernel_rfl, by kernel_rfl, by kernel_rfl, trivial⟩ ⟨by kernel_rfl, trivial⟩) ?_
    refine post_next ?_
    rcases go_ite hF with ⟨hb5, hF⟩ | ⟨hb5, hF⟩
    · refine aw_cond_t rfl hb5 ?_
      refine aw_exit ?_
      iterate 2 (refine post_then_exit ?_)
      refine post_block_other rfl ?_
      refine post_then_exit ?_
      refine post_block_other rfl ?_
      refine post_then_exit ?_
      refine post_block_other rfl ?_
      refine post_block_exit ?_
      refine post_block_normal ?_
      exact post_cut _ ⟨(), rfl, hF⟩ (imps [0] ⟨by kernel_rfl, trivial⟩ ⟨by kernel_rfl, trivial⟩)
    refine aw_cond_f rfl hb5 ?_
    refine aw_skip ?_
    refine post_next ?_
    refine aw_seq ?_
    obtain ⟨x8, hF, hK10⟩ := go_bind hF
    refine aw_cut (fun s1 => s1 = ⟨34, [(2, some (.lp 0 0)), (15, some (.pv (.bool x8)))], [(0, some (.box 23 (bxv (eGOwner a0))))], 1, [], [], 0, []⟩) ?_ ?_
    · refine aw_seq ?_
      refine aw_region ?_
      refine rgp (op_int (k := .i64) (m := a0.fKind) (n := 4) rfl rfl rfl rfl rfl rfl) ?_
      refine ras ?_
      refine reg_nil ?_
      refine post_imp (s' := ⟨34, [(2, some (.lp 0 0)), (6, some (.pv (.int .i64 a0.fKind))), (15, some (.pv (.bool (a0.fKind == 4))))], [(0, some (.box 23 (bxv (eGOwner a0))))], 1, [], [], 0, []⟩) (imps [0] ⟨by kernel_rfl, by kernel_rfl, by kernel_rfl, trivial⟩ ⟨by kernel_rfl, trivial⟩) ?_
      refine post_next ?_
      rcases ite_some hF with ⟨hb6, hF⟩ | ⟨hb6, hF⟩
      · refine aw_cond_t rfl hb6 ?_
        refine aw_skip ?_
        cases hF
        exact post_cut _ rfl (imps [0] ⟨by kernel_rfl, by kernel_rfl, trivial⟩ ⟨by kernel_rfl, trivial⟩)
      refine aw_cond_f rfl hb6 ?_
      refine aw_seq ?_
      refine aw_region ?_
      refine rgp (op_int (k := .i64) (m := a0.fKind) (n := 5) rfl rfl rfl rfl rfl rfl) ?_
      refine ras ?_
      refine reg_nil ?_
      refine post_imp (s' := ⟨34, [(2, some (.lp 0 0)), (6, some (.pv (.int .i64 a0.fKind))), (15, some (.pv (.bool (a0.fKind == 5))))], [(0, some (.box 23 (bxv (eGOwner a0))))], 1, [], [], 0, []⟩) (imps [0] ⟨by kernel_rfl, by kernel_rfl, by kernel_rfl, trivial⟩ ⟨by kernel_rfl, trivial⟩) ?_
      refine post_next ?_
      rcases ite_some hF with ⟨hb7, hF⟩ | ⟨hb7, hF⟩
      · refine aw_cond_t rfl hb7 ?_
        refine aw_skip ?_
        cases hF
        exact post_cut _ rfl (imps [0] ⟨by kernel_rfl, by kernel_rfl, trivial⟩ ⟨by kernel_rfl, trivial⟩)
      refine aw_cond_f rfl hb7 ?_
      refine aw_region ?_
      refine rgp (op_int (k := .i64) (m := a0.fKind) (n := 6) rfl rfl rfl rfl rfl rfl) ?_
      refine ras ?_
      refine reg_nil ?_
      cases hF
      exact post_cut _ rfl (imps [0] ⟨by kernel_rfl, by kernel_rfl, trivial⟩ ⟨by kernel_rfl, trivial⟩)
    rintro _ rfl
    have hF := hK10
    clear hK10
    refine post_next ?_
    rcases go_ite hF with ⟨hb11, hF⟩ | ⟨hb11, hF⟩
    · refine aw_cond_t rfl hb11 ?_
      refine aw_exit ?_
      refine post_then_exit ?_
      refine post_block_other rfl ?_
      refine post_then_exit ?_
      refine post_block_other rfl ?_
      refine post_then_exit ?_
      iterate 2 (refine post_block_other rfl ?_)
      refine post_block_exit ?_
      exact post_cut _ ⟨(), rfl, hF⟩ (imps [0] ⟨by kernel_rfl, trivial⟩ ⟨by kernel_rfl, trivial⟩)
    refine aw_cond_f rfl hb11 ?_
    refine aw_skip ?_
    refine post_next ?_
    refine aw_exit ?_
    refine post_block_other rfl ?_
    refine post_then_exit ?_
    refine post_block_other rfl ?_
    refine post_then_exit ?_
    iterate 3 (refine post_block_other rfl ?_)
    refine post_cut_exit ?_
    replace hF := go_stop hF
    refine post_then_exit ?_
    refine post_block_exit ?_
    refine post_next ?_
    refine aw_seq ?_
    refine aw_region ?_
    refine ras ?_
    refine reg_nil ?_
    refine post_imp (s' := ⟨34, [(4, some (.pv (.bool false)))], [], 0, [], [], 0, []⟩) (imps [] ⟨by kernel_rfl, trivial⟩ trivial) ?_
    refine post_next ?_
    refine aw_ret ?_
    obtain rfl := Option.some.inj hF
    exact prt
  rintro ⟨⟩ hF
  refine post_next ?_
  iterate 2 (refine aw_seq ?_)
  refine aw_region ?_
  refine rgp (op_field_lp rfl rfl Tryd_fld_23_1 rfl rfl) ?_
  refine rgp (op_load_lp (v := .pv (.int .i64 a0.fN)) rfl rfl rfl rfl Tryd_one_3 rfl rfl) ?_
  refine rgp (op_int (k := .i64) (m := a0.fN) (n := 0) rfl rfl rfl rfl rfl rfl) ?_
  refine ras ?_
  refine reg_nil ?_
  refine post_imp (s' := ⟨34, [(4, some (.pv (.bool (a0.fN == 0))))], [], 0, [], [], 0, []⟩) (imps [] ⟨by kernel_rfl, trivial⟩ trivial) ?_
  refine post_next ?_
  refine aw_ret ?_
  refine post_then_ret ?_
  refine post_block_ret ?_
  refine post_then_ret ?_
  obtain rfl := Option.some.inj hF
  exact prt
theorem kind_Right_ok {a0 : GType} {a1 : Int} {r : Bool} (hF : kind_Right a0 a1 = some r) : Abs.Fn globs_Tryd Tryd.prog 11 [.agg (eGType a0), .int .i64 a1] [.p (.bool r)] := by
  unfold kind_Right at hF
  refine fn_of_body (n := 74) Tryd.func11 rfl rfl rfl ?_
  intro w O
  refine aw_seq ?_
  refine aw_region ?_
  refine rgp (op_box 0 rfl rfl rfl rfl rfl rfl) ?_
  refine ras ?_
  refine reg_nil ?_
  refine post_imp (s' := ⟨74, [(1, some (.pv (.int .i64 a1))), (2, some (.lp 0 0))], [(0, some (.box 26 (bxv (eGType a0))))], 1, [], [], 0, []⟩) (imps [0] ⟨by kernel_rfl, by kernel_rfl, trivial⟩ ⟨by kernel_rfl, trivial⟩) ?_
  refine post_next ?_
  iterate 2 (refine aw_seq ?_)
  refine aw_region ?_
  refine rgp (op_field_lp rfl rfl Tryd_fld_26_0 rfl rfl) ?_
  refine rgp (op_load_lp (v := .pv (.int .i64 a0.fKind)) rfl rfl rfl rfl Tryd_one_3 rfl rfl) ?_
  refine reg_nil ?_
  refine post_imp (s' := ⟨74, [(1, some (.pv (.int .i64 a1))), (2, some (.lp 0 0)), (13, some (.pv (.int .i64 a0.fKind)))], [(0, some (.box 26 (bxv (eGType a0))))], 1, [], [], 0, []⟩) (imps [0] ⟨by kernel_rfl, by kernel_rfl, by kernel_rfl, trivial⟩ ⟨by kernel_rfl, trivial⟩) ?_
  refine post_next ?_
  refine aw_block ?_
  refine aw_seq ?_
  obtain ⟨x2, hF, hK4⟩ := bind_some hF
  refine aw_cut (fun s1 => s1 = ⟨74, [(1, some (.pv (.int .i64 a1))), (2, some (.lp 0 0)), (13, some (.pv (.int .i64 a0.fKind))), (14, some (.pv (.bool x2)))], [(0, some (.box 26 (bxv (eGType a0))))], 1, [], [], 0, []⟩) ?_ ?_
  · refine aw_seq ?_
    refine aw_region ?_
    refine rgp (op_int (k := .i64) (m := a0.fKind) (n := 0) rfl rfl rfl rfl rfl rfl) ?_
    refine ras ?_
    refine reg_nil ?_
    refine post_imp (s' := ⟨74, [(1, some (.pv (.int .i64 a1))), (2, some (.lp 0 0)), (13, some (.pv (.int .i64 a0.fKind))), (14, some (.pv (.bool (a0.fKind == 0))))], [(0, some (.box 26 (bxv (eGType a0))))], 1, [], [], 0, []⟩) (imps [0] ⟨by kernel_rfl, by kernel_rfl, by kernel_rfl, by kernel_rfl, trivial⟩ ⟨by kernel_rfl, trivial⟩) ?_
    refine post_next ?_
    rcases ite_some hF with ⟨hb1, hF⟩ | ⟨hb1, hF⟩
    · refine aw_cond_t rfl hb1 ?_
      refine aw_skip ?_
      cases hF
      exact post_cut _ rfl (imps [0] ⟨by kernel_rfl, by kernel_rfl, by kernel_rfl, by kernel_rfl, trivial⟩ ⟨by kernel_rfl, trivial⟩)
    refine aw_cond_f rfl hb1 ?_
    refine aw_region ?_
    refine rgp (op_int (k := .i64) (m := a0.fKind) (n := 1) rfl rfl rfl rfl rfl rfl) ?_
    refine ras ?_
    refine reg_nil ?_
    cases hF
    exact post_cut _ rfl (imps [0] ⟨by kernel_rfl, by kernel_rfl, by kernel_rfl, by kernel_rfl, trivial⟩ ⟨by kernel_rfl, trivial⟩)
  rintro _ rfl
  have hF := hK4
  clear hK4
  refine post_next ?_
  rcases ite_some hF with ⟨hb5, hF⟩ | ⟨hb5, hF⟩
  · refine aw_cond_t rfl hb5 ?_
    refine aw_seq ?_
    refine aw_region ?_
    refine rgp (op_load_lp_agg (ps := eGType a0) rfl rfl rfl rfl rfl rfl Tryd_agg_26 rfl rfl) ?_
    refine rgp (op_field_lp rfl rfl Tryd_fld_26_0 rfl rfl) ?_
    refine rgp (op_load_lp (v := .pv (.int .i64 a0.fKind)) rfl rfl rfl rfl Tryd_one_3 rfl rfl) ?_
    refine rgp (op_build (zs := (eGType zGType)) (r := eGType ({ fKind := a0.fKind, fClass := [], fN := 0, fOwn := (⟨zGOwner, zGOwner, zGOwner, zGOwner⟩ : A4 GOwner) } : GType)) rfl Tryd_zer_26 (by exact ⟨rfl, rfl, rfl, rfl, rfl, rfl, rfl, rfl, rfl, rfl, rfl, trivial⟩) Tryd_plc_26 rfl rfl rfl rfl) ?_
    refine rgp (op_eqAgg_eql (r := bGType a0 ({ fKind := a0.fKind, fClass := [], fN := 0, fOwn := (⟨zGOwner, zGOwner, zGOwner, zGOwner⟩ : A4 GOwner) } : GType)) rfl rfl rfl Tryd_eqt_26 rfl rfl rfl rfl rfl) ?_
    refine ras ?_
    refine reg_nil ?_
    refine post_imp (s' := ⟨74, [(4, some (.pv (.bool (bGType a0 ({ fKind := a0.fKind, fClass := [], fN := 0, fOwn := (⟨zGOwner, zGOwner, zGOwner, zGOwner⟩ : A4 GOwner) } : GType)))))], [], 0, [], [], 0, []⟩) (imps [] ⟨by kernel_rfl, trivial⟩ trivial) ?_
    refine post_next ?_
    refine aw_ret ?_
    refine post_block_ret ?_
    refine post_then_ret ?_
    obtain rfl := Option.some.inj hF
    exact prt
  refine aw_cond_f rfl hb5 ?_
  refine aw_seq ?_
  refine aw_region ?_
  refine rgp (op_int (k := .i64) (m := a0.fKind) (n := 2) rfl rfl rfl rfl rfl rfl) ?_
  refine ras ?_
  refine reg_nil ?_
  refine post_imp (s' := ⟨74, [(1, some (.pv (.int .i64 a1))), (2, some (.lp 0 0)), (22, some (.pv (.bool (a0.fKind == 2))))], [(0, some (.box 26 (bxv (eGType a0))))], 1, [], [], 0, []⟩) (imps [0] ⟨by kernel_rfl, by kernel_rfl, by kernel_rfl, trivial⟩ ⟨by kernel_rfl, trivial⟩) ?_
  refine post_next ?_
  rcases ite_some hF with ⟨hb6, hF⟩ | ⟨hb6, hF⟩
  · refine aw_cond_t rfl hb6 ?_
    refine aw_seq ?_
    obtain ⟨x13, hF, hK15⟩ := bind_some hF
    refine aw_cut (fun s1 => s1 = ⟨74, [(1, some (.pv (.int .i64 a1))), (2, some (.lp 0 0)), (37, some (.pv (.bool x13)))], [(0, some (.box 26 (bxv (eGType a0))))], 1, [], [], 0, []⟩) ?_ ?_
    · refine aw_region ?_
      refine rgp (op_field_lp rfl rfl Tryd_fld_26_1 rfl rfl) ?_
      refine rgp (op_load_lp (v := .pv (.str a0.fClass)) rfl rfl rfl rfl Tryd_one_9 rfl rfl) ?_
      obtain ⟨y9, h10, hF⟩ := bind_some hF
      refine rgp (op_call 1 rfl (caps := []) (args := [.str a0.fClass]) (rs := [.p (.bool y9)]) rfl rfl rfl Tryd_cal_32 (word_Name_ok h10) rfl rfl rfl) ?_
      refine rgp (op_not rfl rfl rfl rfl) ?_
      refine rmv ?_
      rcases ite_some hF with ⟨hb11, hF⟩ | ⟨hb11, hF⟩
      · refine rgo_t hb11 ?_
        iterate 2 (refine rgo_t hb11 ?_)
        refine rpt hb11 ?_
        refine rmv ?_
        iterate 3 (refine rgo_t rfl ?_)
        refine rpt rfl ?_
        refine reg_nil ?_
        cases hF
        exact post_cut _ rfl (imps [0] ⟨by kernel_rfl, by kernel_rfl, by kernel_rfl, trivial⟩ ⟨by kernel_rfl, trivial⟩)
      refine rgn hb11 (op_field_lp rfl rfl Tryd_fld_26_2 rfl rfl) ?_
      refine rgn hb11 (op_load_lp (v := .pv (.int .i64 a0.fN)) rfl rfl rfl rfl Tryd_one_3 rfl rfl) ?_
      refine rgn hb11 (op_int (k := .i64) (m := a0.fN) (n := 0) rfl rfl rfl rfl rfl rfl) ?_
      refine rpf hb11 ?_
      refine rmv ?_
      rcases ite_some hF with ⟨hb12, hF⟩ | ⟨hb12, hF⟩
      · refine rgo_t hb12 ?_
        iterate 2 (refine rgo_t hb12 ?_)
        refine rpt hb12 ?_
        refine reg_nil ?_
        cases hF
        exact post_cut _ rfl (imps [0] ⟨by kernel_rfl, by kernel_rfl, by kernel_rfl, trivial⟩ ⟨by kernel_rfl, trivial⟩)
      refine rgn hb12 (op_field_lp rfl rfl Tryd_fld_26_2 rfl rfl) ?_
      refine rgn hb12 (op_load_lp (v := .pv (.int .i64 a0.fN)) rfl rfl rfl rfl Tryd_one_3 rfl rfl) ?_
      refine rgn hb12 (op_int (k := .i64) (m := a0.fN) (n := 3) rfl rfl rfl rfl rfl rfl) ?_
      refine rpf hb12 ?_
      refine reg_nil ?_
      cases hF
      exact post_cut _ rfl (imps [0] ⟨by kernel_rfl, by kernel_rfl, by kernel_rfl, trivial⟩ ⟨by kernel_rfl, trivial⟩)
    rintro _ rfl
    have hF := hK15
    clear hK15
    refine post_next ?_
    rcases ite_some hF with ⟨hb16, hF⟩ | ⟨hb16, hF⟩
    · refine aw_cond_t rfl hb16 ?_
      refine aw_seq ?_
      refine aw_region ?_
      refine ras ?_
      refine reg_nil ?_
      refine post_imp (s' := ⟨74, [(4, some (.pv (.bool false)))], [], 0, [], [], 0, []⟩) (imps [] ⟨by kernel_rfl, trivial⟩ trivial) ?_
      refine post_next ?_
      refine aw_ret ?_
      refine post_block_ret ?_
      refine post_then_ret ?_
      obtain rfl := Option.some.inj hF
      exact prt
    refine aw_cond_f rfl hb16 ?_
    refine aw_skip ?_
    refine post_block_normal ?_
    refine post_next ?_
    refine aw_seq ?_
    refine aw_region ?_
    refine reg_imp (imp_freeze [(0, some (.box 26 (bxv (eGType a0))))] [(2, some (.pv (.vp (eGType a0))))] (FzH.spec ⟨rfl, trivial⟩) ⟨⟨_, rfl, rfl⟩, trivial⟩) ?_
    obtain ⟨y19, h20, hF⟩ := bind_some hF
    refine rgp (op_call 1 rfl (caps := []) (args := [.vp (eGType a0)]) (rs := [.p (.vs 2 (List.map eGOwner y19))]) rfl rfl rfl Tryd_cal_33 (kind_own_ok h20) rfl rfl rfl) ?_
    refine ras ?_
    refine reg_nil ?_
    refine post_imp (s' := ⟨74, [(1, some (.pv (.int .i64 a1))), (2, some (.pv (.vp (eGType a0)))), (5, some (.pv (.vs 2 (List.map eGOwner y19))))], [], 0, [], [], 0, []⟩) (imps [] ⟨by kernel_rfl, by kernel_rfl, by kernel_rfl, trivial⟩ trivial) ?_
    refine post_next ?_
    iterate 2 (refine aw_seq ?_)
    refine aw_region ?_
    refine rmv ?_
    refine rgp (op_len_vs (n := y19.length) rfl rfl (List.length_map ..) Tryd_slc_35 rfl rfl) ?_
    refine rmv ?_
    refine reg_nil ?_
    refine post_imp (s' := ⟨74, [(1, some (.pv (.int .i64 a1))), (2, some (.pv (.vp (eGType a0)))), (5, some (.pv (.vs 2 (List.map eGOwner y19)))), (39, some (.pv (.vs 2 (List.map eGOwner y19)))), (40, some (.pv (.int .i64 (y19.length : Int)))), (41, some (.pv (.int .i64 0)))], [], 0, [], [], 0, []⟩) (imps [] ⟨by kernel_rfl, by kernel_rfl, by kernel_rfl, by kernel_rfl, by kernel_rfl, by kernel_rfl, trivial⟩ trivial) ?_
    refine post_next ?_
    obtain ⟨lr54, hF, hK55⟩ := bind_some hF
    refine aw_for ((((y19.length : Int) : Int) - (0)).toNat + 1) (fun s1 => ∃ q, lr54 = .next q ∧ s1 = ⟨74, [(2, some (.pv (.vp (eGType a0)))), (5, some (.pv (.vs 2 (List.map eGOwner y19))))], [], 0, [], [], 0, []⟩) ?_ ?_
    · refine rnd_loop (α := Int) (fun q => ⟨74, [(1, some (.pv (.int .i64 a1))), (2, some (.pv (.vp (eGType a0)))), (5, some (.pv (.vs 2 (List.map eGOwner y19)))), (39, some (.pv (.vs 2 (List.map eGOwner y19)))), (40, some (.pv (.int .i64 (y19.length : Int)))), (41, some (.pv (.int .i64 q)))], [], 0, [], [], 0, []⟩) (fun k q => kind_Right_L1 a1 y19 k q = some lr54) 0 (imps [] ⟨by kernel_rfl, by kernel_rfl, by kernel_rfl, by kernel_rfl, by kernel_rfl, by kernel_rfl, trivial⟩ trivial) hF (fun q h => by cases h) ?_
      clear hF
      rintro k x31 hF ih
      refine rnd_succ ?_
      refine aw_seq ?_
      refine aw_region ?_
      refine rgp (op_int (k := .i64) (m := x31) (n := (y19.length : Int)) rfl rfl rfl rfl rfl rfl) ?_
      refine reg_nil ?_
      refine post_imp (s' := ⟨74, [(1, some (.pv (.int .i64 a1))), (2, some (.pv (.vp (eGType a0)))), (5, some (.pv (.vs 2 (List.map eGOwner y19)))), (39, some (.pv (.vs 2 (List.map eGOwner y19)))), (40, some (.pv (.int .i64 (y19.length : Int)))), (41, some (.pv (.int .i64 x31))), (42, some (.pv (.bool (decide (x31 < (y19.length : Int))))))], [], 0, [], [], 0, []⟩) (imps [] ⟨by kernel_rfl, by kernel_rfl, by kernel_rfl, by kernel_rfl, by kernel_rfl, by kernel_rfl, by kernel_rfl, trivial⟩ trivial) ?_
      refine post_next ?_
      refine aw_seq ?_
      rcases ite_some hF with ⟨hb43, hF⟩ | ⟨hb43, hF⟩
      · refine aw_cond_t rfl hb43 ?_
        refine aw_skip ?_
        refine post_next ?_
        refine aw_seq ?_
        refine aw_block ?_
        refine aw_seq ?_
        refine aw_region ?_
        obtain ⟨y46, h47, hF⟩ := bind_some hF
        refine rgp (op_index_vs (k := .i64) rfl rfl rfl (idx_map eGOwner h47) Tryd_slc_35 rfl rfl) ?_
        refine rgp (op_load_vp_agg (ps := eGOwner y46) rfl rfl rfl rfl Tryd_agg_23 rfl rfl) ?_
        refine rgp (op_alloc 0 rfl (ps := (eGOwner zGOwner)) rfl Tryd_zer_23 (by exact ⟨rfl, rfl, trivial⟩) rfl rfl) ?_
        refine rgp (op_store_lp (n := 2) rfl rfl rfl rfl rfl (or_agg Tryd_agg_23) (by rw [Tryd_non_23]; rfl) rfl rfl rfl) ?_
        refine reg_nil ?_
        refine post_imp (s' := ⟨74, [(1, some (.pv (.int .i64 a1))), (2, some (.pv (.vp (eGType a0)))), (5, some (.pv (.vs 2 (List.map eGOwner y19)))), (7, some (.lp 0 0)), (39, some (.pv (.vs 2 (List.map eGOwner y19)))), (40, some (.pv (.int .i64 (y19.length : Int)))), (41, some (.pv (.int .i64 x31)))], [(0, some (.box 23 (bxv (eGOwner y46))))], 1, [], [], 0, []⟩) (imps [0] ⟨by kernel_rfl, by kernel_rfl, by kernel_rfl, by kernel_rfl, by kernel_rfl, by kernel_rfl, by kernel_rfl, trivial⟩ ⟨by kernel_rfl, trivial⟩) ?_
        refine post_next ?_
        refine aw_seq ?_
        refine aw_region ?_
        refine rgp (op_load_lp_agg (ps := eGOwner y46) rfl rfl rfl rfl rfl rfl Tryd_agg_23 rfl rfl) ?_
        refine rmv ?_
        obtain ⟨y50, h51, hF⟩ := bind_some hF
        refine rgp (op_call 1 rfl (caps := []) (args := [.agg (eGOwner y46), .int .i64 a1]) (rs := [.p (.bool y50)]) rfl rfl rfl Tryd_cal_34 (owner_Right_ok h51) rfl rfl rfl) ?_
        refine rgp (op_not rfl rfl rfl rfl) ?_
        refine reg_nil ?_
        refine post_imp (s' := ⟨74, [(1, some (.pv (.int .i64 a1))), (2, some (.pv (.vp (eGType a0)))), (5, some (.pv (.vs 2 (List.map eGOwner y19)))), (39, some (.pv (.vs 2 (List.map eGOwner y19)))), (40, some (.pv (.int .i64 (y19.length : Int)))), (41, some (.pv (.int .i64 x31))), (48, some (.pv (.bool (!y50))))], [], 0, [], [], 0, []⟩) (imps [] ⟨by kernel_rfl, by kernel_rfl, by kernel_rfl, by kernel_rfl, by kernel_rfl, by kernel_rfl, by kernel_rfl, trivial⟩ trivial) ?_
        refine post_next ?_
        rcases ite_some hF with ⟨hb52, hF⟩ | ⟨hb52, hF⟩
        · refine aw_cond_t rfl hb52 ?_
          refine aw_seq ?_
          refine aw_region ?_
          refine ras ?_
          refine reg_nil ?_
          refine post_imp (s' := ⟨74, [(4, some (.pv (.bool false)))], [], 0, [], [], 0, []⟩) (imps [] ⟨by kernel_rfl, trivial⟩ trivial) ?_
          refine post_next ?_
          refine aw_ret ?_
          refine post_block_ret ?_
          iterate 2 (refine post_then_ret ?_)
          refine post_lp_ret ?_
          obtain rfl := Option.some.inj hF
          have hF := elim_stop hK55
          refine post_then_ret ?_
          obtain rfl := Option.some.inj hF
          exact prt
        refine aw_cond_f rfl hb52 ?_
        refine aw_skip ?_
        refine post_block_normal ?_
        refine post_next ?_
        refine aw_region ?_
        refine rgp (op_int (k := .i64) (m := x31) (n := 1) rfl rfl rfl rfl rfl rfl) ?_
        refine rmv ?_
        refine reg_nil ?_
        refine post_round ?_
        exact rnd_back (ih (w_i64 (x31 + 1)) hF) (imps [] ⟨by kernel_rfl, by kernel_rfl, by kernel_rfl, by kernel_rfl, by kernel_rfl, by kernel_rfl, trivial⟩ trivial)
      refine aw_cond_f rfl hb43 ?_
      refine aw_exit ?_
      iterate 2 (refine post_then_exit ?_)
      obtain rfl := Option.some.inj hF
      exact post_lp_break _ ⟨_, rfl, rfl⟩ (imps [] ⟨by kernel_rfl, by kernel_rfl, trivial⟩ trivial)
    rintro _ ⟨⟨⟩, rfl, rfl⟩
    have hF := elim_next hK55
    clear hK55
    refine post_next ?_
    iterate 2 (refine aw_seq ?_)
    refine aw_region ?_
    refine rmv ?_
    obtain ⟨y58, h59, hF⟩ := bind_some hF
    refine rgp (op_slice_vs (nl := (some 1)) (nh := none) (nm := none) rfl rfl rfl rfl rfl (.inl rfl) Tryd_slc_35 (cut_map (nl := (some 1)) (nh := none) eGOwner h59) rfl rfl) ?_
    refine rgp (op_len_vs (n := y58.length) rfl rfl (List.length_map ..) Tryd_slc_35 rfl rfl) ?_
    refine rmv ?_
    refine reg_nil ?_
    refine post_imp (s' := ⟨74, [(2, some (.pv (.vp (eGType a0)))), (5, some (.pv (.vs 2 (List.map eGOwner y19)))), (51, some (.pv (.vs 2 (List.map eGOwner y58)))), (52, some (.pv (.int .i64 (y58.length : Int)))), (53, some (.pv (.int .i64 0)))], [], 0, [], [], 0, []⟩) (imps [] ⟨by kernel_rfl, by kernel_rfl, by kernel_rfl, by kernel_rfl, by kernel_rfl, trivial⟩ trivial) ?_
    refine post_next ?_
    obtain ⟨lr81, hF, hK82⟩ := bind_some hF
    refine aw_for ((((y58.length : Int) : Int) - (0)).toNat + 1) (fun s1 => ∃ q, lr81 = .next q ∧ s1 = ⟨74, [(2, some (.pv (.vp (eGType a0)))), (5, some (.pv (.vs 2 (List.map eGOwner y19))))], [], 0, [], [], 0, []⟩) ?_ ?_
    · refine rnd_loop (α := Int) (fun q => ⟨74, [(2, some (.pv (.vp (eGType a0)))), (5, some (.pv (.vs 2 (List.map eGOwner y19)))), (51, some (.pv (.vs 2 (List.map eGOwner y58)))), (52, some (.pv (.int .i64 (y58.length : Int)))), (53, some (.pv (.int .i64 q)))], [], 0, [], [], 0, []⟩) (fun k q => kind_Right_L2 y58 k q = some lr81) 0 (imps [] ⟨by kernel_rfl, by kernel_rfl, by kernel_rfl, by kernel_rfl, by kernel_rfl, trivial⟩ trivial) hF (fun q h => by cases h) ?_
      clear hF
      rintro k x66 hF ih
      refine rnd_succ ?_
      refine aw_seq ?_
      refine aw_region ?_
      refine rgp (op_int (k := .i64) (m := x66) (n := (y58.length : Int)) rfl rfl rfl rfl rfl rfl) ?_
      refine reg_nil ?_
      refine post_imp (s' := ⟨74, [(2, some (.pv (.vp (eGType a0)))), (5, some (.pv (.vs 2 (List.map eGOwner y19)))), (51, some (.pv (.vs 2 (List.map eGOwner y58)))), (52, some (.pv (.int .i64 (y58.length : Int)))), (53, some (.pv (.int .i64 x66))), (54, some (.pv (.bool (decide (x66 < (y58.length : Int))))))], [], 0, [], [], 0, []⟩) (imps [] ⟨by kernel_rfl, by kernel_rfl, by kernel_rfl, by kernel_rfl, by kernel_rfl, by kernel_rfl, trivial⟩ trivial) ?_
      refine post_next ?_
      refine aw_seq ?_
      rcases ite_some hF with ⟨hb74, hF⟩ | ⟨hb74, hF⟩
      · refine aw_cond_t rfl hb74 ?_
        refine aw_skip ?_
        refine post_next ?_
        refine aw_seq ?_
        refine aw_block ?_
        refine aw_seq ?_
        refine aw_region ?_
        obtain ⟨y77, h78, hF⟩ := bind_some hF
        refine rgp (op_index_vs (k := .i64) rfl rfl rfl (idx_map eGOwner h78) Tryd_slc_35 rfl rfl) ?_
        refine rgp (op_load_vp_agg (ps := eGOwner y77) rfl rfl rfl rfl Tryd_agg_23 rfl rfl) ?_
        refine rgp (op_alloc 0 rfl (ps := (eGOwner zGOwner)) rfl Tryd_zer_23 (by exact ⟨rfl, rfl, trivial⟩) rfl rfl) ?_
        refine rgp (op_store_lp (n := 2) rfl rfl rfl rfl rfl (or_agg Tryd_agg_23) (by rw [Tryd_non_23]; rfl) rfl rfl rfl) ?_
        refine reg_nil ?_
        refine post_imp (s' := ⟨74, [(2, some (.pv (.vp (eGType a0)))), (5, some (.pv (.vs 2 (List.map eGOwner y19)))), (9, some (.lp 0 0)), (51, some (.pv (.vs 2 (List.map eGOwner y58)))), (52, some (.pv (.int .i64 (y58.length : Int)))), (53, some (.pv (.int .i64 x66)))], [(0, some (.box 23 (bxv (eGOwner y77))))], 1, [], [], 0, []⟩) (imps [0] ⟨by kernel_rfl, by kernel_rfl, by kernel_rfl, by kernel_rfl, by kernel_rfl, by kernel_rfl, trivial⟩ ⟨by kernel_rfl, trivial⟩) ?_
        refine post_next ?_
        refine aw_seq ?_
        refine aw_region ?_
        refine rgp (op_field_lp rfl rfl Tryd_fld_23_0 rfl rfl) ?_
        refine rgp (op_load_lp (v := .pv (.int .i64 y77.fKind)) rfl rfl rfl rfl Tryd_one_3 rfl rfl) ?_
        refine rgp (op_int (k := .i64) (m := y77.fKind) (n := 6) rfl rfl rfl rfl rfl rfl) ?_
        refine reg_nil ?_
        refine post_imp (s' := ⟨74, [(2, some (.pv (.vp (eGType a0)))), (5, some (.pv (.vs 2 (List.map eGOwner y19)))), (51, some (.pv (.vs 2 (List.map eGOwner y58)))), (52, some (.pv (.int .i64 (y58.length : Int)))), (53, some (.pv (.int .i64 x66))), (59, some (.pv (.bool (y77.fKind == 6))))], [], 0, [], [], 0, []⟩) (imps [] ⟨by kernel_rfl, by kernel_rfl, by kernel_rfl, by kernel_rfl, by kernel_rfl, by kernel_rfl, trivial⟩ trivial) ?_
        refine post_next ?_
        rcases ite_some hF with ⟨hb79, hF⟩ | ⟨hb79, hF⟩
        · refine aw_cond_t rfl hb79 ?_
          refine aw_seq ?_
          refine aw_region ?_
          refine ras ?_
          refine reg_nil ?_
          refine post_imp (s' := ⟨74, [(4, some (.pv (.bool false)))], [], 0, [], [], 0, []⟩) (imps [] ⟨by kernel_rfl, trivial⟩ trivial) ?_
          refine post_next ?_
          refine aw_ret ?_
          refine post_block_ret ?_
          iterate 2 (refine post_then_ret ?_)
          refine post_lp_ret ?_
          obtain rfl := Option.some.inj hF
          have hF := elim_stop hK82
          refine post_then_ret ?_
          obtain rfl := Option.some.inj hF
          exact prt
        refine aw_cond_f rfl hb79 ?_
        refine aw_skip ?_
        refine post_block_normal ?_
        refine post_next ?_
        refine aw_region ?_
        refine rgp (op_int (k := .i64) (m := x66) (n := 1) rfl rfl rfl rfl rfl rfl) ?_
        refine rmv ?_
        refine reg_nil ?_
        refine post_round ?_
        exact rnd_back (ih (w_i64 (x66 + 1)) hF) (imps [] ⟨by kernel_rfl, by kernel_rfl, by kernel_rfl, by kernel_rfl, by kernel_rfl, trivial⟩ trivial)
      refine aw_cond_f rfl hb74 ?_
      refine aw_exit ?_
      iterate 2 (refine post_then_exit ?_)
      obtain rfl := Option.some.inj hF
      exact post_lp_break _ ⟨_, rfl, rfl⟩ (imps [] ⟨by kernel_rfl, by kernel_rfl, trivial⟩ trivial)
    rintro _ ⟨⟨⟩, rfl, rfl⟩
    have hF := elim_next hK82
    clear hK82
    refine post_next ?_
    iterate 2 (refine aw_seq ?_)
    refine aw_region ?_
    refine rgp (op_field_vp rfl rfl Tryd_fld_26_3 rfl rfl) ?_
    refine rmv ?_
    refine rgp (op_len_vs (n := y19.length) rfl rfl (List.length_map ..) Tryd_slc_35 rfl rfl) ?_
    obtain ⟨y85, h86, hF⟩ := bind_some hF
    refine rgp (op_sliceArr (f := eGOwner) (l := (a0.fOwn).l) (nl := (some (y19.length : Int))) (nh := none) (nm := none) rfl rfl rfl rfl rfl (.inl rfl) Tryd_arr_24 rfl (fun _ => rfl) rfl rfl h86 rfl rfl) ?_
    refine rgp (op_len_vs (n := y85.length) rfl rfl (List.length_map ..) Tryd_slc_35 rfl rfl) ?_
    refine rmv ?_
    refine reg_nil ?_
    refine post_imp (s' := ⟨74, [(64, some (.pv (.vs 2 (List.map eGOwner y85)))), (65, some (.pv (.int .i64 (y85.length : Int)))), (66, some (.pv (.int .i64 0)))], [], 0, [], [], 0, []⟩) (imps [] ⟨by kernel_rfl, by kernel_rfl, by kernel_rfl, trivial⟩ trivial) ?_
    refine post_next ?_
    obtain ⟨lr108, hF, hK109⟩ := bind_some hF
    refine aw_for ((((y85.length : Int) : Int) - (0)).toNat + 1) (fun s1 => ∃ q, lr108 = .next q ∧ s1 = ⟨74, [], [], 0, [], [], 0, []⟩) ?_ ?_
    · refine rnd_loop (α := Int) (fun q => ⟨74, [(64, some (.pv (.vs 2 (List.map eGOwner y85)))), (65, some (.pv (.int .i64 (y85.length : Int)))), (66, some (.pv (.int .i64 q)))], [], 0, [], [], 0, []⟩) (fun k q => kind_Right_L3 y85 k q = some lr108) 0 (imps [] ⟨by kernel_rfl, by kernel_rfl, by kernel_rfl, trivial⟩ trivial) hF (fun q h => by cases h) ?_
      clear hF
      rintro k x93 hF ih
      refine rnd_succ ?_
      refine aw_seq ?_
      refine aw_region ?_
      refine rgp (op_int (k := .i64) (m := x93) (n := (y85.length : Int)) rfl rfl rfl rfl rfl rfl) ?_
      refine reg_nil ?_
      refine post_imp (s' := ⟨74, [(64, some (.pv (.vs 2 (List.map eGOwner y85)))), (65, some (.pv (.int .i64 (y85.length : Int)))), (66, some (.pv (.int .i64 x93))), (67, some (.pv (.bool (decide (x93 < (y85.length : Int))))))], [], 0, [], [], 0, []⟩) (imps [] ⟨by kernel_rfl, by kernel_rfl, by kernel_rfl, by kernel_rfl, trivial⟩ trivial) ?_
      refine post_next ?_
      refine aw_seq ?_
      rcases ite_some hF with ⟨hb101, hF⟩ | ⟨hb101, hF⟩
      · refine aw_cond_t rfl hb101 ?_
        refine aw_skip ?_
        refine post_next ?_
        refine aw_seq ?_
        refine aw_block ?_
        refine aw_seq ?_
        refine aw_region ?_
        obtain ⟨y104, h105, hF⟩ := bind_some hF
        refine rgp (op_index_vs (k := .i64) rfl rfl rfl (idx_map eGOwner h105) Tryd_slc_35 rfl rfl) ?_
        refine rgp (op_load_vp_agg (ps := eGOwner y104) rfl rfl rfl rfl Tryd_agg_23 rfl rfl) ?_
        refine rgp (op_alloc 0 rfl (ps := (eGOwner zGOwner)) rfl Tryd_zer_23 (by exact ⟨rfl, rfl, trivial⟩) rfl rfl) ?_
        refine rgp (op_store_lp (n := 2) rfl rfl rfl rfl rfl (or_agg Tryd_agg_23) (by rw [Tryd_non_23]; rfl) rfl rfl rfl) ?_
        refine reg_nil ?_
        refine post_imp (s' := ⟨74, [(11, some (.lp 0 0)), (64, some (.pv (.vs 2 (List.map eGOwner y85)))), (65, some (.pv (.int .i64 (y85.length : Int)))), (66, some (.pv (.int .i64 x93)))], [(0, some (.box 23 (bxv (eGOwner y104))))], 1, [], [], 0, []⟩) (imps [0] ⟨by kernel_rfl, by kernel_rfl, by kernel_rfl, by kernel_rfl, trivial⟩ ⟨by kernel_rfl, trivial⟩) ?_
        refine post_next ?_
        refine aw_seq ?_
        refine aw_region ?_
        refine rgp (op_load_lp_agg (ps := eGOwner y104) rfl rfl rfl rfl rfl rfl Tryd_agg_23 rfl rfl) ?_
        refine rgp (op_build (zs := (eGOwner zGOwner)) (r := eGOwner ({ fKind := 0, fN := 0 } : GOwner)) rfl Tryd_zer_23 (by exact ⟨rfl, rfl, trivial⟩) Tryd_plc_23 rfl rfl rfl rfl) ?_
        refine rgp (op_eqAgg_neq (r := bGOwner y104 ({ fKind := 0, fN := 0 } : GOwner)) rfl rfl rfl Tryd_eqt_23 rfl rfl rfl rfl rfl) ?_
        refine reg_nil ?_
        refine post_imp (s' := ⟨74, [(64, some (.pv (.vs 2 (List.map eGOwner y85)))), (65, some (.pv (.int .i64 (y85.length : Int)))), (66, some (.pv (.int .i64 x93))), (72, some (.pv (.bool (!(bGOwner y104 ({ fKind := 0, fN := 0 } : GOwner))))))], [], 0, [], [], 0, []⟩) (imps [] ⟨by kernel_rfl, by kernel_rfl, by kernel_rfl, by kernel_rfl, trivial⟩ trivial) ?_
        refine post_next ?_
        rcases ite_some hF with ⟨hb106, hF⟩ | ⟨hb106, hF⟩
        · refine aw_cond_t rfl hb106 ?_
          refine aw_seq ?_
          refine aw_region ?_
          refine ras ?_
          refine reg_nil ?_
          refine post_imp (s' := ⟨74, [(4, some (.pv (.bool false)))], [], 0, [], [], 0, []⟩) (imps [] ⟨by kernel_rfl, trivial⟩ trivial) ?_
          refine post_next ?_
          refine aw_ret ?_
          refine post_block_ret ?_
          iterate 2 (refine post_then_ret ?_)
          refine post_lp_ret ?_
          obtain rfl := Option.some.inj hF
          have hF := elim_stop hK109
          refine post_then_ret ?_
          obtain rfl := Option.some.inj hF
          exact prt
        refine aw_cond_f rfl hb106 ?_
        refine aw_skip ?_
        refine post_block_normal ?_
        refine post_next ?_
        refine aw_region ?_
        refine rgp (op_int (k := .i64) (m := x93) (n := 1) rfl rfl rfl rfl rfl rfl) ?_
        refine rmv ?_
        refine reg_nil ?_
        refine post_round ?_
        exact rnd_back (ih (w_i64 (x93 + 1)) hF) (imps [] ⟨by kernel_rfl, by kernel_rfl, by kernel_rfl, trivial⟩ trivial)
      refine aw_cond_f rfl hb101 ?_
      refine aw_exit ?_
      iterate 2 (refine post_then_exit ?_)
      obtain rfl := Option.some.inj hF
      exact post_lp_break _ ⟨_, rfl, rfl⟩ (imps [] trivial trivial)
    rintro _ ⟨⟨⟩, rfl, rfl⟩
    have hF := elim_next hK109
    clear hK109
    refine post_next ?_
    refine aw_seq ?_
    refine aw_region ?_
    refine ras ?_
    refine reg_nil ?_
    refine post_imp (s' := ⟨74, [(4, some (.pv (.bool true)))], [], 0, [], [], 0, []⟩) (imps [] ⟨by kernel_rfl, trivial⟩ trivial) ?_
    refine post_next ?_
    refine aw_ret ?_
    obtain rfl := Option.some.inj hF
    exact prt
  refine aw_cond_f rfl hb6 ?_
  refine aw_seq ?_
  refine aw_region ?_
  refine ras ?_
  refine reg_nil ?_
  refine post_imp (s' := ⟨74, [(4, some (.pv (.bool false)))], [], 0, [], [], 0, []⟩) (imps [] ⟨by kernel_rfl, trivial⟩ trivial) ?_
  refine post_next ?_
  refine aw_ret ?_
  refine post_block_ret ?_
  refine post_then_ret ?_
  obtain rfl := Option.some.inj hF
  exact prt
theorem owner_Text_ok {a0 : GOwner} {a1 : List (List UInt8)} {r : (List UInt8)} (hF : owner_Text a0 a1 = some r) : Abs.Fn globs_Tryd Tryd.prog 36 [.agg (eGOwner a0), .vs 1 (List.map eS a1)] [.p (.str r)] := by
  unfold owner_Text at hF
  refine fn_of_body (n := 30) Tryd.func36 rfl rfl rfl ?_
  intro w O
  refine aw_seq ?_
  refine aw_region ?_
  refine rgp (op_box 0 rfl rfl rfl rfl rfl rfl) ?_
  refine ras ?_
  refine reg_nil ?_
  refine post_imp (s' := ⟨30, [(1, some (.pv (.vs 1 (List.map eS a1)))), (2, some (.lp 0 0))], [(0, some (.box 23 (bxv (eGOwner a0))))], 1, [], [], 0, []⟩) (imps [0] ⟨by kernel_rfl, by kernel_rfl, trivial⟩ ⟨by kernel_rfl, trivial⟩) ?_
  refine post_next ?_
  iterate 2 (refine aw_seq ?_)
  refine aw_region ?_
  refine rgp (op_load_lp_agg (ps := eGOwner a0) rfl rfl rfl rfl rfl rfl Tryd_agg_23 rfl rfl) ?_
  refine rmv ?_
  refine rgp (op_len_vs (n := a1.length) rfl rfl (List.length_map ..) Tryd_slc_27 rfl rfl) ?_
  obtain ⟨y3, h4, hF⟩ := bind_some hF
  refine rgp (op_call 1 rfl (caps := []) (args := [.agg (eGOwner a0), .int .i64 (a1.length : Int)]) (rs := [.p (.bool y3)]) rfl rfl rfl Tryd_cal_34 (owner_Right_ok h4) rfl rfl rfl) ?_
  refine rgp (op_not rfl rfl rfl rfl) ?_
  refine reg_nil ?_
  refine post_imp (s' := ⟨30, [(1, some (.pv (.vs 1 (List.map eS a1)))), (2, some (.lp 0 0)), (9, some (.pv (.bool (!y3))))], [(0, some (.box 23 (bxv (eGOwner a0))))], 1, [], [], 0, []⟩) (imps [0] ⟨by kernel_rfl, by kernel_rfl, by kernel_rfl, trivial⟩ ⟨by kernel_rfl, trivial⟩) ?_
  refine post_next ?_
  rcases ite_some hF with ⟨hb5, hF⟩ | ⟨hb5, hF⟩
  · refine aw_cond_t rfl hb5 ?_
    refine aw_seq ?_
    refine aw_region ?_
    refine ras ?_
    refine reg_nil ?_
    refine post_imp (s' := ⟨30, [(4, some (.pv (.str [])))], [], 0, [], [], 0, []⟩) (imps [] ⟨by kernel_rfl, trivial⟩ trivial) ?_
    refine post_next ?_
    refine aw_ret ?_
    refine post_then_ret ?_
    obtain rfl := Option.some.inj hF
    exact prt
  refine aw_cond_f rfl hb5 ?_
  refine aw_skip ?_
  refine post_next ?_
  iterate 2 (refine aw_seq ?_)
  refine aw_region ?_
  refine rgp (op_field_lp rfl rfl Tryd_fld_23_0 rfl rfl) ?_
  refine rgp (op_load_lp (v := .pv (.int .i64 a0.fKind)) rfl rfl rfl rfl Tryd_one_3 rfl rfl) ?_
  refine reg_nil ?_
  refine post_imp (s' := ⟨30, [(1, some (.pv (.vs 1 (List.map eS a1)))), (2, some (.lp 0 0)), (11, some (.pv (.int .i64 a0.fKind)))], [(0, some (.box 23 (bxv (eGOwner a0))))], 1, [], [], 0, []⟩) (imps [0] ⟨by kernel_rfl, by kernel_rfl, by kernel_rfl, trivial⟩ ⟨by kernel_rfl, trivial⟩) ?_
  refine post_next ?_
  refine aw_block ?_
  refine aw_seq ?_
  refine aw_region ?_
  refine rgp (op_int (k := .i64) (m := a0.fKind) (n := 1) rfl rfl rfl rfl rfl rfl) ?_
  refine ras ?_
  refine reg_nil ?_
  refine post_imp (s' := ⟨30, [(1, some (.pv (.vs 1 (List.map eS a1)))), (2, some (.lp 0 0)), (11, some (.pv (.int .i64 a0.fKind))), (12, some (.pv (.bool (a0.fKind == 1))))], [(0, some (.box 23 (bxv (eGOwner a0))))], 1, [], [], 0, []⟩) (imps [0] ⟨by kernel_rfl, by kernel_rfl, by kernel_rfl, by kernel_rfl, trivial⟩ ⟨by kernel_rfl, trivial⟩) ?_
  refine post_next ?_
  rcases ite_some hF with ⟨hb6, hF⟩ | ⟨hb6, hF⟩
  · refine aw_cond_t rfl hb6 ?_
    refine aw_seq ?_
    refine aw_region ?_
    refine ras ?_
    refine reg_nil ?_
    refine post_imp (s' := ⟨30, [(4, some (.pv (.str [114, 101, 112])))], [], 0, [], [], 0, []⟩) (imps [] ⟨by kernel_rfl, trivial⟩ trivial) ?_
    refine post_next ?_
    refine aw_ret ?_
    refine post_block_ret ?_
    refine post_then_ret ?_
    obtain rfl := Option.some.inj hF
    exact prt
  refine aw_cond_f rfl hb6 ?_
  refine aw_seq ?_
  refine aw_region ?_
  refine rgp (op_int (k := .i64) (m := a0.fKind) (n := 2) rfl rfl rfl rfl rfl rfl) ?_
  refine ras ?_
  refine reg_nil ?_
  refine post_imp (s' := ⟨30, [(1, some (.pv (.vs 1 (List.map eS a1)))), (2, some (.lp 0 0)), (11, some (.pv (.int .i64 a0.fKind))), (14, some (.pv (.bool (a0.fKind == 2))))], [(0, some (.box 23 (bxv (eGOwner a0))))], 1, [], [], 0, []⟩) (imps [0] ⟨by kernel_rfl, by kernel_rfl, by kernel_rfl, by kernel_rfl, trivial⟩ ⟨by kernel_rfl, trivial⟩) ?_
  refine post_next ?_
  rcases ite_some hF with ⟨hb7, hF⟩ | ⟨hb7, hF⟩
  · refine aw_cond_t rfl hb7 ?_
    refine aw_seq ?_
    refine aw_region ?_
    refine ras ?_
    refine reg_nil ?_
    refine post_imp (s' := ⟨30, [(4, some (.pv (.str [112, 101, 101, 114])))], [], 0, [], [], 0, []⟩) (imps [] ⟨by kernel_rfl, trivial⟩ trivial) ?_
    refine post_next ?_
    refine aw_ret ?_
    refine post_block_ret ?_
    refine post_then_ret ?_
    obtain rfl := Option.some.inj hF
    exact prt
  refine aw_cond_f rfl hb7 ?_
  refine aw_seq ?_
  refine aw_region ?_
  refine rgp (op_int (k := .i64) (m := a0.fKind) (n := 4) rfl rfl rfl rfl rfl rfl) ?_
  refine ras ?_
  refine reg_nil ?_
  refine post_imp (s' := ⟨30, [(1, some (.pv (.vs 1 (List.map eS a1)))), (2, some (.lp 0 0)), (11, some (.pv (.int .i64 a0.fKind))), (16, some (.pv (.bool (a0.fKind == 4))))], [(0, some (.box 23 (bxv (eGOwner a0))))], 1, [], [], 0, []⟩) (imps [0] ⟨by kernel_rfl, by kernel_rfl, by kernel_rfl, by kernel_rfl, trivial⟩ ⟨by kernel_rfl, trivial⟩) ?_
  refine post_next ?_
  rcases ite_some hF with ⟨hb8, hF⟩ | ⟨hb8, hF⟩
  · refine aw_cond_t rfl hb8 ?_
    refine aw_seq ?_
    refine aw_region ?_
    refine ras ?_
    refine reg_nil ?_
    refine post_imp (s' := ⟨30, [(4, some (.pv (.str [119, 111, 114, 108, 100])))], [], 0, [], [], 0, []⟩) (imps [] ⟨by kernel_rfl, trivial⟩ trivial) ?_
    refine post_next ?_
    refine aw_ret ?_
    refine post_block_ret ?_
    refine post_then_ret ?_
    obtain rfl := Option.some.inj hF
    exact prt
  refine aw_cond_f rfl hb8 ?_
  refine aw_seq ?_
  refine aw_region ?_
  refine rgp (op_int (k := .i64) (m := a0.fKind) (n := 5) rfl rfl rfl rfl rfl rfl) ?_
  refine ras ?_
  refine reg_nil ?_
  refine post_imp (s' := ⟨30, [(1, some (.pv (.vs 1 (List.map eS a1)))), (2, some (.lp 0 0)), (11, some (.pv (.int .i64 a0.fKind))), (18, some (.pv (.bool (a0.fKind == 5))))], [(0, some (.box 23 (bxv (eGOwner a0))))], 1, [], [], 0, []⟩) (imps [0] ⟨by kernel_rfl, by kernel_rfl, by kernel_rfl, by kernel_rfl, trivial⟩ ⟨by kernel_rfl, trivial⟩) ?_
  refine post_next ?_
  rcases ite_some hF with ⟨hb9, hF⟩ | ⟨hb9, hF⟩
  · refine aw_cond_t rfl hb9 ?_
    refine aw_seq ?_
    refine aw_region ?_
    refine ras ?_
    refine reg_nil ?_
    refine post_imp (s' := ⟨30, [(4, some (.pv (.str [97, 110, 121])))], [], 0, [], [], 0, []⟩) (imps [] ⟨by kernel_rfl, trivial⟩ trivial) ?_
    refine post_next ?_
    refine aw_ret ?_
    refine post_block_ret ?_
    refine post_then_ret ?_
    obtain rfl := Option.some.inj hF
    exact prt
  refine aw_cond_f rfl hb9 ?_
  refine aw_seq ?_
  refine aw_region ?_
  refine rgp (op_int (k := .i64) (m := a0.fKind) (n := 6) rfl rfl rfl rfl rfl rfl) ?_
  refine ras ?_
  refine reg_nil ?_
  refine post_imp (s' := ⟨30, [(1, some (.pv (.vs 1 (List.map eS a1)))), (2, some (.lp 0 0)), (11, some (.pv (.int .i64 a0.fKind))), (20, some (.pv (.bool (a0.fKind == 6))))], [(0, some (.box 23 (bxv (eGOwner a0))))], 1, [], [], 0, []⟩) (imps [0] ⟨by kernel_rfl, by kernel_rfl, by kernel_rfl, by kernel_rfl, trivial⟩ ⟨by kernel_rfl, trivial⟩) ?_
  refine post_next ?_
  rcases ite_some hF with ⟨hb10, hF⟩ | ⟨hb10, hF⟩
  · refine aw_cond_t rfl hb10 ?_
    refine aw_seq ?_
    refine aw_region ?_
    refine ras ?_
    refine reg_nil ?_
    refine post_imp (s' := ⟨30, [(4, some (.pv (.str [117, 110, 105, 113, 117, 101])))], [], 0, [], [], 0, []⟩) (imps [] ⟨by kernel_rfl, trivial⟩ trivial) ?_
    refine post_next ?_
    refine aw_ret ?_
    refine post_block_ret ?_
    refine post_then_ret ?_
    obtain rfl := Option.some.inj hF
    exact prt
  refine aw_cond_f rfl hb10 ?_
  refine aw_seq ?_
  refine aw_region ?_
  refine rgp (op_int (k := .i64) (m := a0.fKind) (n := 7) rfl rfl rfl rfl rfl rfl) ?_
  refine ras ?_
  refine reg_nil ?_
  refine post_imp (s' := ⟨30, [(1, some (.pv (.vs 1 (List.map eS a1)))), (2, some (.lp 0 0)), (22, some (.pv (.bool (a0.fKind == 7))))], [(0, some (.box 23 (bxv (eGOwner a0))))], 1, [], [], 0, []⟩) (imps [0] ⟨by kernel_rfl, by kernel_rfl, by kernel_rfl, trivial⟩ ⟨by kernel_rfl, trivial⟩) ?_
  refine post_next ?_
  rcases ite_some hF with ⟨hb11, hF⟩ | ⟨hb11, hF⟩
  · refine aw_cond_t rfl hb11 ?_
    refine aw_seq ?_
    refine aw_region ?_
    refine ras ?_
    refine reg_nil ?_
    refine post_imp (s' := ⟨30, [(4, some (.pv (.str [63])))], [], 0, [], [], 0, []⟩) (imps [] ⟨by kernel_rfl, trivial⟩ trivial) ?_
    refine post_next ?_
    refine aw_ret ?_
    refine post_block_ret ?_
    refine post_then_ret ?_
    obtain rfl := Option.some.inj hF
    exact prt
  refine aw_cond_f rfl hb11 ?_
  refine aw_skip ?_
  refine post_block_normal ?_
  refine post_next ?_
  refine aw_seq ?_
  refine aw_region ?_
  refine rmv ?_
  refine rgp (op_field_lp rfl rfl Tryd_fld_23_1 rfl rfl) ?_
  refine rgp (op_load_lp (v := .pv (.int .i64 a0.fN)) rfl rfl rfl rfl Tryd_one_3 rfl rfl) ?_
  refine rgp (op_int (k := .i64) (m := a0.fN) (n := 1) rfl rfl rfl rfl rfl rfl) ?_
  obtain ⟨y12, h13, hF⟩ := bind_some hF
  refine rgp (op_index_vs (k := .i64) rfl rfl rfl (idx_map eS h13) Tryd_slc_27 rfl rfl) ?_
  refine rgp (op_load_vp (p := .str y12) rfl rfl rfl Tryd_one_9 rfl rfl) ?_
  refine ras ?_
  refine reg_nil ?_
  refine post_imp (s' := ⟨30, [(4, some (.pv (.str y12)))], [], 0, [], [], 0, []⟩) (imps [] ⟨by kernel_rfl, trivial⟩ trivial) ?_
  refine post_next ?_
  refine aw_ret ?_
  obtain rfl := Option.some.inj hF
  exact prt
theorem strings_Join_ok {a0 : List (List UInt8)} {a1 r : List UInt8} (hF : strings_Join a0 a1 = some r) : Abs.Fn globs_Tryd Tryd.prog 37 [.vs 1 (List.map eS a0), .str a1] [.p (.str r)] := fn_join Tryd.strings_Join_none Tryd.strings_Join hF
theorem kind_Text_ok {a0 : GType} {a1 : List (List UInt8)} {r : (List UInt8)} (hF : kind_Text a0 a1 = some r) : Abs.Fn globs_Tryd Tryd.prog 13 [.agg (eGType a0), .vs 1 (List.map eS a1)] [.p (.str r)] := by
  unfold kind_Text at hF
  refine fn_of_body (n := 57) Tryd.func13 rfl rfl rfl ?_
  intro w O
  refine aw_seq ?_
  refine aw_region ?_
  refine rgp (op_box 0 rfl rfl rfl rfl rfl rfl) ?_
  refine ras ?_
  refine reg_nil ?_
  refine post_imp (s' := ⟨57, [(1, some (.pv (.vs 1 (List.map eS a1)))), (2, some (.lp 0 0))], [(0, some (.box 26 (bxv (eGType a0))))], 1, [], [], 0, []⟩) (imps [0] ⟨by kernel_rfl, by kernel_rfl, trivial⟩ ⟨by kernel_rfl, trivial⟩) ?_
  refine post_next ?_
  iterate 2 (refine aw_seq ?_)
  refine aw_region ?_
  refine rgp (op_load_lp_agg (ps := eGType a0) rfl rfl rfl rfl rfl rfl Tryd_agg_26 rfl rfl) ?_
  refine rmv ?_
  refine rgp (op_len_vs (n := a1.length) rfl rfl (List.length_map ..) Tryd_slc_27 rfl rfl) ?_
  obtain ⟨y3, h4, hF⟩ := bind_some hF
  refine rgp (op_call 1 rfl (caps := []) (args := [.agg (eGType a0), .int .i64 (a1.length : Int)]) (rs := [.p (.bool y3)]) rfl rfl rfl Tryd_cal_11 (kind_Right_ok h4) rfl rfl rfl) ?_
  refine rgp (op_not rfl rfl rfl rfl) ?_
  refine reg_nil ?_
  refine post_imp (s' := ⟨57, [(1, some (.pv (.vs 1 (List.map eS a1)))), (2, some (.lp 0 0)), (13, some (.pv (.bool (!y3))))], [(0, some (.box 26 (bxv (eGType a0))))], 1, [], [], 0, []⟩) (imps [0] ⟨by kernel_rfl, by kernel_rfl, by kernel_rfl, trivial⟩ ⟨by kernel_rfl, trivial⟩) ?_
  refine post_next ?_
  rcases ite_some hF with ⟨hb5, hF⟩ | ⟨hb5, hF⟩
  · refine aw_cond_t rfl hb5 ?_
    refine aw_seq ?_
    refine aw_region ?_
    refine ras ?_
    refine reg_nil ?_
    refine post_imp (s' := ⟨57, [(4, some (.pv (.str [])))], [], 0, [], [], 0, []⟩) (imps [] ⟨by kernel_rfl, trivial⟩ trivial) ?_
    refine post_next ?_
    refine aw_ret ?_
    refine post_then_ret ?_
    obtain rfl := Option.some.inj hF
    exact prt
  refine aw_cond_f rfl hb5 ?_
  refine aw_skip ?_
  refine post_next ?_
  iterate 2 (refine aw_seq ?_)
  refine aw_region ?_
  refine rgp (op_field_lp rfl rfl Tryd_fld_26_0 rfl rfl) ?_
  refine rgp (op_load_lp (v := .pv (.int .i64 a0.fKind)) rfl rfl rfl rfl Tryd_one_3 rfl rfl) ?_
  refine rgp (op_int (k := .i64) (m := a0.fKind) (n := 2) rfl rfl rfl rfl rfl rfl) ?_
  refine reg_nil ?_
  refine post_imp (s' := ⟨57, [(1, some (.pv (.vs 1 (List.map eS a1)))), (2, some (.lp 0 0)), (16, some (.pv (.bool (a0.fKind != 2))))], [(0, some (.box 26 (bxv (eGType a0))))], 1, [], [], 0, []⟩) (imps [0] ⟨by kernel_rfl, by kernel_rfl, by kernel_rfl, trivial⟩ ⟨by kernel_rfl, trivial⟩) ?_
  refine post_next ?_
  rcases ite_some hF with ⟨hb6, hF⟩ | ⟨hb6, hF⟩
  · refine aw_cond_t rfl hb6 ?_
    iterate 2 (refine aw_seq ?_)
    refine aw_region ?_
    refine rgp (op_field_lp rfl rfl Tryd_fld_26_0 rfl rfl) ?_
    refine rgp (op_load_lp (v := .pv (.int .i64 a0.fKind)) rfl rfl rfl rfl Tryd_one_3 rfl rfl) ?_
    refine rgp (op_int (k := .i64) (m := a0.fKind) (n := 1) rfl rfl rfl rfl rfl rfl) ?_
    refine reg_nil ?_
    refine post_imp (s' := ⟨57, [(19, some (.pv (.bool (a0.fKind == 1))))], [], 0, [], [], 0, []⟩) (imps [] ⟨by kernel_rfl, trivial⟩ trivial) ?_
    refine post_next ?_
    rcases ite_some hF with ⟨hb7, hF⟩ | ⟨hb7, hF⟩
    · refine aw_cond_t rfl hb7 ?_
      refine aw_seq ?_
      refine aw_region ?_
      refine ras ?_
      refine reg_nil ?_
      refine post_imp (s' := ⟨57, [(4, some (.pv (.str [105, 110, 116])))], [], 0, [], [], 0, []⟩) (imps [] ⟨by kernel_rfl, trivial⟩ trivial) ?_
      refine post_next ?_
      refine aw_ret ?_
      iterate 2 (refine post_then_ret ?_)
      obtain rfl := Option.some.inj hF
      exact prt
    refine aw_cond_f rfl hb7 ?_
    refine aw_skip ?_
    refine post_next ?_
    refine aw_seq ?_
    refine aw_region ?_
    refine ras ?_
    refine reg_nil ?_
    refine post_imp (s' := ⟨57, [(4, some (.pv (.str [118, 111, 105, 100])))], [], 0, [], [], 0, []⟩) (imps [] ⟨by kernel_rfl, trivial⟩ trivial) ?_
    refine post_next ?_
    refine aw_ret ?_
    refine post_then_ret ?_
    obtain rfl := Option.some.inj hF
    exact prt
  refine aw_cond_f rfl hb6 ?_
  refine aw_skip ?_
  refine post_next ?_
  refine aw_seq ?_
  refine aw_region ?_
  refine ras ?_
  refine reg_imp (imp_nil_own 5 9 1 1 rfl rfl) ?_
  refine reg_nil ?_
  refine post_imp (s' := ⟨57, [(1, some (.pv (.vs 1 (List.map eS a1)))), (2, some (.lp 0 0)), (5, some (.ls 1))], [(0, some (.box 26 (bxv (eGType a0)))), (1, some (.row 9 1 (List.map eS [])))], 2, [], [], 0, []⟩) (imps [0, 1] ⟨by kernel_rfl, by kernel_rfl, by kernel_rfl, trivial⟩ ⟨by kernel_rfl, by kernel_rfl, trivial⟩) ?_
  refine post_next ?_
  iterate 2 (refine aw_seq ?_)
  refine aw_region ?_
  refine reg_imp (imp_freeze [(0, some (.box 26 (bxv (eGType a0))))] [(2, some (.pv (.vp (eGType a0))))] (FzH.spec ⟨rfl, trivial⟩) ⟨⟨_, rfl, rfl⟩, trivial⟩) ?_
  obtain ⟨y10, h11, hF⟩ := bind_some hF
  refine rgp (op_call 2 rfl (caps := []) (args := [.vp (eGType a0)]) (rs := [.p (.vs 2 (List.map eGOwner y10))]) rfl rfl rfl Tryd_cal_33 (kind_own_ok h11) rfl rfl rfl) ?_
  refine rgp (op_len_vs (n := y10.length) rfl rfl (List.length_map ..) Tryd_slc_35 rfl rfl) ?_
  refine rmv ?_
  refine reg_nil ?_
  refine post_imp (s' := ⟨57, [(1, some (.pv (.vs 1 (List.map eS a1)))), (2, some (.pv (.vp (eGType a0)))), (5, some (.ls 0)), (20, some (.pv (.vs 2 (List.map eGOwner y10)))), (21, some (.pv (.int .i64 (y10.length : Int)))), (22, some (.pv (.int .i64 0)))], [(0, some (.row 9 1 (List.map eS [])))], 1, [], [], 0, []⟩) (imps [1] ⟨by kernel_rfl, by kernel_rfl, by kernel_rfl, by kernel_rfl, by kernel_rfl, by kernel_rfl, trivial⟩ ⟨by kernel_rfl, trivial⟩) ?_
  refine post_next ?_
  obtain ⟨x57, hF, hK58⟩ := bind_some hF
  refine aw_for ((((y10.length : Int) : Int) - (0)).toNat + 1) (fun s1 => s1 = ⟨57, [(2, some (.pv (.vp (eGType a0)))), (5, some (.ls 0))], [(0, some (.row 9 1 (List.map eS x57)))], 1, [], [], 0, []⟩) ?_ ?_
  · refine rnd_loop (α := (List (List UInt8)) × Int) (fun q => ⟨57, [(1, some (.pv (.vs 1 (List.map eS a1)))), (2, some (.pv (.vp (eGType a0)))), (5, some (.ls 0)), (20, some (.pv (.vs 2 (List.map eGOwner y10)))), (21, some (.pv (.int .i64 (y10.length : Int)))), (22, some (.pv (.int .i64 q.2)))], [(0, some (.row 9 1 (List.map eS q.1)))], 1, [], [], 0, []⟩) (fun k q => kind_Text_L1 a1 y10 k q.1 q.2 = some x57) ([], 0) (imps [0] ⟨by kernel_rfl, by kernel_rfl, by kernel_rfl, by kernel_rfl, by kernel_rfl, by kernel_rfl, trivial⟩ ⟨by kernel_rfl, trivial⟩) hF (fun q h => by cases h) ?_
    clear hF
    rintro k ⟨x25, x26⟩ hF ih
    refine rnd_succ ?_
    refine aw_seq ?_
    refine aw_region ?_
    refine rgp (op_int (k := .i64) (m := x26) (n := (y10.length : Int)) rfl rfl rfl rfl rfl rfl) ?_
    refine reg_nil ?_
    refine post_imp (s' := ⟨57, [(1, some (.pv (.vs 1 (List.map eS a1)))), (2, some (.pv (.vp (eGType a0)))), (5, some (.ls 0)), (20, some (.pv (.vs 2 (List.map eGOwner y10)))), (21, some (.pv (.int .i64 (y10.length : Int)))), (22, some (.pv (.int .i64 x26))), (23, some (.pv (.bool (decide (x26 < (y10.length : Int))))))], [(0, some (.row 9 1 (List.map eS x25)))], 1, [], [], 0, []⟩) (imps [0] ⟨by kernel_rfl, by kernel_rfl, by kernel_rfl, by kernel_rfl, by kernel_rfl, by kernel_rfl, by kernel_rfl, trivial⟩ ⟨by kernel_rfl, trivial⟩) ?_
    refine post_next ?_
    refine aw_seq ?_
    rcases ite_some hF with ⟨hb42, hF⟩ | ⟨hb42, hF⟩
    · refine aw_cond_t rfl hb42 ?_
      refine aw_skip ?_
      refine post_next ?_
      refine aw_seq ?_
      refine aw_block ?_
      refine aw_seq ?_
      refine aw_region ?_
      obtain ⟨y45, h46, hF⟩ := bind_some hF
      refine rgp (op_index_vs (k := .i64) rfl rfl rfl (idx_map eGOwner h46) Tryd_slc_35 rfl rfl) ?_
      refine rgp (op_load_vp_agg (ps := eGOwner y45) rfl rfl rfl rfl Tryd_agg_23 rfl rfl) ?_
      refine rgp (op_alloc 1 rfl (ps := (eGOwner zGOwner)) rfl Tryd_zer_23 (by exact ⟨rfl, rfl, trivial⟩) rfl rfl) ?_
      refine rgp (op_store_lp (n := 2) rfl rfl rfl rfl rfl (or_agg Tryd_agg_23) (by rw [Tryd_non_23]; rfl) rfl rfl rfl) ?_
      refine reg_nil ?_
      refine post_imp (s' := ⟨57, [(1, some (.pv (.vs 1 (List.map eS a1)))), (2, some (.pv (.vp (eGType a0)))), (5, some (.ls 0)), (7, some (.lp 1 0)), (20, some (.pv (.vs 2 (List.map eGOwner y10)))), (21, some (.pv (.int .i64 (y10.length : Int)))), (22, some (.pv (.int .i64 x26)))], [(0, some (.row 9 1 (List.map eS x25))), (1, some (.box 23 (bxv (eGOwner y45))))], 2, [], [], 0, []⟩) (imps [0, 1] ⟨by kernel_rfl, by kernel_rfl, by kernel_rfl, by kernel_rfl, by kernel_rfl, by kernel_rfl, by kernel_rfl, trivial⟩ ⟨by kernel_rfl, by kernel_rfl, trivial⟩) ?_
      refine post_next ?_
      refine aw_region ?_
      refine rmv ?_
      refine rgp (op_load_lp_agg (ps := eGOwner y45) rfl rfl rfl rfl rfl rfl Tryd_agg_23 rfl rfl) ?_
      refine rmv ?_
      obtain ⟨y51, h52, hF⟩ := bind_some hF
      refine rgp (op_call 2 rfl (caps := []) (args := [.agg (eGOwner y45), .vs 1 (List.map eS a1)]) (rs := [.p (.str y51)]) rfl rfl rfl Tryd_cal_36 (owner_Text_ok h52) rfl rfl rfl) ?_
      refine rgp (op_lit (rows := List.map eS ([y51] : List (List UInt8))) (zs := [.str []]) rfl rfl Tryd_slc_27 Tryd_zer_9 (by exact ⟨rfl, trivial⟩) rfl rfl rfl rfl rfl rfl rfl rfl) ?_
      obtain ⟨u53, h54, hF⟩ := bind_some hF
      refine rgp (op_append 2 rfl rfl rfl rfl rfl Tryd_slc_27 Tryd_elm_9 Tryd_zer_9 rfl rfl rfl (room_map (f := eS) (g := eS) h54) (List.map_append (f := eS) (l₁ := x25) (l₂ := [y51])).symm rfl rfl) ?_
      refine ras ?_
      refine reg_nil ?_
      refine post_imp (s' := ⟨57, [(1, some (.pv (.vs 1 (List.map eS a1)))), (2, some (.pv (.vp (eGType a0)))), (5, some (.ls 0)), (20, some (.pv (.vs 2 (List.map eGOwner y10)))), (21, some (.pv (.int .i64 (y10.length : Int)))), (22, some (.pv (.int .i64 x26)))], [(0, some (.row 9 1 (List.map eS (x25 ++ [y51]))))], 1, [], [], 0, []⟩) (imps [2] ⟨by kernel_rfl, by kernel_rfl, by kernel_rfl, by kernel_rfl, by kernel_rfl, by kernel_rfl, trivial⟩ ⟨by kernel_rfl, trivial⟩) ?_
      refine post_block_normal ?_
      refine post_next ?_
      refine aw_region ?_
      refine rgp (op_int (k := .i64) (m := x26) (n := 1) rfl rfl rfl rfl rfl rfl) ?_
      refine rmv ?_
      refine reg_nil ?_
      refine post_round ?_
      exact rnd_back (ih ((x25 ++ [y51]), w_i64 (x26 + 1)) hF) (imps [0] ⟨by kernel_rfl, by kernel_rfl, by kernel_rfl, by kernel_rfl, by kernel_rfl, by kernel_rfl, trivial⟩ ⟨by kernel_rfl, trivial⟩)
    refine aw_cond_f rfl hb42 ?_
    refine aw_exit ?_
    iterate 2 (refine post_then_exit ?_)
    obtain rfl := Option.some.inj hF
    exact post_lp_break _ rfl (imps [0] ⟨by kernel_rfl, by kernel_rfl, trivial⟩ ⟨by kernel_rfl, trivial⟩)
  rintro _ rfl
  have hF := hK58
  clear hK58
  refine post_next ?_
  refine aw_seq ?_
  refine aw_region ?_
  refine rgp (op_field_vp rfl rfl Tryd_fld_26_1 rfl rfl) ?_
  refine rgp (op_load_vp (p := .str a0.fClass) rfl rfl rfl Tryd_one_9 rfl rfl) ?_
  refine ras ?_
  refine reg_nil ?_
  refine post_imp (s' := ⟨57, [(2, some (.pv (.vp (eGType a0)))), (5, some (.ls 0)), (8, some (.pv (.str a0.fClass)))], [(0, some (.row 9 1 (List.map eS x57)))], 1, [], [], 0, []⟩) (imps [0] ⟨by kernel_rfl, by kernel_rfl, by kernel_rfl, trivial⟩ ⟨by kernel_rfl, trivial⟩) ?_
  refine post_next ?_
  refine aw_seq ?_
  obtain ⟨x70, hF, hK72⟩ := bind_some hF
  refine aw_cut (fun s1 => s1 = ⟨57, [(2, some (.pv (.vp (eGType a0)))), (5, some (.pv (.vs 1 (List.map eS x57)))), (8, some (.pv (.str x70)))], [], 0, [], [], 0, []⟩) ?_ ?_
  · refine aw_seq ?_
    refine aw_region ?_
    refine rmv ?_
    refine rgp (op_len_ls (n := x57.length) rfl rfl rfl (List.length_map ..) Tryd_slc_27 rfl rfl) ?_
    refine rgp (op_int (k := .i64) (m := (x57.length : Int)) (n := 1) rfl rfl rfl rfl rfl rfl) ?_
    refine reg_nil ?_
    refine post_imp (s' := ⟨57, [(2, some (.pv (.vp (eGType a0)))), (5, some (.ls 0)), (8, some (.pv (.str a0.fClass))), (37, some (.pv (.bool (decide ((x57.length : Int) > 1)))))], [(0, some (.row 9 1 (List.map eS x57)))], 1, [], [], 0, []⟩) (imps [0] ⟨by kernel_rfl, by kernel_rfl, by kernel_rfl, by kernel_rfl, trivial⟩ ⟨by kernel_rfl, trivial⟩) ?_
    refine post_next ?_
    rcases ite_some hF with ⟨hb59, hF⟩ | ⟨hb59, hF⟩
    · refine aw_cond_t rfl hb59 ?_
      refine aw_region ?_
      iterate 2 (refine rmv ?_)
      refine reg_imp (imp_freeze [(0, some (.row 9 1 (List.map eS x57)))] [(5, some (.pv (.vs 1 (List.map eS x57)))), (39, some (.pv (.vs 1 (List.map eS x57))))] (FzH.spec ⟨rfl, trivial⟩) ⟨⟨_, rfl, rfl⟩, ⟨_, rfl, rfl⟩, trivial⟩) ?_
      obtain ⟨y60, h61, hF⟩ := bind_some hF
      refine rgp (op_slice_vs (nl := (some 1)) (nh := none) (nm := none) rfl rfl rfl rfl rfl (.inl rfl) Tryd_slc_27 (cut_map (nl := (some 1)) (nh := none) eS h61) rfl rfl) ?_
      obtain ⟨y62, h63, hF⟩ := bind_some hF
      refine rgp (op_call 1 rfl (caps := []) (args := [.vs 1 (List.map eS y60), .str [44, 32]]) (rs := [.p (.str y62)]) rfl rfl rfl Tryd_cal_37 (strings_Join_ok h63) rfl rfl rfl) ?_
      obtain ⟨u64, h65, hF⟩ := bind_some hF
      refine rgp (op_concat rfl rfl rfl (room_str h65) rfl rfl) ?_
      obtain ⟨u66, h67, hF⟩ := bind_some hF
      refine rgp (op_concat rfl rfl rfl (room_str h67) rfl rfl) ?_
      obtain ⟨u68, h69, hF⟩ := bind_some hF
      refine rgp (op_concat rfl rfl rfl (room_str h69) rfl rfl) ?_
      refine ras ?_
      refine reg_nil ?_
      cases hF
      exact post_cut _ rfl (imps [] ⟨by kernel_rfl, by kernel_rfl, by kernel_rfl, trivial⟩ trivial)
    refine aw_cond_f rfl hb59 ?_
    refine aw_skip ?_
    cases hF
    refine post_imp (imp_freeze [(0, some (.row 9 1 (List.map eS x57)))] [(5, some (.pv (.vs 1 (List.map eS x57))))] (FzH.spec ⟨rfl, trivial⟩) ⟨⟨_, rfl, rfl⟩, trivial⟩) ?_
    exact post_cut _ rfl (imps [] ⟨by kernel_rfl, by kernel_rfl, by kernel_rfl, trivial⟩ trivial)
  rintro _ rfl
  have hF := hK72
  clear hK72
  refine post_next ?_
  iterate 2 (refine aw_seq ?_)
  refine aw_region ?_
  refine rgp (op_field_vp rfl rfl Tryd_fld_26_3 rfl rfl) ?_
  refine rgp (op_arr_vp (k := .i64) (m := 0) (n := 4) rfl rfl rfl Tryd_arr_24 rfl rfl rfl rfl) ?_
  refine rgp (op_field_vp rfl rfl Tryd_fld_23_0 rfl rfl) ?_
  refine rgp (op_load_vp (p := .int .i64 a0.fOwn.a0.fKind) rfl rfl rfl Tryd_one_3 rfl rfl) ?_
  refine rgp (op_int (k := .i64) (m := a0.fOwn.a0.fKind) (n := 7) rfl rfl rfl rfl rfl rfl) ?_
  refine reg_nil ?_
  refine post_imp (s' := ⟨57, [(5, some (.pv (.vs 1 (List.map eS x57)))), (8, some (.pv (.str x70))), (49, some (.pv (.bool (a0.fOwn.a0.fKind == 7))))], [], 0, [], [], 0, []⟩) (imps [] ⟨by kernel_rfl, by kernel_rfl, by kernel_rfl, trivial⟩ trivial) ?_
  refine post_next ?_
  rcases ite_some hF with ⟨hb73, hF⟩ | ⟨hb73, hF⟩
  · refine aw_cond_t rfl hb73 ?_
    refine aw_seq ?_
    refine aw_region ?_
    refine rmv ?_
    refine ras ?_
    refine reg_nil ?_
    refine post_imp (s' := ⟨57, [(4, some (.pv (.str x70)))], [], 0, [], [], 0, []⟩) (imps [] ⟨by kernel_rfl, trivial⟩ trivial) ?_
    refine post_next ?_
    refine aw_ret ?_
    refine post_then_ret ?_
    obtain rfl := Option.some.inj hF
    exact prt
  refine aw_cond_f rfl hb73 ?_
  refine aw_skip ?_
  refine post_next ?_
  refine aw_seq ?_
  refine aw_region ?_
  refine rmv ?_
  obtain ⟨y74, h75, hF⟩ := bind_some hF
  refine rgp (op_index_vs (k := .i64) rfl rfl rfl (idx_map eS h75) Tryd_slc_27 rfl rfl) ?_
  refine rgp (op_load_vp (p := .str y74) rfl rfl rfl Tryd_one_9 rfl rfl) ?_
  obtain ⟨u76, h77, hF⟩ := bind_some hF
  refine rgp (op_concat rfl rfl rfl (room_str h77) rfl rfl) ?_
  refine rmv ?_
  obtain ⟨u78, h79, hF⟩ := bind_some hF
  refine rgp (op_concat rfl rfl rfl (room_str h79) rfl rfl) ?_
  refine ras ?_
  refine reg_nil ?_
  refine post_imp (s' := ⟨57, [(4, some (.pv (.str ((y74 ++ [32]) ++ x70))))], [], 0, [], [], 0, []⟩) (imps [] ⟨by kernel_rfl, trivial⟩ trivial) ?_
  refine post_next ?_
  refine aw_ret ?_
  obtain rfl := Option.some.inj hF
  exact prt
theorem law05_awake_ok  {r : Bool} (hF : law05_awake = some r) : Abs.Fn globs_Tryd Tryd.prog 10 [] [.p (.bool r)] := by
  unfold law05_awake at hF
  refine fn_of_body (n := 19) Tryd.func10 rfl rfl rfl ?_
  intro w O
  refine aw_seq ?_
  refine aw_region ?_
  refine ras ?_
  refine reg_nil ?_
  refine post_imp (s' := ⟨19, [], [], 0, [], [], 0, []⟩) (imps [] trivial trivial) ?_
  refine post_next ?_
  refine aw_seq ?_
  refine aw_region ?_
  refine rgp (op_build (zs := (eGOwner zGOwner)) (r := eGOwner ({ fKind := 1, fN := 0 } : GOwner)) rfl Tryd_zer_23 (by exact ⟨rfl, rfl, trivial⟩) Tryd_plc_23 rfl rfl rfl rfl) ?_
  refine rgp (op_build (zs := (eGOwner zGOwner)) (r := eGOwner ({ fKind := 3, fN := 1 } : GOwner)) rfl Tryd_zer_23 (by exact ⟨rfl, rfl, trivial⟩) Tryd_plc_23 rfl rfl rfl rfl) ?_
  refine rgp (op_buildArr (zs := ((eA4 eGOwner) (⟨zGOwner, zGOwner, zGOwner, zGOwner⟩ : A4 GOwner))) (r := (eA4 eGOwner) (⟨({ fKind := 1, fN := 0 } : GOwner), ({ fKind := 3, fN := 1 } : GOwner), zGOwner, zGOwner⟩ : A4 GOwner)) rfl Tryd_zer_24 (by exact ⟨rfl, rfl, rfl, rfl, rfl, rfl, rfl, rfl, trivial⟩) Tryd_arr_24 rfl rfl rfl rfl) ?_
  refine rgp (op_build (zs := (eGType zGType)) (r := eGType ({ fKind := 2, fClass := [76, 105, 115, 116], fN := 1, fOwn := (⟨({ fKind := 1, fN := 0 } : GOwner), ({ fKind := 3, fN := 1 } : GOwner), zGOwner, zGOwner⟩ : A4 GOwner) } : GType)) rfl Tryd_zer_26 (by exact ⟨rfl, rfl, rfl, rfl, rfl, rfl, rfl, rfl, rfl, rfl, rfl, trivial⟩) Tryd_plc_26 rfl rfl rfl rfl) ?_
  refine rgp (op_alloc 0 rfl (ps := (eGType zGType)) rfl Tryd_zer_26 (by exact ⟨rfl, rfl, rfl, rfl, rfl, rfl, rfl, rfl, rfl, rfl, rfl, trivial⟩) rfl rfl) ?_
  refine rgp (op_store_lp (n := 11) rfl rfl rfl rfl rfl (or_agg Tryd_agg_26) (by rw [Tryd_non_26]; rfl) rfl rfl rfl) ?_
  refine reg_nil ?_
  refine post_imp (s' := ⟨19, [(1, some (.lp 0 0))], [(0, some (.box 26 (bxv (eGType ({ fKind := 2, fClass := [76, 105, 115, 116], fN := 1, fOwn := (⟨({ fKind := 1, fN := 0 } : GOwner), ({ fKind := 3, fN := 1 } : GOwner), zGOwner, zGOwner⟩ : A4 GOwner) } : GType)))))], 1, [], [], 0, []⟩) (imps [0] ⟨by kernel_rfl, trivial⟩ ⟨by kernel_rfl, trivial⟩) ?_
  refine post_next ?_
  refine aw_seq ?_
  refine aw_region ?_
  refine rgp (op_load_lp_agg (ps := eGType ({ fKind := 2, fClass := [76, 105, 115, 116], fN := 1, fOwn := (⟨({ fKind := 1, fN := 0 } : GOwner), ({ fKind := 3, fN := 1 } : GOwner), zGOwner, zGOwner⟩ : A4 GOwner) } : GType)) rfl rfl rfl rfl rfl rfl Tryd_agg_26 rfl rfl) ?_
  refine rgp (op_lit (rows := List.map eS ([[100, 97, 116, 97]] : List (List UInt8))) (zs := [.str []]) rfl rfl Tryd_slc_27 Tryd_zer_9 (by exact ⟨rfl, trivial⟩) rfl rfl rfl rfl rfl rfl rfl rfl) ?_
  obtain ⟨y1, h2, hF⟩ := bind_some hF
  refine rgp (op_call 1 rfl (caps := []) (args := [.agg (eGType ({ fKind := 2, fClass := [76, 105, 115, 116], fN := 1, fOwn := (⟨({ fKind := 1, fN := 0 } : GOwner), ({ fKind := 3, fN := 1 } : GOwner), zGOwner, zGOwner⟩ : A4 GOwner) } : GType)), .vs 1 (List.map eS [[100, 97, 116, 97]])]) (rs := [.p (.str y1)]) rfl rfl rfl Tryd_cal_13 (kind_Text_ok h2) rfl rfl rfl) ?_
  refine rgp (op_str rfl rfl rfl rfl rfl rfl) ?_
  refine rmv ?_
  rcases ite_some hF with ⟨hb3, hF⟩ | ⟨hb3, hF⟩
  · refine rgn hb3 (op_load_lp_agg (ps := eGType ({ fKind := 2, fClass := [76, 105, 115, 116], fN := 1, fOwn := (⟨({ fKind := 1, fN := 0 } : GOwner), ({ fKind := 3, fN := 1 } : GOwner), zGOwner, zGOwner⟩ : A4 GOwner) } : GType)) rfl rfl rfl rfl rfl rfl Tryd_agg_26 rfl rfl) ?_
    obtain ⟨y4, h5, hF⟩ := bind_some hF
    refine rgn hb3 (op_call 1 rfl (caps := []) (args := [.agg (eGType ({ fKind := 2, fClass := [76, 105, 115, 116], fN := 1, fOwn := (⟨({ fKind := 1, fN := 0 } : GOwner), ({ fKind := 3, fN := 1 } : GOwner), zGOwner, zGOwner⟩ : A4 GOwner) } : GType)), .int .i64 1]) (rs := [.p (.bool y4)]) rfl rfl rfl Tryd_cal_11 (kind_Right_ok h5) rfl rfl rfl) ?_
    refine rpt hb3 ?_
    refine rmv ?_
    rcases ite_some hF with ⟨hb6, hF⟩ | ⟨hb6, hF⟩
    · refine rgn hb6 (op_load_lp_agg (ps := eGType ({ fKind := 2, fClass := [76, 105, 115, 116], fN := 1, fOwn := (⟨({ fKind := 1, fN := 0 } : GOwner), ({ fKind := 3, fN := 1 } : GOwner), zGOwner, zGOwner⟩ : A4 GOwner) } : GType)) rfl rfl rfl rfl rfl rfl Tryd_agg_26 rfl rfl) ?_
      obtain ⟨y7, h8, hF⟩ := bind_some hF
      refine rgn hb6 (op_call 1 rfl (caps := []) (args := [.agg (eGType ({ fKind := 2, fClass := [76, 105, 115, 116], fN := 1, fOwn := (⟨({ fKind := 1, fN := 0 } : GOwner), ({ fKind := 3, fN := 1 } : GOwner), zGOwner, zGOwner⟩ : A4 GOwner) } : GType)), .int .i64 0]) (rs := [.p (.bool y7)]) rfl rfl rfl Tryd_cal_11 (kind_Right_ok h8) rfl rfl rfl) ?_
      refine rgn hb6 (op_not rfl rfl rfl rfl) ?_
      refine rpt hb6 ?_
      refine ras ?_
      refine reg_nil ?_
      refine post_imp (s' := ⟨19, [(0, some (.pv (.bool (!y7))))], [], 0, [], [], 0, []⟩) (imps [] ⟨by kernel_rfl, trivial⟩ trivial) ?_
      refine post_next ?_
      refine aw_ret ?_
      obtain rfl := Option.some.inj hF
      exact prt
    iterate 3 (refine rgo_f hb6 ?_)
    refine rpf hb6 ?_
    refine ras ?_
    refine reg_nil ?_
    refine post_imp (s' := ⟨19, [(0, some (.pv (.bool false)))], [], 0, [], [], 0, []⟩) (imps [] ⟨by kernel_rfl, trivial⟩ trivial) ?_
    refine post_next ?_
    refine aw_ret ?_
    obtain rfl := Option.some.inj hF
    exact prt
  iterate 2 (refine rgo_f hb3 ?_)
  refine rpf hb3 ?_
  refine rmv ?_
  iterate 3 (refine rgo_f rfl ?_)
  refine rpf rfl ?_
  refine ras ?_
  refine reg_nil ?_
  refine post_imp (s' := ⟨19, [(0, some (.pv (.bool false)))], [], 0, [], [], 0, []⟩) (imps [] ⟨by kernel_rfl, trivial⟩ trivial) ?_
  refine post_next ?_
  refine aw_ret ?_
  obtain rfl := Option.some.inj hF
  exact prt
theorem slices_Clone_api_Owner_ok {a0 : List GOwner} {r : List GOwner} (hF : slices_Clone_api_Owner a0 = some r) : Abs.Fn globs_Tryd Tryd.prog 49 [.vs 2 (List.map eGOwner a0)] [.own 23 2 (List.map eGOwner r)] := by
  unfold slices_Clone_api_Owner at hF
  obtain ⟨u, h, hF⟩ := bind_some hF
  obtain rfl := Option.some.inj hF
  refine fn_of_body (n := 8) Tryd.func49 rfl rfl rfl ?_
  intro w O
  refine aw_seq ?_
  refine aw_region ?_
  refine reg_cons (guard_no rfl) (op_assign rfl rfl rfl rfl) ?_
  refine reg_nil ?_
  refine post_next ?_
  iterate 2 (refine aw_seq ?_)
  refine aw_region ?_
  refine reg_cons (guard_no rfl) (op_move rfl rfl rfl rfl) ?_
  refine op_eqNil rfl rfl rfl Tryd_slc_35 (guard_no rfl) rfl rfl ?_ ?_
  · intro hn
    refine reg_nil ?_
    refine post_next ?_
    refine aw_cond_t rfl rfl ?_
    refine aw_seq ?_
    refine aw_region ?_
    refine reg_cons (guard_no rfl) (op_assign rfl rfl rfl rfl) ?_
    refine reg_nil ?_
    refine post_next ?_
    refine aw_ret ?_
    refine post_then_ret ?_
    refine post_imp (imp_nil_own 2 23 2 0 rfl rfl) ?_
    rw [hn]
    exact post_ret rfl rfl (.cons _ _ _ _ _ (.tmp _ _ rfl) (.own _ _ _ _ rfl nolent3) .nil) (.inl rfl)
  · refine reg_nil ?_
    refine post_next ?_
    refine aw_cond_f rfl rfl ?_
    refine aw_skip ?_
    refine post_next ?_
    refine aw_seq ?_
    refine aw_region ?_
    refine reg_cons (guard_no rfl) (op_litOwn 0 rfl (rows := List.map eGOwner ([] : List GOwner)) (zs := [.int .i64 zGOwner.fKind, .int .i64 zGOwner.fN]) rfl rfl Tryd_slc_35 Tryd_zer_23 (by exact ⟨rfl, rfl, trivial⟩) rfl rfl rfl rfl rfl rfl rfl rfl) ?_
    refine reg_cons (guard_no rfl) (op_move rfl rfl rfl rfl) ?_
    refine reg_cons (guard_no rfl) (op_append 1 rfl rfl rfl rfl rfl Tryd_slc_35 Tryd_elm_23 Tryd_zer_23 rfl rfl rfl (room_map (f := eGOwner) (g := eGOwner) h) (List.map_append (f := eGOwner) (l₁ := []) (l₂ := a0)).symm rfl rfl) ?_
    refine reg_cons (guard_no rfl) (op_assign rfl rfl rfl rfl) ?_
    refine reg_nil ?_
    refine post_next ?_
    refine aw_ret ?_
    exact post_ret rfl rfl (.cons _ _ _ _ _ (.tmp _ _ rfl) (.own _ _ _ _ rfl nolent3) .nil) (.inl rfl)
theorem kind_Owners_ok {a0 : GType} {r : (List GOwner)} (hF : kind_Owners a0 = some r) : Abs.Fn globs_Tryd Tryd.prog 21 [.agg (eGType a0)] [.p (.vs 2 (List.map eGOwner r))] := by
  unfold kind_Owners at hF
  refine fn_of_body (n := 8) Tryd.func21 rfl rfl rfl ?_
  intro w O
  refine aw_seq ?_
  refine aw_region ?_
  refine rgp (op_box 0 rfl rfl rfl rfl rfl rfl) ?_
  refine ras ?_
  refine reg_nil ?_
  refine post_imp (s' := ⟨8, [(1, some (.lp 0 0))], [(0, some (.box 26 (bxv (eGType a0))))], 1, [], [], 0, []⟩) (imps [0] ⟨by kernel_rfl, trivial⟩ ⟨by kernel_rfl, trivial⟩) ?_
  refine post_next ?_
  iterate 2 (refine aw_seq ?_)
  refine aw_region ?_
  refine rgp (op_field_lp rfl rfl Tryd_fld_26_0 rfl rfl) ?_
  refine rgp (op_load_lp (v := .pv (.int .i64 a0.fKind)) rfl rfl rfl rfl Tryd_one_3 rfl rfl) ?_
  refine rgp (op_int (k := .i64) (m := a0.fKind) (n := 2) rfl rfl rfl rfl rfl rfl) ?_
  refine reg_nil ?_
  refine post_imp (s' := ⟨8, [(1, some (.lp 0 0)), (5, some (.pv (.bool (a0.fKind != 2))))], [(0, some (.box 26 (bxv (eGType a0))))], 1, [], [], 0, []⟩) (imps [0] ⟨by kernel_rfl, by kernel_rfl, trivial⟩ ⟨by kernel_rfl, trivial⟩) ?_
  refine post_next ?_
  rcases ite_some hF with ⟨hb1, hF⟩ | ⟨hb1, hF⟩
  · refine aw_cond_t rfl hb1 ?_
    refine aw_seq ?_
    refine aw_region ?_
    refine ras ?_
    refine reg_nil ?_
    refine post_imp (s' := ⟨8, [(2, some (.pv .nils))], [], 0, [], [], 0, []⟩) (imps [] ⟨by kernel_rfl, trivial⟩ trivial) ?_
    refine post_next ?_
    refine aw_ret ?_
    refine post_then_ret ?_
    refine post_imp (imp_nil_vs 2 2 rfl) ?_
    obtain rfl := Option.some.inj hF
    exact prt
  refine aw_cond_f rfl hb1 ?_
  refine aw_skip ?_
  refine post_next ?_
  refine aw_seq ?_
  refine aw_region ?_
  refine reg_imp (imp_freeze [(0, some (.box 26 (bxv (eGType a0))))] [(1, some (.pv (.vp (eGType a0))))] (FzH.spec ⟨rfl, trivial⟩) ⟨⟨_, rfl, rfl⟩, trivial⟩) ?_
  obtain ⟨y2, h3, hF⟩ := bind_some hF
  refine rgp (op_call 1 rfl (caps := []) (args := [.vp (eGType a0)]) (rs := [.p (.vs 2 (List.map eGOwner y2))]) rfl rfl rfl Tryd_cal_33 (kind_own_ok h3) rfl rfl rfl) ?_
  obtain ⟨y4, h5, hF⟩ := bind_some hF
  refine rgp (op_call 1 rfl (caps := []) (args := [.vs 2 (List.map eGOwner y2)]) (rs := [.p (.vs 2 (List.map eGOwner y4))]) rfl rfl rfl Tryd_cal_49 (Fn.frozen (slices_Clone_api_Owner_ok h5)) rfl rfl rfl) ?_
  refine ras ?_
  refine reg_nil ?_
  refine post_imp (s' := ⟨8, [(2, some (.pv (.vs 2 (List.map eGOwner y4))))], [], 0, [], [], 0, []⟩) (imps [] ⟨by kernel_rfl, trivial⟩ trivial) ?_
  refine post_next ?_
  refine aw_ret ?_
  obtain rfl := Option.some.inj hF
  exact prt
theorem ref05_count_ok {a0 : GType} {r : Int} (hF : ref05_count a0 = some r) : Abs.Fn globs_Tryd Tryd.prog 50 [.agg (eGType a0)] [.p (.int .i64 r)] := by
  unfold ref05_count at hF
  refine fn_of_body (n := 7) Tryd.func50 rfl rfl rfl ?_
  intro w O
  refine aw_seq ?_
  refine aw_region ?_
  refine rgp (op_box 0 rfl rfl rfl rfl rfl rfl) ?_
  refine ras ?_
  refine reg_nil ?_
  refine post_imp (s' := ⟨7, [(1, some (.lp 0 0))], [(0, some (.box 26 (bxv (eGType a0))))], 1, [], [], 0, []⟩) (imps [0] ⟨by kernel_rfl, trivial⟩ ⟨by kernel_rfl, trivial⟩) ?_
  refine post_next ?_
  refine aw_seq ?_
  refine aw_region ?_
  refine rgp (op_field_lp rfl rfl Tryd_fld_26_2 rfl rfl) ?_
  refine rgp (op_load_lp (v := .pv (.int .i64 a0.fN)) rfl rfl rfl rfl Tryd_one_3 rfl rfl) ?_
  refine rgp (op_min2 rfl rfl rfl rfl rfl) ?_
  refine rgp (op_max2 rfl rfl rfl rfl rfl) ?_
  refine ras ?_
  refine reg_nil ?_
  refine post_imp (s' := ⟨7, [(2, some (.pv (.int .i64 (if (if 3 < a0.fN then 3 else a0.fN) > 0 then (if 3 < a0.fN then 3 else a0.fN) else 0))))], [], 0, [], [], 0, []⟩) (imps [] ⟨by kernel_rfl, trivial⟩ trivial) ?_
  refine post_next ?_
  refine aw_ret ?_
  obtain rfl := Option.some.inj hF
  exact prt
theorem ref05_Owners_ok {a0 : GType} {r : (List GOwner)} (hF : ref05_Owners a0 = some r) : Abs.Fn globs_Tryd Tryd.prog 22 [.agg (eGType a0)] [.own 23 2 (List.map eGOwner r)] := by
  unfold ref05_Owners at hF
  refine fn_of_body (n := 24) Tryd.func22 rfl rfl rfl ?_
  intro w O
  refine aw_seq ?_
  refine aw_region ?_
  refine rgp (op_box 0 rfl rfl rfl rfl rfl rfl) ?_
  refine ras ?_
  refine reg_nil ?_
  refine post_imp (s' := ⟨24, [(1, some (.lp 0 0))], [(0, some (.box 26 (bxv (eGType a0))))], 1, [], [], 0, []⟩) (imps [0] ⟨by kernel_rfl, trivial⟩ ⟨by kernel_rfl, trivial⟩) ?_
  refine post_next ?_
  refine aw_seq ?_
  refine aw_region ?_
  refine ras ?_
  refine reg_imp (imp_nil_own 3 23 2 1 rfl rfl) ?_
  refine reg_nil ?_
  refine post_imp (s' := ⟨24, [(1, some (.lp 0 0)), (3, some (.ls 1))], [(0, some (.box 26 (bxv (eGType a0)))), (1, some (.row 23 2 (List.map eGOwner [])))], 2, [], [], 0, []⟩) (imps [0, 1] ⟨by kernel_rfl, by kernel_rfl, trivial⟩ ⟨by kernel_rfl, by kernel_rfl, trivial⟩) ?_
  refine post_next ?_
  iterate 2 (refine aw_seq ?_)
  refine aw_region ?_
  refine ras ?_
  refine reg_nil ?_
  refine post_imp (s' := ⟨24, [(1, some (.lp 0 0)), (3, some (.ls 1)), (4, some (.pv (.int .i64 0)))], [(0, some (.box 26 (bxv (eGType a0)))), (1, some (.row 23 2 (List.map eGOwner [])))], 2, [], [], 0, []⟩) (imps [0, 1] ⟨by kernel_rfl, by kernel_rfl, by kernel_rfl, trivial⟩ ⟨by kernel_rfl, by kernel_rfl, trivial⟩) ?_
  refine post_next ?_
  obtain ⟨x54, hF, hK55⟩ := bind_some hF
  refine aw_for 6 (fun s1 => s1 = ⟨24, [(3, some (.ls 0))], [(0, some (.row 23 2 (List.map eGOwner x54)))], 1, [], [], 0, []⟩) ?_ ?_
  · refine rnd_loop (α := (List GOwner) × Int) (fun q => ⟨24, [(1, some (.lp 0 0)), (3, some (.ls 1)), (4, some (.pv (.int .i64 q.2)))], [(0, some (.box 26 (bxv (eGType a0)))), (1, some (.row 23 2 (List.map eGOwner q.1)))], 2, [], [], 0, []⟩) (fun k q => ref05_Owners_L1 a0 k q.1 q.2 = some x54) ([], 0) (imps [0, 1] ⟨by kernel_rfl, by kernel_rfl, by kernel_rfl, trivial⟩ ⟨by kernel_rfl, by kernel_rfl, trivial⟩) hF (fun q h => by cases h) ?_
    clear hF
    rintro k ⟨x14, x15⟩ hF ih
    refine rnd_succ ?_
    iterate 2 (refine aw_seq ?_)
    obtain ⟨x40, hF, hK42⟩ := bind_some hF
    refine aw_cut (fun s1 => s1 = ⟨24, [(1, some (.lp 0 0)), (3, some (.ls 1)), (4, some (.pv (.int .i64 x15))), (13, some (.pv (.bool x40)))], [(0, some (.box 26 (bxv (eGType a0)))), (1, some (.row 23 2 (List.map eGOwner x14)))], 2, [], [], 0, []⟩) ?_ ?_
    · refine aw_region ?_
      refine rmv ?_
      refine rgp (op_load_lp_agg (ps := eGType a0) rfl rfl rfl rfl rfl rfl Tryd_agg_26 rfl rfl) ?_
      obtain ⟨y37, h38, hF⟩ := bind_some hF
      refine rgp (op_call 2 rfl (caps := []) (args := [.agg (eGType a0)]) (rs := [.p (.int .i64 y37)]) rfl rfl rfl Tryd_cal_50 (ref05_count_ok h38) rfl rfl rfl) ?_
      refine rgp (op_int (k := .i64) (m := x15) (n := y37) rfl rfl rfl rfl rfl rfl) ?_
      refine rmv ?_
      rcases ite_some hF with ⟨hb39, hF⟩ | ⟨hb39, hF⟩
      · refine rgn hb39 (op_field_lp rfl rfl Tryd_fld_26_0 rfl rfl) ?_
        refine rgn hb39 (op_load_lp (v := .pv (.int .i64 a0.fKind)) rfl rfl rfl rfl Tryd_one_3 rfl rfl) ?_
        refine rgn hb39 (op_int (k := .i64) (m := a0.fKind) (n := 2) rfl rfl rfl rfl rfl rfl) ?_
        refine rpt hb39 ?_
        refine reg_nil ?_
        cases hF
        exact post_cut _ rfl (imps [0, 1] ⟨by kernel_rfl, by kernel_rfl, by kernel_rfl, by kernel_rfl, trivial⟩ ⟨by kernel_rfl, by kernel_rfl, trivial⟩)
      iterate 3 (refine rgo_f hb39 ?_)
      refine rpf hb39 ?_
      refine reg_nil ?_
      cases hF
      exact post_cut _ rfl (imps [0, 1] ⟨by kernel_rfl, by kernel_rfl, by kernel_rfl, by kernel_rfl, trivial⟩ ⟨by kernel_rfl, by kernel_rfl, trivial⟩)
    rintro _ rfl
    have hF := hK42
    clear hK42
    refine post_next ?_
    rcases ite_some hF with ⟨hb43, hF⟩ | ⟨hb43, hF⟩
    · refine aw_cond_t rfl hb43 ?_
      refine aw_skip ?_
      refine post_next ?_
      refine aw_seq ?_
      refine aw_block ?_
      refine aw_region ?_
      iterate 2 (refine rmv ?_)
      refine rgp (op_field_lp rfl rfl Tryd_fld_26_3 rfl rfl) ?_
      obtain ⟨y48, h49, hF⟩ := bind_some hF
      refine rgp (op_arr_lpN (l := (a0.fOwn).l) rfl rfl rfl Tryd_arr_24 rfl h49 rfl rfl) ?_
      refine rgp (op_load_lp_agg (ps := eGOwner y48) rfl rfl rfl (arr_cellsN (l := (a0.fOwn).l) (f := eGOwner) rfl (fun _ => rfl) rfl h49) rfl rfl Tryd_agg_23 rfl rfl) ?_
      refine rgp (op_lit (rows := List.map eGOwner ([y48] : List GOwner)) (zs := (eGOwner zGOwner)) rfl rfl Tryd_slc_35 Tryd_zer_23 (by exact ⟨rfl, rfl, trivial⟩) rfl rfl rfl rfl rfl rfl rfl rfl) ?_
      obtain ⟨u50, h51, hF⟩ := bind_some hF
      refine rgp (op_append 2 rfl rfl rfl rfl rfl Tryd_slc_35 Tryd_elm_23 Tryd_zer_23 rfl rfl rfl (room_map (f := eGOwner) (g := eGOwner) h51) (List.map_append (f := eGOwner) (l₁ := x14) (l₂ := [y48])).symm rfl rfl) ?_
      refine ras ?_
      refine reg_nil ?_
      refine post_imp (s' := ⟨24, [(1, some (.lp 0 0)), (3, some (.ls 1)), (4, some (.pv (.int .i64 x15)))], [(0, some (.box 26 (bxv (eGType a0)))), (1, some (.row 23 2 (List.map eGOwner (x14 ++ [y48]))))], 2, [], [], 0, []⟩) (imps [0, 2] ⟨by kernel_rfl, by kernel_rfl, by kernel_rfl, trivial⟩ ⟨by kernel_rfl, by kernel_rfl, trivial⟩) ?_
      refine post_block_normal ?_
      refine post_next ?_
      refine aw_region ?_
      refine rmv ?_
      refine rgp (op_int (k := .i64) (m := x15) (n := 1) rfl rfl rfl rfl rfl rfl) ?_
      refine ras ?_
      refine reg_nil ?_
      refine post_round ?_
      exact rnd_back (ih ((x14 ++ [y48]), w_i64 (x15 + 1)) hF) (imps [0, 1] ⟨by kernel_rfl, by kernel_rfl, by kernel_rfl, trivial⟩ ⟨by kernel_rfl, by kernel_rfl, trivial⟩)
    refine aw_cond_f rfl hb43 ?_
    refine aw_exit ?_
    iterate 2 (refine post_then_exit ?_)
    obtain rfl := Option.some.inj hF
    exact post_lp_break _ rfl (imps [1] ⟨by kernel_rfl, trivial⟩ ⟨by kernel_rfl, trivial⟩)
  rintro _ rfl
  have hF := hK55
  clear hK55
  refine post_next ?_
  refine aw_seq ?_
  refine aw_region ?_
  refine rmv ?_
  refine ras ?_
  refine reg_nil ?_
  refine post_imp (s' := ⟨24, [(2, some (.ls 0))], [(0, some (.row 23 2 (List.map eGOwner x54)))], 1, [], [], 0, []⟩) (imps [0] ⟨by kernel_rfl, trivial⟩ ⟨by kernel_rfl, trivial⟩) ?_
  refine post_next ?_
  refine aw_ret ?_
  obtain rfl := Option.some.inj hF
  exact post_ret rfl rfl (.cons _ _ _ _ _ (.tmp _ _ rfl) (.own _ _ _ _ rfl nolent3) .nil) (.inl rfl)
theorem kind_Holes_ok {a0 : GType} {r : Int} (hF : kind_Holes a0 = some r) : Abs.Fn globs_Tryd Tryd.prog 15 [.agg (eGType a0)] [.p (.int .i64 r)] := by
  unfold kind_Holes at hF
  refine fn_of_body (n := 20) Tryd.func15 rfl rfl rfl ?_
  intro w O
  refine aw_seq ?_
  refine aw_region ?_
  refine rgp (op_box 0 rfl rfl rfl rfl rfl rfl) ?_
  refine ras ?_
  refine reg_nil ?_
  refine post_imp (s' := ⟨20, [(1, some (.lp 0 0))], [(0, some (.box 26 (bxv (eGType a0))))], 1, [], [], 0, []⟩) (imps [0] ⟨by kernel_rfl, trivial⟩ ⟨by kernel_rfl, trivial⟩) ?_
  refine post_next ?_
  refine aw_seq ?_
  refine aw_region ?_
  refine ras ?_
  refine reg_nil ?_
  refine post_imp (s' := ⟨20, [(1, some (.lp 0 0)), (3, some (.pv (.int .i64 0)))], [(0, some (.box 26 (bxv (eGType a0))))], 1, [], [], 0, []⟩) (imps [0] ⟨by kernel_rfl, by kernel_rfl, trivial⟩ ⟨by kernel_rfl, trivial⟩) ?_
  refine post_next ?_
  iterate 2 (refine aw_seq ?_)
  refine aw_region ?_
  refine rgp (op_load_lp_agg (ps := eGType a0) rfl rfl rfl rfl rfl rfl Tryd_agg_26 rfl rfl) ?_
  obtain ⟨y3, h4, hF⟩ := bind_some hF
  refine rgp (op_call 1 rfl (caps := []) (args := [.agg (eGType a0)]) (rs := [.p (.vs 2 (List.map eGOwner y3))]) rfl rfl rfl Tryd_cal_21 (kind_Owners_ok h4) rfl rfl rfl) ?_
  refine rgp (op_len_vs (n := y3.length) rfl rfl (List.length_map ..) Tryd_slc_35 rfl rfl) ?_
  refine rmv ?_
  refine reg_nil ?_
  refine post_imp (s' := ⟨20, [(3, some (.pv (.int .i64 0))), (7, some (.pv (.vs 2 (List.map eGOwner y3)))), (8, some (.pv (.int .i64 (y3.length : Int)))), (9, some (.pv (.int .i64 0)))], [], 0, [], [], 0, []⟩) (imps [] ⟨by kernel_rfl, by kernel_rfl, by kernel_rfl, by kernel_rfl, trivial⟩ trivial) ?_
  refine post_next ?_
  obtain ⟨x38, hF, hK39⟩ := bind_some hF
  refine aw_for ((((y3.length : Int) : Int) - (0)).toNat + 1) (fun s1 => s1 = ⟨20, [(3, some (.pv (.int .i64 x38)))], [], 0, [], [], 0, []⟩) ?_ ?_
  · refine rnd_loop (α := Int × Int) (fun q => ⟨20, [(3, some (.pv (.int .i64 q.1))), (7, some (.pv (.vs 2 (List.map eGOwner y3)))), (8, some (.pv (.int .i64 (y3.length : Int)))), (9, some (.pv (.int .i64 q.2)))], [], 0, [], [], 0, []⟩) (fun k q => kind_Holes_L1 y3 k q.1 q.2 = some x38) (0, 0) (imps [] ⟨by kernel_rfl, by kernel_rfl, by kernel_rfl, by kernel_rfl, trivial⟩ trivial) hF (fun q h => by cases h) ?_
    clear hF
    rintro k ⟨x14, x15⟩ hF ih
    refine rnd_succ ?_
    refine aw_seq ?_
    refine aw_region ?_
    refine rgp (op_int (k := .i64) (m := x15) (n := (y3.length : Int)) rfl rfl rfl rfl rfl rfl) ?_
    refine reg_nil ?_
    refine post_imp (s' := ⟨20, [(3, some (.pv (.int .i64 x14))), (7, some (.pv (.vs 2 (List.map eGOwner y3)))), (8, some (.pv (.int .i64 (y3.length : Int)))), (9, some (.pv (.int .i64 x15))), (10, some (.pv (.bool (decide (x15 < (y3.length : Int))))))], [], 0, [], [], 0, []⟩) (imps [] ⟨by kernel_rfl, by kernel_rfl, by kernel_rfl, by kernel_rfl, by kernel_rfl, trivial⟩ trivial) ?_
    refine post_next ?_
    refine aw_seq ?_
    rcases ite_some hF with ⟨hb27, hF⟩ | ⟨hb27, hF⟩
    · refine aw_cond_t rfl hb27 ?_
      refine aw_skip ?_
      refine post_next ?_
      refine aw_seq ?_
      obtain ⟨x33, hF, hK35⟩ := bind_some hF
      refine aw_cut (fun s1 => s1 = ⟨20, [(3, some (.pv (.int .i64 x33))), (7, some (.pv (.vs 2 (List.map eGOwner y3)))), (8, some (.pv (.int .i64 (y3.length : Int)))), (9, some (.pv (.int .i64 x15)))], [], 0, [], [], 0, []⟩) ?_ ?_
      · refine aw_block ?_
        refine aw_seq ?_
        refine aw_region ?_
        obtain ⟨y30, h31, hF⟩ := bind_some hF
        refine rgp (op_index_vs (k := .i64) rfl rfl rfl (idx_map eGOwner h31) Tryd_slc_35 rfl rfl) ?_
        refine rgp (op_load_vp_agg (ps := eGOwner y30) rfl rfl rfl rfl Tryd_agg_23 rfl rfl) ?_
        refine rgp (op_alloc 0 rfl (ps := (eGOwner zGOwner)) rfl Tryd_zer_23 (by exact ⟨rfl, rfl, trivial⟩) rfl rfl) ?_
        refine rgp (op_store_lp (n := 2) rfl rfl rfl rfl rfl (or_agg Tryd_agg_23) (by rw [Tryd_non_23]; rfl) rfl rfl rfl) ?_
        refine reg_nil ?_
        refine post_imp (s' := ⟨20, [(3, some (.pv (.int .i64 x14))), (5, some (.lp 0 0)), (7, some (.pv (.vs 2 (List.map eGOwner y3)))), (8, some (.pv (.int .i64 (y3.length : Int)))), (9, some (.pv (.int .i64 x15)))], [(0, some (.box 23 (bxv (eGOwner y30))))], 1, [], [], 0, []⟩) (imps [0] ⟨by kernel_rfl, by kernel_rfl, by kernel_rfl, by kernel_rfl, by kernel_rfl, trivial⟩ ⟨by kernel_rfl, trivial⟩) ?_
        refine post_next ?_
        refine aw_seq ?_
        refine aw_region ?_
        refine rgp (op_field_lp rfl rfl Tryd_fld_23_0 rfl rfl) ?_
        refine rgp (op_load_lp (v := .pv (.int .i64 y30.fKind)) rfl rfl rfl rfl Tryd_one_3 rfl rfl) ?_
        refine rgp (op_int (k := .i64) (m := y30.fKind) (n := 7) rfl rfl rfl rfl rfl rfl) ?_
        refine reg_nil ?_
        refine post_imp (s' := ⟨20, [(3, some (.pv (.int .i64 x14))), (7, some (.pv (.vs 2 (List.map eGOwner y3)))), (8, some (.pv (.int .i64 (y3.length : Int)))), (9, some (.pv (.int .i64 x15))), (15, some (.pv (.bool (y30.fKind == 7))))], [], 0, [], [], 0, []⟩) (imps [] ⟨by kernel_rfl, by kernel_rfl, by kernel_rfl, by kernel_rfl, by kernel_rfl, trivial⟩ trivial) ?_
        refine post_next ?_
        rcases ite_some hF with ⟨hb32, hF⟩ | ⟨hb32, hF⟩
        · refine aw_cond_t rfl hb32 ?_
          refine aw_region ?_
          refine rmv ?_
          refine rgp (op_int (k := .i64) (m := x14) (n := 1) rfl rfl rfl rfl rfl rfl) ?_
          refine ras ?_
          refine reg_nil ?_
          refine post_imp (s' := ⟨20, [(3, some (.pv (.int .i64 (w_i64 (x14 + 1))))), (7, some (.pv (.vs 2 (List.map eGOwner y3)))), (8, some (.pv (.int .i64 (y3.length : Int)))), (9, some (.pv (.int .i64 x15)))], [], 0, [], [], 0, []⟩) (imps [] ⟨by kernel_rfl, by kernel_rfl, by kernel_rfl, by kernel_rfl, trivial⟩ trivial) ?_
          refine post_block_normal ?_
          cases hF
          exact post_cut _ rfl (imps [] ⟨by kernel_rfl, by kernel_rfl, by kernel_rfl, by kernel_rfl, trivial⟩ trivial)
        refine aw_cond_f rfl hb32 ?_
        refine aw_skip ?_
        refine post_block_normal ?_
        cases hF
        exact post_cut _ rfl (imps [] ⟨by kernel_rfl, by kernel_rfl, by kernel_rfl, by kernel_rfl, trivial⟩ trivial)
      rintro _ rfl
      have hF := hK35
      clear hK35
      refine post_next ?_
      refine aw_region ?_
      refine rgp (op_int (k := .i64) (m := x15) (n := 1) rfl rfl rfl rfl rfl rfl) ?_
      refine rmv ?_
      refine reg_nil ?_
      refine post_round ?_
      exact rnd_back (ih (x33, w_i64 (x15 + 1)) hF) (imps [] ⟨by kernel_rfl, by kernel_rfl, by kernel_rfl, by kernel_rfl, trivial⟩ trivial)
    refine aw_cond_f rfl hb27 ?_
    refine aw_exit ?_
    iterate 2 (refine post_then_exit ?_)
    obtain rfl := Option.some.inj hF
    exact post_lp_break _ rfl (imps [] ⟨by kernel_rfl, trivial⟩ trivial)
  rintro _ rfl
  have hF := hK39
  clear hK39
  refine post_next ?_
  refine aw_seq ?_
  refine aw_region ?_
  refine rmv ?_
  refine ras ?_
  refine reg_nil ?_
  refine post_imp (s' := ⟨20, [(2, some (.pv (.int .i64 x38)))], [], 0, [], [], 0, []⟩) (imps [] ⟨by kernel_rfl, trivial⟩ trivial) ?_
  refine post_next ?_
  refine aw_ret ?_
  obtain rfl := Option.some.inj hF
  exact prt
theorem ref05_Holes_ok {a0 : GType} {r : Int} (hF : ref05_Holes a0 = some r) : Abs.Fn globs_Tryd Tryd.prog 23 [.agg (eGType a0)] [.p (.int .i64 r)] := by
  unfold ref05_Holes at hF
  refine fn_of_body (n := 23) Tryd.func23 rfl rfl rfl ?_
  intro w O
  refine aw_seq ?_
  refine aw_region ?_
  refine rgp (op_box 0 rfl rfl rfl rfl rfl rfl) ?_
  refine ras ?_
  refine reg_nil ?_
  refine post_imp (s' := ⟨23, [(1, some (.lp 0 0))], [(0, some (.box 26 (bxv (eGType a0))))], 1, [], [], 0, []⟩) (imps [0] ⟨by kernel_rfl, trivial⟩ ⟨by kernel_rfl, trivial⟩) ?_
  refine post_next ?_
  refine aw_seq ?_
  refine aw_region ?_
  refine ras ?_
  refine reg_nil ?_
  refine post_imp (s' := ⟨23, [(1, some (.lp 0 0)), (3, some (.pv (.int .i64 0)))], [(0, some (.box 26 (bxv (eGType a0))))], 1, [], [], 0, []⟩) (imps [0] ⟨by kernel_rfl, by kernel_rfl, trivial⟩ ⟨by kernel_rfl, trivial⟩) ?_
  refine post_next ?_
  refine aw_seq ?_
  refine aw_region ?_
  refine rgp (op_load_lp_agg (ps := eGType a0) rfl rfl rfl rfl rfl rfl Tryd_agg_26 rfl rfl) ?_
  obtain ⟨y3, h4, hF⟩ := bind_some hF
  refine rgp (op_call 1 rfl (caps := []) (args := [.agg (eGType a0)]) (rs := [.p (.vs 2 (List.map eGOwner y3))]) rfl rfl rfl Tryd_cal_22 (Fn.frozen (ref05_Owners_ok h4)) rfl rfl rfl) ?_
  refine ras ?_
  refine reg_nil ?_
  refine post_imp (s' := ⟨23, [(3, some (.pv (.int .i64 0))), (4, some (.pv (.vs 2 (List.map eGOwner y3))))], [], 0, [], [], 0, []⟩) (imps [] ⟨by kernel_rfl, by kernel_rfl, trivial⟩ trivial) ?_
  refine post_next ?_
  iterate 2 (refine aw_seq ?_)
  refine aw_region ?_
  refine ras ?_
  refine reg_nil ?_
  refine post_imp (s' := ⟨23, [(3, some (.pv (.int .i64 0))), (4, some (.pv (.vs 2 (List.map eGOwner y3)))), (5, some (.pv (.int .i64 0)))], [], 0, [], [], 0, []⟩) (imps [] ⟨by kernel_rfl, by kernel_rfl, by kernel_rfl, trivial⟩ trivial) ?_
  refine post_next ?_
  obtain ⟨x38, hF, hK39⟩ := bind_some hF
  refine aw_for ((((y3.length : Int) : Int) - (0)).toNat + 1) (fun s1 => s1 = ⟨23, [(3, some (.pv (.int .i64 x38)))], [], 0, [], [], 0, []⟩) ?_ ?_
  · refine rnd_loop (α := Int × Int) (fun q => ⟨23, [(3, some (.pv (.int .i64 q.1))), (4, some (.pv (.vs 2 (List.map eGOwner y3)))), (5, some (.pv (.int .i64 q.2)))], [], 0, [], [], 0, []⟩) (fun k q => ref05_Holes_L1 y3 k q.1 q.2 = some x38) (0, 0) (imps [] ⟨by kernel_rfl, by kernel_rfl, by kernel_rfl, trivial⟩ trivial) hF (fun q h => by cases h) ?_
    clear hF
    rintro k ⟨x14, x15⟩ hF ih
    refine rnd_succ ?_
    iterate 2 (refine aw_seq ?_)
    refine aw_region ?_
    iterate 2 (refine rmv ?_)
    refine rgp (op_len_vs (n := y3.length) rfl rfl (List.length_map ..) Tryd_slc_35 rfl rfl) ?_
    refine rgp (op_int (k := .i64) (m := x15) (n := (y3.length : Int)) rfl rfl rfl rfl rfl rfl) ?_
    refine reg_nil ?_
    refine post_imp (s' := ⟨23, [(3, some (.pv (.int .i64 x14))), (4, some (.pv (.vs 2 (List.map eGOwner y3)))), (5, some (.pv (.int .i64 x15))), (11, some (.pv (.bool (decide (x15 < (y3.length : Int))))))], [], 0, [], [], 0, []⟩) (imps [] ⟨by kernel_rfl, by kernel_rfl, by kernel_rfl, by kernel_rfl, trivial⟩ trivial) ?_
    refine post_next ?_
    rcases ite_some hF with ⟨hb27, hF⟩ | ⟨hb27, hF⟩
    · refine aw_cond_t rfl hb27 ?_
      refine aw_skip ?_
      refine post_next ?_
      refine aw_seq ?_
      obtain ⟨x33, hF, hK35⟩ := bind_some hF
      refine aw_cut (fun s1 => s1 = ⟨23, [(3, some (.pv (.int .i64 x33))), (4, some (.pv (.vs 2 (List.map eGOwner y3)))), (5, some (.pv (.int .i64 x15)))], [], 0, [], [], 0, []⟩) ?_ ?_
      · refine aw_block ?_
        refine aw_seq ?_
        refine aw_region ?_
        iterate 2 (refine rmv ?_)
        obtain ⟨y30, h31, hF⟩ := bind_some hF
        refine rgp (op_index_vs (k := .i64) rfl rfl rfl (idx_map eGOwner h31) Tryd_slc_35 rfl rfl) ?_
        refine rgp (op_field_vp rfl rfl Tryd_fld_23_0 rfl rfl) ?_
        refine rgp (op_load_vp (p := .int .i64 y30.fKind) rfl rfl rfl Tryd_one_3 rfl rfl) ?_
        refine rgp (op_int (k := .i64) (m := y30.fKind) (n := 7) rfl rfl rfl rfl rfl rfl) ?_
        refine reg_nil ?_
        refine post_imp (s' := ⟨23, [(3, some (.pv (.int .i64 x14))), (4, some (.pv (.vs 2 (List.map eGOwner y3)))), (5, some (.pv (.int .i64 x15))), (19, some (.pv (.bool (y30.fKind == 7))))], [], 0, [], [], 0, []⟩) (imps [] ⟨by kernel_rfl, by kernel_rfl, by kernel_rfl, by kernel_rfl, trivial⟩ trivial) ?_
        refine post_next ?_
        rcases ite_some hF with ⟨hb32, hF⟩ | ⟨hb32, hF⟩
        · refine aw_cond_t rfl hb32 ?_
          refine aw_region ?_
          refine rmv ?_
          refine rgp (op_int (k := .i64) (m := x14) (n := 1) rfl rfl rfl rfl rfl rfl) ?_
          refine ras ?_
          refine reg_nil ?_
          refine post_imp (s' := ⟨23, [(3, some (.pv (.int .i64 (w_i64 (x14 + 1))))), (4, some (.pv (.vs 2 (List.map eGOwner y3)))), (5, some (.pv (.int .i64 x15)))], [], 0, [], [], 0, []⟩) (imps [] ⟨by kernel_rfl, by kernel_rfl, by kernel_rfl, trivial⟩ trivial) ?_
          refine post_block_normal ?_
          cases hF
          exact post_cut _ rfl (imps [] ⟨by kernel_rfl, by kernel_rfl, by kernel_rfl, trivial⟩ trivial)
        refine aw_cond_f rfl hb32 ?_
        refine aw_skip ?_
        refine post_block_normal ?_
        cases hF
        exact post_cut _ rfl (imps [] ⟨by kernel_rfl, by kernel_rfl, by kernel_rfl, trivial⟩ trivial)
      rintro _ rfl
      have hF := hK35
      clear hK35
      refine post_next ?_
      refine aw_region ?_
      refine rmv ?_
      refine rgp (op_int (k := .i64) (m := x15) (n := 1) rfl rfl rfl rfl rfl rfl) ?_
      refine ras ?_
      refine reg_nil ?_
      refine post_round ?_
      exact rnd_back (ih (x33, w_i64 (x15 + 1)) hF) (imps [] ⟨by kernel_rfl, by kernel_rfl, by kernel_rfl, trivial⟩ trivial)
    refine aw_cond_f rfl hb27 ?_
    refine aw_exit ?_
    iterate 2 (refine post_then_exit ?_)
    obtain rfl := Option.some.inj hF
    exact post_lp_break _ rfl (imps [] ⟨by kernel_rfl, trivial⟩ trivial)
  rintro _ rfl
  have hF := hK39
  clear hK39
  refine post_next ?_
  refine aw_seq ?_
  refine aw_region ?_
  refine rmv ?_
  refine ras ?_
  refine reg_nil ?_
  refine post_imp (s' := ⟨23, [(2, some (.pv (.int .i64 x38)))], [], 0, [], [], 0, []⟩) (imps [] ⟨by kernel_rfl, trivial⟩ trivial) ?_
  refine post_next ?_
  refine aw_ret ?_
  obtain rfl := Option.some.inj hF
  exact prt
theorem kind_Unique_ok {a0 : GType} {r : Bool} (hF : kind_Unique a0 = some r) : Abs.Fn globs_Tryd Tryd.prog 24 [.agg (eGType a0)] [.p (.bool r)] := by
  unfold kind_Unique at hF
  refine fn_of_body (n := 13) Tryd.func24 rfl rfl rfl ?_
  intro w O
  refine aw_seq ?_
  refine aw_region ?_
  refine rgp (op_box 0 rfl rfl rfl rfl rfl rfl) ?_
  refine ras ?_
  refine reg_nil ?_
  refine post_imp (s' := ⟨13, [(1, some (.lp 0 0))], [(0, some (.box 26 (bxv (eGType a0))))], 1, [], [], 0, []⟩) (imps [0] ⟨by kernel_rfl, trivial⟩ ⟨by kernel_rfl, trivial⟩) ?_
  refine post_next ?_
  refine aw_seq ?_
  refine aw_region ?_
  refine rgp (op_field_lp rfl rfl Tryd_fld_26_0 rfl rfl) ?_
  refine rgp (op_load_lp (v := .pv (.int .i64 a0.fKind)) rfl rfl rfl rfl Tryd_one_3 rfl rfl) ?_
  refine rgp (op_int (k := .i64) (m := a0.fKind) (n := 2) rfl rfl rfl rfl rfl rfl) ?_
  refine rmv ?_
  rcases ite_some hF with ⟨hb1, hF⟩ | ⟨hb1, hF⟩
  · refine rgn hb1 (op_field_lp rfl rfl Tryd_fld_26_3 rfl rfl) ?_
    refine rgn hb1 (op_arr_lp (k := .i64) (m := 0) (n := 4) rfl rfl rfl Tryd_arr_24 rfl rfl rfl rfl) ?_
    refine rgn hb1 (op_field_lp rfl rfl Tryd_fld_23_0 rfl rfl) ?_
    refine rgn hb1 (op_load_lp (v := .pv (.int .i64 a0.fOwn.a0.fKind)) rfl rfl rfl rfl Tryd_one_3 rfl rfl) ?_
    refine rgn hb1 (op_int (k := .i64) (m := a0.fOwn.a0.fKind) (n := 6) rfl rfl rfl rfl rfl rfl) ?_
    refine rpt hb1 ?_
    refine ras ?_
    refine reg_nil ?_
    refine post_imp (s' := ⟨13, [(2, some (.pv (.bool (a0.fOwn.a0.fKind == 6))))], [], 0, [], [], 0, []⟩) (imps [] ⟨by kernel_rfl, trivial⟩ trivial) ?_
    refine post_next ?_
    refine aw_ret ?_
    obtain rfl := Option.some.inj hF
    exact prt
  iterate 5 (refine rgo_f hb1 ?_)
  refine rpf hb1 ?_
  refine ras ?_
  refine reg_nil ?_
  refine post_imp (s' := ⟨13, [(2, some (.pv (.bool false)))], [], 0, [], [], 0, []⟩) (imps [] ⟨by kernel_rfl, trivial⟩ trivial) ?_
  refine post_next ?_
  refine aw_ret ?_
  obtain rfl := Option.some.inj hF
  exact prt
theorem ref05_Unique_ok {a0 : GType} {r : Bool} (hF : ref05_Unique a0 = some r) : Abs.Fn globs_Tryd Tryd.prog 25 [.agg (eGType a0)] [.p (.bool r)] := by
  unfold ref05_Unique at hF
  refine fn_of_body (n := 13) Tryd.func25 rfl rfl rfl ?_
  intro w O
  refine aw_seq ?_
  refine aw_region ?_
  refine rgp (op_box 0 rfl rfl rfl rfl rfl rfl) ?_
  refine ras ?_
  refine reg_nil ?_
  refine post_imp (s' := ⟨13, [(1, some (.lp 0 0))], [(0, some (.box 26 (bxv (eGType a0))))], 1, [], [], 0, []⟩) (imps [0] ⟨by kernel_rfl, trivial⟩ ⟨by kernel_rfl, trivial⟩) ?_
  refine post_next ?_
  refine aw_seq ?_
  refine aw_region ?_
  refine rgp (op_field_lp rfl rfl Tryd_fld_26_0 rfl rfl) ?_
  refine rgp (op_load_lp (v := .pv (.int .i64 a0.fKind)) rfl rfl rfl rfl Tryd_one_3 rfl rfl) ?_
  refine rgp (op_int (k := .i64) (m := a0.fKind) (n := 2) rfl rfl rfl rfl rfl rfl) ?_
  refine rmv ?_
  rcases ite_some hF with ⟨hb1, hF⟩ | ⟨hb1, hF⟩
  · refine rgn hb1 (op_field_lp rfl rfl Tryd_fld_26_3 rfl rfl) ?_
    refine rgn hb1 (op_arr_lp (k := .i64) (m := 0) (n := 4) rfl rfl rfl Tryd_arr_24 rfl rfl rfl rfl) ?_
    refine rgn hb1 (op_field_lp rfl rfl Tryd_fld_23_0 rfl rfl) ?_
    refine rgn hb1 (op_load_lp (v := .pv (.int .i64 a0.fOwn.a0.fKind)) rfl rfl rfl rfl Tryd_one_3 rfl rfl) ?_
    refine rgn hb1 (op_int (k := .i64) (m := a0.fOwn.a0.fKind) (n := 6) rfl rfl rfl rfl rfl rfl) ?_
    refine rpt hb1 ?_
    refine ras ?_
    refine reg_nil ?_
    refine post_imp (s' := ⟨13, [(2, some (.pv (.bool (a0.fOwn.a0.fKind == 6))))], [], 0, [], [], 0, []⟩) (imps [] ⟨by kernel_rfl, trivial⟩ trivial) ?_
    refine post_next ?_
    refine aw_ret ?_
    obtain rfl := Option.some.inj hF
    exact prt
  iterate 5 (refine rgo_f hb1 ?_)
  refine rpf hb1 ?_
  refine ras ?_
  refine reg_nil ?_
  refine post_imp (s' := ⟨13, [(2, some (.pv (.bool false)))], [], 0, [], [], 0, []⟩) (imps [] ⟨by kernel_rfl, trivial⟩ trivial) ?_
  refine post_next ?_
  refine aw_ret ?_
  obtain rfl := Option.some.inj hF
  exact prt
theorem owner_Put_ok {a0 : GOwner} {a1 : List GOwner} {r : GOwner} (hF : owner_Put a0 a1 = some r) : Abs.Fn globs_Tryd Tryd.prog 73 [.agg (eGOwner a0), .vs 2 (List.map eGOwner a1)] [.p (.agg (eGOwner r))] := by
  unfold owner_Put at hF
  refine fn_of_body (n := 28) Tryd.func73 rfl rfl rfl ?_
  intro w O
  refine aw_seq ?_
  refine aw_region ?_
  refine rgp (op_box 0 rfl rfl rfl rfl rfl rfl) ?_
  refine rgp (op_alloc 1 rfl (ps := (eGOwner zGOwner)) rfl Tryd_zer_23 (by exact ⟨rfl, rfl, trivial⟩) rfl rfl) ?_
  refine reg_nil ?_
  refine post_imp (s' := ⟨28, [(1, some (.pv (.vs 2 (List.map eGOwner a1)))), (2, some (.lp 0 0)), (4, some (.lp 1 0))], [(0, some (.box 23 (bxv (eGOwner a0)))), (1, some (.box 23 (bxv (eGOwner zGOwner))))], 2, [], [], 0, []⟩) (imps [0, 1] ⟨by kernel_rfl, by kernel_rfl, by kernel_rfl, trivial⟩ ⟨by kernel_rfl, by kernel_rfl, trivial⟩) ?_
  refine post_next ?_
  refine aw_seq ?_
  refine aw_region ?_
  refine ras ?_
  refine reg_nil ?_
  refine post_imp (s' := ⟨28, [(1, some (.pv (.vs 2 (List.map eGOwner a1)))), (2, some (.lp 0 0)), (4, some (.lp 1 0)), (5, some (.pv (.int .i64 0)))], [(0, some (.box 23 (bxv (eGOwner a0)))), (1, some (.box 23 (bxv (eGOwner zGOwner))))], 2, [], [], 0, []⟩) (imps [0, 1] ⟨by kernel_rfl, by kernel_rfl, by kernel_rfl, by kernel_rfl, trivial⟩ ⟨by kernel_rfl, by kernel_rfl, trivial⟩) ?_
  refine post_next ?_
  iterate 2 (refine aw_seq ?_)
  refine aw_region ?_
  refine rgp (op_field_lp rfl rfl Tryd_fld_23_0 rfl rfl) ?_
  refine rgp (op_load_lp (v := .pv (.int .i64 a0.fKind)) rfl rfl rfl rfl Tryd_one_3 rfl rfl) ?_
  refine reg_nil ?_
  refine post_imp (s' := ⟨28, [(1, some (.pv (.vs 2 (List.map eGOwner a1)))), (2, some (.lp 0 0)), (4, some (.lp 1 0)), (5, some (.pv (.int .i64 0))), (7, some (.pv (.int .i64 a0.fKind)))], [(0, some (.box 23 (bxv (eGOwner a0)))), (1, some (.box 23 (bxv (eGOwner zGOwner))))], 2, [], [], 0, []⟩) (imps [0, 1] ⟨by kernel_rfl, by kernel_rfl, by kernel_rfl, by kernel_rfl, by kernel_rfl, trivial⟩ ⟨by kernel_rfl, by kernel_rfl, trivial⟩) ?_
  refine post_next ?_
  refine aw_block ?_
  refine aw_seq ?_
  refine aw_join hF (fun q => ⟨28, [(1, some (.pv (.vs 2 (List.map eGOwner a1)))), (4, some (.lp 0 0)), (5, some (.pv (.int .i64 q)))], [(0, some (.box 23 (bxv (eGOwner zGOwner))))], 1, [], [], 0, []⟩) ?_ ?_
  · refine aw_block ?_
    refine aw_seq ?_
    refine aw_block ?_
    iterate 3 (refine aw_seq ?_)
    refine aw_region ?_
    refine rgp (op_int (k := .i64) (m := a0.fKind) (n := 3) rfl rfl rfl rfl rfl rfl) ?_
    refine ras ?_
    refine reg_nil ?_
    refine post_imp (s' := ⟨28, [(1, some (.pv (.vs 2 (List.map eGOwner a1)))), (2, some (.lp 0 0)), (4, some (.lp 1 0)), (5, some (.pv (.int .i64 0))), (7, some (.pv (.int .i64 a0.fKind))), (8, some (.pv (.bool (a0.fKind == 3))))], [(0, some (.box 23 (bxv (eGOwner a0)))), (1, some (.box 23 (bxv (eGOwner zGOwner))))], 2, [], [], 0, []⟩) (imps [0, 1] ⟨by kernel_rfl, by kernel_rfl, by kernel_rfl, by kernel_rfl, by kernel_rfl, by kernel_rfl, trivial⟩ ⟨by kernel_rfl, by kernel_rfl, trivial⟩) ?_
    refine post_next ?_
    rcases go_ite hF with ⟨hb1, hF⟩ | ⟨hb1, hF⟩
    · refine aw_cond_t rfl hb1 ?_
      refine aw_exit ?_
      iterate 2 (refine post_then_exit ?_)
      refine post_block_exit ?_
      refine post_next ?_
      refine aw_region ?_
      refine rgp (op_field_lp rfl rfl Tryd_fld_23_1 rfl rfl) ?_
      refine rgp (op_load_lp (v := .pv (.int .i64 a0.fN)) rfl rfl rfl rfl Tryd_one_3 rfl rfl) ?_
      refine ras ?_
      refine reg_nil ?_
      refine post_imp (s' := ⟨28, [(1, some (.pv (.vs 2 (List.map eGOwner a1)))), (4, some (.lp 0 0)), (5, some (.pv (.int .i64 a0.fN)))], [(0, some (.box 23 (bxv (eGOwner zGOwner))))], 1, [], [], 0, []⟩) (imps [1] ⟨by kernel_rfl, by kernel_rfl, by kernel_rfl, trivial⟩ ⟨by kernel_rfl, trivial⟩) ?_
      refine post_block_normal ?_
      exact post_cut _ ⟨a0.fN, rfl, hF⟩ (imps [0] ⟨by kernel_rfl, by kernel_rfl, by kernel_rfl, trivial⟩ ⟨by kernel_rfl, trivial⟩)
    refine aw_cond_f rfl hb1 ?_
    refine aw_skip ?_
    refine post_next ?_
    refine aw_seq ?_
    refine aw_region ?_
    refine rgp (op_int (k := .i64) (m := a0.fKind) (n := 2) rfl rfl rfl rfl rfl rfl) ?_
    refine ras ?_
    refine reg_nil ?_
    refine post_imp (s' := ⟨28, [(1, some (.pv (.vs 2 (List.map eGOwner a1)))), (2, some (.lp 0 0)), (4, some (.lp 1 0)), (5, some (.pv (.int .i64 0))), (10, some (.pv (.bool (a0.fKind == 2))))], [(0, some (.box 23 (bxv (eGOwner a0)))), (1, some (.box 23 (bxv (eGOwner zGOwner))))], 2, [], [], 0, []⟩) (imps [0, 1] ⟨by kernel_rfl, by kernel_rfl, by kernel_rfl, by kernel_rfl, by kernel_rfl, trivial⟩ ⟨by kernel_rfl, by kernel_rfl, trivial⟩) ?_
    refine post_next ?_
    rcases go_ite hF with ⟨hb2, hF⟩ | ⟨hb2, hF⟩
    · refine aw_cond_t rfl hb2 ?_
      refine aw_exit ?_
      refine post_then_exit ?_
      refine post_block_other rfl ?_
      refine post_then_exit ?_
      refine post_block_exit ?_
      exact post_cut _ ⟨0, rfl, hF⟩ (imps [1] ⟨by kernel_rfl, by kernel_rfl, by kernel_rfl, trivial⟩ ⟨by kernel_rfl, trivial⟩)
    refine aw_cond_f rfl hb2 ?_
    refine aw_skip ?_
    refine post_next ?_
    refine aw_exit ?_
    refine post_block_other rfl ?_
    refine post_then_exit ?_
    refine post_block_other rfl ?_
    refine post_cut_exit ?_
    replace hF := go_stop hF
    refine post_then_exit ?_
    refine post_block_exit ?_
    refine post_next ?_
    refine aw_seq ?_
    refine aw_region ?_
    refine rgp (op_load_lp_agg (ps := eGOwner a0) rfl rfl rfl rfl rfl rfl Tryd_agg_23 rfl rfl) ?_
    refine rgp (op_store_lp (n := 2) rfl rfl rfl rfl rfl (or_agg Tryd_agg_23) (by rw [Tryd_non_23]; rfl) rfl rfl rfl) ?_
    refine reg_nil ?_
    refine post_imp (s' := ⟨28, [(4, some (.lp 0 0))], [(0, some (.box 23 (bxv (eGOwner a0))))], 1, [], [], 0, []⟩) (imps [1] ⟨by kernel_rfl, trivial⟩ ⟨by kernel_rfl, trivial⟩) ?_
    refine post_next ?_
    refine aw_ret ?_
    obtain rfl := Option.some.inj hF
    exact post_ret rfl rfl (.cons _ _ _ _ _ (.agg _ _ _ _ _ 2 _ _ rfl rfl Tryd_agg_23 rfl rfl rfl) (.p _) .nil) (.inl rfl)
  rintro x3 hF
  refine post_next ?_
  iterate 3 (refine aw_seq ?_)
  obtain ⟨x5, hF, hK7⟩ := bind_some hF
  refine aw_cut (fun s1 => s1 = ⟨28, [(1, some (.pv (.vs 2 (List.map eGOwner a1)))), (4, some (.lp 0 0)), (5, some (.pv (.int .i64 x3))), (21, some (.pv (.bool x5)))], [(0, some (.box 23 (bxv (eGOwner zGOwner))))], 1, [], [], 0, []⟩) ?_ ?_
  · refine aw_region ?_
    refine rmv ?_
    refine rgp (op_int (k := .i64) (m := x3) (n := 0) rfl rfl rfl rfl rfl rfl) ?_
    refine rmv ?_
    rcases ite_some hF with ⟨hb4, hF⟩ | ⟨hb4, hF⟩
    · refine rgo_t hb4 ?_
      iterate 3 (refine rgo_t hb4 ?_)
      refine rpt hb4 ?_
      refine reg_nil ?_
      cases hF
      exact post_cut _ rfl (imps [0] ⟨by kernel_rfl, by kernel_rfl, by kernel_rfl, by kernel_rfl, trivial⟩ ⟨by kernel_rfl, trivial⟩)
    iterate 2 (refine rgn hb4 (op_move rfl rfl rfl rfl) ?_)
    refine rgn hb4 (op_len_vs (n := a1.length) rfl rfl (List.length_map ..) Tryd_slc_35 rfl rfl) ?_
    refine rgn hb4 (op_int (k := .i64) (m := x3) (n := (a1.length : Int)) rfl rfl rfl rfl rfl rfl) ?_
    refine rpf hb4 ?_
    refine reg_nil ?_
    cases hF
    exact post_cut _ rfl (imps [0] ⟨by kernel_rfl, by kernel_rfl, by kernel_rfl, by kernel_rfl, trivial⟩ ⟨by kernel_rfl, trivial⟩)
  rintro _ rfl
  have hF := hK7
  clear hK7
  refine post_next ?_
  rcases ite_some hF with ⟨hb8, hF⟩ | ⟨hb8, hF⟩
  · refine aw_cond_t rfl hb8 ?_
    refine aw_seq ?_
    refine aw_region ?_
    refine rgp (op_build (zs := (eGOwner zGOwner)) (r := eGOwner ({ fKind := 8, fN := 0 } : GOwner)) rfl Tryd_zer_23 (by exact ⟨rfl, rfl, trivial⟩) Tryd_plc_23 rfl rfl rfl rfl) ?_
    refine rgp (op_store_lp (n := 2) rfl rfl rfl rfl rfl (or_agg Tryd_agg_23) (by rw [Tryd_non_23]; rfl) rfl rfl rfl) ?_
    refine reg_nil ?_
    refine post_imp (s' := ⟨28, [(4, some (.lp 0 0))], [(0, some (.box 23 (bxv (eGOwner ({ fKind := 8, fN := 0 } : GOwner)))))], 1, [], [], 0, []⟩) (imps [0] ⟨by kernel_rfl, trivial⟩ ⟨by kernel_rfl, trivial⟩) ?_
    refine post_next ?_
    refine aw_ret ?_
    iterate 2 (refine post_then_ret ?_)
    refine post_block_ret ?_
    refine post_then_ret ?_
    obtain rfl := Option.some.inj hF
    exact post_ret rfl rfl (.cons _ _ _ _ _ (.agg _ _ _ _ _ 2 _ _ rfl rfl Tryd_agg_23 rfl rfl rfl) (.p _) .nil) (.inl rfl)
  refine aw_cond_f rfl hb8 ?_
  refine aw_skip ?_
  refine post_next ?_
  refine aw_seq ?_
  refine aw_region ?_
  iterate 2 (refine rmv ?_)
  obtain ⟨y9, h10, hF⟩ := bind_some hF
  refine rgp (op_index_vs (k := .i64) rfl rfl rfl (idx_map eGOwner h10) Tryd_slc_35 rfl rfl) ?_
  refine rgp (op_load_vp_agg (ps := eGOwner y9) rfl rfl rfl rfl Tryd_agg_23 rfl rfl) ?_
  refine rgp (op_store_lp (n := 2) rfl rfl rfl rfl rfl (or_agg Tryd_agg_23) (by rw [Tryd_non_23]; rfl) rfl rfl rfl) ?_
  refine reg_nil ?_
  refine post_imp (s' := ⟨28, [(4, some (.lp 0 0))], [(0, some (.box 23 (bxv (eGOwner y9))))], 1, [], [], 0, []⟩) (imps [0] ⟨by kernel_rfl, trivial⟩ ⟨by kernel_rfl, trivial⟩) ?_
  refine post_next ?_
  refine aw_ret ?_
  refine post_then_ret ?_
  refine post_block_ret ?_
  refine post_then_ret ?_
  obtain rfl := Option.some.inj hF
  exact post_ret rfl rfl (.cons _ _ _ _ _ (.agg _ _ _ _ _ 2 _ _ rfl rfl Tryd_agg_23 rfl rfl rfl) (.p _) .nil) (.inl rfl)
theorem owner_All_ok {a0 : List GOwner} {a1 : List GOwner} {r : (List GOwner)} (hF : owner_All a0 a1 = some r) : Abs.Fn globs_Tryd Tryd.prog 51 [.vs 2 (List.map eGOwner a0), .vs 2 (List.map eGOwner a1)] [.own 23 2 (List.map eGOwner r)] := by
  unfold owner_All at hF
  refine fn_of_body (n := 26) Tryd.func51 rfl rfl rfl ?_
  intro w O
  refine aw_seq ?_
  refine aw_region ?_
  refine ras ?_
  refine reg_nil ?_
  refine post_imp (s' := ⟨26, [(0, some (.pv (.vs 2 (List.map eGOwner a0)))), (1, some (.pv (.vs 2 (List.map eGOwner a1))))], [], 0, [], [], 0, []⟩) (imps [] ⟨by kernel_rfl, by kernel_rfl, trivial⟩ trivial) ?_
  refine post_next ?_
  refine aw_seq ?_
  refine aw_region ?_
  refine rmv ?_
  refine rgp (op_len_vs (n := a0.length) rfl rfl (List.length_map ..) Tryd_slc_35 rfl rfl) ?_
  obtain ⟨u3, h4, hF⟩ := bind_some hF
  refine rgp (op_make 0 rfl (k := .i64) (k' := .i64) (n := (a0.length : Int)) (m := (a0.length : Int)) (zs := eGOwner zGOwner) rfl rfl rfl (mkOk_spec h4).1 (mkOk_spec h4).2.1 (mkOk_spec h4).2.2 Tryd_slc_35 Tryd_elm_23 rfl Tryd_zer_23 (by exact ⟨rfl, rfl, trivial⟩) rfl rfl (map_rep eGOwner _ _) rfl rfl) ?_
  refine ras ?_
  refine reg_nil ?_
  refine post_imp (s' := ⟨26, [(0, some (.pv (.vs 2 (List.map eGOwner a0)))), (1, some (.pv (.vs 2 (List.map eGOwner a1)))), (5, some (.ls 0))], [(0, some (.row 23 2 (List.map eGOwner (List.replicate ((a0.length : Int) : Int).toNat zGOwner))))], 1, [], [], 0, []⟩) (imps [0] ⟨by kernel_rfl, by kernel_rfl, by kernel_rfl, trivial⟩ ⟨by kernel_rfl, trivial⟩) ?_
  refine post_next ?_
  iterate 2 (refine aw_seq ?_)
  refine aw_region ?_
  refine rmv ?_
  refine rgp (op_len_vs (n := a0.length) rfl rfl (List.length_map ..) Tryd_slc_35 rfl rfl) ?_
  refine rmv ?_
  refine reg_nil ?_
  refine post_imp (s' := ⟨26, [(1, some (.pv (.vs 2 (List.map eGOwner a1)))), (5, some (.ls 0)), (11, some (.pv (.vs 2 (List.map eGOwner a0)))), (12, some (.pv (.int .i64 (a0.length : Int)))), (13, some (.pv (.int .i64 0)))], [(0, some (.row 23 2 (List.map eGOwner (List.replicate ((a0.length : Int) : Int).toNat zGOwner))))], 1, [], [], 0, []⟩) (imps [0] ⟨by kernel_rfl, by kernel_rfl, by kernel_rfl, by kernel_rfl, by kernel_rfl, trivial⟩ ⟨by kernel_rfl, trivial⟩) ?_
  refine post_next ?_
  obtain ⟨x50, hF, hK51⟩ := bind_some hF
  refine aw_for ((((a0.length : Int) : Int) - (0)).toNat + 1) (fun s1 => s1 = ⟨26, [(5, some (.ls 0))], [(0, some (.row 23 2 (List.map eGOwner x50)))], 1, [], [], 0, []⟩) ?_ ?_
  · refine rnd_loop (α := (List GOwner) × Int) (fun q => ⟨26, [(1, some (.pv (.vs 2 (List.map eGOwner a1)))), (5, some (.ls 0)), (11, some (.pv (.vs 2 (List.map eGOwner a0)))), (12, some (.pv (.int .i64 (a0.length : Int)))), (13, some (.pv (.int .i64 q.2)))], [(0, some (.row 23 2 (List.map eGOwner q.1)))], 1, [], [], 0, []⟩) (fun k q => owner_All_L1 a0 a1 k q.1 q.2 = some x50) ((List.replicate ((a0.length : Int) : Int).toNat zGOwner), 0) (imps [0] ⟨by kernel_rfl, by kernel_rfl, by kernel_rfl, by kernel_rfl, by kernel_rfl, trivial⟩ ⟨by kernel_rfl, trivial⟩) hF (fun q h => by cases h) ?_
    clear hF
    rintro k ⟨x18, x19⟩ hF ih
    refine rnd_succ ?_
    refine aw_seq ?_
    refine aw_region ?_
    refine rgp (op_int (k := .i64) (m := x19) (n := (a0.length : Int)) rfl rfl rfl rfl rfl rfl) ?_
    refine reg_nil ?_
    refine post_imp (s' := ⟨26, [(1, some (.pv (.vs 2 (List.map eGOwner a1)))), (5, some (.ls 0)), (11, some (.pv (.vs 2 (List.map eGOwner a0)))), (12, some (.pv (.int .i64 (a0.length : Int)))), (13, some (.pv (.int .i64 x19))), (14, some (.pv (.bool (decide (x19 < (a0.length : Int))))))], [(0, some (.row 23 2 (List.map eGOwner x18)))], 1, [], [], 0, []⟩) (imps [0] ⟨by kernel_rfl, by kernel_rfl, by kernel_rfl, by kernel_rfl, by kernel_rfl, by kernel_rfl, trivial⟩ ⟨by kernel_rfl, trivial⟩) ?_
    refine post_next ?_
    refine aw_seq ?_
    rcases ite_some hF with ⟨hb35, hF⟩ | ⟨hb35, hF⟩
    · refine aw_cond_t rfl hb35 ?_
      refine aw_skip ?_
      refine post_next ?_
      refine aw_seq ?_
      refine aw_block ?_
      refine aw_seq ?_
      refine aw_region ?_
      refine rmv ?_
      obtain ⟨y38, h39, hF⟩ := bind_some hF
      refine rgp (op_index_vs (k := .i64) rfl rfl rfl (idx_map eGOwner h39) Tryd_slc_35 rfl rfl) ?_
      refine rgp (op_load_vp_agg (ps := eGOwner y38) rfl rfl rfl rfl Tryd_agg_23 rfl rfl) ?_
      refine rgp (op_alloc 1 rfl (ps := (eGOwner zGOwner)) rfl Tryd_zer_23 (by exact ⟨rfl, rfl, trivial⟩) rfl rfl) ?_
      refine ras ?_
      refine rgp (op_store_lp (n := 2) rfl rfl rfl rfl rfl (or_agg Tryd_agg_23) (by rw [Tryd_non_23]; rfl) rfl rfl rfl) ?_
      refine reg_nil ?_
      refine post_imp (s' := ⟨26, [(1, some (.pv (.vs 2 (List.map eGOwner a1)))), (5, some (.ls 0)), (6, some (.pv (.int .i64 x19))), (7, some (.lp 1 0)), (11, some (.pv (.vs 2 (List.map eGOwner a0)))), (12, some (.pv (.int .i64 (a0.length : Int)))), (13, some (.pv (.int .i64 x19)))], [(0, some (.row 23 2 (List.map eGOwner x18))), (1, some (.box 23 (bxv (eGOwner y38))))], 2, [], [], 0, []⟩) (imps [0, 1] ⟨by kernel_rfl, by kernel_rfl, by kernel_rfl, by kernel_rfl, by kernel_rfl, by kernel_rfl, by kernel_rfl, trivial⟩ ⟨by kernel_rfl, by kernel_rfl, trivial⟩) ?_
      refine post_next ?_
      refine aw_region ?_
      iterate 2 (refine rmv ?_)
      refine rgp (op_load_lp_agg (ps := eGOwner y38) rfl rfl rfl rfl rfl rfl Tryd_agg_23 rfl rfl) ?_
      refine rmv ?_
      obtain ⟨y44, h45, hF⟩ := bind_some hF
      refine rgp (op_call 2 rfl (caps := []) (args := [.agg (eGOwner y38), .vs 2 (List.map eGOwner a1)]) (rs := [.p (.agg (eGOwner y44))]) rfl rfl rfl Tryd_cal_73 (owner_Put_ok h45) rfl rfl rfl) ?_
      obtain ⟨y46, h47, hF⟩ := bind_some hF
      refine rgp (op_index_ls (k := .i64) rfl rfl rfl rfl (idx_map eGOwner h47) Tryd_slc_35 rfl rfl) ?_
      refine rgp (op_store_le (n := 2) rfl rfl rfl rfl rfl (map_get eGOwner h47) (or_agg Tryd_agg_23) (by rw [Tryd_non_23]; rfl) rfl (map_set' eGOwner x18 _ y44) rfl rfl) ?_
      refine reg_nil ?_
      refine post_imp (s' := ⟨26, [(1, some (.pv (.vs 2 (List.map eGOwner a1)))), (5, some (.ls 0)), (11, some (.pv (.vs 2 (List.map eGOwner a0)))), (12, some (.pv (.int .i64 (a0.length : Int)))), (13, some (.pv (.int .i64 x19)))], [(0, some (.row 23 2 (List.map eGOwner (x18.set (x19 : Int).toNat y44))))], 1, [], [], 0, []⟩) (imps [0] ⟨by kernel_rfl, by kernel_rfl, by kernel_rfl, by kernel_rfl, by kernel_rfl, trivial⟩ ⟨by kernel_rfl, trivial⟩) ?_
      refine post_block_normal ?_
      refine post_next ?_
      refine aw_region ?_
      refine rgp (op_int (k := .i64) (m := x19) (n := 1) rfl rfl rfl rfl rfl rfl) ?_
      refine rmv ?_
      refine reg_nil ?_
      refine post_round ?_
      exact rnd_back (ih ((x18.set (x19 : Int).toNat y44), w_i64 (x19 + 1)) hF) (imps [0] ⟨by kernel_rfl, by kernel_rfl, by kernel_rfl, by kernel_rfl, by kernel_rfl, trivial⟩ ⟨by kernel_rfl, trivial⟩)
    refine aw_cond_f rfl hb35 ?_
    refine aw_exit ?_
    iterate 2 (refine post_then_exit ?_)
    obtain rfl := Option.some.inj hF
    exact post_lp_break _ rfl (imps [0] ⟨by kernel_rfl, trivial⟩ ⟨by kernel_rfl, trivial⟩)
  rintro _ rfl
  have hF := hK51
  clear hK51
  refine post_next ?_
  refine aw_seq ?_
  refine aw_region ?_
  refine rmv ?_
  refine ras ?_
  refine reg_nil ?_
  refine post_imp (s' := ⟨26, [(4, some (.ls 0))], [(0, some (.row 23 2 (List.map eGOwner x50)))], 1, [], [], 0, []⟩) (imps [0] ⟨by kernel_rfl, trivial⟩ ⟨by kernel_rfl, trivial⟩) ?_
  refine post_next ?_
  refine aw_ret ?_
  obtain rfl := Option.some.inj hF
  exact post_ret rfl rfl (.cons _ _ _ _ _ (.tmp _ _ rfl) (.own _ _ _ _ rfl nolent3) .nil) (.inl rfl)
theorem kind_With_ok {a0 : GType} {a1 : List GOwner} {r : GType} (hF : kind_With a0 a1 = some r) : Abs.Fn globs_Tryd Tryd.prog 26 [.agg (eGType a0), .vs 2 (List.map eGOwner a1)] [.p (.agg (eGType r))] := by
  unfold kind_With at hF
  refine fn_of_body (n := 13) Tryd.func26 rfl rfl rfl ?_
  intro w O
  refine aw_seq ?_
  refine aw_region ?_
  refine rgp (op_box 0 rfl rfl rfl rfl rfl rfl) ?_
  refine rgp (op_alloc 1 rfl (ps := (eGType zGType)) rfl Tryd_zer_26 (by exact ⟨rfl, rfl, rfl, rfl, rfl, rfl, rfl, rfl, rfl, rfl, rfl, trivial⟩) rfl rfl) ?_
  refine reg_nil ?_
  refine post_imp (s' := ⟨13, [(1, some (.pv (.vs 2 (List.map eGOwner a1)))), (2, some (.lp 0 0)), (4, some (.lp 1 0))], [(0, some (.box 26 (bxv (eGType a0)))), (1, some (.box 26 (bxv (eGType zGType))))], 2, [], [], 0, []⟩) (imps [0, 1] ⟨by kernel_rfl, by kernel_rfl, by kernel_rfl, trivial⟩ ⟨by kernel_rfl, by kernel_rfl, trivial⟩) ?_
  refine post_next ?_
  refine aw_seq ?_
  refine dr_start ⟨_, _, _⟩ rfl ?_
  refine dr_cons { need := [(2, .lp 0 0)], dst := some 5, val := some (.lp 0 3) } (fun m h => step_on (guard_no rfl) (op_field_lp rfl h.1.1 Tryd_fld_26_3 rfl rfl) rfl) ⟨⟨rfl, trivial⟩, trivial, trivial⟩ ?_
  refine dr_cons { need := [(5, .lp 0 3)], dst := some 6, val := some (.aw 0 3 4) } (fun m h => step_on (guard_no rfl) (op_slice_aw rfl h.1.1 Tryd_arr_24 rfl rfl) rfl) ⟨⟨rfl, trivial⟩, trivial, trivial⟩ ?_
  refine dr_cons { need := [(2, .lp 0 0)], hneed := [(0, .box 26 (bxv (eGType a0)))], dst := some 7, val := some (.pv (.agg (eGType a0))) } (fun m h => step_on (guard_no rfl) (op_load_lp_agg (ps := eGType a0) rfl h.1.1 h.2.1.1 rfl rfl rfl Tryd_agg_26 rfl rfl) rfl) ⟨⟨rfl, trivial⟩, ⟨rfl, trivial⟩, trivial⟩ ?_
  obtain ⟨y1, h2, hF⟩ := bind_some hF
  refine dr_cons { need := [(7, .pv (.agg (eGType a0)))], dst := some 8, val := some (.pv (.vs 2 (List.map eGOwner y1))) } (fun m h => step_on (guard_no rfl) (op_call 2 rfl (caps := []) (args := [.agg (eGType a0)]) (rs := [.p (.vs 2 (List.map eGOwner y1))]) rfl rfl (evl_cons h.1.1 evl_nil) Tryd_cal_21 (kind_Owners_ok h2) rfl rfl rfl) rfl) ⟨⟨rfl, trivial⟩, trivial, trivial⟩ ?_
  refine drm ?_
  obtain ⟨y3, h4, hF⟩ := bind_some hF
  refine dr_cons { need := [(9, .pv (.vs 2 (List.map eGOwner a1))), (8, .pv (.vs 2 (List.map eGOwner y1)))], dst := some 10, val := some (.pv (.vs 2 (List.map eGOwner y3))) } (fun m h => step_on (guard_no rfl) (op_call 2 rfl (caps := []) (args := [.vs 2 (List.map eGOwner y1), .vs 2 (List.map eGOwner a1)]) (rs := [.p (.vs 2 (List.map eGOwner y3))]) rfl rfl (evl_cons h.1.2.1 (evl_cons h.1.1 evl_nil)) Tryd_cal_51 (Fn.frozen (owner_All_ok h4)) rfl rfl rfl) rfl) ⟨⟨rfl, rfl, trivial⟩, trivial, trivial⟩ ?_
  refine dr_cons { need := [(6, .aw 0 3 4), (10, .pv (.vs 2 (List.map eGOwner y3)))], hneed := [(0, .box 26 (bxv (eGType a0)))], dst := some 11, val := some (.pv (.int .i64 (Nat.min (List.map eGOwner y3).length 4 : Nat))), upd := [(0, some (.box 26 (bxv (eGType ({ a0 with fOwn := (A4.cp a0.fOwn y3) } : GType)))))] } (fun m h => step_on (guard_no rfl) (op_copy_aw (news := List.map eGOwner y3) (cells' := bxv (eGType ({ a0 with fOwn := (A4.cp a0.fOwn y3) } : GType))) rfl h.1.1 h.2.1.1 h.1.2.1 Tryd_slc_35 rfl (cp4 (fun l => splice (bxv (eGType a0)) 3 (((List.map eGOwner l).take 4).flatten.map .pv) = bxv (eGType ({ a0 with fOwn := (A4.cp a0.fOwn l) } : GType))) y3 ⟨rfl, fun _ => rfl, fun _ _ => rfl, fun _ _ _ => rfl, fun _ _ _ _ _ => rfl⟩) rfl rfl) rfl) ⟨⟨rfl, rfl, trivial⟩, ⟨rfl, trivial⟩, trivial⟩ ?_
  refine dr_nil Tryd_mixed rfl (by kernel_rfl) ?_
  refine post_imp (s' := ⟨13, [(2, some (.lp 0 0)), (4, some (.lp 1 0))], [(0, some (.box 26 (bxv (eGType ({ a0 with fOwn := (A4.cp a0.fOwn y3) } : GType))))), (1, some (.box 26 (bxv (eGType zGType))))], 2, [], [], 0, []⟩) (imps [0, 1] ⟨by kernel_rfl, by kernel_rfl, trivial⟩ ⟨by kernel_rfl, by kernel_rfl, trivial⟩) ?_
  refine post_next ?_
  refine aw_seq ?_
  refine aw_region ?_
  refine rgp (op_load_lp_agg (ps := eGType ({ a0 with fOwn := (A4.cp a0.fOwn y3) } : GType)) rfl rfl rfl rfl rfl rfl Tryd_agg_26 rfl rfl) ?_
  refine rgp (op_store_lp (n := 11) rfl rfl rfl rfl rfl (or_agg Tryd_agg_26) (by rw [Tryd_non_26]; rfl) rfl rfl rfl) ?_
  refine reg_nil ?_
  refine post_imp (s' := ⟨13, [(4, some (.lp 0 0))], [(0, some (.box 26 (bxv (eGType ({ a0 with fOwn := (A4.cp a0.fOwn y3) } : GType)))))], 1, [], [], 0, []⟩) (imps [1] ⟨by kernel_rfl, trivial⟩ ⟨by kernel_rfl, trivial⟩) ?_
  refine post_next ?_
  refine aw_ret ?_
  obtain rfl := Option.some.inj hF
  exact post_ret rfl rfl (.cons _ _ _ _ _ (.agg _ _ _ _ _ 11 _ _ rfl rfl Tryd_agg_26 rfl rfl rfl) (.p _) .nil) (.inl rfl)
theorem ref04_Put_ok {a0 : GOwner} {a1 : List GOwner} {r : GOwner} (hF : ref04_Put a0 a1 = some r) : Abs.Fn globs_Tryd Tryd.prog 52 [.agg (eGOwner a0), .vs 2 (List.map eGOwner a1)] [.p (.agg (eGOwner r))] := by
  unfold ref04_Put at hF
  refine fn_of_body (n := 38) Tryd.func52 rfl rfl rfl ?_
  intro w O
  refine aw_seq ?_
  refine aw_region ?_
  refine rgp (op_box 0 rfl rfl rfl rfl rfl rfl) ?_
  refine rgp (op_alloc 1 rfl (ps := (eGOwner zGOwner)) rfl Tryd_zer_23 (by exact ⟨rfl, rfl, trivial⟩) rfl rfl) ?_
  refine reg_nil ?_
  refine post_imp (s' := ⟨38, [(1, some (.pv (.vs 2 (List.map eGOwner a1)))), (2, some (.lp 0 0)), (4, some (.lp 1 0))], [(0, some (.box 23 (bxv (eGOwner a0)))), (1, some (.box 23 (bxv (eGOwner zGOwner))))], 2, [], [], 0, []⟩) (imps [0, 1] ⟨by kernel_rfl, by kernel_rfl, by kernel_rfl, trivial⟩ ⟨by kernel_rfl, by kernel_rfl, trivial⟩) ?_
  refine post_next ?_
  refine aw_seq ?_
  refine aw_region ?_
  refine ras ?_
  refine reg_nil ?_
  refine post_imp (s' := ⟨38, [(1, some (.pv (.vs 2 (List.map eGOwner a1)))), (2, some (.lp 0 0)), (4, some (.lp 1 0)), (5, some (.pv (.int .i64 (-1))))], [(0, some (.box 23 (bxv (eGOwner a0)))), (1, some (.box 23 (bxv (eGOwner zGOwner))))], 2, [], [], 0, []⟩) (imps [0, 1] ⟨by kernel_rfl, by kernel_rfl, by kernel_rfl, by kernel_rfl, trivial⟩ ⟨by kernel_rfl, by kernel_rfl, trivial⟩) ?_
  refine post_next ?_
  refine aw_seq ?_
  obtain ⟨x2, hF, hK4⟩ := bind_some hF
  refine aw_cut (fun s1 => s1 = ⟨38, [(1, some (.pv (.vs 2 (List.map eGOwner a1)))), (2, some (.lp 0 0)), (4, some (.lp 1 0)), (5, some (.pv (.int .i64 x2)))], [(0, some (.box 23 (bxv (eGOwner a0)))), (1, some (.box 23 (bxv (eGOwner zGOwner))))], 2, [], [], 0, []⟩) ?_ ?_
  · refine aw_seq ?_
    refine aw_region ?_
    refine rgp (op_field_lp rfl rfl Tryd_fld_23_0 rfl rfl) ?_
    refine rgp (op_load_lp (v := .pv (.int .i64 a0.fKind)) rfl rfl rfl rfl Tryd_one_3 rfl rfl) ?_
    refine rgp (op_int (k := .i64) (m := a0.fKind) (n := 2) rfl rfl rfl rfl rfl rfl) ?_
    refine reg_nil ?_
    refine post_imp (s' := ⟨38, [(1, some (.pv (.vs 2 (List.map eGOwner a1)))), (2, some (.lp 0 0)), (4, some (.lp 1 0)), (5, some (.pv (.int .i64 (-1)))), (9, some (.pv (.bool (a0.fKind == 2))))], [(0, some (.box 23 (bxv (eGOwner a0)))), (1, some (.box 23 (bxv (eGOwner zGOwner))))], 2, [], [], 0, []⟩) (imps [0, 1] ⟨by kernel_rfl, by kernel_rfl, by kernel_rfl, by kernel_rfl, by kernel_rfl, trivial⟩ ⟨by kernel_rfl, by kernel_rfl, trivial⟩) ?_
    refine post_next ?_
    rcases ite_some hF with ⟨hb1, hF⟩ | ⟨hb1, hF⟩
    · refine aw_cond_t rfl hb1 ?_
      refine aw_region ?_
      refine ras ?_
      refine reg_nil ?_
      cases hF
      exact post_cut _ rfl (imps [0, 1] ⟨by kernel_rfl, by kernel_rfl, by kernel_rfl, by kernel_rfl, trivial⟩ ⟨by kernel_rfl, by kernel_rfl, trivial⟩)
    refine aw_cond_f rfl hb1 ?_
    refine aw_skip ?_
    cases hF
    exact post_cut _ rfl (imps [0, 1] ⟨by kernel_rfl, by kernel_rfl, by kernel_rfl, by kernel_rfl, trivial⟩ ⟨by kernel_rfl, by kernel_rfl, trivial⟩)
  rintro _ rfl
  have hF := hK4
  clear hK4
  refine post_next ?_
  refine aw_seq ?_
  obtain ⟨x6, hF, hK8⟩ := bind_some hF
  refine aw_cut (fun s1 => s1 = ⟨38, [(1, some (.pv (.vs 2 (List.map eGOwner a1)))), (2, some (.lp 0 0)), (4, some (.lp 1 0)), (5, some (.pv (.int .i64 x6)))], [(0, some (.box 23 (bxv (eGOwner a0)))), (1, some (.box 23 (bxv (eGOwner zGOwner))))], 2, [], [], 0, []⟩) ?_ ?_
  · refine aw_seq ?_
    refine aw_region ?_
    refine rgp (op_field_lp rfl rfl Tryd_fld_23_0 rfl rfl) ?_
    refine rgp (op_load_lp (v := .pv (.int .i64 a0.fKind)) rfl rfl rfl rfl Tryd_one_3 rfl rfl) ?_
    refine rgp (op_int (k := .i64) (m := a0.fKind) (n := 3) rfl rfl rfl rfl rfl rfl) ?_
    refine reg_nil ?_
    refine post_imp (s' := ⟨38, [(1, some (.pv (.vs 2 (List.map eGOwner a1)))), (2, some (.lp 0 0)), (4, some (.lp 1 0)), (5, some (.pv (.int .i64 x2))), (12, some (.pv (.bool (a0.fKind == 3))))], [(0, some (.box 23 (bxv (eGOwner a0)))), (1, some (.box 23 (bxv (eGOwner zGOwner))))], 2, [], [], 0, []⟩) (imps [0, 1] ⟨by kernel_rfl, by kernel_rfl, by kernel_rfl, by kernel_rfl, by kernel_rfl, trivial⟩ ⟨by kernel_rfl, by kernel_rfl, trivial⟩) ?_
    refine post_next ?_
    rcases ite_some hF with ⟨hb5, hF⟩ | ⟨hb5, hF⟩
    · refine aw_cond_t rfl hb5 ?_
      refine aw_region ?_
      refine rgp (op_field_lp rfl rfl Tryd_fld_23_1 rfl rfl) ?_
      refine rgp (op_load_lp (v := .pv (.int .i64 a0.fN)) rfl rfl rfl rfl Tryd_one_3 rfl rfl) ?_
      refine ras ?_
      refine reg_nil ?_
      cases hF
      exact post_cut _ rfl (imps [0, 1] ⟨by kernel_rfl, by kernel_rfl, by kernel_rfl, by kernel_rfl, trivial⟩ ⟨by kernel_rfl, by kernel_rfl, trivial⟩)
    refine aw_cond_f rfl hb5 ?_
    refine aw_skip ?_
    cases hF
    exact post_cut _ rfl (imps [0, 1] ⟨by kernel_rfl, by kernel_rfl, by kernel_rfl, by kernel_rfl, trivial⟩ ⟨by kernel_rfl, by kernel_rfl, trivial⟩)
  rintro _ rfl
  have hF := hK8
  clear hK8
  refine post_next ?_
  iterate 2 (refine aw_seq ?_)
  obtain ⟨x10, hF, hK12⟩ := bind_some hF
  refine aw_cut (fun s1 => s1 = ⟨38, [(1, some (.pv (.vs 2 (List.map eGOwner a1)))), (2, some (.lp 0 0)), (4, some (.lp 1 0)), (5, some (.pv (.int .i64 x6))), (22, some (.pv (.bool x10)))], [(0, some (.box 23 (bxv (eGOwner a0)))), (1, some (.box 23 (bxv (eGOwner zGOwner))))], 2, [], [], 0, []⟩) ?_ ?_
  · refine aw_region ?_
    refine rgp (op_field_lp rfl rfl Tryd_fld_23_0 rfl rfl) ?_
    refine rgp (op_load_lp (v := .pv (.int .i64 a0.fKind)) rfl rfl rfl rfl Tryd_one_3 rfl rfl) ?_
    refine rgp (op_int (k := .i64) (m := a0.fKind) (n := 2) rfl rfl rfl rfl rfl rfl) ?_
    refine rmv ?_
    rcases ite_some hF with ⟨hb9, hF⟩ | ⟨hb9, hF⟩
    · refine rgn hb9 (op_field_lp rfl rfl Tryd_fld_23_0 rfl rfl) ?_
      refine rgn hb9 (op_load_lp (v := .pv (.int .i64 a0.fKind)) rfl rfl rfl rfl Tryd_one_3 rfl rfl) ?_
      refine rgn hb9 (op_int (k := .i64) (m := a0.fKind) (n := 3) rfl rfl rfl rfl rfl rfl) ?_
      refine rpt hb9 ?_
      refine reg_nil ?_
      cases hF
      exact post_cut _ rfl (imps [0, 1] ⟨by kernel_rfl, by kernel_rfl, by kernel_rfl, by kernel_rfl, by kernel_rfl, trivial⟩ ⟨by kernel_rfl, by kernel_rfl, trivial⟩)
    iterate 3 (refine rgo_f hb9 ?_)
    refine rpf hb9 ?_
    refine reg_nil ?_
    cases hF
    exact post_cut _ rfl (imps [0, 1] ⟨by kernel_rfl, by kernel_rfl, by kernel_rfl, by kernel_rfl, by kernel_rfl, trivial⟩ ⟨by kernel_rfl, by kernel_rfl, trivial⟩)
  rintro _ rfl
  have hF := hK12
  clear hK12
  refine post_next ?_
  rcases ite_some hF with ⟨hb13, hF⟩ | ⟨hb13, hF⟩
  · refine aw_cond_t rfl hb13 ?_
    refine aw_seq ?_
    refine aw_region ?_
    refine rgp (op_load_lp_agg (ps := eGOwner a0) rfl rfl rfl rfl rfl rfl Tryd_agg_23 rfl rfl) ?_
    refine rgp (op_store_lp (n := 2) rfl rfl rfl rfl rfl (or_agg Tryd_agg_23) (by rw [Tryd_non_23]; rfl) rfl rfl rfl) ?_
    refine reg_nil ?_
    refine post_imp (s' := ⟨38, [(4, some (.lp 0 0))], [(0, some (.box 23 (bxv (eGOwner a0))))], 1, [], [], 0, []⟩) (imps [1] ⟨by kernel_rfl, trivial⟩ ⟨by kernel_rfl, trivial⟩) ?_
    refine post_next ?_
    refine aw_ret ?_
    refine post_then_ret ?_
    obtain rfl := Option.some.inj hF
    exact post_ret rfl rfl (.cons _ _ _ _ _ (.agg _ _ _ _ _ 2 _ _ rfl rfl Tryd_agg_23 rfl rfl rfl) (.p _) .nil) (.inl rfl)
  refine aw_cond_f rfl hb13 ?_
  refine aw_skip ?_
  refine post_next ?_
  iterate 2 (refine aw_seq ?_)
  refine aw_region ?_
  refine ras ?_
  refine reg_nil ?_
  refine post_imp (s' := ⟨38, [(1, some (.pv (.vs 2 (List.map eGOwner a1)))), (4, some (.lp 0 0)), (5, some (.pv (.int .i64 x6))), (6, some (.pv (.int .i64 0)))], [(0, some (.box 23 (bxv (eGOwner zGOwner))))], 1, [], [], 0, []⟩) (imps [1] ⟨by kernel_rfl, by kernel_rfl, by kernel_rfl, by kernel_rfl, trivial⟩ ⟨by kernel_rfl, trivial⟩) ?_
  refine post_next ?_
  obtain ⟨lr29, hF, hK30⟩ := bind_some hF
  refine aw_for ((((a1.length : Int) : Int) - (0)).toNat + 1) (fun s1 => ∃ q, lr29 = .next q ∧ s1 = ⟨38, [(4, some (.lp 0 0))], [(0, some (.box 23 (bxv (eGOwner zGOwner))))], 1, [], [], 0, []⟩) ?_ ?_
  · refine rnd_loop (α := Int) (fun q => ⟨38, [(1, some (.pv (.vs 2 (List.map eGOwner a1)))), (4, some (.lp 0 0)), (5, some (.pv (.int .i64 x6))), (6, some (.pv (.int .i64 q)))], [(0, some (.box 23 (bxv (eGOwner zGOwner))))], 1, [], [], 0, []⟩) (fun k q => ref04_Put_L1 a1 x6 k q = some lr29) 0 (imps [0] ⟨by kernel_rfl, by kernel_rfl, by kernel_rfl, by kernel_rfl, trivial⟩ ⟨by kernel_rfl, trivial⟩) hF (fun q h => by cases h) ?_
    clear hF
    rintro k x18 hF ih
    refine rnd_succ ?_
    iterate 2 (refine aw_seq ?_)
    refine aw_region ?_
    iterate 2 (refine rmv ?_)
    refine rgp (op_len_vs (n := a1.length) rfl rfl (List.length_map ..) Tryd_slc_35 rfl rfl) ?_
    refine rgp (op_int (k := .i64) (m := x18) (n := (a1.length : Int)) rfl rfl rfl rfl rfl rfl) ?_
    refine reg_nil ?_
    refine post_imp (s' := ⟨38, [(1, some (.pv (.vs 2 (List.map eGOwner a1)))), (4, some (.lp 0 0)), (5, some (.pv (.int .i64 x6))), (6, some (.pv (.int .i64 x18))), (27, some (.pv (.bool (decide (x18 < (a1.length : Int))))))], [(0, some (.box 23 (bxv (eGOwner zGOwner))))], 1, [], [], 0, []⟩) (imps [0] ⟨by kernel_rfl, by kernel_rfl, by kernel_rfl, by kernel_rfl, by kernel_rfl, trivial⟩ ⟨by kernel_rfl, trivial⟩) ?_
    refine post_next ?_
    rcases ite_some hF with ⟨hb24, hF⟩ | ⟨hb24, hF⟩
    · refine aw_cond_t rfl hb24 ?_
      refine aw_skip ?_
      refine post_next ?_
      refine aw_seq ?_
      refine aw_block ?_
      refine aw_seq ?_
      refine aw_region ?_
      iterate 2 (refine rmv ?_)
      refine rgp (op_int (k := .i64) (m := x18) (n := x6) rfl rfl rfl rfl rfl rfl) ?_
      refine reg_nil ?_
      refine post_imp (s' := ⟨38, [(1, some (.pv (.vs 2 (List.map eGOwner a1)))), (4, some (.lp 0 0)), (5, some (.pv (.int .i64 x6))), (6, some (.pv (.int .i64 x18))), (32, some (.pv (.bool (x18 == x6))))], [(0, some (.box 23 (bxv (eGOwner zGOwner))))], 1, [], [], 0, []⟩) (imps [0] ⟨by kernel_rfl, by kernel_rfl, by kernel_rfl, by kernel_rfl, by kernel_rfl, trivial⟩ ⟨by kernel_rfl, trivial⟩) ?_
      refine post_next ?_
      rcases ite_some hF with ⟨hb25, hF⟩ | ⟨hb25, hF⟩
      · refine aw_cond_t rfl hb25 ?_
        refine aw_seq ?_
        refine aw_region ?_
        iterate 2 (refine rmv ?_)
        obtain ⟨y26, h27, hF⟩ := bind_some hF
        refine rgp (op_index_vs (k := .i64) rfl rfl rfl (idx_map eGOwner h27) Tryd_slc_35 rfl rfl) ?_
        refine rgp (op_load_vp_agg (ps := eGOwner y26) rfl rfl rfl rfl Tryd_agg_23 rfl rfl) ?_
        refine rgp (op_store_lp (n := 2) rfl rfl rfl rfl rfl (or_agg Tryd_agg_23) (by rw [Tryd_non_23]; rfl) rfl rfl rfl) ?_
        refine reg_nil ?_
        refine post_imp (s' := ⟨38, [(4, some (.lp 0 0))], [(0, some (.box 23 (bxv (eGOwner y26))))], 1, [], [], 0, []⟩) (imps [0] ⟨by kernel_rfl, trivial⟩ ⟨by kernel_rfl, trivial⟩) ?_
        refine post_next ?_
        refine aw_ret ?_
        refine post_block_ret ?_
        iterate 2 (refine post_then_ret ?_)
        refine post_lp_ret ?_
        obtain rfl := Option.some.inj hF
        have hF := elim_stop hK30
        refine post_then_ret ?_
        obtain rfl := Option.some.inj hF
        exact post_ret rfl rfl (.cons _ _ _ _ _ (.agg _ _ _ _ _ 2 _ _ rfl rfl Tryd_agg_23 rfl rfl rfl) (.p _) .nil) (.inl rfl)
      refine aw_cond_f rfl hb25 ?_
      refine aw_skip ?_
      refine post_block_normal ?_
      refine post_next ?_
      refine aw_region ?_
      refine rmv ?_
      refine rgp (op_int (k := .i64) (m := x18) (n := 1) rfl rfl rfl rfl rfl rfl) ?_
      refine ras ?_
      refine reg_nil ?_
      refine post_round ?_
      exact rnd_back (ih (w_i64 (x18 + 1)) hF) (imps [0] ⟨by kernel_rfl, by kernel_rfl, by kernel_rfl, by kernel_rfl, trivial⟩ ⟨by kernel_rfl, trivial⟩)
    refine aw_cond_f rfl hb24 ?_
    refine aw_exit ?_
    iterate 2 (refine post_then_exit ?_)
    obtain rfl := Option.some.inj hF
    exact post_lp_break _ ⟨_, rfl, rfl⟩ (imps [0] ⟨by kernel_rfl, trivial⟩ ⟨by kernel_rfl, trivial⟩)
  rintro _ ⟨⟨⟩, rfl, rfl⟩
  have hF := elim_next hK30
  clear hK30
  refine post_next ?_
  refine aw_seq ?_
  refine aw_region ?_
  refine rgp (op_build (zs := (eGOwner zGOwner)) (r := eGOwner ({ fKind := 8, fN := 0 } : GOwner)) rfl Tryd_zer_23 (by exact ⟨rfl, rfl, trivial⟩) Tryd_plc_23 rfl rfl rfl rfl) ?_
  refine rgp (op_store_lp (n := 2) rfl rfl rfl rfl rfl (or_agg Tryd_agg_23) (by rw [Tryd_non_23]; rfl) rfl rfl rfl) ?_
  refine reg_nil ?_
  refine post_imp (s' := ⟨38, [(4, some (.lp 0 0))], [(0, some (.box 23 (bxv (eGOwner ({ fKind := 8, fN := 0 } : GOwner)))))], 1, [], [], 0, []⟩) (imps [0] ⟨by kernel_rfl, trivial⟩ ⟨by kernel_rfl, trivial⟩) ?_
  refine post_next ?_
  refine aw_ret ?_
  obtain rfl := Option.some.inj hF
  exact post_ret rfl rfl (.cons _ _ _ _ _ (.agg _ _ _ _ _ 2 _ _ rfl rfl Tryd_agg_23 rfl rfl rfl) (.p _) .nil) (.inl rfl)
theorem ref05_With_ok {a0 : GType} {a1 : List GOwner} {r : GType} (hF : ref05_With a0 a1 = some r) : Abs.Fn globs_Tryd Tryd.prog 27 [.agg (eGType a0), .vs 2 (List.map eGOwner a1)] [.p (.agg (eGType r))] := by
  unfold ref05_With at hF
  refine fn_of_body (n := 25) Tryd.func27 rfl rfl rfl ?_
  intro w O
  refine aw_seq ?_
  refine aw_region ?_
  refine rgp (op_box 0 rfl rfl rfl rfl rfl rfl) ?_
  refine rgp (op_alloc 1 rfl (ps := (eGType zGType)) rfl Tryd_zer_26 (by exact ⟨rfl, rfl, rfl, rfl, rfl, rfl, rfl, rfl, rfl, rfl, rfl, trivial⟩) rfl rfl) ?_
  refine reg_nil ?_
  refine post_imp (s' := ⟨25, [(1, some (.pv (.vs 2 (List.map eGOwner a1)))), (2, some (.lp 0 0)), (4, some (.lp 1 0))], [(0, some (.box 26 (bxv (eGType a0)))), (1, some (.box 26 (bxv (eGType zGType))))], 2, [], [], 0, []⟩) (imps [0, 1] ⟨by kernel_rfl, by kernel_rfl, by kernel_rfl, trivial⟩ ⟨by kernel_rfl, by kernel_rfl, trivial⟩) ?_
  refine post_next ?_
  refine aw_seq ?_
  refine aw_region ?_
  refine rgp (op_load_lp_agg (ps := eGType a0) rfl rfl rfl rfl rfl rfl Tryd_agg_26 rfl rfl) ?_
  obtain ⟨y3, h4, hF⟩ := bind_some hF
  refine rgp (op_call 2 rfl (caps := []) (args := [.agg (eGType a0)]) (rs := [.p (.vs 2 (List.map eGOwner y3))]) rfl rfl rfl Tryd_cal_22 (Fn.frozen (ref05_Owners_ok h4)) rfl rfl rfl) ?_
  refine ras ?_
  refine reg_nil ?_
  refine post_imp (s' := ⟨25, [(1, some (.pv (.vs 2 (List.map eGOwner a1)))), (2, some (.lp 0 0)), (4, some (.lp 1 0)), (5, some (.pv (.vs 2 (List.map eGOwner y3))))], [(0, some (.box 26 (bxv (eGType a0)))), (1, some (.box 26 (bxv (eGType zGType))))], 2, [], [], 0, []⟩) (imps [0, 1] ⟨by kernel_rfl, by kernel_rfl, by kernel_rfl, by kernel_rfl, trivial⟩ ⟨by kernel_rfl, by kernel_rfl, trivial⟩) ?_
  refine post_next ?_
  iterate 2 (refine aw_seq ?_)
  refine aw_region ?_
  refine ras ?_
  refine reg_nil ?_
  refine post_imp (s' := ⟨25, [(1, some (.pv (.vs 2 (List.map eGOwner a1)))), (2, some (.lp 0 0)), (4, some (.lp 1 0)), (5, some (.pv (.vs 2 (List.map eGOwner y3)))), (6, some (.pv (.int .i64 0)))], [(0, some (.box 26 (bxv (eGType a0)))), (1, some (.box 26 (bxv (eGType zGType))))], 2, [], [], 0, []⟩) (imps [0, 1] ⟨by kernel_rfl, by kernel_rfl, by kernel_rfl, by kernel_rfl, by kernel_rfl, trivial⟩ ⟨by kernel_rfl, by kernel_rfl, trivial⟩) ?_
  refine post_next ?_
  obtain ⟨x46, hF, hK47⟩ := bind_some hF
  refine aw_for ((((y3.length : Int) : Int) - (0)).toNat + 1) (fun s1 => s1 = ⟨25, [(2, some (.lp 0 0)), (4, some (.lp 1 0))], [(0, some (.box 26 (bxv (eGType x46)))), (1, some (.box 26 (bxv (eGType zGType))))], 2, [], [], 0, []⟩) ?_ ?_
  · refine rnd_loop (α := GType × Int) (fun q => ⟨25, [(1, some (.pv (.vs 2 (List.map eGOwner a1)))), (2, some (.lp 0 0)), (4, some (.lp 1 0)), (5, some (.pv (.vs 2 (List.map eGOwner y3)))), (6, some (.pv (.int .i64 q.2)))], [(0, some (.box 26 (bxv (eGType q.1)))), (1, some (.box 26 (bxv (eGType zGType))))], 2, [], [], 0, []⟩) (fun k q => ref05_With_L1 a1 y3 k q.1 q.2 = some x46) (a0, 0) (imps [0, 1] ⟨by kernel_rfl, by kernel_rfl, by kernel_rfl, by kernel_rfl, by kernel_rfl, trivial⟩ ⟨by kernel_rfl, by kernel_rfl, trivial⟩) hF (fun q h => by cases h) ?_
    clear hF
    rintro k ⟨x14, x15⟩ hF ih
    refine rnd_succ ?_
    iterate 2 (refine aw_seq ?_)
    refine aw_region ?_
    iterate 2 (refine rmv ?_)
    refine rgp (op_len_vs (n := y3.length) rfl rfl (List.length_map ..) Tryd_slc_35 rfl rfl) ?_
    refine rgp (op_int (k := .i64) (m := x15) (n := (y3.length : Int)) rfl rfl rfl rfl rfl rfl) ?_
    refine reg_nil ?_
    refine post_imp (s' := ⟨25, [(1, some (.pv (.vs 2 (List.map eGOwner a1)))), (2, some (.lp 0 0)), (4, some (.lp 1 0)), (5, some (.pv (.vs 2 (List.map eGOwner y3)))), (6, some (.pv (.int .i64 x15))), (12, some (.pv (.bool (decide (x15 < (y3.length : Int))))))], [(0, some (.box 26 (bxv (eGType x14)))), (1, some (.box 26 (bxv (eGType zGType))))], 2, [], [], 0, []⟩) (imps [0, 1] ⟨by kernel_rfl, by kernel_rfl, by kernel_rfl, by kernel_rfl, by kernel_rfl, by kernel_rfl, trivial⟩ ⟨by kernel_rfl, by kernel_rfl, trivial⟩) ?_
    refine post_next ?_
    rcases ite_some hF with ⟨hb31, hF⟩ | ⟨hb31, hF⟩
    · refine aw_cond_t rfl hb31 ?_
      refine aw_skip ?_
      refine post_next ?_
      refine aw_seq ?_
      refine aw_block ?_
      refine aw_region ?_
      iterate 3 (refine rmv ?_)
      obtain ⟨y38, h39, hF⟩ := bind_some hF
      refine rgp (op_index_vs (k := .i64) rfl rfl rfl (idx_map eGOwner h39) Tryd_slc_35 rfl rfl) ?_
      refine rgp (op_load_vp_agg (ps := eGOwner y38) rfl rfl rfl rfl Tryd_agg_23 rfl rfl) ?_
      refine rmv ?_
      obtain ⟨y40, h41, hF⟩ := bind_some hF
      refine rgp (op_call 2 rfl (caps := []) (args := [.agg (eGOwner y38), .vs 2 (List.map eGOwner a1)]) (rs := [.p (.agg (eGOwner y40))]) rfl rfl rfl Tryd_cal_52 (ref04_Put_ok h41) rfl rfl rfl) ?_
      refine rgp (op_field_lp rfl rfl Tryd_fld_26_3 rfl rfl) ?_
      obtain ⟨y42, h43, hF⟩ := bind_some hF
      refine rgp (op_arr_lpN (l := (x14.fOwn).l) rfl rfl rfl Tryd_arr_24 rfl h43 rfl rfl) ?_
      refine rgp (op_store_lpV (cells' := bxv (eGType ({ x14 with fOwn := (A4.set x14.fOwn (x15 : Int).toNat y40) } : GType))) (n := 2) rfl rfl rfl rfl rfl (or_agg Tryd_agg_23) (by rw [Tryd_non_23]; rfl) (by rcases idx_l4 h43 with e | e | e | e <;> rw [e] <;> exact Nat.le_of_ble_eq_true rfl) (by rcases idx_l4 h43 with e | e | e | e <;> rw [e] <;> rfl) rfl rfl) ?_
      refine reg_nil ?_
      refine post_imp (s' := ⟨25, [(1, some (.pv (.vs 2 (List.map eGOwner a1)))), (2, some (.lp 0 0)), (4, some (.lp 1 0)), (5, some (.pv (.vs 2 (List.map eGOwner y3)))), (6, some (.pv (.int .i64 x15)))], [(0, some (.box 26 (bxv (eGType ({ x14 with fOwn := (A4.set x14.fOwn (x15 : Int).toNat y40) } : GType))))), (1, some (.box 26 (bxv (eGType zGType))))], 2, [], [], 0, []⟩) (imps [0, 1] ⟨by kernel_rfl, by kernel_rfl, by kernel_rfl, by kernel_rfl, by kernel_rfl, trivial⟩ ⟨by kernel_rfl, by kernel_rfl, trivial⟩) ?_
      refine post_block_normal ?_
      refine post_next ?_
      refine aw_region ?_
      refine rmv ?_
      refine rgp (op_int (k := .i64) (m := x15) (n := 1) rfl rfl rfl rfl rfl rfl) ?_
      refine ras ?_
      refine reg_nil ?_
      refine post_round ?_
      exact rnd_back (ih (({ x14 with fOwn := (A4.set x14.fOwn (x15 : Int).toNat y40) } : GType), w_i64 (x15 + 1)) hF) (imps [0, 1] ⟨by kernel_rfl, by kernel_rfl, by kernel_rfl, by kernel_rfl, by kernel_rfl, trivial⟩ ⟨by kernel_rfl, by kernel_rfl, trivial⟩)
    refine aw_cond_f rfl hb31 ?_
    refine aw_exit ?_
    iterate 2 (refine post_then_exit ?_)
    obtain rfl := Option.some.inj hF
    exact post_lp_break _ rfl (imps [0, 1] ⟨by kernel_rfl, by kernel_rfl, trivial⟩ ⟨by kernel_rfl, by kernel_rfl, trivial⟩)
  rintro _ rfl
  have hF := hK47
  clear hK47
  refine post_next ?_
  refine aw_seq ?_
  refine aw_region ?_
  refine rgp (op_load_lp_agg (ps := eGType x46) rfl rfl rfl rfl rfl rfl Tryd_agg_26 rfl rfl) ?_
  refine rgp (op_store_lp (n := 11) rfl rfl rfl rfl rfl (or_agg Tryd_agg_26) (by rw [Tryd_non_26]; rfl) rfl rfl rfl) ?_
  refine reg_nil ?_
  refine post_imp (s' := ⟨25, [(4, some (.lp 0 0))], [(0, some (.box 26 (bxv (eGType x46))))], 1, [], [], 0, []⟩) (imps [1] ⟨by kernel_rfl, trivial⟩ ⟨by kernel_rfl, trivial⟩) ?_
  refine post_next ?_
  refine aw_ret ?_
  obtain rfl := Option.some.inj hF
  exact post_ret rfl rfl (.cons _ _ _ _ _ (.agg _ _ _ _ _ 11 _ _ rfl rfl Tryd_agg_26 rfl rfl rfl) (.p _) .nil) (.inl rfl)
abbrev law05_KindWith_e54  : Eff := { need := [(59, .pv (.bool false))], dst := some 4, val := some (.pv (.bool false)) }
theorem law05_KindWith_ok {a0 : GType} {a1 : List GOwner} {r : Bool} (hF : law05_KindWith a0 a1 = some r) : Abs.Fn globs_Tryd Tryd.prog 7 [.agg (eGType a0), .vs 2 (List.map eGOwner a1)] [.p (.bool r)] := by
  unfold law05_KindWith at hF
  refine fn_of_body (n := 60) Tryd.func7 rfl rfl rfl ?_
  intro w O
  refine aw_seq ?_
  refine aw_region ?_
  refine rgp (op_box 0 rfl rfl rfl rfl rfl rfl) ?_
  refine ras ?_
  refine reg_nil ?_
  refine post_imp (s' := ⟨60, [(1, some (.pv (.vs 2 (List.map eGOwner a1)))), (2, some (.lp 0 0))], [(0, some (.box 26 (bxv (eGType a0))))], 1, [], [], 0, []⟩) (imps [0] ⟨by kernel_rfl, by kernel_rfl, trivial⟩ ⟨by kernel_rfl, trivial⟩) ?_
  refine post_next ?_
  iterate 2 (refine aw_seq ?_)
  refine aw_region ?_
  refine rmv ?_
  refine rgp (op_len_vs (n := a1.length) rfl rfl (List.length_map ..) Tryd_slc_35 rfl rfl) ?_
  refine rgp (op_int (k := .i64) (m := (a1.length : Int)) (n := 20) rfl rfl rfl rfl rfl rfl) ?_
  refine reg_nil ?_
  refine post_imp (s' := ⟨60, [(1, some (.pv (.vs 2 (List.map eGOwner a1)))), (2, some (.lp 0 0)), (10, some (.pv (.bool (decide ((a1.length : Int) > 20)))))], [(0, some (.box 26 (bxv (eGType a0))))], 1, [], [], 0, []⟩) (imps [0] ⟨by kernel_rfl, by kernel_rfl, by kernel_rfl, trivial⟩ ⟨by kernel_rfl, trivial⟩) ?_
  refine post_next ?_
  rcases ite_some hF with ⟨hb1, hF⟩ | ⟨hb1, hF⟩
  · refine aw_cond_t rfl hb1 ?_
    refine aw_seq ?_
    refine aw_region ?_
    obtain ⟨y2, h3, hF⟩ := bind_some hF
    refine rgp (op_call 1 rfl (caps := []) (args := []) (rs := [.p (.bool y2)]) rfl rfl rfl Tryd_cal_10 (law05_awake_ok h3) rfl rfl rfl) ?_
    refine ras ?_
    refine reg_nil ?_
    refine post_imp (s' := ⟨60, [(4, some (.pv (.bool y2)))], [], 0, [], [], 0, []⟩) (imps [] ⟨by kernel_rfl, trivial⟩ trivial) ?_
    refine post_next ?_
    refine aw_ret ?_
    refine post_then_ret ?_
    obtain rfl := Option.some.inj hF
    exact prt
  refine aw_cond_f rfl hb1 ?_
  refine aw_skip ?_
  refine post_next ?_
  refine aw_seq ?_
  refine dr_start ⟨_, _, _⟩ rfl ?_
  refine dr_cons { need := [(2, .lp 0 0)], hneed := [(0, .box 26 (bxv (eGType a0)))], dst := some 12, val := some (.pv (.agg (eGType a0))) } (fun m h => step_on (guard_no rfl) (op_load_lp_agg (ps := eGType a0) rfl h.1.1 h.2.1.1 rfl rfl rfl Tryd_agg_26 rfl rfl) rfl) ⟨⟨rfl, trivial⟩, ⟨rfl, trivial⟩, trivial⟩ ?_
  obtain ⟨y8, h9, hF⟩ := bind_some hF
  refine dr_cons { need := [(12, .pv (.agg (eGType a0)))], dst := some 13, val := some (.pv (.vs 2 (List.map eGOwner y8))) } (fun m h => step_on (guard_no rfl) (op_call 1 rfl (caps := []) (args := [.agg (eGType a0)]) (rs := [.p (.vs 2 (List.map eGOwner y8))]) rfl rfl (evl_cons h.1.1 evl_nil) Tryd_cal_21 (kind_Owners_ok h9) rfl rfl rfl) rfl) ⟨⟨rfl, trivial⟩, trivial, trivial⟩ ?_
  refine dr_cons { need := [(2, .lp 0 0)], hneed := [(0, .box 26 (bxv (eGType a0)))], dst := some 14, val := some (.pv (.agg (eGType a0))) } (fun m h => step_on (guard_no rfl) (op_load_lp_agg (ps := eGType a0) rfl h.1.1 h.2.1.1 rfl rfl rfl Tryd_agg_26 rfl rfl) rfl) ⟨⟨rfl, trivial⟩, ⟨rfl, trivial⟩, trivial⟩ ?_
  obtain ⟨y10, h11, hF⟩ := bind_some hF
  refine dr_cons { need := [(14, .pv (.agg (eGType a0)))], dst := some 15, val := some (.pv (.vs 2 (List.map eGOwner y10))) } (fun m h => step_on (guard_no rfl) (op_call 1 rfl (caps := []) (args := [.agg (eGType a0)]) (rs := [.p (.vs 2 (List.map eGOwner y10))]) rfl rfl (evl_cons h.1.1 evl_nil) Tryd_cal_22 (Fn.frozen (ref05_Owners_ok h11)) rfl rfl rfl) rfl) ⟨⟨rfl, trivial⟩, trivial, trivial⟩ ?_
  refine dr_cons { need := [(13, .pv (.vs 2 (List.map eGOwner y8)))], dst := some 5, val := some (.pv (.vs 2 (List.map eGOwner y8))) } (fun m h => step_on (guard_no rfl) (op_assign rfl h.1.1 rfl rfl) rfl) ⟨⟨rfl, trivial⟩, trivial, trivial⟩ ?_
  refine dr_cons { need := [(15, .pv (.vs 2 (List.map eGOwner y10)))], dst := some 6, val := some (.pv (.vs 2 (List.map eGOwner y10))) } (fun m h => step_on (guard_no rfl) (op_assign rfl h.1.1 rfl rfl) rfl) ⟨⟨rfl, trivial⟩, trivial, trivial⟩ ?_
  refine dr_nil Tryd_mixed rfl (by kernel_rfl) ?_
  refine post_imp (s' := ⟨60, [(1, some (.pv (.vs 2 (List.map eGOwner a1)))), (2, some (.lp 0 0)), (5, some (.pv (.vs 2 (List.map eGOwner y8)))), (6, some (.pv (.vs 2 (List.map eGOwner y10))))], [(0, some (.box 26 (bxv (eGType a0))))], 1, [], [], 0, []⟩) (imps [0] ⟨by kernel_rfl, by kernel_rfl, by kernel_rfl, by kernel_rfl, trivial⟩ ⟨by kernel_rfl, trivial⟩) ?_
  refine post_next ?_
  iterate 2 (refine aw_seq ?_)
  refine aw_region ?_
  refine rmv ?_
  refine rgp (op_len_vs (n := y8.length) rfl rfl (List.length_map ..) Tryd_slc_35 rfl rfl) ?_
  refine rmv ?_
  refine rgp (op_len_vs (n := y10.length) rfl rfl (List.length_map ..) Tryd_slc_35 rfl rfl) ?_
  refine rgp (op_int (k := .i64) (m := (y8.length : Int)) (n := (y10.length : Int)) rfl rfl rfl rfl rfl rfl) ?_
  refine reg_nil ?_
  refine post_imp (s' := ⟨60, [(1, some (.pv (.vs 2 (List.map eGOwner a1)))), (2, some (.lp 0 0)), (5, some (.pv (.vs 2 (List.map eGOwner y8)))), (6, some (.pv (.vs 2 (List.map eGOwner y10)))), (20, some (.pv (.bool ((y8.length : Int) != (y10.length : Int)))))], [(0, some (.box 26 (bxv (eGType a0))))], 1, [], [], 0, []⟩) (imps [0] ⟨by kernel_rfl, by kernel_rfl, by kernel_rfl, by kernel_rfl, by kernel_rfl, trivial⟩ ⟨by kernel_rfl, trivial⟩) ?_
  refine post_next ?_
  rcases ite_some hF with ⟨hb12, hF⟩ | ⟨hb12, hF⟩
  · refine aw_cond_t rfl hb12 ?_
    refine aw_seq ?_
    refine aw_region ?_
    refine ras ?_
    refine reg_nil ?_
    refine post_imp (s' := ⟨60, [(4, some (.pv (.bool false)))], [], 0, [], [], 0, []⟩) (imps [] ⟨by kernel_rfl, trivial⟩ trivial) ?_
    refine post_next ?_
    refine aw_ret ?_
    refine post_then_ret ?_
    obtain rfl := Option.some.inj hF
    exact prt
  refine aw_cond_f rfl hb12 ?_
  refine aw_skip ?_
  refine post_next ?_
  iterate 2 (refine aw_seq ?_)
  refine aw_region ?_
  refine ras ?_
  refine reg_nil ?_
  refine post_imp (s' := ⟨60, [(1, some (.pv (.vs 2 (List.map eGOwner a1)))), (2, some (.lp 0 0)), (5, some (.pv (.vs 2 (List.map eGOwner y8)))), (6, some (.pv (.vs 2 (List.map eGOwner y10)))), (7, some (.pv (.int .i64 0)))], [(0, some (.box 26 (bxv (eGType a0))))], 1, [], [], 0, []⟩) (imps [0] ⟨by kernel_rfl, by kernel_rfl, by kernel_rfl, by kernel_rfl, by kernel_rfl, trivial⟩ ⟨by kernel_rfl, trivial⟩) ?_
  refine post_next ?_
  obtain ⟨lr46, hF, hK47⟩ := bind_some hF
  refine aw_for ((((y8.length : Int) : Int) - (0)).toNat + 1) (fun s1 => ∃ q, lr46 = .next q ∧ s1 = ⟨60, [(1, some (.pv (.vs 2 (List.map eGOwner a1)))), (2, some (.lp 0 0))], [(0, some (.box 26 (bxv (eGType a0))))], 1, [], [], 0, []⟩) ?_ ?_
  · refine rnd_loop (α := Int) (fun q => ⟨60, [(1, some (.pv (.vs 2 (List.map eGOwner a1)))), (2, some (.lp 0 0)), (5, some (.pv (.vs 2 (List.map eGOwner y8)))), (6, some (.pv (.vs 2 (List.map eGOwner y10)))), (7, some (.pv (.int .i64 q)))], [(0, some (.box 26 (bxv (eGType a0))))], 1, [], [], 0, []⟩) (fun k q => law05_KindWith_L1 y8 y10 k q = some lr46) 0 (imps [0] ⟨by kernel_rfl, by kernel_rfl, by kernel_rfl, by kernel_rfl, by kernel_rfl, trivial⟩ ⟨by kernel_rfl, trivial⟩) hF (fun q h => by cases h) ?_
    clear hF
    rintro k x23 hF ih
    refine rnd_succ ?_
    iterate 2 (refine aw_seq ?_)
    refine aw_region ?_
    iterate 2 (refine rmv ?_)
    refine rgp (op_len_vs (n := y8.length) rfl rfl (List.length_map ..) Tryd_slc_35 rfl rfl) ?_
    refine rgp (op_int (k := .i64) (m := x23) (n := (y8.length : Int)) rfl rfl rfl rfl rfl rfl) ?_
    refine reg_nil ?_
    refine post_imp (s' := ⟨60, [(1, some (.pv (.vs 2 (List.map eGOwner a1)))), (2, some (.lp 0 0)), (5, some (.pv (.vs 2 (List.map eGOwner y8)))), (6, some (.pv (.vs 2 (List.map eGOwner y10)))), (7, some (.pv (.int .i64 x23))), (24, some (.pv (.bool (decide (x23 < (y8.length : Int))))))], [(0, some (.box 26 (bxv (eGType a0))))], 1, [], [], 0, []⟩) (imps [0] ⟨by kernel_rfl, by kernel_rfl, by kernel_rfl, by kernel_rfl, by kernel_rfl, by kernel_rfl, trivial⟩ ⟨by kernel_rfl, trivial⟩) ?_
    refine post_next ?_
    rcases ite_some hF with ⟨hb35, hF⟩ | ⟨hb35, hF⟩
    · refine aw_cond_t rfl hb35 ?_
      refine aw_skip ?_
      refine post_next ?_
      refine aw_seq ?_
      refine aw_block ?_
      refine aw_seq ?_
      refine dr_start ⟨_, _, _⟩ rfl ?_
      iterate 2 (refine drm ?_)
      obtain ⟨y40, h41, hF⟩ := bind_some hF
      refine dr_cons { need := [(27, .pv (.vs 2 (List.map eGOwner y8))), (28, .pv (.int .i64 x23))], dst := some 29, val := some (.pv (.vp (eGOwner y40))) } (fun m h => step_on (guard_no rfl) (op_index_vs (k := .i64) rfl h.1.1 h.1.2.1 (idx_map eGOwner h41) Tryd_slc_35 rfl rfl) rfl) ⟨⟨rfl, rfl, trivial⟩, trivial, trivial⟩ ?_
      refine dr_cons { need := [(29, .pv (.vp (eGOwner y40)))], dst := some 30, val := some (.pv (.agg (eGOwner y40))) } (fun m h => step_on (guard_no rfl) (op_load_vp_agg (ps := eGOwner y40) rfl h.1.1 rfl rfl Tryd_agg_23 rfl rfl) rfl) ⟨⟨rfl, trivial⟩, trivial, trivial⟩ ?_
      iterate 2 (refine drm ?_)
      obtain ⟨y42, h43, hF⟩ := bind_some hF
      refine dr_cons { need := [(31, .pv (.vs 2 (List.map eGOwner y10))), (32, .pv (.int .i64 x23))], dst := some 33, val := some (.pv (.vp (eGOwner y42))) } (fun m h => step_on (guard_no rfl) (op_index_vs (k := .i64) rfl h.1.1 h.1.2.1 (idx_map eGOwner h43) Tryd_slc_35 rfl rfl) rfl) ⟨⟨rfl, rfl, trivial⟩, trivial, trivial⟩ ?_
      refine dr_cons { need := [(33, .pv (.vp (eGOwner y42)))], dst := some 34, val := some (.pv (.agg (eGOwner y42))) } (fun m h => step_on (guard_no rfl) (op_load_vp_agg (ps := eGOwner y42) rfl h.1.1 rfl rfl Tryd_agg_23 rfl rfl) rfl) ⟨⟨rfl, trivial⟩, trivial, trivial⟩ ?_
      refine dr_cons { need := [(30, .pv (.agg (eGOwner y40))), (34, .pv (.agg (eGOwner y42)))], dst := some 35, val := some (.pv (.bool (!(bGOwner y40 y42)))) } (fun m h => step_on (guard_no rfl) (op_eqAgg_neq (r := bGOwner y40 y42) rfl h.1.1 h.1.2.1 Tryd_eqt_23 rfl rfl rfl rfl rfl) rfl) ⟨⟨rfl, rfl, trivial⟩, trivial, trivial⟩ ?_
      refine dr_nil Tryd_mixed rfl (by kernel_rfl) ?_
      refine post_imp (s' := ⟨60, [(1, some (.pv (.vs 2 (List.map eGOwner a1)))), (2, some (.lp 0 0)), (5, some (.pv (.vs 2 (List.map eGOwner y8)))), (6, some (.pv (.vs 2 (List.map eGOwner y10)))), (7, some (.pv (.int .i64 x23))), (35, some (.pv (.bool (!(bGOwner y40 y42)))))], [(0, some (.box 26 (bxv (eGType a0))))], 1, [], [], 0, []⟩) (imps [0] ⟨by kernel_rfl, by kernel_rfl, by kernel_rfl, by kernel_rfl, by kernel_rfl, by kernel_rfl, trivial⟩ ⟨by kernel_rfl, trivial⟩) ?_
      refine post_next ?_
      rcases ite_some hF with ⟨hb44, hF⟩ | ⟨hb44, hF⟩
      · refine aw_cond_t rfl hb44 ?_
        refine aw_seq ?_
        refine aw_region ?_
        refine ras ?_
        refine reg_nil ?_
        refine post_imp (s' := ⟨60, [(4, some (.pv (.bool false)))], [], 0, [], [], 0, []⟩) (imps [] ⟨by kernel_rfl, trivial⟩ trivial) ?_
        refine post_next ?_
        refine aw_ret ?_
        refine post_block_ret ?_
        iterate 2 (refine post_then_ret ?_)
        refine post_lp_ret ?_
        obtain rfl := Option.some.inj hF
        have hF := elim_stop hK47
        refine post_then_ret ?_
        obtain rfl := Option.some.inj hF
        exact prt
      refine aw_cond_f rfl hb44 ?_
      refine aw_skip ?_
      refine post_block_normal ?_
      refine post_next ?_
      refine aw_region ?_
      refine rmv ?_
      refine rgp (op_int (k := .i64) (m := x23) (n := 1) rfl rfl rfl rfl rfl rfl) ?_
      refine ras ?_
      refine reg_nil ?_
      refine post_round ?_
      exact rnd_back (ih (w_i64 (x23 + 1)) hF) (imps [0] ⟨by kernel_rfl, by kernel_rfl, by kernel_rfl, by kernel_rfl, by kernel_rfl, trivial⟩ ⟨by kernel_rfl, trivial⟩)
    refine aw_cond_f rfl hb35 ?_
    refine aw_exit ?_
    iterate 2 (refine post_then_exit ?_)
    obtain rfl := Option.some.inj hF
    exact post_lp_break _ ⟨_, rfl, rfl⟩ (imps [0] ⟨by kernel_rfl, by kernel_rfl, trivial⟩ ⟨by kernel_rfl, trivial⟩)
  rintro _ ⟨⟨⟩, rfl, rfl⟩
  have hF := elim_next hK47
  clear hK47
  refine post_next ?_
  refine aw_seq ?_
  refine dr_start ⟨_, _, _⟩ rfl ?_
  refine dr_cons { need := [(2, .lp 0 0)], hneed := [(0, .box 26 (bxv (eGType a0)))], dst := some 36, val := some (.pv (.agg (eGType a0))) } (fun m h => step_on (guard_no rfl) (op_load_lp_agg (ps := eGType a0) rfl h.1.1 h.2.1.1 rfl rfl rfl Tryd_agg_26 rfl rfl) rfl) ⟨⟨rfl, trivial⟩, ⟨rfl, trivial⟩, trivial⟩ ?_
  obtain ⟨y48, h49, hF⟩ := bind_some hF
  refine dr_cons { need := [(36, .pv (.agg (eGType a0)))], dst := some 37, val := some (.pv (.int .i64 y48)) } (fun m h => step_on (guard_no rfl) (op_call 1 rfl (caps := []) (args := [.agg (eGType a0)]) (rs := [.p (.int .i64 y48)]) rfl rfl (evl_cons h.1.1 evl_nil) Tryd_cal_15 (kind_Holes_ok h49) rfl rfl rfl) rfl) ⟨⟨rfl, trivial⟩, trivial, trivial⟩ ?_
  refine dr_cons { need := [(2, .lp 0 0)], hneed := [(0, .box 26 (bxv (eGType a0)))], dst := some 38, val := some (.pv (.agg (eGType a0))) } (fun m h => step_on (guard_no rfl) (op_load_lp_agg (ps := eGType a0) rfl h.1.1 h.2.1.1 rfl rfl rfl Tryd_agg_26 rfl rfl) rfl) ⟨⟨rfl, trivial⟩, ⟨rfl, trivial⟩, trivial⟩ ?_
  obtain ⟨y50, h51, hF⟩ := bind_some hF
  refine dr_cons { need := [(38, .pv (.agg (eGType a0)))], dst := some 39, val := some (.pv (.int .i64 y50)) } (fun m h => step_on (guard_no rfl) (op_call 1 rfl (caps := []) (args := [.agg (eGType a0)]) (rs := [.p (.int .i64 y50)]) rfl rfl (evl_cons h.1.1 evl_nil) Tryd_cal_23 (ref05_Holes_ok h51) rfl rfl rfl) rfl) ⟨⟨rfl, trivial⟩, trivial, trivial⟩ ?_
  refine dr_cons { need := [(37, .pv (.int .i64 y48)), (39, .pv (.int .i64 y50))], dst := some 40, val := some (.pv (.bool (y48 == y50))) } (fun m h => step_on (guard_no rfl) (op_int (k := .i64) (m := y48) (n := y50) rfl h.1.1 h.1.2.1 rfl rfl rfl) rfl) ⟨⟨rfl, rfl, trivial⟩, trivial, trivial⟩ ?_
  refine drm ?_
  rcases ite_some hF with ⟨hb52, hF⟩ | ⟨hb52, hF⟩
  · refine dr_cons { need := [(41, .pv (.bool (y48 == y50))), (2, .lp 0 0)], hneed := [(0, .box 26 (bxv (eGType a0)))], dst := some 42, val := some (.pv (.agg (eGType a0))) } (fun m h => step_on (guard_on rfl rfl rfl h.1.1 hb52) (op_load_lp_agg (ps := eGType a0) rfl h.1.2.1 h.2.1.1 rfl rfl rfl Tryd_agg_26 rfl rfl) rfl) ⟨⟨rfl, rfl, trivial⟩, ⟨rfl, trivial⟩, trivial⟩ ?_
    obtain ⟨y53, h54, hF⟩ := bind_some hF
    refine dr_cons { need := [(41, .pv (.bool (y48 == y50))), (42, .pv (.agg (eGType a0)))], dst := some 43, val := some (.pv (.bool y53)) } (fun m h => step_on (guard_on rfl rfl rfl h.1.1 hb52) (op_call 1 rfl (caps := []) (args := [.agg (eGType a0)]) (rs := [.p (.bool y53)]) rfl rfl (evl_cons h.1.2.1 evl_nil) Tryd_cal_24 (kind_Unique_ok h54) rfl rfl rfl) rfl) ⟨⟨rfl, rfl, trivial⟩, trivial, trivial⟩ ?_
    refine dr_cons { need := [(41, .pv (.bool (y48 == y50))), (2, .lp 0 0)], hneed := [(0, .box 26 (bxv (eGType a0)))], dst := some 44, val := some (.pv (.agg (eGType a0))) } (fun m h => step_on (guard_on rfl rfl rfl h.1.1 hb52) (op_load_lp_agg (ps := eGType a0) rfl h.1.2.1 h.2.1.1 rfl rfl rfl Tryd_agg_26 rfl rfl) rfl) ⟨⟨rfl, rfl, trivial⟩, ⟨rfl, trivial⟩, trivial⟩ ?_
    obtain ⟨y55, h56, hF⟩ := bind_some hF
    refine dr_cons { need := [(41, .pv (.bool (y48 == y50))), (44, .pv (.agg (eGType a0)))], dst := some 45, val := some (.pv (.bool y55)) } (fun m h => step_on (guard_on rfl rfl rfl h.1.1 hb52) (op_call 1 rfl (caps := []) (args := [.agg (eGType a0)]) (rs := [.p (.bool y55)]) rfl rfl (evl_cons h.1.2.1 evl_nil) Tryd_cal_25 (ref05_Unique_ok h56) rfl rfl rfl) rfl) ⟨⟨rfl, rfl, trivial⟩, trivial, trivial⟩ ?_
    refine dr_cons { need := [(41, .pv (.bool (y48 == y50))), (43, .pv (.bool y53)), (45, .pv (.bool y55))], dst := some 46, val := some (.pv (.bool (y53 == y55))) } (fun m h => step_on (guard_on rfl rfl rfl h.1.1 hb52) (op_eqBool_eql rfl h.1.2.1 h.1.2.2.1 Tryd_und_4 rfl rfl) rfl) ⟨⟨rfl, rfl, rfl, trivial⟩, trivial, trivial⟩ ?_
    refine dr_cons { need := [(41, .pv (.bool (y48 == y50))), (46, .pv (.bool (y53 == y55)))], dst := some 47, val := some (.pv (.bool (y53 == y55))) } (fun m h => step_on (guard_no rfl) (op_pick_t rfl h.1.1 hb52 h.1.2.1 rfl rfl) rfl) ⟨⟨rfl, rfl, trivial⟩, trivial, trivial⟩ ?_
    refine drm ?_
    rcases ite_some hF with ⟨hb57, hF⟩ | ⟨hb57, hF⟩
    · refine dr_cons { need := [(48, .pv (.bool (y53 == y55))), (2, .lp 0 0)], hneed := [(0, .box 26 (bxv (eGType a0)))], dst := some 49, val := some (.pv (.agg (eGType a0))) } (fun m h => step_on (guard_on rfl rfl rfl h.1.1 hb57) (op_load_lp_agg (ps := eGType a0) rfl h.1.2.1 h.2.1.1 rfl rfl rfl Tryd_agg_26 rfl rfl) rfl) ⟨⟨rfl, rfl, trivial⟩, ⟨rfl, trivial⟩, trivial⟩ ?_
      refine dr_cons { need := [(48, .pv (.bool (y53 == y55))), (1, .pv (.vs 2 (List.map eGOwner a1)))], dst := some 50, val := some (.pv (.vs 2 (List.map eGOwner a1))) } (fun m h => step_on (guard_on rfl rfl rfl h.1.1 hb57) (op_move rfl h.1.2.1 rfl rfl) rfl) ⟨⟨rfl, rfl, trivial⟩, trivial, trivial⟩ ?_
      obtain ⟨y58, h59, hF⟩ := bind_some hF
      refine dr_cons { need := [(48, .pv (.bool (y53 == y55))), (50, .pv (.vs 2 (List.map eGOwner a1))), (49, .pv (.agg (eGType a0)))], dst := some 51, val := some (.pv (.agg (eGType y58))) } (fun m h => step_on (guard_on rfl rfl rfl h.1.1 hb57) (op_call 1 rfl (caps := []) (args := [.agg (eGType a0), .vs 2 (List.map eGOwner a1)]) (rs := [.p (.agg (eGType y58))]) rfl rfl (evl_cons h.1.2.2.1 (evl_cons h.1.2.1 evl_nil)) Tryd_cal_26 (kind_With_ok h59) rfl rfl rfl) rfl) ⟨⟨rfl, rfl, rfl, trivial⟩, trivial, trivial⟩ ?_
      refine dr_cons { need := [(48, .pv (.bool (y53 == y55))), (2, .lp 0 0)], hneed := [(0, .box 26 (bxv (eGType a0)))], dst := some 52, val := some (.pv (.agg (eGType a0))) } (fun m h => step_on (guard_on rfl rfl rfl h.1.1 hb57) (op_load_lp_agg (ps := eGType a0) rfl h.1.2.1 h.2.1.1 rfl rfl rfl Tryd_agg_26 rfl rfl) rfl) ⟨⟨rfl, rfl, trivial⟩, ⟨rfl, trivial⟩, trivial⟩ ?_
      refine dr_cons { need := [(48, .pv (.bool (y53 == y55))), (1, .pv (.vs 2 (List.map eGOwner a1)))], dst := some 53, val := some (.pv (.vs 2 (List.map eGOwner a1))) } (fun m h => step_on (guard_on rfl rfl rfl h.1.1 hb57) (op_move rfl h.1.2.1 rfl rfl) rfl) ⟨⟨rfl, rfl, trivial⟩, trivial, trivial⟩ ?_
      obtain ⟨y60, h61, hF⟩ := bind_some hF
      refine dr_cons { need := [(48, .pv (.bool (y53 == y55))), (53, .pv (.vs 2 (List.map eGOwner a1))), (52, .pv (.agg (eGType a0)))], dst := some 54, val := some (.pv (.agg (eGType y60))) } (fun m h => step_on (guard_on rfl rfl rfl h.1.1 hb57) (op_call 1 rfl (caps := []) (args := [.agg (eGType a0), .vs 2 (List.map eGOwner a1)]) (rs := [.p (.agg (eGType y60))]) rfl rfl (evl_cons h.1.2.2.1 (evl_cons h.1.2.1 evl_nil)) Tryd_cal_27 (ref05_With_ok h61) rfl rfl rfl) rfl) ⟨⟨rfl, rfl, rfl, trivial⟩, trivial, trivial⟩ ?_
      refine dr_cons { need := [(48, .pv (.bool (y53 == y55))), (51, .pv (.agg (eGType y58))), (54, .pv (.agg (eGType y60)))], dst := some 55, val := some (.pv (.bool (bGType y58 y60))) } (fun m h => step_on (guard_on rfl rfl rfl h.1.1 hb57) (op_eqAgg_eql (r := bGType y58 y60) rfl h.1.2.1 h.1.2.2.1 Tryd_eqt_26 rfl rfl rfl rfl rfl) rfl) ⟨⟨rfl, rfl, rfl, trivial⟩, trivial, trivial⟩ ?_
      refine dr_cons { need := [(48, .pv (.bool (y53 == y55))), (55, .pv (.bool (bGType y58 y60)))], dst := some 56, val := some (.pv (.bool (bGType y58 y60))) } (fun m h => step_on (guard_no rfl) (op_pick_t rfl h.1.1 hb57 h.1.2.1 rfl rfl) rfl) ⟨⟨rfl, rfl, trivial⟩, trivial, trivial⟩ ?_
      refine drm ?_
      rcases ite_some hF with ⟨hb62, hF⟩ | ⟨hb62, hF⟩
      · obtain ⟨y63, h64, hF⟩ := bind_some hF
        refine dr_cons { need := [(57, .pv (.bool (bGType y58 y60)))], dst := some 58, val := some (.pv (.bool y63)) } (fun m h => step_on (guard_on rfl rfl rfl h.1.1 hb62) (op_call 1 rfl (caps := []) (args := []) (rs := [.p (.bool y63)]) rfl rfl evl_nil Tryd_cal_10 (law05_awake_ok h64) rfl rfl rfl) rfl) ⟨⟨rfl, trivial⟩, trivial, trivial⟩ ?_
        refine dr_cons { need := [(57, .pv (.bool (bGType y58 y60))), (58, .pv (.bool y63))], dst := some 59, val := some (.pv (.bool y63)) } (fun m h => step_on (guard_no rfl) (op_pick_t rfl h.1.1 hb62 h.1.2.1 rfl rfl) rfl) ⟨⟨rfl, rfl, trivial⟩, trivial, trivial⟩ ?_
        refine dr_cons { need := [(59, .pv (.bool y63))], dst := some 4, val := some (.pv (.bool y63)) } (fun m h => step_on (guard_no rfl) (op_assign rfl h.1.1 rfl rfl) rfl) ⟨⟨rfl, trivial⟩, trivial, trivial⟩ ?_
        refine dr_nil Tryd_mixed rfl (by kernel_rfl) ?_
        refine post_imp (s' := ⟨60, [(4, some (.pv (.bool y63)))], [], 0, [], [], 0, []⟩) (imps [] ⟨by kernel_rfl, trivial⟩ trivial) ?_
        refine post_next ?_
        refine aw_ret ?_
        obtain rfl := Option.some.inj hF
        exact prt
      refine dro_f hb62 ?_
      refine drpf hb62 ?_
      refine dr_cons law05_KindWith_e54 (fun m h => step_on (guard_no rfl) (op_assign rfl h.1.1 rfl rfl) rfl) ⟨⟨rfl, trivial⟩, trivial, trivial⟩ ?_
      refine dr_nil Tryd_mixed rfl (by kernel_rfl) ?_
      refine post_imp (s' := ⟨60, [(4, some (.pv (.bool false)))], [], 0, [], [], 0, []⟩) (imps [] ⟨by kernel_rfl, trivial⟩ trivial) ?_
      refine post_next ?_
      refine aw_ret ?_
      obtain rfl := Option.some.inj hF
      exact prt
    iterate 7 (refine dro_f hb57 ?_)
    refine drpf hb57 ?_
    refine drm ?_
    refine dro_f rfl ?_
    refine drpf rfl ?_
    refine dr_cons law05_KindWith_e54 (fun m h => step_on (guard_no rfl) (op_assign rfl h.1.1 rfl rfl) rfl) ⟨⟨rfl, trivial⟩, trivial, trivial⟩ ?_
    refine dr_nil Tryd_mixed rfl (by kernel_rfl) ?_
    refine post_imp (s' := ⟨60, [(4, some (.pv (.bool false)))], [], 0, [], [], 0, []⟩) (imps [] ⟨by kernel_rfl, trivial⟩ trivial) ?_
    refine post_next ?_
    refine aw_ret ?_
    obtain rfl := Option.some.inj hF
    exact prt
  iterate 5 (refine dro_f hb52 ?_)
  refine drpf hb52 ?_
  refine drm ?_
  iterate 7 (refine dro_f rfl ?_)
  refine drpf rfl ?_
  refine drm ?_
  refine dro_f rfl ?_
  refine drpf rfl ?_
  refine dr_cons law05_KindWith_e54 (fun m h => step_on (guard_no rfl) (op_assign rfl h.1.1 rfl rfl) rfl) ⟨⟨rfl, trivial⟩, trivial, trivial⟩ ?_
  refine dr_nil Tryd_mixed rfl (by kernel_rfl) ?_
  refine post_imp (s' := ⟨60, [(4, some (.pv (.bool false)))], [], 0, [], [], 0, []⟩) (imps [] ⟨by kernel_rfl, trivial⟩ trivial) ?_
  refine post_next ?_
  refine aw_ret ?_
  obtain rfl := Option.some.inj hF
  exact prt
end Go.Proofs.YtkmaieldmcjbfaaDoor
