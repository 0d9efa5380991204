/- A part of the proof that the law KindTells gives true for every input. -/
import Derived.Test.YtkmaieldmcjbfaaDoorKindTellsT
import Derived.Test.YtkmaieldmcjbfaaDoorKindTellsS
import Derived.Test.YtkmaieldmcjbfaaDoorKindTellsX
/- Each Go function computes its plain function. -/
namespace Go.Proofs.YtkmaieldmcjbfaaDoor
open Go.RowKit Go.Abs
set_option maxRecDepth 100000
set_option maxHeartbeats 4000000
theorem word_Letter_ok {a0 : Int} {r : Bool} (hF : word_Letter a0 = some r) : Abs.Fn globs_Tryd Tryd.prog 55 [.int .u8 a0] [.p (.bool r)] := by
  unfold word_Letter at hF
  refine fn_of_body (n := 12) Tryd.func55 rfl rfl rfl ?_
  intro w O
  refine aw_seq ?_
  refine aw_region ?_
  refine ras ?_
  refine reg_nil ?_
  refine post_imp (s' := ⟨12, [(0, some (.pv (.int .u8 a0)))], [], 0, [], [], 0, []⟩) (imps [] ⟨by kernel_rfl, trivial⟩ trivial) ?_
  refine post_next ?_
  refine aw_seq ?_
  refine aw_region ?_
  refine rmv ?_
  refine rgp (op_int2 (k := .u8) (m := a0) (n := 32) rfl rfl rfl rfl rfl rfl) ?_
  refine ras ?_
  refine reg_nil ?_
  refine post_imp (s' := ⟨12, [(3, some (.pv (.int .u8 (orI .u8 a0 32))))], [], 0, [], [], 0, []⟩) (imps [] ⟨by kernel_rfl, trivial⟩ trivial) ?_
  refine post_next ?_
  refine aw_seq ?_
  refine aw_region ?_
  refine rmv ?_
  refine rgp (op_int (k := .u8) (m := orI .u8 a0 32) (n := 97) rfl rfl rfl rfl rfl rfl) ?_
  refine rmv ?_
  rcases ite_some hF with ⟨hb1, hF⟩ | ⟨hb1, hF⟩
  · refine rgn hb1 (op_move rfl rfl rfl rfl) ?_
    refine rgn hb1 (op_int (k := .u8) (m := orI .u8 a0 32) (n := 122) rfl rfl rfl rfl rfl rfl) ?_
    refine rpt hb1 ?_
    refine ras ?_
    refine reg_nil ?_
    refine post_imp (s' := ⟨12, [(2, some (.pv (.bool (decide ((orI .u8 a0 32) ≤ 122)))))], [], 0, [], [], 0, []⟩) (imps [] ⟨by kernel_rfl, trivial⟩ trivial) ?_
    refine post_next ?_
    refine aw_ret ?_
    obtain rfl := Option.some.inj hF
    exact prt
  iterate 2 (refine rgo_f hb1 ?_)
  refine rpf hb1 ?_
  refine ras ?_
  refine reg_nil ?_
  refine post_imp (s' := ⟨12, [(2, some (.pv (.bool false)))], [], 0, [], [], 0, []⟩) (imps [] ⟨by kernel_rfl, trivial⟩ trivial) ?_
  refine post_next ?_
  refine aw_ret ?_
  obtain rfl := Option.some.inj hF
  exact prt
theorem word_Digit_ok {a0 : Int} {r : Bool} (hF : word_Digit a0 = some r) : Abs.Fn globs_Tryd Tryd.prog 56 [.int .u8 a0] [.p (.bool r)] := by
  unfold word_Digit at hF
  refine fn_of_body (n := 6) Tryd.func56 rfl rfl rfl ?_
  intro w O
  refine aw_seq ?_
  refine aw_region ?_
  refine ras ?_
  refine reg_nil ?_
  refine post_imp (s' := ⟨6, [(0, some (.pv (.int .u8 a0)))], [], 0, [], [], 0, []⟩) (imps [] ⟨by kernel_rfl, trivial⟩ trivial) ?_
  refine post_next ?_
  refine aw_seq ?_
  refine aw_region ?_
  refine rmv ?_
  refine rgp (op_int (k := .u8) (m := a0) (n := 48) rfl rfl rfl rfl rfl rfl) ?_
  refine rgp (op_int (k := .u8) (m := w_u8 (a0 - 48)) (n := 10) rfl rfl rfl rfl rfl rfl) ?_
  refine ras ?_
  refine reg_nil ?_
  refine post_imp (s' := ⟨6, [(2, some (.pv (.bool (decide ((w_u8 (a0 - 48)) < 10)))))], [], 0, [], [], 0, []⟩) (imps [] ⟨by kernel_rfl, trivial⟩ trivial) ?_
  refine post_next ?_
  refine aw_ret ?_
  obtain rfl := Option.some.inj hF
  exact prt

theorem word_is_ok {a0 : List UInt8} {r : (List UInt8)} (hF : word_is a0 = some r) : Abs.Fn globs_Tryd Tryd.prog 80 [.str a0] [.p (.fn 99 [.vp (eS r)])] := by
  unfold word_is at hF
  refine fn_of_body (n := 4) Tryd.func80 rfl rfl rfl ?_
  intro w O
  refine aw_seq ?_
  refine aw_region ?_
  refine rgp (op_box 0 rfl rfl rfl rfl rfl rfl) ?_
  refine ras ?_
  refine reg_nil ?_
  refine post_imp (s' := ⟨4, [(1, some (.lp 0 0))], [(0, some (.box 9 [.pv (.str a0)]))], 1, [], [], 0, []⟩) (imps [0] ⟨by kernel_rfl, trivial⟩ ⟨by kernel_rfl, trivial⟩) ?_
  refine post_next ?_
  refine aw_seq ?_
  refine aw_region ?_
  refine rgp (op_makeFunc rfl rfl rfl rfl) ?_
  refine ras ?_
  refine reg_nil ?_
  refine post_imp (s' := ⟨4, [(2, some (.fn 99 [.lp 0 0]))], [(0, some (.box 9 [.pv (.str a0)]))], 1, [], [], 0, []⟩) (imps [0] ⟨by kernel_rfl, trivial⟩ ⟨by kernel_rfl, trivial⟩) ?_
  refine post_next ?_
  refine aw_ret ?_
  refine post_imp (imp_freeze [(0, some (.box 9 [.pv (.str a0)]))] [(2, some (.pv (.fn 99 [.vp (eS a0)])))] (FzH.spec ⟨rfl, trivial⟩) ⟨⟨_, rfl, rfl⟩, trivial⟩) ?_
  obtain rfl := Option.some.inj hF
  exact post_ret rfl rfl (.cons _ _ _ _ _ (.tmp _ _ rfl) (.p _) .nil) (.inl rfl)
theorem slices_IndexFunc_string_ok {a0 : List (List UInt8)} {q1 : (List UInt8) → Option Bool} {r : Int} {q1_f : Nat} {q1_c : List PV} (q1_b : callB Tryd.prog q1_f = true) (q1_h : ∀ (x0 : List UInt8) (r : Bool), q1 x0 = some r → Abs.Fn globs_Tryd Tryd.prog q1_f ([.str x0] ++ q1_c) [.p (.bool r)]) (hF : slices_IndexFunc_string a0 q1 = some r) : Abs.Fn globs_Tryd Tryd.prog 79 [.vs 1 (List.map eS a0), .fn q1_f q1_c] [.p (.int .i64 r)] := by
  unfold slices_IndexFunc_string at hF
  refine fn_of_body (n := 19) Tryd.func79 rfl rfl rfl ?_
  intro w O
  refine aw_seq ?_
  refine aw_region ?_
  refine ras ?_
  refine reg_nil ?_
  refine post_imp (s' := ⟨19, [(0, some (.pv (.vs 1 (List.map eS a0)))), (1, some (.pv (.fn q1_f q1_c)))], [], 0, [], [], 0, []⟩) (imps [] ⟨by kernel_rfl, by kernel_rfl, trivial⟩ trivial) ?_
  refine post_next ?_
  iterate 2 (refine aw_seq ?_)
  refine aw_region ?_
  refine rmv ?_
  refine rgp (op_len_vs (n := a0.length) rfl rfl (List.length_map ..) Tryd_slc_27 rfl rfl) ?_
  refine rmv ?_
  refine reg_nil ?_
  refine post_imp (s' := ⟨19, [(0, some (.pv (.vs 1 (List.map eS a0)))), (1, some (.pv (.fn q1_f q1_c))), (7, some (.pv (.int .i64 (a0.length : Int)))), (8, some (.pv (.int .i64 0)))], [], 0, [], [], 0, []⟩) (imps [] ⟨by kernel_rfl, by kernel_rfl, by kernel_rfl, by kernel_rfl, trivial⟩ trivial) ?_
  refine post_next ?_
  obtain ⟨lr34, hF, hK35⟩ := bind_some hF
  refine aw_for ((((a0.length : Int) : Int) - (0)).toNat + 1) (fun s1 => ∃ q, lr34 = .next q ∧ s1 = ⟨19, [], [], 0, [], [], 0, []⟩) ?_ ?_
  · refine rnd_loop (α := Int) (fun q => ⟨19, [(0, some (.pv (.vs 1 (List.map eS a0)))), (1, some (.pv (.fn q1_f q1_c))), (7, some (.pv (.int .i64 (a0.length : Int)))), (8, some (.pv (.int .i64 q)))], [], 0, [], [], 0, []⟩) (fun k q => slices_IndexFunc_string_L1 a0 q1 k q = some lr34) 0 (imps [] ⟨by kernel_rfl, by kernel_rfl, by kernel_rfl, by kernel_rfl, trivial⟩ trivial) hF (fun q h => by cases h) ?_
    clear hF
    rintro k x11 hF ih
    refine rnd_succ ?_
    refine aw_seq ?_
    refine aw_region ?_
    refine rgp (op_int (k := .i64) (m := x11) (n := (a0.length : Int)) rfl rfl rfl rfl rfl rfl) ?_
    refine reg_nil ?_
    refine post_imp (s' := ⟨19, [(0, some (.pv (.vs 1 (List.map eS a0)))), (1, some (.pv (.fn q1_f q1_c))), (7, some (.pv (.int .i64 (a0.length : Int)))), (8, some (.pv (.int .i64 x11))), (9, some (.pv (.bool (decide (x11 < (a0.length : Int))))))], [], 0, [], [], 0, []⟩) (imps [] ⟨by kernel_rfl, by kernel_rfl, by kernel_rfl, by kernel_rfl, by kernel_rfl, trivial⟩ trivial) ?_
    refine post_next ?_
    refine aw_seq ?_
    rcases ite_some hF with ⟨hb23, hF⟩ | ⟨hb23, hF⟩
    · refine aw_cond_t rfl hb23 ?_
      refine aw_skip ?_
      refine post_next ?_
      refine aw_seq ?_
      refine aw_block ?_
      refine aw_seq ?_
      refine aw_region ?_
      refine rmv ?_
      refine ras ?_
      refine reg_nil ?_
      refine post_imp (s' := ⟨19, [(0, some (.pv (.vs 1 (List.map eS a0)))), (1, some (.pv (.fn q1_f q1_c))), (5, some (.pv (.int .i64 x11))), (7, some (.pv (.int .i64 (a0.length : Int)))), (8, some (.pv (.int .i64 x11)))], [], 0, [], [], 0, []⟩) (imps [] ⟨by kernel_rfl, by kernel_rfl, by kernel_rfl, by kernel_rfl, by kernel_rfl, trivial⟩ trivial) ?_
      refine post_next ?_
      refine aw_seq ?_
      refine aw_region ?_
      iterate 3 (refine rmv ?_)
      obtain ⟨y28, h29, hF⟩ := bind_some hF
      refine rgp (op_index_vs (k := .i64) rfl rfl rfl (idx_map eS h29) Tryd_slc_27 rfl rfl) ?_
      refine rgp (op_load_vp (p := .str y28) rfl rfl rfl Tryd_one_9 rfl rfl) ?_
      obtain ⟨y30, h31, hF⟩ := bind_some hF
      refine rgp (op_call 0 rfl (caps := q1_c) (args := [.str y28]) (rs := [.p (.bool y30)]) rfl rfl rfl q1_b (q1_h y28 _ h31) rfl rfl rfl) ?_
      refine reg_nil ?_
      refine post_imp (s' := ⟨19, [(0, some (.pv (.vs 1 (List.map eS a0)))), (1, some (.pv (.fn q1_f q1_c))), (5, some (.pv (.int .i64 x11))), (7, some (.pv (.int .i64 (a0.length : Int)))), (8, some (.pv (.int .i64 x11))), (16, some (.pv (.bool y30)))], [], 0, [], [], 0, []⟩) (imps [] ⟨by kernel_rfl, by kernel_rfl, by kernel_rfl, by kernel_rfl, by kernel_rfl, by kernel_rfl, trivial⟩ trivial) ?_
      refine post_next ?_
      rcases ite_some hF with ⟨hb32, hF⟩ | ⟨hb32, hF⟩
      · refine aw_cond_t rfl hb32 ?_
        refine aw_seq ?_
        refine aw_region ?_
        refine rmv ?_
        refine ras ?_
        refine reg_nil ?_
        refine post_imp (s' := ⟨19, [(4, some (.pv (.int .i64 x11)))], [], 0, [], [], 0, []⟩) (imps [] ⟨by kernel_rfl, trivial⟩ trivial) ?_
        refine post_next ?_
        refine aw_ret ?_
        refine post_block_ret ?_
        iterate 2 (refine post_then_ret ?_)
        refine post_lp_ret ?_
        obtain rfl := Option.some.inj hF
        have hF := elim_stop hK35
        refine post_then_ret ?_
        obtain rfl := Option.some.inj hF
        exact prt
      refine aw_cond_f rfl hb32 ?_
      refine aw_skip ?_
      refine post_block_normal ?_
      refine post_next ?_
      refine aw_region ?_
      refine rgp (op_int (k := .i64) (m := x11) (n := 1) rfl rfl rfl rfl rfl rfl) ?_
      refine rmv ?_
      refine reg_nil ?_
      refine post_round ?_
      exact rnd_back (ih (w_i64 (x11 + 1)) hF) (imps [] ⟨by kernel_rfl, by kernel_rfl, by kernel_rfl, by kernel_rfl, trivial⟩ trivial)
    refine aw_cond_f rfl hb23 ?_
    refine aw_exit ?_
    iterate 2 (refine post_then_exit ?_)
    obtain rfl := Option.some.inj hF
    exact post_lp_break _ ⟨_, rfl, rfl⟩ (imps [] trivial trivial)
  rintro _ ⟨⟨⟩, rfl, rfl⟩
  have hF := elim_next hK35
  clear hK35
  refine post_next ?_
  refine aw_seq ?_
  refine aw_region ?_
  refine ras ?_
  refine reg_nil ?_
  refine post_imp (s' := ⟨19, [(4, some (.pv (.int .i64 (-1))))], [], 0, [], [], 0, []⟩) (imps [] ⟨by kernel_rfl, trivial⟩ trivial) ?_
  refine post_next ?_
  refine aw_ret ?_
  obtain rfl := Option.some.inj hF
  exact prt
theorem word_is_1_ok {a0 : List UInt8} {c0 : List UInt8} {r : Bool} (hF : word_is_1 a0 c0 = some r) : Abs.Fn globs_Tryd Tryd.prog 99 [.str a0, .vp (eS c0)] [.p (.bool r)] := by
  unfold word_is_1 at hF
  refine fn_of_body (n := 7) Tryd.func99 rfl rfl rfl ?_
  intro w O
  refine aw_seq ?_
  refine aw_region ?_
  refine ras ?_
  refine reg_nil ?_
  refine post_imp (s' := ⟨7, [(0, some (.pv (.str a0))), (1, some (.pv (.vp (eS c0))))], [], 0, [], [], 0, []⟩) (imps [] ⟨by kernel_rfl, by kernel_rfl, trivial⟩ trivial) ?_
  refine post_next ?_
  refine aw_seq ?_
  refine aw_region ?_
  refine rmv ?_
  refine rgp (op_load_vp (p := .str c0) rfl rfl rfl Tryd_one_9 rfl rfl) ?_
  refine rgp (op_str rfl rfl rfl rfl rfl rfl) ?_
  refine ras ?_
  refine reg_nil ?_
  refine post_imp (s' := ⟨7, [(3, some (.pv (.bool (a0 == c0))))], [], 0, [], [], 0, []⟩) (imps [] ⟨by kernel_rfl, trivial⟩ trivial) ?_
  refine post_next ?_
  refine aw_ret ?_
  obtain rfl := Option.some.inj hF
  exact prt
theorem word_Find_ok {a0 : List UInt8} {r : Int} (hF : word_Find a0 = some r) : Abs.Fn globs_Tryd Tryd.prog 57 [.str a0] [.p (.int .i64 r)] := by
  unfold word_Find at hF
  refine fn_of_body (n := 8) Tryd.func57 rfl rfl rfl ?_
  intro w O
  refine aw_seq ?_
  refine aw_region ?_
  refine ras ?_
  refine reg_nil ?_
  refine post_imp (s' := ⟨8, [(0, some (.pv (.str a0)))], [], 0, [], [], 0, []⟩) (imps [] ⟨by kernel_rfl, trivial⟩ trivial) ?_
  refine post_next ?_
  refine aw_seq ?_
  refine dr_start ⟨_, _, _⟩ rfl ?_
  refine dr_cons { dst := some 3, val := some (.pv (.vs 1 (List.map eS glob_0))) } (fun m h => step_on (guard_no rfl) (op_glob_slice (l := glob_0) (f := eS) rfl globm_0 Tryd_arr_107 globe_0 (fun _ => rfl) rfl rfl rfl rfl) rfl) ⟨trivial, trivial, trivial⟩ ?_
  refine drm ?_
  obtain ⟨y1, h2, hF⟩ := bind_some hF
  refine dr_cons { need := [(4, .pv (.str a0))], dst := some 5, val := some (.pv (.fn 99 [.vp (eS y1)])) } (fun m h => step_on (guard_no rfl) (op_call 0 rfl (caps := []) (args := [.str a0]) (rs := [.p (.fn 99 [.vp (eS y1)])]) rfl rfl (evl_cons h.1.1 evl_nil) Tryd_cal_80 (word_is_ok h2) rfl rfl rfl) rfl) ⟨⟨rfl, trivial⟩, trivial, trivial⟩ ?_
  obtain ⟨y4, h5, hF⟩ := bind_some hF
  refine dr_cons { need := [(5, .pv (.fn 99 [.vp (eS y1)])), (3, .pv (.vs 1 (List.map eS glob_0)))], dst := some 6, val := some (.pv (.int .i64 y4)) } (fun m h => step_on (guard_no rfl) (op_call 0 rfl (caps := []) (args := [.vs 1 (List.map eS glob_0), .fn 99 [.vp (eS y1)]]) (rs := [.p (.int .i64 y4)]) rfl rfl (evl_cons h.1.2.1 (evl_cons h.1.1 evl_nil)) Tryd_cal_79 (slices_IndexFunc_string_ok (q1_f := 99) (q1_c := [.vp (eS y1)]) (q1_b := Tryd_cal_99) (q1_h := fun _ r h => (word_is_1_ok h)) h5) rfl rfl rfl) rfl) ⟨⟨rfl, rfl, trivial⟩, trivial, trivial⟩ ?_
  refine dr_cons { need := [(6, .pv (.int .i64 y4))], dst := some 7, val := some (.pv (.int .i64 (w_i64 (y4 + 1)))) } (fun m h => step_on (guard_no rfl) (op_int (k := .i64) (m := y4) (n := 1) rfl h.1.1 rfl rfl rfl rfl) rfl) ⟨⟨rfl, trivial⟩, trivial, trivial⟩ ?_
  refine dr_cons { need := [(7, .pv (.int .i64 (w_i64 (y4 + 1))))], dst := some 2, val := some (.pv (.int .i64 (w_i64 (y4 + 1)))) } (fun m h => step_on (guard_no rfl) (op_assign rfl h.1.1 rfl rfl) rfl) ⟨⟨rfl, trivial⟩, trivial, trivial⟩ ?_
  refine dr_nil Tryd_mixed rfl (by kernel_rfl) ?_
  refine post_imp (s' := ⟨8, [(2, some (.pv (.int .i64 (w_i64 (y4 + 1)))))], [], 0, [], [], 0, []⟩) (imps [] ⟨by kernel_rfl, trivial⟩ trivial) ?_
  refine post_next ?_
  refine aw_ret ?_
  obtain rfl := Option.some.inj hF
  exact prt
theorem word_Name_ok {a0 : List UInt8} {r : Bool} (hF : word_Name a0 = some r) : Abs.Fn globs_Tryd Tryd.prog 32 [.str a0] [.p (.bool r)] := by
  unfold word_Name at hF
  refine fn_of_body (n := 37) Tryd.func32 rfl rfl rfl ?_
  intro w O
  refine aw_seq ?_
  refine aw_region ?_
  refine ras ?_
  refine reg_nil ?_
  refine post_imp (s' := ⟨37, [(0, some (.pv (.str a0)))], [], 0, [], [], 0, []⟩) (imps [] ⟨by kernel_rfl, trivial⟩ trivial) ?_
  refine post_next ?_
  iterate 2 (refine aw_seq ?_)
  obtain ⟨x7, hF, hK9⟩ := bind_some hF
  refine aw_cut (fun s1 => s1 = ⟨37, [(0, some (.pv (.str a0))), (17, some (.pv (.bool x7)))], [], 0, [], [], 0, []⟩) ?_ ?_
  · refine aw_region ?_
    refine rmv ?_
    refine rgp (op_str rfl rfl rfl rfl rfl rfl) ?_
    refine rmv ?_
    rcases ite_some hF with ⟨hb1, hF⟩ | ⟨hb1, hF⟩
    · refine rgo_t hb1 ?_
      iterate 2 (refine rgo_t hb1 ?_)
      refine rpt hb1 ?_
      refine rmv ?_
      iterate 4 (refine rgo_t rfl ?_)
      refine rpt rfl ?_
      refine reg_nil ?_
      cases hF
      exact post_cut _ rfl (imps [] ⟨by kernel_rfl, by kernel_rfl, trivial⟩ trivial)
    refine rgn hb1 (op_move rfl rfl rfl rfl) ?_
    refine rgn hb1 (op_len_str rfl rfl Tryd_und_9 rfl rfl) ?_
    refine rgn hb1 (op_int (k := .i64) (m := (a0.length : Int)) (n := 20) rfl rfl rfl rfl rfl rfl) ?_
    refine rpf hb1 ?_
    refine rmv ?_
    rcases ite_some hF with ⟨hb2, hF⟩ | ⟨hb2, hF⟩
    · refine rgo_t hb2 ?_
      iterate 3 (refine rgo_t hb2 ?_)
      refine rpt hb2 ?_
      refine reg_nil ?_
      cases hF
      exact post_cut _ rfl (imps [] ⟨by kernel_rfl, by kernel_rfl, trivial⟩ trivial)
    refine rgn hb2 (op_move rfl rfl rfl rfl) ?_
    obtain ⟨y3, h4, hF⟩ := bind_some hF
    refine rgn hb2 (op_index_str (k := .i64) rfl rfl rfl h4 Tryd_und_9 rfl rfl) ?_
    obtain ⟨y5, h6, hF⟩ := bind_some hF
    refine rgn hb2 (op_call 0 rfl (caps := []) (args := [.int .u8 (y3.toNat : Int)]) (rs := [.p (.bool y5)]) rfl rfl rfl Tryd_cal_55 (word_Letter_ok h6) rfl rfl rfl) ?_
    refine rgn hb2 (op_not rfl rfl rfl rfl) ?_
    refine rpf hb2 ?_
    refine reg_nil ?_
    cases hF
    exact post_cut _ rfl (imps [] ⟨by kernel_rfl, by kernel_rfl, trivial⟩ trivial)
  rintro _ rfl
  have hF := hK9
  clear hK9
  refine post_next ?_
  rcases ite_some hF with ⟨hb10, hF⟩ | ⟨hb10, hF⟩
  · refine aw_cond_t rfl hb10 ?_
    refine aw_seq ?_
    refine aw_region ?_
    refine ras ?_
    refine reg_nil ?_
    refine post_imp (s' := ⟨37, [(2, some (.pv (.bool false)))], [], 0, [], [], 0, []⟩) (imps [] ⟨by kernel_rfl, trivial⟩ trivial) ?_
    refine post_next ?_
    refine aw_ret ?_
    refine post_then_ret ?_
    obtain rfl := Option.some.inj hF
    exact prt
  refine aw_cond_f rfl hb10 ?_
  refine aw_skip ?_
  refine post_next ?_
  iterate 2 (refine aw_seq ?_)
  refine aw_region ?_
  refine rmv ?_
  obtain ⟨u13, h14, hF⟩ := bind_some hF
  refine rgp (op_strBytes (E := eI_u8) rfl rfl Tryd_und_9 Tryd_und_80 Tryd_und_5 h14 rfl rfl rfl) ?_
  refine rgp (op_len_vs (n := (bytesL a0).length) rfl rfl (List.length_map ..) Tryd_slc_80 rfl rfl) ?_
  refine rmv ?_
  refine reg_nil ?_
  refine post_imp (s' := ⟨37, [(0, some (.pv (.str a0))), (19, some (.pv (.vs 1 (List.map eI_u8 (bytesL a0))))), (20, some (.pv (.int .i64 ((bytesL a0).length : Int)))), (21, some (.pv (.int .i64 0)))], [], 0, [], [], 0, []⟩) (imps [] ⟨by kernel_rfl, by kernel_rfl, by kernel_rfl, by kernel_rfl, trivial⟩ trivial) ?_
  refine post_next ?_
  obtain ⟨lr66, hF, hK67⟩ := bind_some hF
  refine aw_for (((((bytesL a0).length : Int) : Int) - (0)).toNat + 1) (fun s1 => ∃ q, lr66 = .next q ∧ s1 = ⟨37, [(0, some (.pv (.str a0)))], [], 0, [], [], 0, []⟩) ?_ ?_
  · refine rnd_loop (α := Int) (fun q => ⟨37, [(0, some (.pv (.str a0))), (19, some (.pv (.vs 1 (List.map eI_u8 (bytesL a0))))), (20, some (.pv (.int .i64 ((bytesL a0).length : Int)))), (21, some (.pv (.int .i64 q)))], [], 0, [], [], 0, []⟩) (fun k q => word_Name_L1 a0 k q = some lr66) 0 (imps [] ⟨by kernel_rfl, by kernel_rfl, by kernel_rfl, by kernel_rfl, trivial⟩ trivial) hF (fun q h => by cases h) ?_
    clear hF
    rintro k x31 hF ih
    refine rnd_succ ?_
    refine aw_seq ?_
    refine aw_region ?_
    refine rgp (op_int (k := .i64) (m := x31) (n := ((bytesL a0).length : Int)) rfl rfl rfl rfl rfl rfl) ?_
    refine reg_nil ?_
    refine post_imp (s' := ⟨37, [(0, some (.pv (.str a0))), (19, some (.pv (.vs 1 (List.map eI_u8 (bytesL a0))))), (20, some (.pv (.int .i64 ((bytesL a0).length : Int)))), (21, some (.pv (.int .i64 x31))), (22, some (.pv (.bool (decide (x31 < ((bytesL a0).length : Int))))))], [], 0, [], [], 0, []⟩) (imps [] ⟨by kernel_rfl, by kernel_rfl, by kernel_rfl, by kernel_rfl, by kernel_rfl, trivial⟩ trivial) ?_
    refine post_next ?_
    refine aw_seq ?_
    rcases ite_some hF with ⟨hb49, hF⟩ | ⟨hb49, hF⟩
    · refine aw_cond_t rfl hb49 ?_
      refine aw_skip ?_
      refine post_next ?_
      refine aw_seq ?_
      refine aw_block ?_
      refine aw_seq ?_
      refine aw_region ?_
      obtain ⟨y52, h53, hF⟩ := bind_some hF
      refine rgp (op_index_vs (k := .i64) rfl rfl rfl (idx_map eI_u8 h53) Tryd_slc_80 rfl rfl) ?_
      refine rgp (op_load_vp (p := .int .u8 y52) rfl rfl rfl Tryd_one_5 rfl rfl) ?_
      refine ras ?_
      refine reg_nil ?_
      refine post_imp (s' := ⟨37, [(0, some (.pv (.str a0))), (4, some (.pv (.int .u8 y52))), (19, some (.pv (.vs 1 (List.map eI_u8 (bytesL a0))))), (20, some (.pv (.int .i64 ((bytesL a0).length : Int)))), (21, some (.pv (.int .i64 x31)))], [], 0, [], [], 0, []⟩) (imps [] ⟨by kernel_rfl, by kernel_rfl, by kernel_rfl, by kernel_rfl, by kernel_rfl, trivial⟩ trivial) ?_
      refine post_next ?_
      refine aw_seq ?_
      obtain ⟨x61, hF, hK63⟩ := bind_some hF
      refine aw_cut (fun s1 => s1 = ⟨37, [(0, some (.pv (.str a0))), (19, some (.pv (.vs 1 (List.map eI_u8 (bytesL a0))))), (20, some (.pv (.int .i64 ((bytesL a0).length : Int)))), (21, some (.pv (.int .i64 x31))), (32, some (.pv (.bool x61)))], [], 0, [], [], 0, []⟩) ?_ ?_
      · refine aw_region ?_
        refine rmv ?_
        obtain ⟨y56, h57, hF⟩ := bind_some hF
        refine rgp (op_call 0 rfl (caps := []) (args := [.int .u8 y52]) (rs := [.p (.bool y56)]) rfl rfl rfl Tryd_cal_55 (word_Letter_ok h57) rfl rfl rfl) ?_
        refine rgp (op_not rfl rfl rfl rfl) ?_
        refine rmv ?_
        rcases ite_some hF with ⟨hb58, hF⟩ | ⟨hb58, hF⟩
        · refine rgn hb58 (op_move rfl rfl rfl rfl) ?_
          obtain ⟨y59, h60, hF⟩ := bind_some hF
          refine rgn hb58 (op_call 0 rfl (caps := []) (args := [.int .u8 y52]) (rs := [.p (.bool y59)]) rfl rfl rfl Tryd_cal_56 (word_Digit_ok h60) rfl rfl rfl) ?_
          refine rgn hb58 (op_not rfl rfl rfl rfl) ?_
          refine rpt hb58 ?_
          refine reg_nil ?_
          cases hF
          exact post_cut _ rfl (imps [] ⟨by kernel_rfl, by kernel_rfl, by kernel_rfl, by kernel_rfl, by kernel_rfl, trivial⟩ trivial)
        iterate 3 (refine rgo_f hb58 ?_)
        refine rpf hb58 ?_
        refine reg_nil ?_
        cases hF
        exact post_cut _ rfl (imps [] ⟨by kernel_rfl, by kernel_rfl, by kernel_rfl, by kernel_rfl, by kernel_rfl, trivial⟩ trivial)
      rintro _ rfl
      have hF := hK63
      clear hK63
      refine post_next ?_
      rcases ite_some hF with ⟨hb64, hF⟩ | ⟨hb64, hF⟩
      · refine aw_cond_t rfl hb64 ?_
        refine aw_seq ?_
        refine aw_region ?_
        refine ras ?_
        refine reg_nil ?_
        refine post_imp (s' := ⟨37, [(2, some (.pv (.bool false)))], [], 0, [], [], 0, []⟩) (imps [] ⟨by kernel_rfl, trivial⟩ trivial) ?_
        refine post_next ?_
        refine aw_ret ?_
        refine post_block_ret ?_
        iterate 2 (refine post_then_ret ?_)
        refine post_lp_ret ?_
        obtain rfl := Option.some.inj hF
        have hF := elim_stop hK67
        refine post_then_ret ?_
        obtain rfl := Option.some.inj hF
        exact prt
      refine aw_cond_f rfl hb64 ?_
      refine aw_skip ?_
      refine post_block_normal ?_
      refine post_next ?_
      refine aw_region ?_
      refine rgp (op_int (k := .i64) (m := x31) (n := 1) rfl rfl rfl rfl rfl rfl) ?_
      refine rmv ?_
      refine reg_nil ?_
      refine post_round ?_
      exact rnd_back (ih (w_i64 (x31 + 1)) hF) (imps [] ⟨by kernel_rfl, by kernel_rfl, by kernel_rfl, by kernel_rfl, trivial⟩ trivial)
    refine aw_cond_f rfl hb49 ?_
    refine aw_exit ?_
    iterate 2 (refine post_then_exit ?_)
    obtain rfl := Option.some.inj hF
    exact post_lp_break _ ⟨_, rfl, rfl⟩ (imps [] ⟨by kernel_rfl, trivial⟩ trivial)
  rintro _ ⟨⟨⟩, rfl, rfl⟩
  have hF := elim_next hK67
  clear hK67
  refine post_next ?_
  refine aw_seq ?_
  refine aw_region ?_
  refine rmv ?_
  obtain ⟨y68, h69, hF⟩ := bind_some hF
  refine rgp (op_call 0 rfl (caps := []) (args := [.str a0]) (rs := [.p (.int .i64 y68)]) rfl rfl rfl Tryd_cal_57 (word_Find_ok h69) rfl rfl rfl) ?_
  refine rgp (op_int (k := .i64) (m := y68) (n := 0) rfl rfl rfl rfl rfl rfl) ?_
  refine ras ?_
  refine reg_nil ?_
  refine post_imp (s' := ⟨37, [(2, some (.pv (.bool (y68 == 0))))], [], 0, [], [], 0, []⟩) (imps [] ⟨by kernel_rfl, trivial⟩ trivial) ?_
  refine post_next ?_
  refine aw_ret ?_
  obtain rfl := Option.some.inj hF
  exact prt
theorem kind_own_ok {a0 : GType} {r : (List GOwner)} (hF : kind_own a0 = some r) : Abs.Fn globs_Tryd Tryd.prog 33 [.vp (eGType a0)] [.p (.vs 2 (List.map eGOwner r))] := by
  unfold kind_own at hF
  refine fn_of_body (n := 17) Tryd.func33 rfl rfl rfl ?_
  intro w O
  refine aw_seq ?_
  refine aw_region ?_
  refine ras ?_
  refine reg_nil ?_
  refine post_imp (s' := ⟨17, [(0, some (.pv (.vp (eGType a0))))], [], 0, [], [], 0, []⟩) (imps [] ⟨by kernel_rfl, trivial⟩ trivial) ?_
  refine post_next ?_
  refine aw_seq ?_
  refine aw_region ?_
  refine rmv ?_
  refine rgp (op_nilCheck rfl rfl rfl rfl rfl) ?_
  refine rgp (op_field_vp rfl rfl Tryd_fld_26_2 rfl rfl) ?_
  refine rgp (op_load_vp (p := .int .i64 a0.fN) rfl rfl rfl Tryd_one_3 rfl rfl) ?_
  refine rgp (op_min2 rfl rfl rfl rfl rfl) ?_
  refine rgp (op_max2 rfl rfl rfl rfl rfl) ?_
  refine rgp (op_int (k := .i64) (m := (if (if 3 < a0.fN then 3 else a0.fN) > 0 then (if 3 < a0.fN then 3 else a0.fN) else 0)) (n := 1) rfl rfl rfl rfl rfl rfl) ?_
  refine ras ?_
  refine reg_nil ?_
  refine post_imp (s' := ⟨17, [(0, some (.pv (.vp (eGType a0)))), (3, some (.pv (.int .i64 (w_i64 ((if (if 3 < a0.fN then 3 else a0.fN) > 0 then (if 3 < a0.fN then 3 else a0.fN) else 0) + 1)))))], [], 0, [], [], 0, []⟩) (imps [] ⟨by kernel_rfl, by kernel_rfl, trivial⟩ trivial) ?_
  refine post_next ?_
  refine aw_seq ?_
  refine aw_region ?_
  refine rmv ?_
  refine rgp (op_nilCheck rfl rfl rfl rfl rfl) ?_
  refine rgp (op_field_vp rfl rfl Tryd_fld_26_3 rfl rfl) ?_
  iterate 2 (refine rmv ?_)
  obtain ⟨y1, h2, hF⟩ := bind_some hF
  refine rgp (op_sliceArr (f := eGOwner) (l := (a0.fOwn).l) (nl := none) (nh := (some (w_i64 ((if (if 3 < a0.fN then 3 else a0.fN) > 0 then (if 3 < a0.fN then 3 else a0.fN) else 0) + 1)))) (nm := (some (w_i64 ((if (if 3 < a0.fN then 3 else a0.fN) > 0 then (if 3 < a0.fN then 3 else a0.fN) else 0) + 1)))) rfl rfl rfl rfl rfl (.inr rfl) Tryd_arr_24 rfl (fun _ => rfl) rfl rfl h2 rfl rfl) ?_
  refine ras ?_
  refine reg_nil ?_
  refine post_imp (s' := ⟨17, [(2, some (.pv (.vs 2 (List.map eGOwner y1))))], [], 0, [], [], 0, []⟩) (imps [] ⟨by kernel_rfl, trivial⟩ trivial) ?_
  refine post_next ?_
  refine aw_ret ?_
  obtain rfl := Option.some.inj hF
  exact prt
theorem owner_Right_ok {a0 : GOwner} {a1 : Int} {r : Bool} (hF : owner_Right a0 a1 = some r) : Abs.Fn globs_Tryd Tryd.prog 34 [.agg (eGOwner a0), .int .i64 a1] [.p (.bool r)] := by
  unfold owner_Right at hF
  refine fn_of_body (n := 34) Tryd.func34 rfl rfl rfl ?_
  intro w O
  refine aw_seq ?_
  refine aw_region ?_
  refine rgp (op_box 0 rfl rfl rfl rfl rfl rfl) ?_
  refine ras ?_
  refine reg_nil ?_
  refine post_imp (s' := ⟨34, [(1, some (.pv (.int .i64 a1))), (2, some (.lp 0 0))], [(0, some (.box 23 (bxv (eGOwner a0))))], 1, [], [], 0, []⟩) (imps [0] ⟨by kernel_rfl, by kernel_rfl, trivial⟩ ⟨by kernel_rfl, trivial⟩) ?_
  refine post_next ?_
  iterate 2 (refine aw_seq ?_)
  refine aw_region ?_
  refine rgp (op_field_lp rfl rfl Tryd_fld_23_0 rfl rfl) ?_
  refine rgp (op_load_lp (v := .pv (.int .i64 a0.fKind)) rfl rfl rfl rfl Tryd_one_3 rfl rfl) ?_
  refine reg_nil ?_
  refine post_imp (s' := ⟨34, [(1, some (.pv (.int .i64 a1))), (2, some (.lp 0 0)), (6, some (.pv (.int .i64 a0.fKind)))], [(0, some (.box 23 (bxv (eGOwner a0))))], 1, [], [], 0, []⟩) (imps [0] ⟨by kernel_rfl, by kernel_rfl, by kernel_rfl, trivial⟩ ⟨by kernel_rfl, trivial⟩) ?_
  refine post_next ?_
  refine aw_block ?_
  refine aw_seq ?_
  refine aw_join hF (fun q => ⟨34, [(2, some (.lp 0 0))], [(0, some (.box 23 (bxv (eGOwner a0))))], 1, [], [], 0, []⟩) ?_ ?_
  · refine aw_block ?_
    iterate 2 (refine aw_block ?_)
    refine aw_seq ?_
    refine aw_block ?_
    refine aw_seq ?_
    refine aw_block ?_
    iterate 3 (refine aw_seq ?_)
    refine aw_region ?_
    refine rgp (op_int (k := .i64) (m := a0.fKind) (n := 3) rfl rfl rfl rfl rfl rfl) ?_
    refine ras ?_
    refine reg_nil ?_
    refine post_imp (s' := ⟨34, [(1, some (.pv (.int .i64 a1))), (2, some (.lp 0 0)), (6, some (.pv (.int .i64 a0.fKind))), (7, some (.pv (.bool (a0.fKind == 3))))], [(0, some (.box 23 (bxv (eGOwner a0))))], 1, [], [], 0, []⟩) (imps [0] ⟨by kernel_rfl, by kernel_rfl, by kernel_rfl, by kernel_rfl, trivial⟩ ⟨by kernel_rfl, trivial⟩) ?_
    refine post_next ?_
    rcases go_ite hF with ⟨hb1, hF⟩ | ⟨hb1, hF⟩
    · refine aw_cond_t rfl hb1 ?_
      refine aw_exit ?_
      iterate 2 (refine post_then_exit ?_)
      refine post_block_exit ?_
      refine post_next ?_
      iterate 2 (refine aw_seq ?_)
      refine aw_region ?_
      refine rgp (op_field_lp rfl rfl Tryd_fld_23_1 rfl rfl) ?_
      refine rgp (op_load_lp (v := .pv (.int .i64 a0.fN)) rfl rfl rfl rfl Tryd_one_3 rfl rfl) ?_
      refine rgp (op_int (k := .i64) (m := a0.fN) (n := 0) rfl rfl rfl rfl rfl rfl) ?_
      refine rmv ?_
      rcases go_ite hF with ⟨hb2, hF⟩ | ⟨hb2, hF⟩
      · refine rgn hb2 (op_field_lp rfl rfl Tryd_fld_23_1 rfl rfl) ?_
        refine rgn hb2 (op_load_lp (v := .pv (.int .i64 a0.fN)) rfl rfl rfl rfl Tryd_one_3 rfl rfl) ?_
        refine rgn hb2 (op_move rfl rfl rfl rfl) ?_
        refine rgn hb2 (op_int (k := .i64) (m := a0.fN) (n := a1) rfl rfl rfl rfl rfl rfl) ?_
        refine rpt hb2 ?_
        refine ras ?_
        refine reg_nil ?_
        refine post_imp (s' := ⟨34, [(4, some (.pv (.bool (decide (a0.fN ≤ a1)))))], [], 0, [], [], 0, []⟩) (imps [] ⟨by kernel_rfl, trivial⟩ trivial) ?_
        refine post_next ?_
        refine aw_ret ?_
        refine post_then_ret ?_
        refine post_block_ret ?_
        refine post_then_ret ?_
        iterate 3 (refine post_block_ret ?_)
        refine post_cut_ret ?_
        replace hF := go_stop hF
        refine post_then_ret ?_
        refine post_block_ret ?_
        refine post_then_ret ?_
        obtain rfl := Option.some.inj hF
        exact prt
      iterate 4 (refine rgo_f hb2 ?_)
      refine rpf hb2 ?_
      refine ras ?_
      refine reg_nil ?_
      refine post_imp (s' := ⟨34, [(4, some (.pv (.bool false)))], [], 0, [], [], 0, []⟩) (imps [] ⟨by kernel_rfl, trivial⟩ trivial) ?_
      refine post_next ?_
      refine aw_ret ?_
      refine post_then_ret ?_
      refine post_block_ret ?_
      refine post_then_ret ?_
      iterate 3 (refine post_block_ret ?_)
      refine post_cut_ret ?_
      replace hF := go_stop hF
      refine post_then_ret ?_
      refine post_block_ret ?_
      refine post_then_ret ?_
      obtain rfl := Option.some.inj hF
      exact prt
    refine aw_cond_f rfl hb1 ?_
    refine aw_skip ?_
    refine post_next ?_
    iterate 2 (refine aw_seq ?_)
    refine aw_region ?_
    refine rgp (op_int (k := .i64) (m := a0.fKind) (n := 7) rfl rfl rfl rfl rfl rfl) ?_
    refine ras ?_
    refine reg_nil ?_
    refine post_imp (s' := ⟨34, [(2, some (.lp 0 0)), (6, some (.pv (.int .i64 a0.fKind))), (9, some (.pv (.bool (a0.fKind == 7))))], [(0, some (.box 23 (bxv (eGOwner a0))))], 1, [], [], 0, []⟩) (imps [0] ⟨by kernel_rfl, by kernel_rfl, by kernel_rfl, trivial⟩ ⟨by kernel_rfl, trivial⟩) ?_
    refine post_next ?_
    rcases go_ite hF with ⟨hb3, hF⟩ | ⟨hb3, hF⟩
    · refine aw_cond_t rfl hb3 ?_
      refine aw_exit ?_
      iterate 2 (refine post_then_exit ?_)
      refine post_block_other rfl ?_
      refine post_then_exit ?_
      refine post_block_exit ?_
      refine post_next ?_
      iterate 2 (refine aw_seq ?_)
      refine aw_region ?_
      refine rgp (op_field_lp rfl rfl Tryd_fld_23_1 rfl rfl) ?_
      refine rgp (op_load_lp (v := .pv (.int .i64 a0.fN)) rfl rfl rfl rfl Tryd_one_3 rfl rfl) ?_
      refine rgp (op_int (k := .i64) (m := a0.fN) (n := 0) rfl rfl rfl rfl rfl rfl) ?_
      refine ras ?_
      refine reg_nil ?_
      refine post_imp (s' := ⟨34, [(4, some (.pv (.bool (decide (a0.fN ≥ 0)))))], [], 0, [], [], 0, []⟩) (imps [] ⟨by kernel_rfl, trivial⟩ trivial) ?_
      refine post_next ?_
      refine aw_ret ?_
      refine post_then_ret ?_
      iterate 3 (refine post_block_ret ?_)
      refine post_cut_ret ?_
      replace hF := go_stop hF
      refine post_then_ret ?_
      refine post_block_ret ?_
      refine post_then_ret ?_
      obtain rfl := Option.some.inj hF
      exact prt
    refine aw_cond_f rfl hb3 ?_
    refine aw_skip ?_
    refine post_next ?_
    iterate 2 (refine aw_seq ?_)
    refine aw_region ?_
    refine rgp (op_int (k := .i64) (m := a0.fKind) (n := 1) rfl rfl rfl rfl rfl rfl) ?_
    refine ras ?_
    refine reg_nil ?_
    refine post_imp (s' := ⟨34, [(2, some (.lp 0 0)), (6, some (.pv (.int .i64 a0.fKind))), (11, some (.pv (.bool (a0.fKind == 1))))], [(0, some (.box 23 (bxv (eGOwner a0))))], 1, [], [], 0, []⟩) (imps [0] ⟨by kernel_rfl, by kernel_rfl, by kernel_rfl, trivial⟩ ⟨by kernel_rfl, trivial⟩) ?_
    refine post_next ?_
    rcases go_ite hF with ⟨hb4, hF⟩ | ⟨hb4, hF⟩
    · refine aw_cond_t rfl hb4 ?_
      refine aw_exit ?_
      iterate 2 (refine post_then_exit ?_)
      refine post_block_other rfl ?_
      refine post_then_exit ?_
      refine post_block_other rfl ?_
      refine post_then_exit ?_
      refine post_block_exit ?_
      iterate 2 (refine post_block_normal ?_)
      exact post_cut _ ⟨(), rfl, hF⟩ (imps [0] ⟨by kernel_rfl, trivial⟩ ⟨by kernel_rfl, trivial⟩)
    refine aw_cond_f rfl hb4 ?_
    refine aw_skip ?_
    refine post_next ?_
    iterate 2 (refine aw_seq ?_)
    refine aw_region ?_
    refine rgp (op_int (k := .i64) (m := a0.fKind) (n := 2) rfl rfl rfl rfl rfl rfl) ?_
    refine ras ?_
    refine reg_nil ?_
    refine post_imp (s' := ⟨34, [(2, some (.lp 0 0)), (6, some (.pv (.int .i64 a0.fKind))), (13, some (.pv (.bool (a0.fKind == 2))))], [(0, some (.box 23 (bxv (eGOwner a0))))], 1, [], [], 0, []⟩) (imps [0] ⟨by kernel_rfl, by kernel_rfl, by kernel_rfl, trivial⟩ ⟨by kernel_rfl, trivial⟩) ?_
    refine post_next ?_
    rcases go_ite hF with ⟨hb5, hF⟩ | ⟨hb5, hF⟩
    · refine aw_cond_t rfl hb5 ?_
      refine aw_exit ?_
      iterate 2 (refine post_then_exit ?_)
      refine post_block_other rfl ?_
      refine post_then_exit ?_
      refine post_block_other rfl ?_
      refine post_then_exit ?_
      refine post_block_other rfl ?_
      refine post_block_exit ?_
      refine post_block_normal ?_
      exact post_cut _ ⟨(), rfl, hF⟩ (imps [0] ⟨by kernel_rfl, trivial⟩ ⟨by kernel_rfl, trivial⟩)
    refine aw_cond_f rfl hb5 ?_
    refine aw_skip ?_
    refine post_next ?_
    refine aw_seq ?_
    obtain ⟨x8, hF, hK10⟩ := go_bind hF
    refine aw_cut (fun s1 => s1 = ⟨34, [(2, some (.lp 0 0)), (15, some (.pv (.bool x8)))], [(0, some (.box 23 (bxv (eGOwner a0))))], 1, [], [], 0, []⟩) ?_ ?_
    · refine aw_seq ?_
      refine aw_region ?_
      refine rgp (op_int (k := .i64) (m := a0.fKind) (n := 4) rfl rfl rfl rfl rfl rfl) ?_
      refine ras ?_
      refine reg_nil ?_
      refine post_imp (s' := ⟨34, [(2, some (.lp 0 0)), (6, some (.pv (.int .i64 a0.fKind))), (15, some (.pv (.bool (a0.fKind == 4))))], [(0, some (.box 23 (bxv (eGOwner a0))))], 1, [], [], 0, []⟩) (imps [0] ⟨by kernel_rfl, by kernel_rfl, by kernel_rfl, trivial⟩ ⟨by kernel_rfl, trivial⟩) ?_
      refine post_next ?_
      rcases ite_some hF with ⟨hb6, hF⟩ | ⟨hb6, hF⟩
      · refine aw_cond_t rfl hb6 ?_
        refine aw_skip ?_
        cases hF
        exact post_cut _ rfl (imps [0] ⟨by kernel_rfl, by kernel_rfl, trivial⟩ ⟨by kernel_rfl, trivial⟩)
      refine aw_cond_f rfl hb6 ?_
      refine aw_seq ?_
      refine aw_region ?_
      refine rgp (op_int (k := .i64) (m := a0.fKind) (n := 5) rfl rfl rfl rfl rfl rfl) ?_
      refine ras ?_
      refine reg_nil ?_
      refine post_imp (s' := ⟨34, [(2, some (.lp 0 0)), (6, some (.pv (.int .i64 a0.fKind))), (15, some (.pv (.bool (a0.fKind == 5))))], [(0, some (.box 23 (bxv (eGOwner a0))))], 1, [], [], 0, []⟩) (imps [0] ⟨by kernel_rfl, by kernel_rfl, by kernel_rfl, trivial⟩ ⟨by kernel_rfl, trivial⟩) ?_
      refine post_next ?_
      rcases ite_some hF with ⟨hb7, hF⟩ | ⟨hb7, hF⟩
      · refine aw_cond_t rfl hb7 ?_
        refine aw_skip ?_
        cases hF
        exact post_cut _ rfl (imps [0] ⟨by kernel_rfl, by kernel_rfl, trivial⟩ ⟨by kernel_rfl, trivial⟩)
      refine aw_cond_f rfl hb7 ?_
      refine aw_region ?_
      refine rgp (op_int (k := .i64) (m := a0.fKind) (n := 6) rfl rfl rfl rfl rfl rfl) ?_
      refine ras ?_
      refine reg_nil ?_
      cases hF
      exact post_cut _ rfl (imps [0] ⟨by kernel_rfl, by kernel_rfl, trivial⟩ ⟨by kernel_rfl, trivial⟩)
    rintro _ rfl
    have hF := hK10
    clear hK10
    refine post_next ?_
    rcases go_ite hF with ⟨hb11, hF⟩ | ⟨hb11, hF⟩
    · refine aw_cond_t rfl hb11 ?_
      refine aw_exit ?_
      refine post_then_exit ?_
      refine post_block_other rfl ?_
      refine post_then_exit ?_
      refine post_block_other rfl ?_
      refine post_then_exit ?_
      iterate 2 (refine post_block_other rfl ?_)
      refine post_block_exit ?_
      exact post_cut _ ⟨(), rfl, hF⟩ (imps [0] ⟨by kernel_rfl, trivial⟩ ⟨by kernel_rfl, trivial⟩)
    refine aw_cond_f rfl hb11 ?_
    refine aw_skip ?_
    refine post_next ?_
    refine aw_exit ?_
    refine post_block_other rfl ?_
    refine post_then_exit ?_
    refine post_block_other rfl ?_
    refine post_then_exit ?_
    iterate 3 (refine post_block_other rfl ?_)
    refine post_cut_exit ?_
    replace hF := go_stop hF
    refine post_then_exit ?_
    refine post_block_exit ?_
    refine post_next ?_
    refine aw_seq ?_
    refine aw_region ?_
    refine ras ?_
    refine reg_nil ?_
    refine post_imp (s' := ⟨34, [(4, some (.pv (.bool false)))], [], 0, [], [], 0, []⟩) (imps [] ⟨by kernel_rfl, trivial⟩ trivial) ?_
    refine post_next ?_
    refine aw_ret ?_
    obtain rfl := Option.some.inj hF
    exact prt
  rintro ⟨⟩ hF
  refine post_next ?_
  iterate 2 (refine aw_seq ?_)
  refine aw_region ?_
  refine rgp (op_field_lp rfl rfl Tryd_fld_23_1 rfl rfl) ?_
  refine rgp (op_load_lp (v := .pv (.int .i64 a0.fN)) rfl rfl rfl rfl Tryd_one_3 rfl rfl) ?_
  refine rgp (op_int (k := .i64) (m := a0.fN) (n := 0) rfl rfl rfl rfl rfl rfl) ?_
  refine ras ?_
  refine reg_nil ?_
  refine post_imp (s' := ⟨34, [(4, some (.pv (.bool (a0.fN == 0))))], [], 0, [], [], 0, []⟩) (imps [] ⟨by kernel_rfl, trivial⟩ trivial) ?_
  refine post_next ?_
  refine aw_ret ?_
  refine post_then_ret ?_
  refine post_block_ret ?_
  refine post_then_ret ?_
  obtain rfl := Option.some.inj hF
  exact prt
theorem kind_Right_ok {a0 : GType} {a1 : Int} {r : Bool} (hF : kind_Right a0 a1 = some r) : Abs.Fn globs_Tryd Tryd.prog 11 [.agg (eGType a0), .int .i64 a1] [.p (.bool r)] := by
  unfold kind_Right at hF
  refine fn_of_body (n := 74) Tryd.func11 rfl rfl rfl ?_
  intro w O
  refine aw_seq ?_
  refine aw_region ?_
  refine rgp (op_box 0 rfl rfl rfl rfl rfl rfl) ?_
  refine ras ?_
  refine reg_nil ?_
  refine post_imp (s' := ⟨74, [(1, some (.pv (.int .i64 a1))), (2, some (.lp 0 0))], [(0, some (.box 26 (bxv (eGType a0))))], 1, [], [], 0, []⟩) (imps [0] ⟨by kernel_rfl, by kernel_rfl, trivial⟩ ⟨by kernel_rfl, trivial⟩) ?_
  refine post_next ?_
  iterate 2 (refine aw_seq ?_)
  refine aw_region ?_
  refine rgp (op_field_lp rfl rfl Tryd_fld_26_0 rfl rfl) ?_
  refine rgp (op_load_lp (v := .pv (.int .i64 a0.fKind)) rfl rfl rfl rfl Tryd_one_3 rfl rfl) ?_
  refine reg_nil ?_
  refine post_imp (s' := ⟨74, [(1, some (.pv (.int .i64 a1))), (2, some (.lp 0 0)), (13, some (.pv (.int .i64 a0.fKind)))], [(0, some (.box 26 (bxv (eGType a0))))], 1, [], [], 0, []⟩) (imps [0] ⟨by kernel_rfl, by kernel_rfl, by kernel_rfl, trivial⟩ ⟨by kernel_rfl, trivial⟩) ?_
  refine post_next ?_
  refine aw_block ?_
  refine aw_seq ?_
  obtain ⟨x2, hF, hK4⟩ := bind_some hF
  refine aw_cut (fun s1 => s1 = ⟨74, [(1, some (.pv (.int .i64 a1))), (2, some (.lp 0 0)), (13, some (.pv (.int .i64 a0.fKind))), (14, some (.pv (.bool x2)))], [(0, some (.box 26 (bxv (eGType a0))))], 1, [], [], 0, []⟩) ?_ ?_
  · refine aw_seq ?_
    refine aw_region ?_
    refine rgp (op_int (k := .i64) (m := a0.fKind) (n := 0) rfl rfl rfl rfl rfl rfl) ?_
    refine ras ?_
    refine reg_nil ?_
    refine post_imp (s' := ⟨74, [(1, some (.pv (.int .i64 a1))), (2, some (.lp 0 0)), (13, some (.pv (.int .i64 a0.fKind))), (14, some (.pv (.bool (a0.fKind == 0))))], [(0, some (.box 26 (bxv (eGType a0))))], 1, [], [], 0, []⟩) (imps [0] ⟨by kernel_rfl, by kernel_rfl, by kernel_rfl, by kernel_rfl, trivial⟩ ⟨by kernel_rfl, trivial⟩) ?_
    refine post_next ?_
    rcases ite_some hF with ⟨hb1, hF⟩ | ⟨hb1, hF⟩
    · refine aw_cond_t rfl hb1 ?_
      refine aw_skip ?_
      cases hF
      exact post_cut _ rfl (imps [0] ⟨by kernel_rfl, by kernel_rfl, by kernel_rfl, by kernel_rfl, trivial⟩ ⟨by kernel_rfl, trivial⟩)
    refine aw_cond_f rfl hb1 ?_
    refine aw_region ?_
    refine rgp (op_int (k := .i64) (m := a0.fKind) (n := 1) rfl rfl rfl rfl rfl rfl) ?_
    refine ras ?_
    refine reg_nil ?_
    cases hF
    exact post_cut _ rfl (imps [0] ⟨by kernel_rfl, by kernel_rfl, by kernel_rfl, by kernel_rfl, trivial⟩ ⟨by kernel_rfl, trivial⟩)
  rintro _ rfl
  have hF := hK4
  clear hK4
  refine post_next ?_
  rcases ite_some hF with ⟨hb5, hF⟩ | ⟨hb5, hF⟩
  · refine aw_cond_t rfl hb5 ?_
    refine aw_seq ?_
    refine aw_region ?_
    refine rgp (op_load_lp_agg (ps := eGType a0) rfl rfl rfl rfl rfl rfl Tryd_agg_26 rfl rfl) ?_
    refine rgp (op_field_lp rfl rfl Tryd_fld_26_0 rfl rfl) ?_
    refine rgp (op_load_lp (v := .pv (.int .i64 a0.fKind)) rfl rfl rfl rfl Tryd_one_3 rfl rfl) ?_
    refine rgp (op_build (zs := (eGType zGType)) (r := eGType ({ fKind := a0.fKind, fClass := [], fN := 0, fOwn := (⟨zGOwner, zGOwner, zGOwner, zGOwner⟩ : A4 GOwner) } : GType)) rfl Tryd_zer_26 (by exact ⟨rfl, rfl, rfl, rfl, rfl, rfl, rfl, rfl, rfl, rfl, rfl, trivial⟩) Tryd_plc_26 rfl rfl rfl rfl) ?_
    refine rgp (op_eqAgg_eql (r := bGType a0 ({ fKind := a0.fKind, fClass := [], fN := 0, fOwn := (⟨zGOwner, zGOwner, zGOwner, zGOwner⟩ : A4 GOwner) } : GType)) rfl rfl rfl Tryd_eqt_26 rfl rfl rfl rfl rfl) ?_
    refine ras ?_
    refine reg_nil ?_
    refine post_imp (s' := ⟨74, [(4, some (.pv (.bool (bGType a0 ({ fKind := a0.fKind, fClass := [], fN := 0, fOwn := (⟨zGOwner, zGOwner, zGOwner, zGOwner⟩ : A4 GOwner) } : GType)))))], [], 0, [], [], 0, []⟩) (imps [] ⟨by kernel_rfl, trivial⟩ trivial) ?_
    refine post_next ?_
    refine aw_ret ?_
    refine post_block_ret ?_
    refine post_then_ret ?_
    obtain rfl := Option.some.inj hF
    exact prt
  refine aw_cond_f rfl hb5 ?_
  refine aw_seq ?_
  refine aw_region ?_
  refine rgp (op_int (k := .i64) (m := a0.fKind) (n := 2) rfl rfl rfl rfl rfl rfl) ?_
  refine ras ?_
  refine reg_nil ?_
  refine post_imp (s' := ⟨74, [(1, some (.pv (.int .i64 a1))), (2, some (.lp 0 0)), (22, some (.pv (.bool (a0.fKind == 2))))], [(0, some (.box 26 (bxv (eGType a0))))], 1, [], [], 0, []⟩) (imps [0] ⟨by kernel_rfl, by kernel_rfl, by kernel_rfl, trivial⟩ ⟨by kernel_rfl, trivial⟩) ?_
  refine post_next ?_
  rcases ite_some hF with ⟨hb6, hF⟩ | ⟨hb6, hF⟩
  · refine aw_cond_t rfl hb6 ?_
    refine aw_seq ?_
    obtain ⟨x13, hF, hK15⟩ := bind_some hF
    refine aw_cut (fun s1 => s1 = ⟨74, [(1, some (.pv (.int .i64 a1))), (2, some (.lp 0 0)), (37, some (.pv (.bool x13)))], [(0, some (.box 26 (bxv (eGType a0))))], 1, [], [], 0, []⟩) ?_ ?_
    · refine aw_region ?_
      refine rgp (op_field_lp rfl rfl Tryd_fld_26_1 rfl rfl) ?_
      refine rgp (op_load_lp (v := .pv (.str a0.fClass)) rfl rfl rfl rfl Tryd_one_9 rfl rfl) ?_
      obtain ⟨y9, h10, hF⟩ := bind_some hF
      refine rgp (op_call 1 rfl (caps := []) (args := [.str a0.fClass]) (rs := [.p (.bool y9)]) rfl rfl rfl Tryd_cal_32 (word_Name_ok h10) rfl rfl rfl) ?_
      refine rgp (op_not rfl rfl rfl rfl) ?_
      refine rmv ?_
      rcases ite_some hF with ⟨hb11, hF⟩ | ⟨hb11, hF⟩
      · refine rgo_t hb11 ?_
        iterate 2 (refine rgo_t hb11 ?_)
        refine rpt hb11 ?_
        refine rmv ?_
        iterate 3 (refine rgo_t rfl ?_)
        refine rpt rfl ?_
        refine reg_nil ?_
        cases hF
        exact post_cut _ rfl (imps [0] ⟨by kernel_rfl, by kernel_rfl, by kernel_rfl, trivial⟩ ⟨by kernel_rfl, trivial⟩)
      refine rgn hb11 (op_field_lp rfl rfl Tryd_fld_26_2 rfl rfl) ?_
      refine rgn hb11 (op_load_lp (v := .pv (.int .i64 a0.fN)) rfl rfl rfl rfl Tryd_one_3 rfl rfl) ?_
      refine rgn hb11 (op_int (k := .i64) (m := a0.fN) (n := 0) rfl rfl rfl rfl rfl rfl) ?_
      refine rpf hb11 ?_
      refine rmv ?_
      rcases ite_some hF with ⟨hb12, hF⟩ | ⟨hb12, hF⟩
      · refine rgo_t hb12 ?_
        iterate 2 (refine rgo_t hb12 ?_)
        refine rpt hb12 ?_
        refine reg_nil ?_
        cases hF
        exact post_cut _ rfl (imps [0] ⟨by kernel_rfl, by kernel_rfl, by kernel_rfl, trivial⟩ ⟨by kernel_rfl, trivial⟩)
      refine rgn hb12 (op_field_lp rfl rfl Tryd_fld_26_2 rfl rfl) ?_
      refine rgn hb12 (op_load_lp (v := .pv (.int .i64 a0.fN)) rfl rfl rfl rfl Tryd_one_3 rfl rfl) ?_
      refine rgn hb12 (op_int (k := .i64) (m := a0.fN) (n := 3) rfl rfl rfl rfl rfl rfl) ?_
      refine rpf hb12 ?_
      refine reg_nil ?_
      cases hF
      exact post_cut _ rfl (imps [0] ⟨by kernel_rfl, by kernel_rfl, by kernel_rfl, trivial⟩ ⟨by kernel_rfl, trivial⟩)
    rintro _ rfl
    have hF := hK15
    clear hK15
    refine post_next ?_
    rcases ite_some hF with ⟨hb16, hF⟩ | ⟨hb16, hF⟩
    · refine aw_cond_t rfl hb16 ?_
      refine aw_seq ?_
      refine aw_region ?_
      refine ras ?_
      refine reg_nil ?_
      refine post_imp (s' := ⟨74, [(4, some (.pv (.bool false)))], [], 0, [], [], 0, []⟩) (imps [] ⟨by kernel_rfl, trivial⟩ trivial) ?_
      refine post_next ?_
      refine aw_ret ?_
      refine post_block_ret ?_
      refine post_then_ret ?_
      obtain rfl := Option.some.inj hF
      exact prt
    refine aw_cond_f rfl hb16 ?_
    refine aw_skip ?_
    refine post_block_normal ?_
    refine post_next ?_
    refine aw_seq ?_
    refine aw_region ?_
    refine reg_imp (imp_freeze [(0, some (.box 26 (bxv (eGType a0))))] [(2, some (.pv (.vp (eGType a0))))] (FzH.spec ⟨rfl, trivial⟩) ⟨⟨_, rfl, rfl⟩, trivial⟩) ?_
    obtain ⟨y19, h20, hF⟩ := bind_some hF
    refine rgp (op_call 1 rfl (caps := []) (args := [.vp (eGType a0)]) (rs := [.p (.vs 2 (List.map eGOwner y19))]) rfl rfl rfl Tryd_cal_33 (kind_own_ok h20) rfl rfl rfl) ?_
    refine ras ?_
    refine reg_nil ?_
    refine post_imp (s' := ⟨74, [(1, some (.pv (.int .i64 a1))), (2, some (.pv (.vp (eGType a0)))), (5, some (.pv (.vs 2 (List.map eGOwner y19))))], [], 0, [], [], 0, []⟩) (imps [] ⟨by kernel_rfl, by kernel_rfl, by kernel_rfl, trivial⟩ trivial) ?_
    refine post_next ?_
    iterate 2 (refine aw_seq ?_)
    refine aw_region ?_
    refine rmv ?_
    refine rgp (op_len_vs (n := y19.length) rfl rfl (List.length_map ..) Tryd_slc_35 rfl rfl) ?_
    refine rmv ?_
    refine reg_nil ?_
    refine post_imp (s' := ⟨74, [(1, some (.pv (.int .i64 a1))), (2, some (.pv (.vp (eGType a0)))), (5, some (.pv (.vs 2 (List.map eGOwner y19)))), (39, some (.pv (.vs 2 (List.map eGOwner y19)))), (40, some (.pv (.int .i64 (y19.length : Int)))), (41, some (.pv (.int .i64 0)))], [], 0, [], [], 0, []⟩) (imps [] ⟨by kernel_rfl, by kernel_rfl, by kernel_rfl, by kernel_rfl, by kernel_rfl, by kernel_rfl, trivial⟩ trivial) ?_
    refine post_next ?_
    obtain ⟨lr54, hF, hK55⟩ := bind_some hF
    refine aw_for ((((y19.length : Int) : Int) - (0)).toNat + 1) (fun s1 => ∃ q, lr54 = .next q ∧ s1 = ⟨74, [(2, some (.pv (.vp (eGType a0)))), (5, some (.pv (.vs 2 (List.map eGOwner y19))))], [], 0, [], [], 0, []⟩) ?_ ?_
    · refine rnd_loop (α := Int) (fun q => ⟨74, [(1, some (.pv (.int .i64 a1))), (2, some (.pv (.vp (eGType a0)))), (5, some (.pv (.vs 2 (List.map eGOwner y19)))), (39, some (.pv (.vs 2 (List.map eGOwner y19)))), (40, some (.pv (.int .i64 (y19.length : Int)))), (41, some (.pv (.int .i64 q)))], [], 0, [], [], 0, []⟩) (fun k q => kind_Right_L1 a1 y19 k q = some lr54) 0 (imps [] ⟨by kernel_rfl, by kernel_rfl, by kernel_rfl, by kernel_rfl, by kernel_rfl, by kernel_rfl, trivial⟩ trivial) hF (fun q h => by cases h) ?_
      clear hF
      rintro k x31 hF ih
      refine rnd_succ ?_
      refine aw_seq ?_
      refine aw_region ?_
      refine rgp (op_int (k := .i64) (m := x31) (n := (y19.length : Int)) rfl rfl rfl rfl rfl rfl) ?_
      refine reg_nil ?_
      refine post_imp (s' := ⟨74, [(1, some (.pv (.int .i64 a1))), (2, some (.pv (.vp (eGType a0)))), (5, some (.pv (.vs 2 (List.map eGOwner y19)))), (39, some (.pv (.vs 2 (List.map eGOwner y19)))), (40, some (.pv (.int .i64 (y19.length : Int)))), (41, some (.pv (.int .i64 x31))), (42, some (.pv (.bool (decide (x31 < (y19.length : Int))))))], [], 0, [], [], 0, []⟩) (imps [] ⟨by kernel_rfl, by kernel_rfl, by kernel_rfl, by kernel_rfl, by kernel_rfl, by kernel_rfl, by kernel_rfl, trivial⟩ trivial) ?_
      refine post_next ?_
      refine aw_seq ?_
      rcases ite_some hF with ⟨hb43, hF⟩ | ⟨hb43, hF⟩
      · refine aw_cond_t rfl hb43 ?_
        refine aw_skip ?_
        refine post_next ?_
        refine aw_seq ?_
        refine aw_block ?_
        refine aw_seq ?_
        refine aw_region ?_
        obtain ⟨y46, h47, hF⟩ := bind_some hF
        refine rgp (op_index_vs (k := .i64) rfl rfl rfl (idx_map eGOwner h47) Tryd_slc_35 rfl rfl) ?_
        refine rgp (op_load_vp_agg (ps := eGOwner y46) rfl rfl rfl rfl Tryd_agg_23 rfl rfl) ?_
        refine rgp (op_alloc 0 rfl (ps := (eGOwner zGOwner)) rfl Tryd_zer_23 (by exact ⟨rfl, rfl, trivial⟩) rfl rfl) ?_
        refine rgp (op_store_lp (n := 2) rfl rfl rfl rfl rfl (or_agg Tryd_agg_23) (by rw [Tryd_non_23]; rfl) rfl rfl rfl) ?_
        refine reg_nil ?_
        refine post_imp (s' := ⟨74, [(1, some (.pv (.int .i64 a1))), (2, some (.pv (.vp (eGType a0)))), (5, some (.pv (.vs 2 (List.map eGOwner y19)))), (7, some (.lp 0 0)), (39, some (.pv (.vs 2 (List.map eGOwner y19)))), (40, some (.pv (.int .i64 (y19.length : Int)))), (41, some (.pv (.int .i64 x31)))], [(0, some (.box 23 (bxv (eGOwner y46))))], 1, [], [], 0, []⟩) (imps [0] ⟨by kernel_rfl, by kernel_rfl, by kernel_rfl, by kernel_rfl, by kernel_rfl, by kernel_rfl, by kernel_rfl, trivial⟩ ⟨by kernel_rfl, trivial⟩) ?_
        refine post_next ?_
        refine aw_seq ?_
        refine aw_region ?_
        refine rgp (op_load_lp_agg (ps := eGOwner y46) rfl rfl rfl rfl rfl rfl Tryd_agg_23 rfl rfl) ?_
        refine rmv ?_
        obtain ⟨y50, h51, hF⟩ := bind_some hF
        refine rgp (op_call 1 rfl (caps := []) (args := [.agg (eGOwner y46), .int .i64 a1]) (rs := [.p (.bool y50)]) rfl rfl rfl Tryd_cal_34 (owner_Right_ok h51) rfl rfl rfl) ?_
        refine rgp (op_not rfl rfl rfl rfl) ?_
        refine reg_nil ?_
        refine post_imp (s' := ⟨74, [(1, some (.pv (.int .i64 a1))), (2, some (.pv (.vp (eGType a0)))), (5, some (.pv (.vs 2 (List.map eGOwner y19)))), (39, some (.pv (.vs 2 (List.map eGOwner y19)))), (40, some (.pv (.int .i64 (y19.length : Int)))), (41, some (.pv (.int .i64 x31))), (48, some (.pv (.bool (!y50))))], [], 0, [], [], 0, []⟩) (imps [] ⟨by kernel_rfl, by kernel_rfl, by kernel_rfl, by kernel_rfl, by kernel_rfl, by kernel_rfl, by kernel_rfl, trivial⟩ trivial) ?_
        refine post_next ?_
        rcases ite_some hF with ⟨hb52, hF⟩ | ⟨hb52, hF⟩
        · refine aw_cond_t rfl hb52 ?_
          refine aw_seq ?_
          refine aw_region ?_
          refine ras ?_
          refine reg_nil ?_
          refine post_imp (s' := ⟨74, [(4, some (.pv (.bool false)))], [], 0, [], [], 0, []⟩) (imps [] ⟨by kernel_rfl, trivial⟩ trivial) ?_
          refine post_next ?_
          refine aw_ret ?_
          refine post_block_ret ?_
          iterate 2 (refine post_then_ret ?_)
          refine post_lp_ret ?_
          obtain rfl := Option.some.inj hF
          have hF := elim_stop hK55
          refine post_then_ret ?_
          obtain rfl := Option.some.inj hF
          exact prt
        refine aw_cond_f rfl hb52 ?_
        refine aw_skip ?_
        refine post_block_normal ?_
        refine post_next ?_
        refine aw_region ?_
        refine rgp (op_int (k := .i64) (m := x31) (n := 1) rfl rfl rfl rfl rfl rfl) ?_
        refine rmv ?_
        refine reg_nil ?_
        refine post_round ?_
        exact rnd_back (ih (w_i64 (x31 + 1)) hF) (imps [] ⟨by kernel_rfl, by kernel_rfl, by kernel_rfl, by kernel_rfl, by kernel_rfl, by kernel_rfl, trivial⟩ trivial)
      refine aw_cond_f rfl hb43 ?_
      refine aw_exit ?_
      iterate 2 (refine post_then_exit ?_)
      obtain rfl := Option.some.inj hF
      exact post_lp_break _ ⟨_, rfl, rfl⟩ (imps [] ⟨by kernel_rfl, by kernel_rfl, trivial⟩ trivial)
    rintro _ ⟨⟨⟩, rfl, rfl⟩
    have hF := elim_next hK55
    clear hK55
    refine post_next ?_
    iterate 2 (refine aw_seq ?_)
    refine aw_region ?_
    refine rmv ?_
    obtain ⟨y58, h59, hF⟩ := bind_some hF
    refine rgp (op_slice_vs (nl := (some 1)) (nh := none) (nm := none) rfl rfl rfl rfl rfl (.inl rfl) Tryd_slc_35 (cut_map (nl := (some 1)) (nh := none) eGOwner h59) rfl rfl) ?_
    refine rgp (op_len_vs (n := y58.length) rfl rfl (List.length_map ..) Tryd_slc_35 rfl rfl) ?_
    refine rmv ?_
    refine reg_nil ?_
    refine post_imp (s' := ⟨74, [(2, some (.pv (.vp (eGType a0)))), (5, some (.pv (.vs 2 (List.map eGOwner y19)))), (51, some (.pv (.vs 2 (List.map eGOwner y58)))), (52, some (.pv (.int .i64 (y58.length : Int)))), (53, some (.pv (.int .i64 0)))], [], 0, [], [], 0, []⟩) (imps [] ⟨by kernel_rfl, by kernel_rfl, by kernel_rfl, by kernel_rfl, by kernel_rfl, trivial⟩ trivial) ?_
    refine post_next ?_
    obtain ⟨lr81, hF, hK82⟩ := bind_some hF
    refine aw_for ((((y58.length : Int) : Int) - (0)).toNat + 1) (fun s1 => ∃ q, lr81 = .next q ∧ s1 = ⟨74, [(2, some (.pv (.vp (eGType a0)))), (5, some (.pv (.vs 2 (List.map eGOwner y19))))], [], 0, [], [], 0, []⟩) ?_ ?_
    · refine rnd_loop (α := Int) (fun q => ⟨74, [(2, some (.pv (.vp (eGType a0)))), (5, some (.pv (.vs 2 (List.map eGOwner y19)))), (51, some (.pv (.vs 2 (List.map eGOwner y58)))), (52, some (.pv (.int .i64 (y58.length : Int)))), (53, some (.pv (.int .i64 q)))], [], 0, [], [], 0, []⟩) (fun k q => kind_Right_L2 y58 k q = some lr81) 0 (imps [] ⟨by kernel_rfl, by kernel_rfl, by kernel_rfl, by kernel_rfl, by kernel_rfl, trivial⟩ trivial) hF (fun q h => by cases h) ?_
      clear hF
      rintro k x66 hF ih
      refine rnd_succ ?_
      refine aw_seq ?_
      refine aw_region ?_
      refine rgp (op_int (k := .i64) (m := x66) (n := (y58.length : Int)) rfl rfl rfl rfl rfl rfl) ?_
      refine reg_nil ?_
      refine post_imp (s' := ⟨74, [(2, some (.pv (.vp (eGType a0)))), (5, some (.pv (.vs 2 (List.map eGOwner y19)))), (51, some (.pv (.vs 2 (List.map eGOwner y58)))), (52, some (.pv (.int .i64 (y58.length : Int)))), (53, some (.pv (.int .i64 x66))), (54, some (.pv (.bool (decide (x66 < (y58.length : Int))))))], [], 0, [], [], 0, []⟩) (imps [] ⟨by kernel_rfl, by kernel_rfl, by kernel_rfl, by kernel_rfl, by kernel_rfl, by kernel_rfl, trivial⟩ trivial) ?_
      refine post_next ?_
      refine aw_seq ?_
      rcases ite_some hF with ⟨hb74, hF⟩ | ⟨hb74, hF⟩
      · refine aw_cond_t rfl hb74 ?_
        refine aw_skip ?_
        refine post_next ?_
        refine aw_seq ?_
        refine aw_block ?_
        refine aw_seq ?_
        refine aw_region ?_
        obtain ⟨y77, h78, hF⟩ := bind_some hF
        refine rgp (op_index_vs (k := .i64) rfl rfl rfl (idx_map eGOwner h78) Tryd_slc_35 rfl rfl) ?_
        refine rgp (op_load_vp_agg (ps := eGOwner y77) rfl rfl rfl rfl Tryd_agg_23 rfl rfl) ?_
        refine rgp (op_alloc 0 rfl (ps := (eGOwner zGOwner)) rfl Tryd_zer_23 (by exact ⟨rfl, rfl, trivial⟩) rfl rfl) ?_
        refine rgp (op_store_lp (n := 2) rfl rfl rfl rfl rfl (or_agg Tryd_agg_23) (by rw [Tryd_non_23]; rfl) rfl rfl rfl) ?_
        refine reg_nil ?_
        refine post_imp (s' := ⟨74, [(2, some (.pv (.vp (eGType a0)))), (5, some (.pv (.vs 2 (List.map eGOwner y19)))), (9, some (.lp 0 0)), (51, some (.pv (.vs 2 (List.map eGOwner y58)))), (52, some (.pv (.int .i64 (y58.length : Int)))), (53, some (.pv (.int .i64 x66)))], [(0, some (.box 23 (bxv (eGOwner y77))))], 1, [], [], 0, []⟩) (imps [0] ⟨by kernel_rfl, by kernel_rfl, by kernel_rfl, by kernel_rfl, by kernel_rfl, by kernel_rfl, trivial⟩ ⟨by kernel_rfl, trivial⟩) ?_
        refine post_next ?_
        refine aw_seq ?_
        refine aw_region ?_
        refine rgp (op_field_lp rfl rfl Tryd_fld_23_0 rfl rfl) ?_
        refine rgp (op_load_lp (v := .pv (.int .i64 y77.fKind)) rfl rfl rfl rfl Tryd_one_3 rfl rfl) ?_
        refine rgp (op_int (k := .i64) (m := y77.fKind) (n := 6) rfl rfl rfl rfl rfl rfl) ?_
        refine reg_nil ?_
        refine post_imp (s' := ⟨74, [(2, some (.pv (.vp (eGType a0)))), (5, some (.pv (.vs 2 (List.map eGOwner y19)))), (51, some (.pv (.vs 2 (List.map eGOwner y58)))), (52, some (.pv (.int .i64 (y58.length : Int)))), (53, some (.pv (.int .i64 x66))), (59, some (.pv (.bool (y77.fKind == 6))))], [], 0, [], [], 0, []⟩) (imps [] ⟨by kernel_rfl, by kernel_rfl, by kernel_rfl, by kernel_rfl, by kernel_rfl, by kernel_rfl, trivial⟩ trivial) ?_
        refine post_next ?_
        rcases ite_some hF with ⟨hb79, hF⟩ | ⟨hb79, hF⟩
        · refine aw_cond_t rfl hb79 ?_
          refine aw_seq ?_
          refine aw_region ?_
          refine ras ?_
          refine reg_nil ?_
          refine post_imp (s' := ⟨74, [(4, some (.pv (.bool false)))], [], 0, [], [], 0, []⟩) (imps [] ⟨by kernel_rfl, trivial⟩ trivial) ?_
          refine post_next ?_
          refine aw_ret ?_
          refine post_block_ret ?_
          iterate 2 (refine post_then_ret ?_)
          refine post_lp_ret ?_
          obtain rfl := Option.some.inj hF
          have hF := elim_stop hK82
          refine post_then_ret ?_
          obtain rfl := Option.some.inj hF
          exact prt
        refine aw_cond_f rfl hb79 ?_
        refine aw_skip ?_
        refine post_block_normal ?_
        refine post_next ?_
        refine aw_region ?_
        refine rgp (op_int (k := .i64) (m := x66) (n := 1) rfl rfl rfl rfl rfl rfl) ?_
        refine rmv ?_
        refine reg_nil ?_
        refine post_round ?_
        exact rnd_back (ih (w_i64 (x66 + 1)) hF) (imps [] ⟨by kernel_rfl, by kernel_rfl, by kernel_rfl, by kernel_rfl, by kernel_rfl, trivial⟩ trivial)
      refine aw_cond_f rfl hb74 ?_
      refine aw_exit ?_
      iterate 2 (refine post_then_exit ?_)
      obtain rfl := Option.some.inj hF
      exact post_lp_break _ ⟨_, rfl, rfl⟩ (imps [] ⟨by kernel_rfl, by kernel_rfl, trivial⟩ trivial)
    rintro _ ⟨⟨⟩, rfl, rfl⟩
    have hF := elim_next hK82
    clear hK82
    refine post_next ?_
    iterate 2 (refine aw_seq ?_)
    refine aw_region ?_
    refine rgp (op_field_vp rfl rfl Tryd_fld_26_3 rfl rfl) ?_
    refine rmv ?_
    refine rgp (op_len_vs (n := y19.length) rfl rfl (List.length_map ..) Tryd_slc_35 rfl rfl) ?_
    obtain ⟨y85, h86, hF⟩ := bind_some hF
    refine rgp (op_sliceArr (f := eGOwner) (l := (a0.fOwn).l) (nl := (some (y19.length : Int))) (nh := none) (nm := none) rfl rfl rfl rfl rfl (.inl rfl) Tryd_arr_24 rfl (fun _ => rfl) rfl rfl h86 rfl rfl) ?_
    refine rgp (op_len_vs (n := y85.length) rfl rfl (List.length_map ..) Tryd_slc_35 rfl rfl) ?_
    refine rmv ?_
    refine reg_nil ?_
    refine post_imp (s' := ⟨74, [(64, some (.pv (.vs 2 (List.map eGOwner y85)))), (65, some (.pv (.int .i64 (y85.length : Int)))), (66, some (.pv (.int .i64 0)))], [], 0, [], [], 0, []⟩) (imps [] ⟨by kernel_rfl, by kernel_rfl, by kernel_rfl, trivial⟩ trivial) ?_
    refine post_next ?_
    obtain ⟨lr108, hF, hK109⟩ := bind_some hF
    refine aw_for ((((y85.length : Int) : Int) - (0)).toNat + 1) (fun s1 => ∃ q, lr108 = .next q ∧ s1 = ⟨74, [], [], 0, [], [], 0, []⟩) ?_ ?_
    · refine rnd_loop (α := Int) (fun q => ⟨74, [(64, some (.pv (.vs 2 (List.map eGOwner y85)))), (65, some (.pv (.int .i64 (y85.length : Int)))), (66, some (.pv (.int .i64 q)))], [], 0, [], [], 0, []⟩) (fun k q => kind_Right_L3 y85 k q = some lr108) 0 (imps [] ⟨by kernel_rfl, by kernel_rfl, by kernel_rfl, trivial⟩ trivial) hF (fun q h => by cases h) ?_
      clear hF
      rintro k x93 hF ih
      refine rnd_succ ?_
      refine aw_seq ?_
      refine aw_region ?_
      refine rgp (op_int (k := .i64) (m := x93) (n := (y85.length : Int)) rfl rfl rfl rfl rfl rfl) ?_
      refine reg_nil ?_
      refine post_imp (s' := ⟨74, [(64, some (.pv (.vs 2 (List.map eGOwner y85)))), (65, some (.pv (.int .i64 (y85.length : Int)))), (66, some (.pv (.int .i64 x93))), (67, some (.pv (.bool (decide (x93 < (y85.length : Int))))))], [], 0, [], [], 0, []⟩) (imps [] ⟨by kernel_rfl, by kernel_rfl, by kernel_rfl, by kernel_rfl, trivial⟩ trivial) ?_
      refine post_next ?_
      refine aw_seq ?_
      rcases ite_some hF with ⟨hb101, hF⟩ | ⟨hb101, hF⟩
      · refine aw_cond_t rfl hb101 ?_
        refine aw_skip ?_
        refine post_next ?_
        refine aw_seq ?_
        refine aw_block ?_
        refine aw_seq ?_
        refine aw_region ?_
        obtain ⟨y104, h105, hF⟩ := bind_some hF
        refine rgp (op_index_vs (k := .i64) rfl rfl rfl (idx_map eGOwner h105) Tryd_slc_35 rfl rfl) ?_
        refine rgp (op_load_vp_agg (ps := eGOwner y104) rfl rfl rfl rfl Tryd_agg_23 rfl rfl) ?_
        refine rgp (op_alloc 0 rfl (ps := (eGOwner zGOwner)) rfl Tryd_zer_23 (by exact ⟨rfl, rfl, trivial⟩) rfl rfl) ?_
        refine rgp (op_store_lp (n := 2) rfl rfl rfl rfl rfl (or_agg Tryd_agg_23) (by rw [Tryd_non_23]; rfl) rfl rfl rfl) ?_
        refine reg_nil ?_
        refine post_imp (s' := ⟨74, [(11, some (.lp 0 0)), (64, some (.pv (.vs 2 (List.map eGOwner y85)))), (65, some (.pv (.int .i64 (y85.length : Int)))), (66, some (.pv (.int .i64 x93)))], [(0, some (.box 23 (bxv (eGOwner y104))))], 1, [], [], 0, []⟩) (imps [0] ⟨by kernel_rfl, by kernel_rfl, by kernel_rfl, by kernel_rfl, trivial⟩ ⟨by kernel_rfl, trivial⟩) ?_
        refine post_next ?_
        refine aw_seq ?_
        refine aw_region ?_
        refine rgp (op_load_lp_agg (ps := eGOwner y104) rfl rfl rfl rfl rfl rfl Tryd_agg_23 rfl rfl) ?_
        refine rgp (op_build (zs := (eGOwner zGOwner)) (r := eGOwner ({ fKind := 0, fN := 0 } : GOwner)) rfl Tryd_zer_23 (by exact ⟨rfl, rfl, trivial⟩) Tryd_plc_23 rfl rfl rfl rfl) ?_
        refine rgp (op_eqAgg_neq (r := bGOwner y104 ({ fKind := 0, fN := 0 } : GOwner)) rfl rfl rfl Tryd_eqt_23 rfl rfl rfl rfl rfl) ?_
        refine reg_nil ?_
        refine post_imp (s' := ⟨74, [(64, some (.pv (.vs 2 (List.map eGOwner y85)))), (65, some (.pv (.int .i64 (y85.length : Int)))), (66, some (.pv (.int .i64 x93))), (72, some (.pv (.bool (!(bGOwner y104 ({ fKind := 0, fN := 0 } : GOwner))))))], [], 0, [], [], 0, []⟩) (imps [] ⟨by kernel_rfl, by kernel_rfl, by kernel_rfl, by kernel_rfl, trivial⟩ trivial) ?_
        refine post_next ?_
        rcases ite_some hF with ⟨hb106, hF⟩ | ⟨hb106, hF⟩
        · refine aw_cond_t rfl hb106 ?_
          refine aw_seq ?_
          refine aw_region ?_
          refine ras ?_
          refine reg_nil ?_
          refine post_imp (s' := ⟨74, [(4, some (.pv (.bool false)))], [], 0, [], [], 0, []⟩) (imps [] ⟨by kernel_rfl, trivial⟩ trivial) ?_
          refine post_next ?_
          refine aw_ret ?_
          refine post_block_ret ?_
          iterate 2 (refine post_then_ret ?_)
          refine post_lp_ret ?_
          obtain rfl := Option.some.inj hF
          have hF := elim_stop hK109
          refine post_then_ret ?_
          obtain rfl := Option.some.inj hF
          exact prt
        refine aw_cond_f rfl hb106 ?_
        refine aw_skip ?_
        refine post_block_normal ?_
        refine post_next ?_
        refine aw_region ?_
        refine rgp (op_int (k := .i64) (m := x93) (n := 1) rfl rfl rfl rfl rfl rfl) ?_
        refine rmv ?_
        refine reg_nil ?_
        refine post_round ?_
        exact rnd_back (ih (w_i64 (x93 + 1)) hF) (imps [] ⟨by kernel_rfl, by kernel_rfl, by kernel_rfl, trivial⟩ trivial)
      refine aw_cond_f rfl hb101 ?_
      refine aw_exit ?_
      iterate 2 (refine post_then_exit ?_)
      obtain rfl := Option.some.inj hF
      exact post_lp_break _ ⟨_, rfl, rfl⟩ (imps [] trivial trivial)
    rintro _ ⟨⟨⟩, rfl, rfl⟩
    have hF := elim_next hK109
    clear hK109
    refine post_next ?_
    refine aw_seq ?_
    refine aw_region ?_
    refine ras ?_
    refine reg_nil ?_
    refine post_imp (s' := ⟨74, [(4, some (.pv (.bool true)))], [], 0, [], [], 0, []⟩) (imps [] ⟨by kernel_rfl, trivial⟩ trivial) ?_
    refine post_next ?_
    refine aw_ret ?_
    obtain rfl := Option.some.inj hF
    exact prt
  refine aw_cond_f rfl hb6 ?_
  refine aw_seq ?_
  refine aw_region ?_
  refine ras ?_
  refine reg_nil ?_
  refine post_imp (s' := ⟨74, [(4, some (.pv (.bool false)))], [], 0, [], [], 0, []⟩) (imps [] ⟨by kernel_rfl, trivial⟩ trivial) ?_
  refine post_next ?_
  refine aw_ret ?_
  refine post_block_ret ?_
  refine post_then_ret ?_
  obtain rfl := Option.some.inj hF
  exact prt
theorem owner_Text_ok {a0 : GOwner} {a1 : List (List UInt8)} {r : (List UInt8)} (hF : owner_Text a0 a1 = some r) : Abs.Fn globs_Tryd Tryd.prog 36 [.agg (eGOwner a0), .vs 1 (List.map eS a1)] [.p (.str r)] := by
  unfold owner_Text at hF
  refine fn_of_body (n := 30) Tryd.func36 rfl rfl rfl ?_
  intro w O
  refine aw_seq ?_
  refine aw_region ?_
  refine rgp (op_box 0 rfl rfl rfl rfl rfl rfl) ?_
  refine ras ?_
  refine reg_nil ?_
  refine post_imp (s' := ⟨30, [(1, some (.pv (.vs 1 (List.map eS a1)))), (2, some (.lp 0 0))], [(0, some (.box 23 (bxv (eGOwner a0))))], 1, [], [], 0, []⟩) (imps [0] ⟨by kernel_rfl, by kernel_rfl, trivial⟩ ⟨by kernel_rfl, trivial⟩) ?_
  refine post_next ?_
  iterate 2 (refine aw_seq ?_)
  refine aw_region ?_
  refine rgp (op_load_lp_agg (ps := eGOwner a0) rfl rfl rfl rfl rfl rfl Tryd_agg_23 rfl rfl) ?_
  refine rmv ?_
  refine rgp (op_len_vs (n := a1.length) rfl rfl (List.length_map ..) Tryd_slc_27 rfl rfl) ?_
  obtain ⟨y3, h4, hF⟩ := bind_some hF
  refine rgp (op_call 1 rfl (caps := []) (args := [.agg (eGOwner a0), .int .i64 (a1.length : Int)]) (rs := [.p (.bool y3)]) rfl rfl rfl Tryd_cal_34 (owner_Right_ok h4) rfl rfl rfl) ?_
  refine rgp (op_not rfl rfl rfl rfl) ?_
  refine reg_nil ?_
  refine post_imp (s' := ⟨30, [(1, some (.pv (.vs 1 (List.map eS a1)))), (2, some (.lp 0 0)), (9, some (.pv (.bool (!y3))))], [(0, some (.box 23 (bxv (eGOwner a0))))], 1, [], [], 0, []⟩) (imps [0] ⟨by kernel_rfl, by kernel_rfl, by kernel_rfl, trivial⟩ ⟨by kernel_rfl, trivial⟩) ?_
  refine post_next ?_
  rcases ite_some hF with ⟨hb5, hF⟩ | ⟨hb5, hF⟩
  · refine aw_cond_t rfl hb5 ?_
    refine aw_seq ?_
    refine aw_region ?_
    refine ras ?_
    refine reg_nil ?_
    refine post_imp (s' := ⟨30, [(4, some (.pv (.str [])))], [], 0, [], [], 0, []⟩) (imps [] ⟨by kernel_rfl, trivial⟩ trivial) ?_
    refine post_next ?_
    refine aw_ret ?_
    refine post_then_ret ?_
    obtain rfl := Option.some.inj hF
    exact prt
  refine aw_cond_f rfl hb5 ?_
  refine aw_skip ?_
  refine post_next ?_
  iterate 2 (refine aw_seq ?_)
  refine aw_region ?_
  refine rgp (op_field_lp rfl rfl Tryd_fld_23_0 rfl rfl) ?_
  refine rgp (op_load_lp (v := .pv (.int .i64 a0.fKind)) rfl rfl rfl rfl Tryd_one_3 rfl rfl) ?_
  refine reg_nil ?_
  refine post_imp (s' := ⟨30, [(1, some (.pv (.vs 1 (List.map eS a1)))), (2, some (.lp 0 0)), (11, some (.pv (.int .i64 a0.fKind)))], [(0, some (.box 23 (bxv (eGOwner a0))))], 1, [], [], 0, []⟩) (imps [0] ⟨by kernel_rfl, by kernel_rfl, by kernel_rfl, trivial⟩ ⟨by kernel_rfl, trivial⟩) ?_
  refine post_next ?_
  refine aw_block ?_
  refine aw_seq ?_
  refine aw_region ?_
  refine rgp (op_int (k := .i64) (m := a0.fKind) (n := 1) rfl rfl rfl rfl rfl rfl) ?_
  refine ras ?_
  refine reg_nil ?_
  refine post_imp (s' := ⟨30, [(1, some (.pv (.vs 1 (List.map eS a1)))), (2, some (.lp 0 0)), (11, some (.pv (.int .i64 a0.fKind))), (12, some (.pv (.bool (a0.fKind == 1))))], [(0, some (.box 23 (bxv (eGOwner a0))))], 1, [], [], 0, []⟩) (imps [0] ⟨by kernel_rfl, by kernel_rfl, by kernel_rfl, by kernel_rfl, trivial⟩ ⟨by kernel_rfl, trivial⟩) ?_
  refine post_next ?_
  rcases ite_some hF with ⟨hb6, hF⟩ | ⟨hb6, hF⟩
  · refine aw_cond_t rfl hb6 ?_
    refine aw_seq ?_
    refine aw_region ?_
    refine ras ?_
    refine reg_nil ?_
    refine post_imp (s' := ⟨30, [(4, some (.pv (.str [114, 101, 112])))], [], 0, [], [], 0, []⟩) (imps [] ⟨by kernel_rfl, trivial⟩ trivial) ?_
    refine post_next ?_
    refine aw_ret ?_
    refine post_block_ret ?_
    refine post_then_ret ?_
    obtain rfl := Option.some.inj hF
    exact prt
  refine aw_cond_f rfl hb6 ?_
  refine aw_seq ?_
  refine aw_region ?_
  refine rgp (op_int (k := .i64) (m := a0.fKind) (n := 2) rfl rfl rfl rfl rfl rfl) ?_
  refine ras ?_
  refine reg_nil ?_
  refine post_imp (s' := ⟨30, [(1, some (.pv (.vs 1 (List.map eS a1)))), (2, some (.lp 0 0)), (11, some (.pv (.int .i64 a0.fKind))), (14, some (.pv (.bool (a0.fKind == 2))))], [(0, some (.box 23 (bxv (eGOwner a0))))], 1, [], [], 0, []⟩) (imps [0] ⟨by kernel_rfl, by kernel_rfl, by kernel_rfl, by kernel_rfl, trivial⟩ ⟨by kernel_rfl, trivial⟩) ?_
  refine post_next ?_
  rcases ite_some hF with ⟨hb7, hF⟩ | ⟨hb7, hF⟩
  · refine aw_cond_t rfl hb7 ?_
    refine aw_seq ?_
    refine aw_region ?_
    refine ras ?_
    refine reg_nil ?_
    refine post_imp (s' := ⟨30, [(4, some (.pv (.str [112, 101, 101, 114])))], [], 0, [], [], 0, []⟩) (imps [] ⟨by kernel_rfl, trivial⟩ trivial) ?_
    refine post_next ?_
    refine aw_ret ?_
    refine post_block_ret ?_
    refine post_then_ret ?_
    obtain rfl := Option.some.inj hF
    exact prt
  refine aw_cond_f rfl hb7 ?_
  refine aw_seq ?_
  refine aw_region ?_
  refine rgp (op_int (k := .i64) (m := a0.fKind) (n := 4) rfl rfl rfl rfl rfl rfl) ?_
  refine ras ?_
  refine reg_nil ?_
  refine post_imp (s' := ⟨30, [(1, some (.pv (.vs 1 (List.map eS a1)))), (2, some (.lp 0 0)), (11, some (.pv (.int .i64 a0.fKind))), (16, some (.pv (.bool (a0.fKind == 4))))], [(0, some (.box 23 (bxv (eGOwner a0))))], 1, [], [], 0, []⟩) (imps [0] ⟨by kernel_rfl, by kernel_rfl, by kernel_rfl, by kernel_rfl, trivial⟩ ⟨by kernel_rfl, trivial⟩) ?_
  refine post_next ?_
  rcases ite_some hF with ⟨hb8, hF⟩ | ⟨hb8, hF⟩
  · refine aw_cond_t rfl hb8 ?_
    refine aw_seq ?_
    refine aw_region ?_
    refine ras ?_
    refine reg_nil ?_
    refine post_imp (s' := ⟨30, [(4, some (.pv (.str [119, 111, 114, 108, 100])))], [], 0, [], [], 0, []⟩) (imps [] ⟨by kernel_rfl, trivial⟩ trivial) ?_
    refine post_next ?_
    refine aw_ret ?_
    refine post_block_ret ?_
    refine post_then_ret ?_
    obtain rfl := Option.some.inj hF
    exact prt
  refine aw_cond_f rfl hb8 ?_
  refine aw_seq ?_
  refine aw_region ?_
  refine rgp (op_int (k := .i64) (m := a0.fKind) (n := 5) rfl rfl rfl rfl rfl rfl) ?_
  refine ras ?_
  refine reg_nil ?_
  refine post_imp (s' := ⟨30, [(1, some (.pv (.vs 1 (List.map eS a1)))), (2, some (.lp 0 0)), (11, some (.pv (.int .i64 a0.fKind))), (18, some (.pv (.bool (a0.fKind == 5))))], [(0, some (.box 23 (bxv (eGOwner a0))))], 1, [], [], 0, []⟩) (imps [0] ⟨by kernel_rfl, by kernel_rfl, by kernel_rfl, by kernel_rfl, trivial⟩ ⟨by kernel_rfl, trivial⟩) ?_
  refine post_next ?_
  rcases ite_some hF with ⟨hb9, hF⟩ | ⟨hb9, hF⟩
  · refine aw_cond_t rfl hb9 ?_
    refine aw_seq ?_
    refine aw_region ?_
    refine ras ?_
    refine reg_nil ?_
    refine post_imp (s' := ⟨30, [(4, some (.pv (.str [97, 110, 121])))], [], 0, [], [], 0, []⟩) (imps [] ⟨by kernel_rfl, trivial⟩ trivial) ?_
    refine post_next ?_
    refine aw_ret ?_
    refine post_block_ret ?_
    refine post_then_ret ?_
    obtain rfl := Option.some.inj hF
    exact prt
  refine aw_cond_f rfl hb9 ?_
  refine aw_seq ?_
  refine aw_region ?_
  refine rgp (op_int (k := .i64) (m := a0.fKind) (n := 6) rfl rfl rfl rfl rfl rfl) ?_
  refine ras ?_
  refine reg_nil ?_
  refine post_imp (s' := ⟨30, [(1, some (.pv (.vs 1 (List.map eS a1)))), (2, some (.lp 0 0)), (11, some (.pv (.int .i64 a0.fKind))), (20, some (.pv (.bool (a0.fKind == 6))))], [(0, some (.box 23 (bxv (eGOwner a0))))], 1, [], [], 0, []⟩) (imps [0] ⟨by kernel_rfl, by kernel_rfl, by kernel_rfl, by kernel_rfl, trivial⟩ ⟨by kernel_rfl, trivial⟩) ?_
  refine post_next ?_
  rcases ite_some hF with ⟨hb10, hF⟩ | ⟨hb10, hF⟩
  · refine aw_cond_t rfl hb10 ?_
    refine aw_seq ?_
    refine aw_region ?_
    refine ras ?_
    refine reg_nil ?_
    refine post_imp (s' := ⟨30, [(4, some (.pv (.str [117, 110, 105, 113, 117, 101])))], [], 0, [], [], 0, []⟩) (imps [] ⟨by kernel_rfl, trivial⟩ trivial) ?_
    refine post_next ?_
    refine aw_ret ?_
    refine post_block_ret ?_
    refine post_then_ret ?_
    obtain rfl := Option.some.inj hF
    exact prt
  refine aw_cond_f rfl hb10 ?_
  refine aw_seq ?_
  refine aw_region ?_
  refine rgp (op_int (k := .i64) (m := a0.fKind) (n := 7) rfl rfl rfl rfl rfl rfl) ?_
  refine ras ?_
  refine reg_nil ?_
  refine post_imp (s' := ⟨30, [(1, some (.pv (.vs 1 (List.map eS a1)))), (2, some (.lp 0 0)), (22, some (.pv (.bool (a0.fKind == 7))))], [(0, some (.box 23 (bxv (eGOwner a0))))], 1, [], [], 0, []⟩) (imps [0] ⟨by kernel_rfl, by kernel_rfl, by kernel_rfl, trivial⟩ ⟨by kernel_rfl, trivial⟩) ?_
  refine post_next ?_
  rcases ite_some hF with ⟨hb11, hF⟩ | ⟨hb11, hF⟩
  · refine aw_cond_t rfl hb11 ?_
    refine aw_seq ?_
    refine aw_region ?_
    refine ras ?_
    refine reg_nil ?_
    refine post_imp (s' := ⟨30, [(4, some (.pv (.str [63])))], [], 0, [], [], 0, []⟩) (imps [] ⟨by kernel_rfl, trivial⟩ trivial) ?_
    refine post_next ?_
    refine aw_ret ?_
    refine post_block_ret ?_
    refine post_then_ret ?_
    obtain rfl := Option.some.inj hF
    exact prt
  refine aw_cond_f rfl hb11 ?_
  refine aw_skip ?_
  refine post_block_normal ?_
  refine post_next ?_
  refine aw_seq ?_
  refine aw_region ?_
  refine rmv ?_
  refine rgp (op_field_lp rfl rfl Tryd_fld_23_1 rfl rfl) ?_
  refine rgp (op_load_lp (v := .pv (.int .i64 a0.fN)) rfl rfl rfl rfl Tryd_one_3 rfl rfl) ?_
  refine rgp (op_int (k := .i64) (m := a0.fN) (n := 1) rfl rfl rfl rfl rfl rfl) ?_
  obtain ⟨y12, h13, hF⟩ := bind_some hF
  refine rgp (op_index_vs (k := .i64) rfl rfl rfl (idx_map eS h13) Tryd_slc_27 rfl rfl) ?_
  refine rgp (op_load_vp (p := .str y12) rfl rfl rfl Tryd_one_9 rfl rfl) ?_
  refine ras ?_
  refine reg_nil ?_
  refine post_imp (s' := ⟨30, [(4, some (.pv (.str y12)))], [], 0, [], [], 0, []⟩) (imps [] ⟨by kernel_rfl, trivial⟩ trivial) ?_
  refine post_next ?_
  refine aw_ret ?_
  obtain rfl := Option.some.inj hF
  exact prt
theorem strings_Join_ok {a0 : List (List UInt8)} {a1 r : List UInt8} (hF : strings_Join a0 a1 = some r) : Abs.Fn globs_Tryd Tryd.prog 37 [.vs 1 (List.map eS a0), .str a1] [.p (.str r)] := fn_join Tryd.strings_Join_none Tryd.strings_Join hF
theorem kind_Text_ok {a0 : GType} {a1 : List (List UInt8)} {r : (List UInt8)} (hF : kind_Text a0 a1 = some r) : Abs.Fn globs_Tryd Tryd.prog 13 [.agg (eGType a0), .vs 1 (List.map eS a1)] [.p (.str r)] := by
  unfold kind_Text at hF
  refine fn_of_body (n := 57) Tryd.func13 rfl rfl rfl ?_
  intro w O
  refine aw_seq ?_
  refine aw_region ?_
  refine rgp (op_box 0 rfl rfl rfl rfl rfl rfl) ?_
  refine ras ?_
  refine reg_nil ?_
  refine post_imp (s' := ⟨57, [(1, some (.pv (.vs 1 (List.map eS a1)))), (2, some (.lp 0 0))], [(0, some (.box 26 (bxv (eGType a0))))], 1, [], [], 0, []⟩) (imps [0] ⟨by kernel_rfl, by kernel_rfl, trivial⟩ ⟨by kernel_rfl, trivial⟩) ?_
  refine post_next ?_
  iterate 2 (refine aw_seq ?_)
  refine aw_region ?_
  refine rgp (op_load_lp_agg (ps := eGType a0) rfl rfl rfl rfl rfl rfl Tryd_agg_26 rfl rfl) ?_
  refine rmv ?_
  refine rgp (op_len_vs (n := a1.length) rfl rfl (List.length_map ..) Tryd_slc_27 rfl rfl) ?_
  obtain ⟨y3, h4, hF⟩ := bind_some hF
  refine rgp (op_call 1 rfl (caps := []) (args := [.agg (eGType a0), .int .i64 (a1.length : Int)]) (rs := [.p (.bool y3)]) rfl rfl rfl Tryd_cal_11 (kind_Right_ok h4) rfl rfl rfl) ?_
  refine rgp (op_not rfl rfl rfl rfl) ?_
  refine reg_nil ?_
  refine post_imp (s' := ⟨57, [(1, some (.pv (.vs 1 (List.map eS a1)))), (2, some (.lp 0 0)), (13, some (.pv (.bool (!y3))))], [(0, some (.box 26 (bxv (eGType a0))))], 1, [], [], 0, []⟩) (imps [0] ⟨by kernel_rfl, by kernel_rfl, by kernel_rfl, trivial⟩ ⟨by kernel_rfl, trivial⟩) ?_
  refine post_next ?_
  rcases ite_some hF with ⟨hb5, hF⟩ | ⟨hb5, hF⟩
  · refine aw_cond_t rfl hb5 ?_
    refine aw_seq ?_
    refine aw_region ?_
    refine ras ?_
    refine reg_nil ?_
    refine post_imp (s' := ⟨57, [(4, some (.pv (.str [])))], [], 0, [], [], 0, []⟩) (imps [] ⟨by kernel_rfl, trivial⟩ trivial) ?_
    refine post_next ?_
    refine aw_ret ?_
    refine post_then_ret ?_
    obtain rfl := Option.some.inj hF
    exact prt
  refine aw_cond_f rfl hb5 ?_
  refine aw_skip ?_
  refine post_next ?_
  iterate 2 (refine aw_seq ?_)
  refine aw_region ?_
  refine rgp (op_field_lp rfl rfl Tryd_fld_26_0 rfl rfl) ?_
  refine rgp (op_load_lp (v := .pv (.int .i64 a0.fKind)) rfl rfl rfl rfl Tryd_one_3 rfl rfl) ?_
  refine rgp (op_int (k := .i64) (m := a0.fKind) (n := 2) rfl rfl rfl rfl rfl rfl) ?_
  refine reg_nil ?_
  refine post_imp (s' := ⟨57, [(1, some (.pv (.vs 1 (List.map eS a1)))), (2, some (.lp 0 0)), (16, some (.pv (.bool (a0.fKind != 2))))], [(0, some (.box 26 (bxv (eGType a0))))], 1, [], [], 0, []⟩) (imps [0] ⟨by kernel_rfl, by kernel_rfl, by kernel_rfl, trivial⟩ ⟨by kernel_rfl, trivial⟩) ?_
  refine post_next ?_
  rcases ite_some hF with ⟨hb6, hF⟩ | ⟨hb6, hF⟩
  · refine aw_cond_t rfl hb6 ?_
    iterate 2 (refine aw_seq ?_)
    refine aw_region ?_
    refine rgp (op_field_lp rfl rfl Tryd_fld_26_0 rfl rfl) ?_
    refine rgp (op_load_lp (v := .pv (.int .i64 a0.fKind)) rfl rfl rfl rfl Tryd_one_3 rfl rfl) ?_
    refine rgp (op_int (k := .i64) (m := a0.fKind) (n := 1) rfl rfl rfl rfl rfl rfl) ?_
    refine reg_nil ?_
    refine post_imp (s' := ⟨57, [(19, some (.pv (.bool (a0.fKind == 1))))], [], 0, [], [], 0, []⟩) (imps [] ⟨by kernel_rfl, trivial⟩ trivial) ?_
    refine post_next ?_
    rcases ite_some hF with ⟨hb7, hF⟩ | ⟨hb7, hF⟩
    · refine aw_cond_t rfl hb7 ?_
      refine aw_seq ?_
      refine aw_region ?_
      refine ras ?_
      refine reg_nil ?_
      refine post_imp (s' := ⟨57, [(4, some (.pv (.str [105, 110, 116])))], [], 0, [], [], 0, []⟩) (imps [] ⟨by kernel_rfl, trivial⟩ trivial) ?_
      refine post_next ?_
      refine aw_ret ?_
      iterate 2 (refine post_then_ret ?_)
      obtain rfl := Option.some.inj hF
      exact prt
    refine aw_cond_f rfl hb7 ?_
    refine aw_skip ?_
    refine post_next ?_
    refine aw_seq ?_
    refine aw_region ?_
    refine ras ?_
    refine reg_nil ?_
    refine post_imp (s' := ⟨57, [(4, some (.pv (.str [118, 111, 105, 100])))], [], 0, [], [], 0, []⟩) (imps [] ⟨by kernel_rfl, trivial⟩ trivial) ?_
    refine post_next ?_
    refine aw_ret ?_
    refine post_then_ret ?_
    obtain rfl := Option.some.inj hF
    exact prt
  refine aw_cond_f rfl hb6 ?_
  refine aw_skip ?_
  refine post_next ?_
  refine aw_seq ?_
  refine aw_region ?_
  refine ras ?_
  refine reg_imp (imp_nil_own 5 9 1 1 rfl rfl) ?_
  refine reg_nil ?_
  refine post_imp (s' := ⟨57, [(1, some (.pv (.vs 1 (List.map eS a1)))), (2, some (.lp 0 0)), (5, some (.ls 1))], [(0, some (.box 26 (bxv (eGType a0)))), (1, some (.row 9 1 (List.map eS [])))], 2, [], [], 0, []⟩) (imps [0, 1] ⟨by kernel_rfl, by kernel_rfl, by kernel_rfl, trivial⟩ ⟨by kernel_rfl, by kernel_rfl, trivial⟩) ?_
  refine post_next ?_
  iterate 2 (refine aw_seq ?_)
  refine aw_region ?_
  refine reg_imp (imp_freeze [(0, some (.box 26 (bxv (eGType a0))))] [(2, some (.pv (.vp (eGType a0))))] (FzH.spec ⟨rfl, trivial⟩) ⟨⟨_, rfl, rfl⟩, trivial⟩) ?_
  obtain ⟨y10, h11, hF⟩ := bind_some hF
  refine rgp (op_call 2 rfl (caps := []) (args := [.vp (eGType a0)]) (rs := [.p (.vs 2 (List.map eGOwner y10))]) rfl rfl rfl Tryd_cal_33 (kind_own_ok h11) rfl rfl rfl) ?_
  refine rgp (op_len_vs (n := y10.length) rfl rfl (List.length_map ..) Tryd_slc_35 rfl rfl) ?_
  refine rmv ?_
  refine reg_nil ?_
  refine post_imp (s' := ⟨57, [(1, some (.pv (.vs 1 (List.map eS a1)))), (2, some (.pv (.vp (eGType a0)))), (5, some (.ls 0)), (20, some (.pv (.vs 2 (List.map eGOwner y10)))), (21, some (.pv (.int .i64 (y10.length : Int)))), (22, some (.pv (.int .i64 0)))], [(0, some (.row 9 1 (List.map eS [])))], 1, [], [], 0, []⟩) (imps [1] ⟨by kernel_rfl, by kernel_rfl, by kernel_rfl, by kernel_rfl, by kernel_rfl, by kernel_rfl, trivial⟩ ⟨by kernel_rfl, trivial⟩) ?_
  refine post_next ?_
  obtain ⟨x57, hF, hK58⟩ := bind_some hF
  refine aw_for ((((y10.length : Int) : Int) - (0)).toNat + 1) (fun s1 => s1 = ⟨57, [(2, some (.pv (.vp (eGType a0)))), (5, some (.ls 0))], [(0, some (.row 9 1 (List.map eS x57)))], 1, [], [], 0, []⟩) ?_ ?_
  · refine rnd_loop (α := (List (List UInt8)) × Int) (fun q => ⟨57, [(1, some (.pv (.vs 1 (List.map eS a1)))), (2, some (.pv (.vp (eGType a0)))), (5, some (.ls 0)), (20, some (.pv (.vs 2 (List.map eGOwner y10)))), (21, some (.pv (.int .i64 (y10.length : Int)))), (22, some (.pv (.int .i64 q.2)))], [(0, some (.row 9 1 (List.map eS q.1)))], 1, [], [], 0, []⟩) (fun k q => kind_Text_L1 a1 y10 k q.1 q.2 = some x57) ([], 0) (imps [0] ⟨by kernel_rfl, by kernel_rfl, by kernel_rfl, by kernel_rfl, by kernel_rfl, by kernel_rfl, trivial⟩ ⟨by kernel_rfl, trivial⟩) hF (fun q h => by cases h) ?_
    clear hF
    rintro k ⟨x25, x26⟩ hF ih
    refine rnd_succ ?_
    refine aw_seq ?_
    refine aw_region ?_
    refine rgp (op_int (k := .i64) (m := x26) (n := (y10.length : Int)) rfl rfl rfl rfl rfl rfl) ?_
    refine reg_nil ?_
    refine post_imp (s' := ⟨57, [(1, some (.pv (.vs 1 (List.map eS a1)))), (2, some (.pv (.vp (eGType a0)))), (5, some (.ls 0)), (20, some (.pv (.vs 2 (List.map eGOwner y10)))), (21, some (.pv (.int .i64 (y10.length : Int)))), (22, some (.pv (.int .i64 x26))), (23, some (.pv (.bool (decide (x26 < (y10.length : Int))))))], [(0, some (.row 9 1 (List.map eS x25)))], 1, [], [], 0, []⟩) (imps [0] ⟨by kernel_rfl, by kernel_rfl, by kernel_rfl, by kernel_rfl, by kernel_rfl, by kernel_rfl, by kernel_rfl, trivial⟩ ⟨by kernel_rfl, trivial⟩) ?_
    refine post_next ?_
    refine aw_seq ?_
    rcases ite_some hF with ⟨hb42, hF⟩ | ⟨hb42, hF⟩
    · refine aw_cond_t rfl hb42 ?_
      refine aw_skip ?_
      refine post_next ?_
      refine aw_seq ?_
      refine aw_block ?_
      refine aw_seq ?_
      refine aw_region ?_
      obtain ⟨y45, h46, hF⟩ := bind_some hF
      refine rgp (op_index_vs (k := .i64) rfl rfl rfl (idx_map eGOwner h46) Tryd_slc_35 rfl rfl) ?_
      refine rgp (op_load_vp_agg (ps := eGOwner y45) rfl rfl rfl rfl Tryd_agg_23 rfl rfl) ?_
      refine rgp (op_alloc 1 rfl (ps := (eGOwner zGOwner)) rfl Tryd_zer_23 (by exact ⟨rfl, rfl, trivial⟩) rfl rfl) ?_
      refine rgp (op_store_lp (n := 2) rfl rfl rfl rfl rfl (or_agg Tryd_agg_23) (by rw [Tryd_non_23]; rfl) rfl rfl rfl) ?_
      refine reg_nil ?_
      refine post_imp (s' := ⟨57, [(1, some (.pv (.vs 1 (List.map eS a1)))), (2, some (.pv (.vp (eGType a0)))), (5, some (.ls 0)), (7, some (.lp 1 0)), (20, some (.pv (.vs 2 (List.map eGOwner y10)))), (21, some (.pv (.int .i64 (y10.length : Int)))), (22, some (.pv (.int .i64 x26)))], [(0, some (.row 9 1 (List.map eS x25))), (1, some (.box 23 (bxv (eGOwner y45))))], 2, [], [], 0, []⟩) (imps [0, 1] ⟨by kernel_rfl, by kernel_rfl, by kernel_rfl, by kernel_rfl, by kernel_rfl, by kernel_rfl, by kernel_rfl, trivial⟩ ⟨by kernel_rfl, by kernel_rfl, trivial⟩) ?_
      refine post_next ?_
      refine aw_region ?_
      refine rmv ?_
      refine rgp (op_load_lp_agg (ps := eGOwner y45) rfl rfl rfl rfl rfl rfl Tryd_agg_23 rfl rfl) ?_
      refine rmv ?_
      obtain ⟨y51, h52, hF⟩ := bind_some hF
      refine rgp (op_call 2 rfl (caps := []) (args := [.agg (eGOwner y45), .vs 1 (List.map eS a1)]) (rs := [.p (.str y51)]) rfl rfl rfl Tryd_cal_36 (owner_Text_ok h52) rfl rfl rfl) ?_
      refine rgp (op_lit (rows := List.map eS ([y51] : List (List UInt8))) (zs := [.str []]) rfl rfl Tryd_slc_27 Tryd_zer_9 (by exact ⟨rfl, trivial⟩) rfl rfl rfl rfl rfl rfl rfl rfl) ?_
      obtain ⟨u53, h54, hF⟩ := bind_some hF
      refine rgp (op_append 2 rfl rfl rfl rfl rfl Tryd_slc_27 Tryd_elm_9 Tryd_zer_9 rfl rfl rfl (room_map (f := eS) (g := eS) h54) (List.map_append (f := eS) (l₁ := x25) (l₂ := [y51])).symm rfl rfl) ?_
      refine ras ?_
      refine reg_nil ?_
      refine post_imp (s' := ⟨57, [(1, some (.pv (.vs 1 (List.map eS a1)))), (2, some (.pv (.vp (eGType a0)))), (5, some (.ls 0)), (20, some (.pv (.vs 2 (List.map eGOwner y10)))), (21, some (.pv (.int .i64 (y10.length : Int)))), (22, some (.pv (.int .i64 x26)))], [(0, some (.row 9 1 (List.map eS (x25 ++ [y51]))))], 1, [], [], 0, []⟩) (imps [2] ⟨by kernel_rfl, by kernel_rfl, by kernel_rfl, by kernel_rfl, by kernel_rfl, by kernel_rfl, trivial⟩ ⟨by kernel_rfl, trivial⟩) ?_
      refine post_block_normal ?_
      refine post_next ?_
      refine aw_region ?_
      refine rgp (op_int (k := .i64) (m := x26) (n := 1) rfl rfl rfl rfl rfl rfl) ?_
      refine rmv ?_
      refine reg_nil ?_
      refine post_round ?_
      exact rnd_back (ih ((x25 ++ [y51]), w_i64 (x26 + 1)) hF) (imps [0] ⟨by kernel_rfl, by kernel_rfl, by kernel_rfl, by kernel_rfl, by kernel_rfl, by kernel_rfl, trivial⟩ ⟨by kernel_rfl, trivial⟩)
    refine aw_cond_f rfl hb42 ?_
    refine aw_exit ?_
    iterate 2 (refine post_then_exit ?_)
    obtain rfl := Option.some.inj hF
    exact post_lp_break _ rfl (imps [0] ⟨by kernel_rfl, by kernel_rfl, trivial⟩ ⟨by kernel_rfl, trivial⟩)
  rintro _ rfl
  have hF := hK58
  clear hK58
  refine post_next ?_
  refine aw_seq ?_
  refine aw_region ?_
  refine rgp (op_field_vp rfl rfl Tryd_fld_26_1 rfl rfl) ?_
  refine rgp (op_load_vp (p := .str a0.fClass) rfl rfl rfl Tryd_one_9 rfl rfl) ?_
  refine ras ?_
  refine reg_nil ?_
  refine post_imp (s' := ⟨57, [(2, some (.pv (.vp (eGType a0)))), (5, some (.ls 0)), (8, some (.pv (.str a0.fClass)))], [(0, some (.row 9 1 (List.map eS x57)))], 1, [], [], 0, []⟩) (imps [0] ⟨by kernel_rfl, by kernel_rfl, by kernel_rfl, trivial⟩ ⟨by kernel_rfl, trivial⟩) ?_
  refine post_next ?_
  refine aw_seq ?_
  obtain ⟨x70, hF, hK72⟩ := bind_some hF
  refine aw_cut (fun s1 => s1 = ⟨57, [(2, some (.pv (.vp (eGType a0)))), (5, some (.pv (.vs 1 (List.map eS x57)))), (8, some (.pv (.str x70)))], [], 0, [], [], 0, []⟩) ?_ ?_
  · refine aw_seq ?_
    refine aw_region ?_
    refine rmv ?_
    refine rgp (op_len_ls (n := x57.length) rfl rfl rfl (List.length_map ..) Tryd_slc_27 rfl rfl) ?_
    refine rgp (op_int (k := .i64) (m := (x57.length : Int)) (n := 1) rfl rfl rfl rfl rfl rfl) ?_
    refine reg_nil ?_
    refine post_imp (s' := ⟨57, [(2, some (.pv (.vp (eGType a0)))), (5, some (.ls 0)), (8, some (.pv (.str a0.fClass))), (37, some (.pv (.bool (decide ((x57.length : Int) > 1)))))], [(0, some (.row 9 1 (List.map eS x57)))], 1, [], [], 0, []⟩) (imps [0] ⟨by kernel_rfl, by kernel_rfl, by kernel_rfl, by kernel_rfl, trivial⟩ ⟨by kernel_rfl, trivial⟩) ?_
    refine post_next ?_
    rcases ite_some hF with ⟨hb59, hF⟩ | ⟨hb59, hF⟩
    · refine aw_cond_t rfl hb59 ?_
      refine aw_region ?_
      iterate 2 (refine rmv ?_)
      refine reg_imp (imp_freeze [(0, some (.row 9 1 (List.map eS x57)))] [(5, some (.pv (.vs 1 (List.map eS x57)))), (39, some (.pv (.vs 1 (List.map eS x57))))] (FzH.spec ⟨rfl, trivial⟩) ⟨⟨_, rfl, rfl⟩, ⟨_, rfl, rfl⟩, trivial⟩) ?_
      obtain ⟨y60, h61, hF⟩ := bind_some hF
      refine rgp (op_slice_vs (nl := (some 1)) (nh := none) (nm := none) rfl rfl rfl rfl rfl (.inl rfl) Tryd_slc_27 (cut_map (nl := (some 1)) (nh := none) eS h61) rfl rfl) ?_
      obtain ⟨y62, h63, hF⟩ := bind_some hF
      refine rgp (op_call 1 rfl (caps := []) (args := [.vs 1 (List.map eS y60), .str [44, 32]]) (rs := [.p (.str y62)]) rfl rfl rfl Tryd_cal_37 (strings_Join_ok h63) rfl rfl rfl) ?_
      obtain ⟨u64, h65, hF⟩ := bind_some hF
      refine rgp (op_concat rfl rfl rfl (room_str h65) rfl rfl) ?_
      obtain ⟨u66, h67, hF⟩ := bind_some hF
      refine rgp (op_concat rfl rfl rfl (room_str h67) rfl rfl) ?_
      obtain ⟨u68, h69, hF⟩ := bind_some hF
      refine rgp (op_concat rfl rfl rfl (room_str h69) rfl rfl) ?_
      refine ras ?_
      refine reg_nil ?_
      cases hF
      exact post_cut _ rfl (imps [] ⟨by kernel_rfl, by kernel_rfl, by kernel_rfl, trivial⟩ trivial)
    refine aw_cond_f rfl hb59 ?_
    refine aw_skip ?_
    cases hF
    refine post_imp (imp_freeze [(0, some (.row 9 1 (List.map eS x57)))] [(5, some (.pv (.vs 1 (List.map eS x57))))] (FzH.spec ⟨rfl, trivial⟩) ⟨⟨_, rfl, rfl⟩, trivial⟩) ?_
    exact post_cut _ rfl (imps [] ⟨by kernel_rfl, by kernel_rfl, by kernel_rfl, trivial⟩ trivial)
  rintro _ rfl
  have hF := hK72
  clear hK72
  refine post_next ?_
  iterate 2 (refine aw_seq ?_)
  refine aw_region ?_
  refine rgp (op_field_vp rfl rfl Tryd_fld_26_3 rfl rfl) ?_
  refine rgp (op_arr_vp (k := .i64) (m := 0) (n := 4) rfl rfl rfl Tryd_arr_24 rfl rfl rfl rfl) ?_
  refine rgp (op_field_vp rfl rfl Tryd_fld_23_0 rfl rfl) ?_
  refine rgp (op_load_vp (p := .int .i64 a0.fOwn.a0.fKind) rfl rfl rfl Tryd_one_3 rfl rfl) ?_
  refine rgp (op_int (k := .i64) (m := a0.fOwn.a0.fKind) (n := 7) rfl rfl rfl rfl rfl rfl) ?_
  refine reg_nil ?_
  refine post_imp (s' := ⟨57, [(5, some (.pv (.vs 1 (List.map eS x57)))), (8, some (.pv (.str x70))), (49, some (.pv (.bool (a0.fOwn.a0.fKind == 7))))], [], 0, [], [], 0, []⟩) (imps [] ⟨by kernel_rfl, by kernel_rfl, by kernel_rfl, trivial⟩ trivial) ?_
  refine post_next ?_
  rcases ite_some hF with ⟨hb73, hF⟩ | ⟨hb73, hF⟩
  · refine aw_cond_t rfl hb73 ?_
    refine aw_seq ?_
    refine aw_region ?_
    refine rmv ?_
    refine ras ?_
    refine reg_nil ?_
    refine post_imp (s' := ⟨57, [(4, some (.pv (.str x70)))], [], 0, [], [], 0, []⟩) (imps [] ⟨by kernel_rfl, trivial⟩ trivial) ?_
    refine post_next ?_
    refine aw_ret ?_
    refine post_then_ret ?_
    obtain rfl := Option.some.inj hF
    exact prt
  refine aw_cond_f rfl hb73 ?_
  refine aw_skip ?_
  refine post_next ?_
  refine aw_seq ?_
  refine aw_region ?_
  refine rmv ?_
  obtain ⟨y74, h75, hF⟩ := bind_some hF
  refine rgp (op_index_vs (k := .i64) rfl rfl rfl (idx_map eS h75) Tryd_slc_27 rfl rfl) ?_
  refine rgp (op_load_vp (p := .str y74) rfl rfl rfl Tryd_one_9 rfl rfl) ?_
  obtain ⟨u76, h77, hF⟩ := bind_some hF
  refine rgp (op_concat rfl rfl rfl (room_str h77) rfl rfl) ?_
  refine rmv ?_
  obtain ⟨u78, h79, hF⟩ := bind_some hF
  refine rgp (op_concat rfl rfl rfl (room_str h79) rfl rfl) ?_
  refine ras ?_
  refine reg_nil ?_
  refine post_imp (s' := ⟨57, [(4, some (.pv (.str ((y74 ++ [32]) ++ x70))))], [], 0, [], [], 0, []⟩) (imps [] ⟨by kernel_rfl, trivial⟩ trivial) ?_
  refine post_next ?_
  refine aw_ret ?_
  obtain rfl := Option.some.inj hF
  exact prt
theorem law05_awake_ok  {r : Bool} (hF : law05_awake = some r) : Abs.Fn globs_Tryd Tryd.prog 10 [] [.p (.bool r)] := by
  unfold law05_awake at hF
  refine fn_of_body (n := 19) Tryd.func10 rfl rfl rfl ?_
  intro w O
  refine aw_seq ?_
  refine aw_region ?_
  refine ras ?_
  refine reg_nil ?_
  refine post_imp (s' := ⟨19, [], [], 0, [], [], 0, []⟩) (imps [] trivial trivial) ?_
  refine post_next ?_
  refine aw_seq ?_
  refine aw_region ?_
  refine rgp (op_build (zs := (eGOwner zGOwner)) (r := eGOwner ({ fKind := 1, fN := 0 } : GOwner)) rfl Tryd_zer_23 (by exact ⟨rfl, rfl, trivial⟩) Tryd_plc_23 rfl rfl rfl rfl) ?_
  refine rgp (op_build (zs := (eGOwner zGOwner)) (r := eGOwner ({ fKind := 3, fN := 1 } : GOwner)) rfl Tryd_zer_23 (by exact ⟨rfl, rfl, trivial⟩) Tryd_plc_23 rfl rfl rfl rfl) ?_
  refine rgp (op_buildArr (zs := ((eA4 eGOwner) (⟨zGOwner, zGOwner, zGOwner, zGOwner⟩ : A4 GOwner))) (r := (eA4 eGOwner) (⟨({ fKind := 1, fN := 0 } : GOwner), ({ fKind := 3, fN := 1 } : GOwner), zGOwner, zGOwner⟩ : A4 GOwner)) rfl Tryd_zer_24 (by exact ⟨rfl, rfl, rfl, rfl, rfl, rfl, rfl, rfl, trivial⟩) Tryd_arr_24 rfl rfl rfl rfl) ?_
  refine rgp (op_build (zs := (eGType zGType)) (r := eGType ({ fKind := 2, fClass := [76, 105, 115, 116], fN := 1, fOwn := (⟨({ fKind := 1, fN := 0 } : GOwner), ({ fKind := 3, fN := 1 } : GOwner), zGOwner, zGOwner⟩ : A4 GOwner) } : GType)) rfl Tryd_zer_26 (by exact ⟨rfl, rfl, rfl, rfl, rfl, rfl, rfl, rfl, rfl, rfl, rfl, trivial⟩) Tryd_plc_26 rfl rfl rfl rfl) ?_
  refine rgp (op_alloc 0 rfl (ps := (eGType zGType)) rfl Tryd_zer_26 (by exact ⟨rfl, rfl, rfl, rfl, rfl, rfl, rfl, rfl, rfl, rfl, rfl, trivial⟩) rfl rfl) ?_
  refine rgp (op_store_lp (n := 11) rfl rfl rfl rfl rfl (or_agg Tryd_agg_26) (by rw [Tryd_non_26]; rfl) rfl rfl rfl) ?_
  refine reg_nil ?_
  refine post_imp (s' := ⟨19, [(1, some (.lp 0 0))], [(0, some (.box 26 (bxv (eGType ({ fKind := 2, fClass := [76, 105, 115, 116], fN := 1, fOwn := (⟨({ fKind := 1, fN := 0 } : GOwner), ({ fKind := 3, fN := 1 } : GOwner), zGOwner, zGOwner⟩ : A4 GOwner) } : GType)))))], 1, [], [], 0, []⟩) (imps [0] ⟨by kernel_rfl, trivial⟩ ⟨by kernel_rfl, trivial⟩) ?_
  refine post_next ?_
  refine aw_seq ?_
  refine aw_region ?_
  refine rgp (op_load_lp_agg (ps := eGType ({ fKind := 2, fClass := [76, 105, 115, 116], fN := 1, fOwn := (⟨({ fKind := 1, fN := 0 } : GOwner), ({ fKind := 3, fN := 1 } : GOwner), zGOwner, zGOwner⟩ : A4 GOwner) } : GType)) rfl rfl rfl rfl rfl rfl Tryd_agg_26 rfl rfl) ?_
  refine rgp (op_lit (rows := List.map eS ([[100, 97, 116, 97]] : List (List UInt8))) (zs := [.str []]) rfl rfl Tryd_slc_27 Tryd_zer_9 (by exact ⟨rfl, trivial⟩) rfl rfl rfl rfl rfl rfl rfl rfl) ?_
  obtain ⟨y1, h2, hF⟩ := bind_some hF
  refine rgp (op_call 1 rfl (caps := []) (args := [.agg (eGType ({ fKind := 2, fClass := [76, 105, 115, 116], fN := 1, fOwn := (⟨({ fKind := 1, fN := 0 } : GOwner), ({ fKind := 3, fN := 1 } : GOwner), zGOwner, zGOwner⟩ : A4 GOwner) } : GType)), .vs 1 (List.map eS [[100, 97, 116, 97]])]) (rs := [.p (.str y1)]) rfl rfl rfl Tryd_cal_13 (kind_Text_ok h2) rfl rfl rfl) ?_
  refine rgp (op_str rfl rfl rfl rfl rfl rfl) ?_
  refine rmv ?_
  rcases ite_some hF with ⟨hb3, hF⟩ | ⟨hb3, hF⟩
  · refine rgn hb3 (op_load_lp_agg (ps := eGType ({ fKind := 2, fClass := [76, 105, 115, 116], fN := 1, fOwn := (⟨({ fKind := 1, fN := 0 } : GOwner), ({ fKind := 3, fN := 1 } : GOwner), zGOwner, zGOwner⟩ : A4 GOwner) } : GType)) rfl rfl rfl rfl rfl rfl Tryd_agg_26 rfl rfl) ?_
    obtain ⟨y4, h5, hF⟩ := bind_some hF
    refine rgn hb3 (op_call 1 rfl (caps := []) (args := [.agg (eGType ({ fKind := 2, fClass := [76, 105, 115, 116], fN := 1, fOwn := (⟨({ fKind := 1, fN := 0 } : GOwner), ({ fKind := 3, fN := 1 } : GOwner), zGOwner, zGOwner⟩ : A4 GOwner) } : GType)), .int .i64 1]) (rs := [.p (.bool y4)]) rfl rfl rfl Tryd_cal_11 (kind_Right_ok h5) rfl rfl rfl) ?_
    refine rpt hb3 ?_
    refine rmv ?_
    rcases ite_some hF with ⟨hb6, hF⟩ | ⟨hb6, hF⟩
    · refine rgn hb6 (op_load_lp_agg (ps := eGType ({ fKind := 2, fClass := [76, 105, 115, 116], fN := 1, fOwn := (⟨({ fKind := 1, fN := 0 } : GOwner), ({ fKind := 3, fN := 1 } : GOwner), zGOwner, zGOwner⟩ : A4 GOwner) } : GType)) rfl rfl rfl rfl rfl rfl Tryd_agg_26 rfl rfl) ?_
      obtain ⟨y7, h8, hF⟩ := bind_some hF
      refine rgn hb6 (op_call 1 rfl (caps := []) (args := [.agg (eGType ({ fKind := 2, fClass := [76, 105, 115, 116], fN := 1, fOwn := (⟨({ fKind := 1, fN := 0 } : GOwner), ({ fKind := 3, fN := 1 } : GOwner), zGOwner, zGOwner⟩ : A4 GOwner) } : GType)), .int .i64 0]) (rs := [.p (.bool y7)]) rfl rfl rfl Tryd_cal_11 (kind_Right_ok h8) rfl rfl rfl) ?_
      refine rgn hb6 (op_not rfl rfl rfl rfl) ?_
      refine rpt hb6 ?_
      refine ras ?_
      refine reg_nil ?_
      refine post_imp (s' := ⟨19, [(0, some (.pv (.bool (!y7))))], [], 0, [], [], 0, []⟩) (imps [] ⟨by kernel_rfl, trivial⟩ trivial) ?_
      refine post_next ?_
      refine aw_ret ?_
      obtain rfl := Option.some.inj hF
      exact prt
    iterate 3 (refine rgo_f hb6 ?_)
    refine rpf hb6 ?_
    refine ras ?_
    refine reg_nil ?_
    refine post_imp (s' := ⟨19, [(0, some (.pv (.bool false)))], [], 0, [], [], 0, []⟩) (imps [] ⟨by kernel_rfl, trivial⟩ trivial) ?_
    refine post_next ?_
    refine aw_ret ?_
    obtain rfl := Option.some.inj hF
    exact prt
  iterate 2 (refine rgo_f hb3 ?_)
  refine rpf hb3 ?_
  refine rmv ?_
  iterate 3 (refine rgo_f rfl ?_)
  refine rpf rfl ?_
  refine ras ?_
  refine reg_nil ?_
  refine post_imp (s' := ⟨19, [(0, some (.pv (.bool false)))], [], 0, [], [], 0, []⟩) (imps [] ⟨by kernel_rfl, trivial⟩ trivial) ?_
  refine post_next ?_
  refine aw_ret ?_
  obtain rfl := Option.some.inj hF
  exact prt
theorem ref02_Letter_ok {a0 : Int} {r : Bool} (hF : ref02_Letter a0 = some r) : Abs.Fn globs_Tryd Tryd.prog 39 [.int .u8 a0] [.p (.bool r)] := by
  unfold ref02_Letter at hF
  refine fn_of_body (n := 17) Tryd.func39 rfl rfl rfl ?_
  intro w O
  refine aw_seq ?_
  refine aw_region ?_
  refine ras ?_
  refine reg_nil ?_
  refine post_imp (s' := ⟨17, [(0, some (.pv (.int .u8 a0)))], [], 0, [], [], 0, []⟩) (imps [] ⟨by kernel_rfl, trivial⟩ trivial) ?_
  refine post_next ?_
  refine aw_seq ?_
  refine aw_region ?_
  refine rmv ?_
  refine rgp (op_int (k := .u8) (m := a0) (n := 97) rfl rfl rfl rfl rfl rfl) ?_
  refine rmv ?_
  rcases ite_some hF with ⟨hb1, hF⟩ | ⟨hb1, hF⟩
  · refine rgn hb1 (op_move rfl rfl rfl rfl) ?_
    refine rgn hb1 (op_int (k := .u8) (m := a0) (n := 122) rfl rfl rfl rfl rfl rfl) ?_
    refine rpt hb1 ?_
    refine rmv ?_
    rcases ite_some hF with ⟨hb2, hF⟩ | ⟨hb2, hF⟩
    · refine rgo_t hb2 ?_
      iterate 2 (refine rgo_t hb2 ?_)
      iterate 2 (refine rgu ?_)
      refine rgo_t hb2 ?_
      refine rpt hb2 ?_
      refine ras ?_
      refine reg_nil ?_
      refine post_imp (s' := ⟨17, [(2, some (.pv (.bool true)))], [], 0, [], [], 0, []⟩) (imps [] ⟨by kernel_rfl, trivial⟩ trivial) ?_
      refine post_next ?_
      refine aw_ret ?_
      obtain rfl := Option.some.inj hF
      exact prt
    refine rgn hb2 (op_move rfl rfl rfl rfl) ?_
    refine rgn hb2 (op_int (k := .u8) (m := a0) (n := 65) rfl rfl rfl rfl rfl rfl) ?_
    refine rgn hb2 (op_move rfl rfl rfl rfl) ?_
    rcases ite_some hF with ⟨hb3, hF⟩ | ⟨hb3, hF⟩
    · refine rgn hb3 (op_move rfl rfl rfl rfl) ?_
      refine rgn hb3 (op_int (k := .u8) (m := a0) (n := 90) rfl rfl rfl rfl rfl rfl) ?_
      refine rgn hb2 (op_pick_t rfl rfl hb3 rfl rfl rfl) ?_
      refine rpf hb2 ?_
      refine ras ?_
      refine reg_nil ?_
      refine post_imp (s' := ⟨17, [(2, some (.pv (.bool (decide (a0 ≤ 90)))))], [], 0, [], [], 0, []⟩) (imps [] ⟨by kernel_rfl, trivial⟩ trivial) ?_
      refine post_next ?_
      refine aw_ret ?_
      obtain rfl := Option.some.inj hF
      exact prt
    iterate 2 (refine rgo_f hb3 ?_)
    refine rgn hb2 (op_pick_f rfl rfl hb3 rfl rfl rfl) ?_
    refine rpf hb2 ?_
    refine ras ?_
    refine reg_nil ?_
    refine post_imp (s' := ⟨17, [(2, some (.pv (.bool false)))], [], 0, [], [], 0, []⟩) (imps [] ⟨by kernel_rfl, trivial⟩ trivial) ?_
    refine post_next ?_
    refine aw_ret ?_
    obtain rfl := Option.some.inj hF
    exact prt
  iterate 2 (refine rgo_f hb1 ?_)
  refine rpf hb1 ?_
  refine rmv ?_
  refine rgn rfl (op_move rfl rfl rfl rfl) ?_
  refine rgn rfl (op_int (k := .u8) (m := a0) (n := 65) rfl rfl rfl rfl rfl rfl) ?_
  refine rgn rfl (op_move rfl rfl rfl rfl) ?_
  rcases ite_some hF with ⟨hb4, hF⟩ | ⟨hb4, hF⟩
  · refine rgn hb4 (op_move rfl rfl rfl rfl) ?_
    refine rgn hb4 (op_int (k := .u8) (m := a0) (n := 90) rfl rfl rfl rfl rfl rfl) ?_
    refine rgn rfl (op_pick_t rfl rfl hb4 rfl rfl rfl) ?_
    refine rpf rfl ?_
    refine ras ?_
    refine reg_nil ?_
    refine post_imp (s' := ⟨17, [(2, some (.pv (.bool (decide (a0 ≤ 90)))))], [], 0, [], [], 0, []⟩) (imps [] ⟨by kernel_rfl, trivial⟩ trivial) ?_
    refine post_next ?_
    refine aw_ret ?_
    obtain rfl := Option.some.inj hF
    exact prt
  iterate 2 (refine rgo_f hb4 ?_)
  refine rgn rfl (op_pick_f rfl rfl hb4 rfl rfl rfl) ?_
  refine rpf rfl ?_
  refine ras ?_
  refine reg_nil ?_
  refine post_imp (s' := ⟨17, [(2, some (.pv (.bool false)))], [], 0, [], [], 0, []⟩) (imps [] ⟨by kernel_rfl, trivial⟩ trivial) ?_
  refine post_next ?_
  refine aw_ret ?_
  obtain rfl := Option.some.inj hF
  exact prt
theorem ref02_Words_ok  {r : (List (List UInt8))} (hF : ref02_Words = some r) : Abs.Fn globs_Tryd Tryd.prog 61 [] [.p (.vs 1 (List.map eS r))] := by
  unfold ref02_Words at hF
  refine fn_of_body (n := 2) Tryd.func61 rfl rfl rfl ?_
  intro w O
  refine aw_seq ?_
  refine aw_region ?_
  refine ras ?_
  refine reg_nil ?_
  refine post_imp (s' := ⟨2, [], [], 0, [], [], 0, []⟩) (imps [] trivial trivial) ?_
  refine post_next ?_
  refine aw_seq ?_
  refine aw_region ?_
  refine rgp (op_lit (rows := List.map eS ([[99, 108, 97, 115, 115], [101, 120, 116, 101, 110, 100, 115], [114, 101, 112], [112, 101, 101, 114], [119, 111, 114, 108, 100], [97, 110, 121], [117, 110, 105, 113, 117, 101], [112, 117, 114, 101], [118, 111, 105, 100], [105, 110, 116], [105, 102], [101, 108, 115, 101], [119, 104, 105, 108, 101], [114, 101, 116, 117, 114, 110], [110, 101, 119], [109, 111, 118, 101], [100, 101, 108, 101, 116, 101], [116, 104, 105, 115], [110, 117, 108, 108], [105, 110, 112, 117, 116], [110, 105, 108], [115, 97, 109, 101], [99, 97, 115, 116]] : List (List UInt8))) (zs := [.str []]) rfl rfl Tryd_slc_27 Tryd_zer_9 (by exact ⟨rfl, trivial⟩) rfl rfl rfl rfl rfl rfl rfl rfl) ?_
  refine ras ?_
  refine reg_nil ?_
  refine post_imp (s' := ⟨2, [(0, some (.pv (.vs 1 (List.map eS [[99, 108, 97, 115, 115], [101, 120, 116, 101, 110, 100, 115], [114, 101, 112], [112, 101, 101, 114], [119, 111, 114, 108, 100], [97, 110, 121], [117, 110, 105, 113, 117, 101], [112, 117, 114, 101], [118, 111, 105, 100], [105, 110, 116], [105, 102], [101, 108, 115, 101], [119, 104, 105, 108, 101], [114, 101, 116, 117, 114, 110], [110, 101, 119], [109, 111, 118, 101], [100, 101, 108, 101, 116, 101], [116, 104, 105, 115], [110, 117, 108, 108], [105, 110, 112, 117, 116], [110, 105, 108], [115, 97, 109, 101], [99, 97, 115, 116]]))))], [], 0, [], [], 0, []⟩) (imps [] ⟨by kernel_rfl, trivial⟩ trivial) ?_
  refine post_next ?_
  refine aw_ret ?_
  obtain rfl := Option.some.inj hF
  exact prt
theorem ref02_Find_ok {a0 : List UInt8} {r : Int} (hF : ref02_Find a0 = some r) : Abs.Fn globs_Tryd Tryd.prog 40 [.str a0] [.p (.int .i64 r)] := by
  unfold ref02_Find at hF
  refine fn_of_body (n := 20) Tryd.func40 rfl rfl rfl ?_
  intro w O
  refine aw_seq ?_
  refine aw_region ?_
  refine ras ?_
  refine reg_nil ?_
  refine post_imp (s' := ⟨20, [(0, some (.pv (.str a0)))], [], 0, [], [], 0, []⟩) (imps [] ⟨by kernel_rfl, trivial⟩ trivial) ?_
  refine post_next ?_
  refine aw_seq ?_
  refine aw_region ?_
  obtain ⟨y3, h4, hF⟩ := bind_some hF
  refine rgp (op_call 0 rfl (caps := []) (args := []) (rs := [.p (.vs 1 (List.map eS y3))]) rfl rfl rfl Tryd_cal_61 (ref02_Words_ok h4) rfl rfl rfl) ?_
  refine ras ?_
  refine reg_nil ?_
  refine post_imp (s' := ⟨20, [(0, some (.pv (.str a0))), (3, some (.pv (.vs 1 (List.map eS y3))))], [], 0, [], [], 0, []⟩) (imps [] ⟨by kernel_rfl, by kernel_rfl, trivial⟩ trivial) ?_
  refine post_next ?_
  iterate 2 (refine aw_seq ?_)
  refine aw_region ?_
  refine ras ?_
  refine reg_nil ?_
  refine post_imp (s' := ⟨20, [(0, some (.pv (.str a0))), (3, some (.pv (.vs 1 (List.map eS y3)))), (4, some (.pv (.int .i64 0)))], [], 0, [], [], 0, []⟩) (imps [] ⟨by kernel_rfl, by kernel_rfl, by kernel_rfl, trivial⟩ trivial) ?_
  refine post_next ?_
  obtain ⟨lr26, hF, hK27⟩ := bind_some hF
  refine aw_for ((((y3.length : Int) : Int) - (0)).toNat + 1) (fun s1 => ∃ q, lr26 = .next q ∧ s1 = ⟨20, [], [], 0, [], [], 0, []⟩) ?_ ?_
  · refine rnd_loop (α := Int) (fun q => ⟨20, [(0, some (.pv (.str a0))), (3, some (.pv (.vs 1 (List.map eS y3)))), (4, some (.pv (.int .i64 q)))], [], 0, [], [], 0, []⟩) (fun k q => ref02_Find_L1 a0 y3 k q = some lr26) 0 (imps [] ⟨by kernel_rfl, by kernel_rfl, by kernel_rfl, trivial⟩ trivial) hF (fun q h => by cases h) ?_
    clear hF
    rintro k x11 hF ih
    refine rnd_succ ?_
    iterate 2 (refine aw_seq ?_)
    refine aw_region ?_
    iterate 2 (refine rmv ?_)
    refine rgp (op_len_vs (n := y3.length) rfl rfl (List.length_map ..) Tryd_slc_27 rfl rfl) ?_
    refine rgp (op_int (k := .i64) (m := x11) (n := (y3.length : Int)) rfl rfl rfl rfl rfl rfl) ?_
    refine reg_nil ?_
    refine post_imp (s' := ⟨20, [(0, some (.pv (.str a0))), (3, some (.pv (.vs 1 (List.map eS y3)))), (4, some (.pv (.int .i64 x11))), (9, some (.pv (.bool (decide (x11 < (y3.length : Int))))))], [], 0, [], [], 0, []⟩) (imps [] ⟨by kernel_rfl, by kernel_rfl, by kernel_rfl, by kernel_rfl, trivial⟩ trivial) ?_
    refine post_next ?_
    rcases ite_some hF with ⟨hb19, hF⟩ | ⟨hb19, hF⟩
    · refine aw_cond_t rfl hb19 ?_
      refine aw_skip ?_
      refine post_next ?_
      refine aw_seq ?_
      refine aw_block ?_
      refine aw_seq ?_
      refine aw_region ?_
      iterate 2 (refine rmv ?_)
      obtain ⟨y22, h23, hF⟩ := bind_some hF
      refine rgp (op_index_vs (k := .i64) rfl rfl rfl (idx_map eS h23) Tryd_slc_27 rfl rfl) ?_
      refine rgp (op_load_vp (p := .str y22) rfl rfl rfl Tryd_one_9 rfl rfl) ?_
      refine rmv ?_
      refine rgp (op_str rfl rfl rfl rfl rfl rfl) ?_
      refine reg_nil ?_
      refine post_imp (s' := ⟨20, [(0, some (.pv (.str a0))), (3, some (.pv (.vs 1 (List.map eS y3)))), (4, some (.pv (.int .i64 x11))), (17, some (.pv (.bool (y22 == a0))))], [], 0, [], [], 0, []⟩) (imps [] ⟨by kernel_rfl, by kernel_rfl, by kernel_rfl, by kernel_rfl, trivial⟩ trivial) ?_
      refine post_next ?_
      rcases ite_some hF with ⟨hb24, hF⟩ | ⟨hb24, hF⟩
      · refine aw_cond_t rfl hb24 ?_
        refine aw_seq ?_
        refine aw_region ?_
        refine rmv ?_
        refine rgp (op_int (k := .i64) (m := x11) (n := 1) rfl rfl rfl rfl rfl rfl) ?_
        refine ras ?_
        refine reg_nil ?_
        refine post_imp (s' := ⟨20, [(2, some (.pv (.int .i64 (w_i64 (x11 + 1)))))], [], 0, [], [], 0, []⟩) (imps [] ⟨by kernel_rfl, trivial⟩ trivial) ?_
        refine post_next ?_
        refine aw_ret ?_
        refine post_block_ret ?_
        iterate 2 (refine post_then_ret ?_)
        refine post_lp_ret ?_
        obtain rfl := Option.some.inj hF
        have hF := elim_stop hK27
        refine post_then_ret ?_
        obtain rfl := Option.some.inj hF
        exact prt
      refine aw_cond_f rfl hb24 ?_
      refine aw_skip ?_
      refine post_block_normal ?_
      refine post_next ?_
      refine aw_region ?_
      refine rmv ?_
      refine rgp (op_int (k := .i64) (m := x11) (n := 1) rfl rfl rfl rfl rfl rfl) ?_
      refine ras ?_
      refine reg_nil ?_
      refine post_round ?_
      exact rnd_back (ih (w_i64 (x11 + 1)) hF) (imps [] ⟨by kernel_rfl, by kernel_rfl, by kernel_rfl, trivial⟩ trivial)
    refine aw_cond_f rfl hb19 ?_
    refine aw_exit ?_
    iterate 2 (refine post_then_exit ?_)
    obtain rfl := Option.some.inj hF
    exact post_lp_break _ ⟨_, rfl, rfl⟩ (imps [] trivial trivial)
  rintro _ ⟨⟨⟩, rfl, rfl⟩
  have hF := elim_next hK27
  clear hK27
  refine post_next ?_
  refine aw_seq ?_
  refine aw_region ?_
  refine ras ?_
  refine reg_nil ?_
  refine post_imp (s' := ⟨20, [(2, some (.pv (.int .i64 0)))], [], 0, [], [], 0, []⟩) (imps [] ⟨by kernel_rfl, trivial⟩ trivial) ?_
  refine post_next ?_
  refine aw_ret ?_
  obtain rfl := Option.some.inj hF
  exact prt
theorem ref02_Digit_ok {a0 : Int} {r : Bool} (hF : ref02_Digit a0 = some r) : Abs.Fn globs_Tryd Tryd.prog 41 [.int .u8 a0] [.p (.bool r)] := by
  unfold ref02_Digit at hF
  refine fn_of_body (n := 9) Tryd.func41 rfl rfl rfl ?_
  intro w O
  refine aw_seq ?_
  refine aw_region ?_
  refine ras ?_
  refine reg_nil ?_
  refine post_imp (s' := ⟨9, [(0, some (.pv (.int .u8 a0)))], [], 0, [], [], 0, []⟩) (imps [] ⟨by kernel_rfl, trivial⟩ trivial) ?_
  refine post_next ?_
  refine aw_seq ?_
  refine aw_region ?_
  refine rmv ?_
  refine rgp (op_int (k := .u8) (m := a0) (n := 48) rfl rfl rfl rfl rfl rfl) ?_
  refine rmv ?_
  rcases ite_some hF with ⟨hb1, hF⟩ | ⟨hb1, hF⟩
  · refine rgn hb1 (op_move rfl rfl rfl rfl) ?_
    refine rgn hb1 (op_int (k := .u8) (m := a0) (n := 57) rfl rfl rfl rfl rfl rfl) ?_
    refine rpt hb1 ?_
    refine ras ?_
    refine reg_nil ?_
    refine post_imp (s' := ⟨9, [(2, some (.pv (.bool (decide (a0 ≤ 57)))))], [], 0, [], [], 0, []⟩) (imps [] ⟨by kernel_rfl, trivial⟩ trivial) ?_
    refine post_next ?_
    refine aw_ret ?_
    obtain rfl := Option.some.inj hF
    exact prt
  iterate 2 (refine rgo_f hb1 ?_)
  refine rpf hb1 ?_
  refine ras ?_
  refine reg_nil ?_
  refine post_imp (s' := ⟨9, [(2, some (.pv (.bool false)))], [], 0, [], [], 0, []⟩) (imps [] ⟨by kernel_rfl, trivial⟩ trivial) ?_
  refine post_next ?_
  refine aw_ret ?_
  obtain rfl := Option.some.inj hF
  exact prt
theorem ref02_Name_ok {a0 : List UInt8} {r : Bool} (hF : ref02_Name a0 = some r) : Abs.Fn globs_Tryd Tryd.prog 16 [.str a0] [.p (.bool r)] := by
  unfold ref02_Name at hF
  refine fn_of_body (n := 41) Tryd.func16 rfl rfl rfl ?_
  intro w O
  refine aw_seq ?_
  refine aw_region ?_
  refine ras ?_
  refine reg_nil ?_
  refine post_imp (s' := ⟨41, [(0, some (.pv (.str a0)))], [], 0, [], [], 0, []⟩) (imps [] ⟨by kernel_rfl, trivial⟩ trivial) ?_
  refine post_next ?_
  iterate 2 (refine aw_seq ?_)
  obtain ⟨x10, hF, hK12⟩ := bind_some hF
  refine aw_cut (fun s1 => s1 = ⟨41, [(0, some (.pv (.str a0))), (22, some (.pv (.bool x10)))], [], 0, [], [], 0, []⟩) ?_ ?_
  · refine aw_region ?_
    refine rmv ?_
    refine rgp (op_len_str rfl rfl Tryd_und_9 rfl rfl) ?_
    refine rgp (op_int (k := .i64) (m := (a0.length : Int)) (n := 1) rfl rfl rfl rfl rfl rfl) ?_
    refine rmv ?_
    rcases ite_some hF with ⟨hb1, hF⟩ | ⟨hb1, hF⟩
    · refine rgo_t hb1 ?_
      iterate 2 (refine rgo_t hb1 ?_)
      refine rpt hb1 ?_
      refine rmv ?_
      iterate 4 (refine rgo_t rfl ?_)
      refine rpt rfl ?_
      refine rmv ?_
      iterate 3 (refine rgo_t rfl ?_)
      refine rpt rfl ?_
      refine reg_nil ?_
      cases hF
      exact post_cut _ rfl (imps [] ⟨by kernel_rfl, by kernel_rfl, trivial⟩ trivial)
    refine rgn hb1 (op_move rfl rfl rfl rfl) ?_
    refine rgn hb1 (op_len_str rfl rfl Tryd_und_9 rfl rfl) ?_
    refine rgn hb1 (op_int (k := .i64) (m := (a0.length : Int)) (n := 20) rfl rfl rfl rfl rfl rfl) ?_
    refine rpf hb1 ?_
    refine rmv ?_
    rcases ite_some hF with ⟨hb2, hF⟩ | ⟨hb2, hF⟩
    · refine rgo_t hb2 ?_
      iterate 3 (refine rgo_t hb2 ?_)
      refine rpt hb2 ?_
      refine rmv ?_
      iterate 3 (refine rgo_t rfl ?_)
      refine rpt rfl ?_
      refine reg_nil ?_
      cases hF
      exact post_cut _ rfl (imps [] ⟨by kernel_rfl, by kernel_rfl, trivial⟩ trivial)
    refine rgn hb2 (op_move rfl rfl rfl rfl) ?_
    obtain ⟨y3, h4, hF⟩ := bind_some hF
    refine rgn hb2 (op_index_str (k := .i64) rfl rfl rfl h4 Tryd_und_9 rfl rfl) ?_
    obtain ⟨y5, h6, hF⟩ := bind_some hF
    refine rgn hb2 (op_call 0 rfl (caps := []) (args := [.int .u8 (y3.toNat : Int)]) (rs := [.p (.bool y5)]) rfl rfl rfl Tryd_cal_39 (ref02_Letter_ok h6) rfl rfl rfl) ?_
    refine rgn hb2 (op_not rfl rfl rfl rfl) ?_
    refine rpf hb2 ?_
    refine rmv ?_
    rcases ite_some hF with ⟨hb7, hF⟩ | ⟨hb7, hF⟩
    · refine rgo_t hb7 ?_
      iterate 2 (refine rgo_t hb7 ?_)
      refine rpt hb7 ?_
      refine reg_nil ?_
      cases hF
      exact post_cut _ rfl (imps [] ⟨by kernel_rfl, by kernel_rfl, trivial⟩ trivial)
    refine rgn hb7 (op_move rfl rfl rfl rfl) ?_
    obtain ⟨y8, h9, hF⟩ := bind_some hF
    refine rgn hb7 (op_call 0 rfl (caps := []) (args := [.str a0]) (rs := [.p (.int .i64 y8)]) rfl rfl rfl Tryd_cal_40 (ref02_Find_ok h9) rfl rfl rfl) ?_
    refine rgn hb7 (op_int (k := .i64) (m := y8) (n := 0) rfl rfl rfl rfl rfl rfl) ?_
    refine rpf hb7 ?_
    refine reg_nil ?_
    cases hF
    exact post_cut _ rfl (imps [] ⟨by kernel_rfl, by kernel_rfl, trivial⟩ trivial)
  rintro _ rfl
  have hF := hK12
  clear hK12
  refine post_next ?_
  rcases ite_some hF with ⟨hb13, hF⟩ | ⟨hb13, hF⟩
  · refine aw_cond_t rfl hb13 ?_
    refine aw_seq ?_
    refine aw_region ?_
    refine ras ?_
    refine reg_nil ?_
    refine post_imp (s' := ⟨41, [(2, some (.pv (.bool false)))], [], 0, [], [], 0, []⟩) (imps [] ⟨by kernel_rfl, trivial⟩ trivial) ?_
    refine post_next ?_
    refine aw_ret ?_
    refine post_then_ret ?_
    obtain rfl := Option.some.inj hF
    exact prt
  refine aw_cond_f rfl hb13 ?_
  refine aw_skip ?_
  refine post_next ?_
  iterate 2 (refine aw_seq ?_)
  refine aw_region ?_
  refine ras ?_
  refine reg_nil ?_
  refine post_imp (s' := ⟨41, [(0, some (.pv (.str a0))), (3, some (.pv (.int .i64 0)))], [], 0, [], [], 0, []⟩) (imps [] ⟨by kernel_rfl, by kernel_rfl, trivial⟩ trivial) ?_
  refine post_next ?_
  obtain ⟨lr71, hF, hK72⟩ := bind_some hF
  refine aw_for ((((a0.length : Int) : Int) - (0)).toNat + 1) (fun s1 => ∃ q, lr71 = .next q ∧ s1 = ⟨41, [], [], 0, [], [], 0, []⟩) ?_ ?_
  · refine rnd_loop (α := Int) (fun q => ⟨41, [(0, some (.pv (.str a0))), (3, some (.pv (.int .i64 q)))], [], 0, [], [], 0, []⟩) (fun k q => ref02_Name_L1 a0 k q = some lr71) 0 (imps [] ⟨by kernel_rfl, by kernel_rfl, trivial⟩ trivial) hF (fun q h => by cases h) ?_
    clear hF
    rintro k x32 hF ih
    refine rnd_succ ?_
    iterate 2 (refine aw_seq ?_)
    refine aw_region ?_
    iterate 2 (refine rmv ?_)
    refine rgp (op_len_str rfl rfl Tryd_und_9 rfl rfl) ?_
    refine rgp (op_int (k := .i64) (m := x32) (n := (a0.length : Int)) rfl rfl rfl rfl rfl rfl) ?_
    refine reg_nil ?_
    refine post_imp (s' := ⟨41, [(0, some (.pv (.str a0))), (3, some (.pv (.int .i64 x32))), (26, some (.pv (.bool (decide (x32 < (a0.length : Int))))))], [], 0, [], [], 0, []⟩) (imps [] ⟨by kernel_rfl, by kernel_rfl, by kernel_rfl, trivial⟩ trivial) ?_
    refine post_next ?_
    rcases ite_some hF with ⟨hb52, hF⟩ | ⟨hb52, hF⟩
    · refine aw_cond_t rfl hb52 ?_
      refine aw_skip ?_
      refine post_next ?_
      refine aw_seq ?_
      refine aw_block ?_
      refine aw_seq ?_
      obtain ⟨x66, hF, hK68⟩ := bind_some hF
      refine aw_cut (fun s1 => s1 = ⟨41, [(0, some (.pv (.str a0))), (3, some (.pv (.int .i64 x32))), (40, some (.pv (.bool x66)))], [], 0, [], [], 0, []⟩) ?_ ?_
      · refine aw_region ?_
        iterate 2 (refine rmv ?_)
        obtain ⟨y57, h58, hF⟩ := bind_some hF
        refine rgp (op_index_str (k := .i64) rfl rfl rfl h58 Tryd_und_9 rfl rfl) ?_
        obtain ⟨y59, h60, hF⟩ := bind_some hF
        refine rgp (op_call 0 rfl (caps := []) (args := [.int .u8 (y57.toNat : Int)]) (rs := [.p (.bool y59)]) rfl rfl rfl Tryd_cal_39 (ref02_Letter_ok h60) rfl rfl rfl) ?_
        refine rgp (op_not rfl rfl rfl rfl) ?_
        refine rmv ?_
        rcases ite_some hF with ⟨hb61, hF⟩ | ⟨hb61, hF⟩
        · refine rgn hb61 (op_move rfl rfl rfl rfl) ?_
          refine rgn hb61 (op_move rfl rfl rfl rfl) ?_
          obtain ⟨y62, h63, hF⟩ := bind_some hF
          refine rgn hb61 (op_index_str (k := .i64) rfl rfl rfl h63 Tryd_und_9 rfl rfl) ?_
          obtain ⟨y64, h65, hF⟩ := bind_some hF
          refine rgn hb61 (op_call 0 rfl (caps := []) (args := [.int .u8 (y62.toNat : Int)]) (rs := [.p (.bool y64)]) rfl rfl rfl Tryd_cal_41 (ref02_Digit_ok h65) rfl rfl rfl) ?_
          refine rgn hb61 (op_not rfl rfl rfl rfl) ?_
          refine rpt hb61 ?_
          refine reg_nil ?_
          cases hF
          exact post_cut _ rfl (imps [] ⟨by kernel_rfl, by kernel_rfl, by kernel_rfl, trivial⟩ trivial)
        iterate 5 (refine rgo_f hb61 ?_)
        refine rpf hb61 ?_
        refine reg_nil ?_
        cases hF
        exact post_cut _ rfl (imps [] ⟨by kernel_rfl, by kernel_rfl, by kernel_rfl, trivial⟩ trivial)
      rintro _ rfl
      have hF := hK68
      clear hK68
      refine post_next ?_
      rcases ite_some hF with ⟨hb69, hF⟩ | ⟨hb69, hF⟩
      · refine aw_cond_t rfl hb69 ?_
        refine aw_seq ?_
        refine aw_region ?_
        refine ras ?_
        refine reg_nil ?_
        refine post_imp (s' := ⟨41, [(2, some (.pv (.bool false)))], [], 0, [], [], 0, []⟩) (imps [] ⟨by kernel_rfl, trivial⟩ trivial) ?_
        refine post_next ?_
        refine aw_ret ?_
        refine post_block_ret ?_
        iterate 2 (refine post_then_ret ?_)
        refine post_lp_ret ?_
        obtain rfl := Option.some.inj hF
        have hF := elim_stop hK72
        refine post_then_ret ?_
        obtain rfl := Option.some.inj hF
        exact prt
      refine aw_cond_f rfl hb69 ?_
      refine aw_skip ?_
      refine post_block_normal ?_
      refine post_next ?_
      refine aw_region ?_
      refine rmv ?_
      refine rgp (op_int (k := .i64) (m := x32) (n := 1) rfl rfl rfl rfl rfl rfl) ?_
      refine ras ?_
      refine reg_nil ?_
      refine post_round ?_
      exact rnd_back (ih (w_i64 (x32 + 1)) hF) (imps [] ⟨by kernel_rfl, by kernel_rfl, trivial⟩ trivial)
    refine aw_cond_f rfl hb52 ?_
    refine aw_exit ?_
    iterate 2 (refine post_then_exit ?_)
    obtain rfl := Option.some.inj hF
    exact post_lp_break _ ⟨_, rfl, rfl⟩ (imps [] trivial trivial)
  rintro _ ⟨⟨⟩, rfl, rfl⟩
  have hF := elim_next hK72
  clear hK72
  refine post_next ?_
  refine aw_seq ?_
  refine aw_region ?_
  refine ras ?_
  refine reg_nil ?_
  refine post_imp (s' := ⟨41, [(2, some (.pv (.bool true)))], [], 0, [], [], 0, []⟩) (imps [] ⟨by kernel_rfl, trivial⟩ trivial) ?_
  refine post_next ?_
  refine aw_ret ?_
  obtain rfl := Option.some.inj hF
  exact prt
theorem ref04_Right_ok {a0 : GOwner} {a1 : Int} {r : Bool} (hF : ref04_Right a0 a1 = some r) : Abs.Fn globs_Tryd Tryd.prog 35 [.agg (eGOwner a0), .int .i64 a1] [.p (.bool r)] := by
  unfold ref04_Right at hF
  refine fn_of_body (n := 51) Tryd.func35 rfl rfl rfl ?_
  intro w O
  refine aw_seq ?_
  refine aw_region ?_
  refine rgp (op_box 0 rfl rfl rfl rfl rfl rfl) ?_
  refine ras ?_
  refine reg_nil ?_
  refine post_imp (s' := ⟨51, [(1, some (.pv (.int .i64 a1))), (2, some (.lp 0 0))], [(0, some (.box 23 (bxv (eGOwner a0))))], 1, [], [], 0, []⟩) (imps [0] ⟨by kernel_rfl, by kernel_rfl, trivial⟩ ⟨by kernel_rfl, trivial⟩) ?_
  refine post_next ?_
  iterate 2 (refine aw_seq ?_)
  refine aw_region ?_
  refine rgp (op_field_lp rfl rfl Tryd_fld_23_0 rfl rfl) ?_
  refine rgp (op_load_lp (v := .pv (.int .i64 a0.fKind)) rfl rfl rfl rfl Tryd_one_3 rfl rfl) ?_
  refine rgp (op_int (k := .i64) (m := a0.fKind) (n := 3) rfl rfl rfl rfl rfl rfl) ?_
  refine reg_nil ?_
  refine post_imp (s' := ⟨51, [(1, some (.pv (.int .i64 a1))), (2, some (.lp 0 0)), (7, some (.pv (.bool (a0.fKind == 3))))], [(0, some (.box 23 (bxv (eGOwner a0))))], 1, [], [], 0, []⟩) (imps [0] ⟨by kernel_rfl, by kernel_rfl, by kernel_rfl, trivial⟩ ⟨by kernel_rfl, trivial⟩) ?_
  refine post_next ?_
  rcases ite_some hF with ⟨hb1, hF⟩ | ⟨hb1, hF⟩
  · refine aw_cond_t rfl hb1 ?_
    refine aw_seq ?_
    refine aw_region ?_
    refine rgp (op_field_lp rfl rfl Tryd_fld_23_1 rfl rfl) ?_
    refine rgp (op_load_lp (v := .pv (.int .i64 a0.fN)) rfl rfl rfl rfl Tryd_one_3 rfl rfl) ?_
    refine rgp (op_int (k := .i64) (m := a0.fN) (n := 1) rfl rfl rfl rfl rfl rfl) ?_
    refine rmv ?_
    rcases ite_some hF with ⟨hb2, hF⟩ | ⟨hb2, hF⟩
    · refine rgn hb2 (op_field_lp rfl rfl Tryd_fld_23_1 rfl rfl) ?_
      refine rgn hb2 (op_load_lp (v := .pv (.int .i64 a0.fN)) rfl rfl rfl rfl Tryd_one_3 rfl rfl) ?_
      refine rgn hb2 (op_move rfl rfl rfl rfl) ?_
      refine rgn hb2 (op_int (k := .i64) (m := a0.fN) (n := a1) rfl rfl rfl rfl rfl rfl) ?_
      refine rpt hb2 ?_
      refine ras ?_
      refine reg_nil ?_
      refine post_imp (s' := ⟨51, [(4, some (.pv (.bool (decide (a0.fN ≤ a1)))))], [], 0, [], [], 0, []⟩) (imps [] ⟨by kernel_rfl, trivial⟩ trivial) ?_
      refine post_next ?_
      refine aw_ret ?_
      refine post_then_ret ?_
      obtain rfl := Option.some.inj hF
      exact prt
    iterate 4 (refine rgo_f hb2 ?_)
    refine rpf hb2 ?_
    refine ras ?_
    refine reg_nil ?_
    refine post_imp (s' := ⟨51, [(4, some (.pv (.bool false)))], [], 0, [], [], 0, []⟩) (imps [] ⟨by kernel_rfl, trivial⟩ trivial) ?_
    refine post_next ?_
    refine aw_ret ?_
    refine post_then_ret ?_
    obtain rfl := Option.some.inj hF
    exact prt
  refine aw_cond_f rfl hb1 ?_
  refine aw_skip ?_
  refine post_next ?_
  iterate 2 (refine aw_seq ?_)
  refine aw_region ?_
  refine rgp (op_field_lp rfl rfl Tryd_fld_23_0 rfl rfl) ?_
  refine rgp (op_load_lp (v := .pv (.int .i64 a0.fKind)) rfl rfl rfl rfl Tryd_one_3 rfl rfl) ?_
  refine rgp (op_int (k := .i64) (m := a0.fKind) (n := 7) rfl rfl rfl rfl rfl rfl) ?_
  refine reg_nil ?_
  refine post_imp (s' := ⟨51, [(2, some (.lp 0 0)), (19, some (.pv (.bool (a0.fKind == 7))))], [(0, some (.box 23 (bxv (eGOwner a0))))], 1, [], [], 0, []⟩) (imps [0] ⟨by kernel_rfl, by kernel_rfl, trivial⟩ ⟨by kernel_rfl, trivial⟩) ?_
  refine post_next ?_
  rcases ite_some hF with ⟨hb3, hF⟩ | ⟨hb3, hF⟩
  · refine aw_cond_t rfl hb3 ?_
    refine aw_seq ?_
    refine aw_region ?_
    refine rgp (op_field_lp rfl rfl Tryd_fld_23_1 rfl rfl) ?_
    refine rgp (op_load_lp (v := .pv (.int .i64 a0.fN)) rfl rfl rfl rfl Tryd_one_3 rfl rfl) ?_
    refine rgp (op_int (k := .i64) (m := a0.fN) (n := 0) rfl rfl rfl rfl rfl rfl) ?_
    refine ras ?_
    refine reg_nil ?_
    refine post_imp (s' := ⟨51, [(4, some (.pv (.bool (decide (a0.fN ≥ 0)))))], [], 0, [], [], 0, []⟩) (imps [] ⟨by kernel_rfl, trivial⟩ trivial) ?_
    refine post_next ?_
    refine aw_ret ?_
    refine post_then_ret ?_
    obtain rfl := Option.some.inj hF
    exact prt
  refine aw_cond_f rfl hb3 ?_
  refine aw_skip ?_
  refine post_next ?_
  refine aw_seq ?_
  refine aw_region ?_
  refine rgp (op_field_lp rfl rfl Tryd_fld_23_1 rfl rfl) ?_
  refine rgp (op_load_lp (v := .pv (.int .i64 a0.fN)) rfl rfl rfl rfl Tryd_one_3 rfl rfl) ?_
  refine rgp (op_int (k := .i64) (m := a0.fN) (n := 0) rfl rfl rfl rfl rfl rfl) ?_
  refine rmv ?_
  rcases ite_some hF with ⟨hb4, hF⟩ | ⟨hb4, hF⟩
  · refine rgn hb4 (op_field_lp rfl rfl Tryd_fld_23_0 rfl rfl) ?_
    refine rgn hb4 (op_load_lp (v := .pv (.int .i64 a0.fKind)) rfl rfl rfl rfl Tryd_one_3 rfl rfl) ?_
    refine rgn hb4 (op_int (k := .i64) (m := a0.fKind) (n := 1) rfl rfl rfl rfl rfl rfl) ?_
    refine rgn hb4 (op_move rfl rfl rfl rfl) ?_
    rcases ite_some hF with ⟨hb5, hF⟩ | ⟨hb5, hF⟩
    · refine rgo_t hb5 ?_
      iterate 2 (refine rgo_t hb5 ?_)
      refine rgn hb4 (op_pick_t rfl rfl hb5 rfl rfl rfl) ?_
      refine rgn hb4 (op_move rfl rfl rfl rfl) ?_
      iterate 3 (refine rgo_t rfl ?_)
      refine rgn hb4 (op_pick_t rfl rfl rfl rfl rfl rfl) ?_
      refine rgn hb4 (op_move rfl rfl rfl rfl) ?_
      iterate 3 (refine rgo_t rfl ?_)
      refine rgn hb4 (op_pick_t rfl rfl rfl rfl rfl rfl) ?_
      refine rgn hb4 (op_move rfl rfl rfl rfl) ?_
      iterate 3 (refine rgo_t rfl ?_)
      refine rgn hb4 (op_pick_t rfl rfl rfl rfl rfl rfl) ?_
      refine rpt hb4 ?_
      refine ras ?_
      refine reg_nil ?_
      refine post_imp (s' := ⟨51, [(4, some (.pv (.bool true)))], [], 0, [], [], 0, []⟩) (imps [] ⟨by kernel_rfl, trivial⟩ trivial) ?_
      refine post_next ?_
      refine aw_ret ?_
      obtain rfl := Option.some.inj hF
      exact prt
    refine rgn hb5 (op_field_lp rfl rfl Tryd_fld_23_0 rfl rfl) ?_
    refine rgn hb5 (op_load_lp (v := .pv (.int .i64 a0.fKind)) rfl rfl rfl rfl Tryd_one_3 rfl rfl) ?_
    refine rgn hb5 (op_int (k := .i64) (m := a0.fKind) (n := 2) rfl rfl rfl rfl rfl rfl) ?_
    refine rgn hb4 (op_pick_f rfl rfl hb5 rfl rfl rfl) ?_
    refine rgn hb4 (op_move rfl rfl rfl rfl) ?_
    rcases ite_some hF with ⟨hb6, hF⟩ | ⟨hb6, hF⟩
    · refine rgo_t hb6 ?_
      iterate 2 (refine rgo_t hb6 ?_)
      refine rgn hb4 (op_pick_t rfl rfl hb6 rfl rfl rfl) ?_
      refine rgn hb4 (op_move rfl rfl rfl rfl) ?_
      iterate 3 (refine rgo_t rfl ?_)
      refine rgn hb4 (op_pick_t rfl rfl rfl rfl rfl rfl) ?_
      refine rgn hb4 (op_move rfl rfl rfl rfl) ?_
      iterate 3 (refine rgo_t rfl ?_)
      refine rgn hb4 (op_pick_t rfl rfl rfl rfl rfl rfl) ?_
      refine rpt hb4 ?_
      refine ras ?_
      refine reg_nil ?_
      refine post_imp (s' := ⟨51, [(4, some (.pv (.bool true)))], [], 0, [], [], 0, []⟩) (imps [] ⟨by kernel_rfl, trivial⟩ trivial) ?_
      refine post_next ?_
      refine aw_ret ?_
      obtain rfl := Option.some.inj hF
      exact prt
    refine rgn hb6 (op_field_lp rfl rfl Tryd_fld_23_0 rfl rfl) ?_
    refine rgn hb6 (op_load_lp (v := .pv (.int .i64 a0.fKind)) rfl rfl rfl rfl Tryd_one_3 rfl rfl) ?_
    refine rgn hb6 (op_int (k := .i64) (m := a0.fKind) (n := 4) rfl rfl rfl rfl rfl rfl) ?_
    refine rgn hb4 (op_pick_f rfl rfl hb6 rfl rfl rfl) ?_
    refine rgn hb4 (op_move rfl rfl rfl rfl) ?_
    rcases ite_some hF with ⟨hb7, hF⟩ | ⟨hb7, hF⟩
    · refine rgo_t hb7 ?_
      iterate 2 (refine rgo_t hb7 ?_)
      refine rgn hb4 (op_pick_t rfl rfl hb7 rfl rfl rfl) ?_
      refine rgn hb4 (op_move rfl rfl rfl rfl) ?_
      iterate 3 (refine rgo_t rfl ?_)
      refine rgn hb4 (op_pick_t rfl rfl rfl rfl rfl rfl) ?_
      refine rpt hb4 ?_
      refine ras ?_
      refine reg_nil ?_
      refine post_imp (s' := ⟨51, [(4, some (.pv (.bool true)))], [], 0, [], [], 0, []⟩) (imps [] ⟨by kernel_rfl, trivial⟩ trivial) ?_
      refine post_next ?_
      refine aw_ret ?_
      obtain rfl := Option.some.inj hF
      exact prt
    refine rgn hb7 (op_field_lp rfl rfl Tryd_fld_23_0 rfl rfl) ?_
    refine rgn hb7 (op_load_lp (v := .pv (.int .i64 a0.fKind)) rfl rfl rfl rfl Tryd_one_3 rfl rfl) ?_
    refine rgn hb7 (op_int (k := .i64) (m := a0.fKind) (n := 5) rfl rfl rfl rfl rfl rfl) ?_
    refine rgn hb4 (op_pick_f rfl rfl hb7 rfl rfl rfl) ?_
    refine rgn hb4 (op_move rfl rfl rfl rfl) ?_
    rcases ite_some hF with ⟨hb8, hF⟩ | ⟨hb8, hF⟩
    · refine rgo_t hb8 ?_
      iterate 2 (refine rgo_t hb8 ?_)
      refine rgn hb4 (op_pick_t rfl rfl hb8 rfl rfl rfl) ?_
      refine rpt hb4 ?_
      refine ras ?_
      refine reg_nil ?_
      refine post_imp (s' := ⟨51, [(4, some (.pv (.bool true)))], [], 0, [], [], 0, []⟩) (imps [] ⟨by kernel_rfl, trivial⟩ trivial) ?_
      refine post_next ?_
      refine aw_ret ?_
      obtain rfl := Option.some.inj hF
      exact prt
    refine rgn hb8 (op_field_lp rfl rfl Tryd_fld_23_0 rfl rfl) ?_
    refine rgn hb8 (op_load_lp (v := .pv (.int .i64 a0.fKind)) rfl rfl rfl rfl Tryd_one_3 rfl rfl) ?_
    refine rgn hb8 (op_int (k := .i64) (m := a0.fKind) (n := 6) rfl rfl rfl rfl rfl rfl) ?_
    refine rgn hb4 (op_pick_f rfl rfl hb8 rfl rfl rfl) ?_
    refine rpt hb4 ?_
    refine ras ?_
    refine reg_nil ?_
    refine post_imp (s' := ⟨51, [(4, some (.pv (.bool (a0.fKind == 6))))], [], 0, [], [], 0, []⟩) (imps [] ⟨by kernel_rfl, trivial⟩ trivial) ?_
    refine post_next ?_
    refine aw_ret ?_
    obtain rfl := Option.some.inj hF
    exact prt
  iterate 4 (refine rgo_f hb4 ?_)
  iterate 3 (refine rgu ?_)
  iterate 2 (refine rgo_f hb4 ?_)
  iterate 3 (refine rgu ?_)
  iterate 2 (refine rgo_f hb4 ?_)
  iterate 3 (refine rgu ?_)
  iterate 2 (refine rgo_f hb4 ?_)
  iterate 3 (refine rgu ?_)
  refine rgo_f hb4 ?_
  refine rpf hb4 ?_
  refine ras ?_
  refine reg_nil ?_
  refine post_imp (s' := ⟨51, [(4, some (.pv (.bool false)))], [], 0, [], [], 0, []⟩) (imps [] ⟨by kernel_rfl, trivial⟩ trivial) ?_
  refine post_next ?_
  refine aw_ret ?_
  obtain rfl := Option.some.inj hF
  exact prt
theorem ref05_Right_ok {a0 : GType} {a1 : Int} {r : Bool} (hF : ref05_Right a0 a1 = some r) : Abs.Fn globs_Tryd Tryd.prog 12 [.agg (eGType a0), .int .i64 a1] [.p (.bool r)] := by
  unfold ref05_Right at hF
  refine fn_of_body (n := 77) Tryd.func12 rfl rfl rfl ?_
  intro w O
  refine aw_seq ?_
  refine aw_region ?_
  refine rgp (op_box 0 rfl rfl rfl rfl rfl rfl) ?_
  refine ras ?_
  refine reg_nil ?_
  refine post_imp (s' := ⟨77, [(1, some (.pv (.int .i64 a1))), (2, some (.lp 0 0))], [(0, some (.box 26 (bxv (eGType a0))))], 1, [], [], 0, []⟩) (imps [0] ⟨by kernel_rfl, by kernel_rfl, trivial⟩ ⟨by kernel_rfl, trivial⟩) ?_
  refine post_next ?_
  iterate 2 (refine aw_seq ?_)
  obtain ⟨x2, hF, hK4⟩ := bind_some hF
  refine aw_cut (fun s1 => s1 = ⟨77, [(1, some (.pv (.int .i64 a1))), (2, some (.lp 0 0)), (14, some (.pv (.bool x2)))], [(0, some (.box 26 (bxv (eGType a0))))], 1, [], [], 0, []⟩) ?_ ?_
  · refine aw_region ?_
    refine rgp (op_field_lp rfl rfl Tryd_fld_26_0 rfl rfl) ?_
    refine rgp (op_load_lp (v := .pv (.int .i64 a0.fKind)) rfl rfl rfl rfl Tryd_one_3 rfl rfl) ?_
    refine rgp (op_int (k := .i64) (m := a0.fKind) (n := 0) rfl rfl rfl rfl rfl rfl) ?_
    refine rmv ?_
    rcases ite_some hF with ⟨hb1, hF⟩ | ⟨hb1, hF⟩
    · refine rgo_t hb1 ?_
      iterate 2 (refine rgo_t hb1 ?_)
      refine rpt hb1 ?_
      refine reg_nil ?_
      cases hF
      exact post_cut _ rfl (imps [0] ⟨by kernel_rfl, by kernel_rfl, by kernel_rfl, trivial⟩ ⟨by kernel_rfl, trivial⟩)
    refine rgn hb1 (op_field_lp rfl rfl Tryd_fld_26_0 rfl rfl) ?_
    refine rgn hb1 (op_load_lp (v := .pv (.int .i64 a0.fKind)) rfl rfl rfl rfl Tryd_one_3 rfl rfl) ?_
    refine rgn hb1 (op_int (k := .i64) (m := a0.fKind) (n := 1) rfl rfl rfl rfl rfl rfl) ?_
    refine rpf hb1 ?_
    refine reg_nil ?_
    cases hF
    exact post_cut _ rfl (imps [0] ⟨by kernel_rfl, by kernel_rfl, by kernel_rfl, trivial⟩ ⟨by kernel_rfl, trivial⟩)
  rintro _ rfl
  have hF := hK4
  clear hK4
  refine post_next ?_
  rcases ite_some hF with ⟨hb5, hF⟩ | ⟨hb5, hF⟩
  · refine aw_cond_t rfl hb5 ?_
    refine aw_seq ?_
    refine aw_region ?_
    refine rgp (op_load_lp_agg (ps := eGType a0) rfl rfl rfl rfl rfl rfl Tryd_agg_26 rfl rfl) ?_
    refine rgp (op_field_lp rfl rfl Tryd_fld_26_0 rfl rfl) ?_
    refine rgp (op_load_lp (v := .pv (.int .i64 a0.fKind)) rfl rfl rfl rfl Tryd_one_3 rfl rfl) ?_
    refine rgp (op_build (zs := (eGType zGType)) (r := eGType ({ fKind := a0.fKind, fClass := [], fN := 0, fOwn := (⟨zGOwner, zGOwner, zGOwner, zGOwner⟩ : A4 GOwner) } : GType)) rfl Tryd_zer_26 (by exact ⟨rfl, rfl, rfl, rfl, rfl, rfl, rfl, rfl, rfl, rfl, rfl, trivial⟩) Tryd_plc_26 rfl rfl rfl rfl) ?_
    refine rgp (op_eqAgg_eql (r := bGType a0 ({ fKind := a0.fKind, fClass := [], fN := 0, fOwn := (⟨zGOwner, zGOwner, zGOwner, zGOwner⟩ : A4 GOwner) } : GType)) rfl rfl rfl Tryd_eqt_26 rfl rfl rfl rfl rfl) ?_
    refine ras ?_
    refine reg_nil ?_
    refine post_imp (s' := ⟨77, [(4, some (.pv (.bool (bGType a0 ({ fKind := a0.fKind, fClass := [], fN := 0, fOwn := (⟨zGOwner, zGOwner, zGOwner, zGOwner⟩ : A4 GOwner) } : GType)))))], [], 0, [], [], 0, []⟩) (imps [] ⟨by kernel_rfl, trivial⟩ trivial) ?_
    refine post_next ?_
    refine aw_ret ?_
    refine post_then_ret ?_
    obtain rfl := Option.some.inj hF
    exact prt
  refine aw_cond_f rfl hb5 ?_
  refine aw_skip ?_
  refine post_next ?_
  iterate 2 (refine aw_seq ?_)
  obtain ⟨x11, hF, hK13⟩ := bind_some hF
  refine aw_cut (fun s1 => s1 = ⟨77, [(1, some (.pv (.int .i64 a1))), (2, some (.lp 0 0)), (38, some (.pv (.bool x11)))], [(0, some (.box 26 (bxv (eGType a0))))], 1, [], [], 0, []⟩) ?_ ?_
  · refine aw_region ?_
    refine rgp (op_field_lp rfl rfl Tryd_fld_26_0 rfl rfl) ?_
    refine rgp (op_load_lp (v := .pv (.int .i64 a0.fKind)) rfl rfl rfl rfl Tryd_one_3 rfl rfl) ?_
    refine rgp (op_int (k := .i64) (m := a0.fKind) (n := 2) rfl rfl rfl rfl rfl rfl) ?_
    refine rmv ?_
    rcases ite_some hF with ⟨hb6, hF⟩ | ⟨hb6, hF⟩
    · refine rgo_t hb6 ?_
      iterate 3 (refine rgo_t hb6 ?_)
      refine rpt hb6 ?_
      refine rmv ?_
      iterate 3 (refine rgo_t rfl ?_)
      refine rpt rfl ?_
      refine rmv ?_
      iterate 3 (refine rgo_t rfl ?_)
      refine rpt rfl ?_
      refine reg_nil ?_
      cases hF
      exact post_cut _ rfl (imps [0] ⟨by kernel_rfl, by kernel_rfl, by kernel_rfl, trivial⟩ ⟨by kernel_rfl, trivial⟩)
    refine rgn hb6 (op_field_lp rfl rfl Tryd_fld_26_1 rfl rfl) ?_
    refine rgn hb6 (op_load_lp (v := .pv (.str a0.fClass)) rfl rfl rfl rfl Tryd_one_9 rfl rfl) ?_
    obtain ⟨y7, h8, hF⟩ := bind_some hF
    refine rgn hb6 (op_call 1 rfl (caps := []) (args := [.str a0.fClass]) (rs := [.p (.bool y7)]) rfl rfl rfl Tryd_cal_16 (ref02_Name_ok h8) rfl rfl rfl) ?_
    refine rgn hb6 (op_not rfl rfl rfl rfl) ?_
    refine rpf hb6 ?_
    refine rmv ?_
    rcases ite_some hF with ⟨hb9, hF⟩ | ⟨hb9, hF⟩
    · refine rgo_t hb9 ?_
      iterate 2 (refine rgo_t hb9 ?_)
      refine rpt hb9 ?_
      refine rmv ?_
      iterate 3 (refine rgo_t rfl ?_)
      refine rpt rfl ?_
      refine reg_nil ?_
      cases hF
      exact post_cut _ rfl (imps [0] ⟨by kernel_rfl, by kernel_rfl, by kernel_rfl, trivial⟩ ⟨by kernel_rfl, trivial⟩)
    refine rgn hb9 (op_field_lp rfl rfl Tryd_fld_26_2 rfl rfl) ?_
    refine rgn hb9 (op_load_lp (v := .pv (.int .i64 a0.fN)) rfl rfl rfl rfl Tryd_one_3 rfl rfl) ?_
    refine rgn hb9 (op_int (k := .i64) (m := a0.fN) (n := 0) rfl rfl rfl rfl rfl rfl) ?_
    refine rpf hb9 ?_
    refine rmv ?_
    rcases ite_some hF with ⟨hb10, hF⟩ | ⟨hb10, hF⟩
    · refine rgo_t hb10 ?_
      iterate 2 (refine rgo_t hb10 ?_)
      refine rpt hb10 ?_
      refine reg_nil ?_
      cases hF
      exact post_cut _ rfl (imps [0] ⟨by kernel_rfl, by kernel_rfl, by kernel_rfl, trivial⟩ ⟨by kernel_rfl, trivial⟩)
    refine rgn hb10 (op_field_lp rfl rfl Tryd_fld_26_2 rfl rfl) ?_
    refine rgn hb10 (op_load_lp (v := .pv (.int .i64 a0.fN)) rfl rfl rfl rfl Tryd_one_3 rfl rfl) ?_
    refine rgn hb10 (op_int (k := .i64) (m := a0.fN) (n := 3) rfl rfl rfl rfl rfl rfl) ?_
    refine rpf hb10 ?_
    refine reg_nil ?_
    cases hF
    exact post_cut _ rfl (imps [0] ⟨by kernel_rfl, by kernel_rfl, by kernel_rfl, trivial⟩ ⟨by kernel_rfl, trivial⟩)
  rintro _ rfl
  have hF := hK13
  clear hK13
  refine post_next ?_
  rcases ite_some hF with ⟨hb14, hF⟩ | ⟨hb14, hF⟩
  · refine aw_cond_t rfl hb14 ?_
    refine aw_seq ?_
    refine aw_region ?_
    refine ras ?_
    refine reg_nil ?_
    refine post_imp (s' := ⟨77, [(4, some (.pv (.bool false)))], [], 0, [], [], 0, []⟩) (imps [] ⟨by kernel_rfl, trivial⟩ trivial) ?_
    refine post_next ?_
    refine aw_ret ?_
    refine post_then_ret ?_
    obtain rfl := Option.some.inj hF
    exact prt
  refine aw_cond_f rfl hb14 ?_
  refine aw_skip ?_
  refine post_next ?_
  iterate 2 (refine aw_seq ?_)
  refine aw_region ?_
  refine ras ?_
  refine reg_nil ?_
  refine post_imp (s' := ⟨77, [(1, some (.pv (.int .i64 a1))), (2, some (.lp 0 0)), (5, some (.pv (.int .i64 0)))], [(0, some (.box 26 (bxv (eGType a0))))], 1, [], [], 0, []⟩) (imps [0] ⟨by kernel_rfl, by kernel_rfl, by kernel_rfl, trivial⟩ ⟨by kernel_rfl, trivial⟩) ?_
  refine post_next ?_
  obtain ⟨lr77, hF, hK78⟩ := bind_some hF
  refine aw_for (((4 : Int) - (0)).toNat + 1) (fun s1 => ∃ q, lr77 = .next q ∧ s1 = ⟨77, [], [], 0, [], [], 0, []⟩) ?_ ?_
  · refine rnd_loop (α := Int) (fun q => ⟨77, [(1, some (.pv (.int .i64 a1))), (2, some (.lp 0 0)), (5, some (.pv (.int .i64 q)))], [(0, some (.box 26 (bxv (eGType a0))))], 1, [], [], 0, []⟩) (fun k q => ref05_Right_L1 a0 a1 k q = some lr77) 0 (imps [0] ⟨by kernel_rfl, by kernel_rfl, by kernel_rfl, trivial⟩ ⟨by kernel_rfl, trivial⟩) hF (fun q h => by cases h) ?_
    clear hF
    rintro k x32 hF ih
    refine rnd_succ ?_
    iterate 2 (refine aw_seq ?_)
    refine aw_region ?_
    refine rmv ?_
    refine rgp (op_int (k := .i64) (m := x32) (n := 4) rfl rfl rfl rfl rfl rfl) ?_
    refine reg_nil ?_
    refine post_imp (s' := ⟨77, [(1, some (.pv (.int .i64 a1))), (2, some (.lp 0 0)), (5, some (.pv (.int .i64 x32))), (40, some (.pv (.bool (decide (x32 < 4)))))], [(0, some (.box 26 (bxv (eGType a0))))], 1, [], [], 0, []⟩) (imps [0] ⟨by kernel_rfl, by kernel_rfl, by kernel_rfl, by kernel_rfl, trivial⟩ ⟨by kernel_rfl, trivial⟩) ?_
    refine post_next ?_
    rcases ite_some hF with ⟨hb55, hF⟩ | ⟨hb55, hF⟩
    · refine aw_cond_t rfl hb55 ?_
      refine aw_skip ?_
      refine post_next ?_
      refine aw_seq ?_
      refine aw_block ?_
      refine aw_seq ?_
      refine aw_region ?_
      refine rmv ?_
      refine rgp (op_field_lp rfl rfl Tryd_fld_26_3 rfl rfl) ?_
      obtain ⟨y58, h59, hF⟩ := bind_some hF
      refine rgp (op_arr_lpN (l := (a0.fOwn).l) rfl rfl rfl Tryd_arr_24 rfl h59 rfl rfl) ?_
      refine rgp (op_load_lp_agg (ps := eGOwner y58) rfl rfl rfl (arr_cellsN (l := (a0.fOwn).l) (f := eGOwner) rfl (fun _ => rfl) rfl h59) rfl rfl Tryd_agg_23 rfl rfl) ?_
      refine rgp (op_alloc 1 rfl (ps := (eGOwner zGOwner)) rfl Tryd_zer_23 (by exact ⟨rfl, rfl, trivial⟩) rfl rfl) ?_
      refine rgp (op_store_lp (n := 2) rfl rfl rfl rfl rfl (or_agg Tryd_agg_23) (by rw [Tryd_non_23]; rfl) rfl rfl rfl) ?_
      refine reg_nil ?_
      refine post_imp (s' := ⟨77, [(1, some (.pv (.int .i64 a1))), (2, some (.lp 0 0)), (5, some (.pv (.int .i64 x32))), (6, some (.lp 1 0))], [(0, some (.box 26 (bxv (eGType a0)))), (1, some (.box 23 (bxv (eGOwner y58))))], 2, [], [], 0, []⟩) (imps [0, 1] ⟨by kernel_rfl, by kernel_rfl, by kernel_rfl, by kernel_rfl, trivial⟩ ⟨by kernel_rfl, by kernel_rfl, trivial⟩) ?_
      refine post_next ?_
      refine aw_seq ?_
      obtain ⟨x72, hF, hK74⟩ := bind_some hF
      refine aw_cut (fun s1 => s1 = ⟨77, [(1, some (.pv (.int .i64 a1))), (2, some (.lp 0 0)), (5, some (.pv (.int .i64 x32))), (76, some (.pv (.bool x72)))], [(0, some (.box 26 (bxv (eGType a0))))], 1, [], [], 0, []⟩) ?_ ?_
      · refine aw_region ?_
        refine rmv ?_
        refine rgp (op_field_lp rfl rfl Tryd_fld_26_2 rfl rfl) ?_
        refine rgp (op_load_lp (v := .pv (.int .i64 a0.fN)) rfl rfl rfl rfl Tryd_one_3 rfl rfl) ?_
        refine rgp (op_int (k := .i64) (m := x32) (n := a0.fN) rfl rfl rfl rfl rfl rfl) ?_
        refine rmv ?_
        rcases ite_some hF with ⟨hb60, hF⟩ | ⟨hb60, hF⟩
        · refine rgn hb60 (op_load_lp_agg (ps := eGOwner y58) rfl rfl rfl rfl rfl rfl Tryd_agg_23 rfl rfl) ?_
          refine rgn hb60 (op_build (zs := (eGOwner zGOwner)) (r := eGOwner ({ fKind := 0, fN := 0 } : GOwner)) rfl Tryd_zer_23 (by exact ⟨rfl, rfl, trivial⟩) Tryd_plc_23 rfl rfl rfl rfl) ?_
          refine rgn hb60 (op_eqAgg_neq (r := bGOwner y58 ({ fKind := 0, fN := 0 } : GOwner)) rfl rfl rfl Tryd_eqt_23 rfl rfl rfl rfl rfl) ?_
          refine rpt hb60 ?_
          refine rmv ?_
          rcases ite_some hF with ⟨hb61, hF⟩ | ⟨hb61, hF⟩
          · refine rgo_t hb61 ?_
            iterate 4 (refine rgo_t hb61 ?_)
            iterate 13 (refine rgu ?_)
            refine rgo_t hb61 ?_
            refine rpt hb61 ?_
            refine reg_nil ?_
            cases hF
            exact post_cut _ rfl (imps [0] ⟨by kernel_rfl, by kernel_rfl, by kernel_rfl, by kernel_rfl, trivial⟩ ⟨by kernel_rfl, trivial⟩)
          refine rgn hb61 (op_move rfl rfl rfl rfl) ?_
          refine rgn hb61 (op_field_lp rfl rfl Tryd_fld_26_2 rfl rfl) ?_
          refine rgn hb61 (op_load_lp (v := .pv (.int .i64 a0.fN)) rfl rfl rfl rfl Tryd_one_3 rfl rfl) ?_
          refine rgn hb61 (op_int (k := .i64) (m := x32) (n := a0.fN) rfl rfl rfl rfl rfl rfl) ?_
          refine rgn hb61 (op_move rfl rfl rfl rfl) ?_
          rcases ite_some hF with ⟨hb62, hF⟩ | ⟨hb62, hF⟩
          · refine rgn hb62 (op_load_lp_agg (ps := eGOwner y58) rfl rfl rfl rfl rfl rfl Tryd_agg_23 rfl rfl) ?_
            refine rgn hb62 (op_move rfl rfl rfl rfl) ?_
            obtain ⟨y63, h64, hF⟩ := bind_some hF
            refine rgn hb62 (op_call 2 rfl (caps := []) (args := [.agg (eGOwner y58), .int .i64 a1]) (rs := [.p (.bool y63)]) rfl rfl rfl Tryd_cal_35 (ref04_Right_ok h64) rfl rfl rfl) ?_
            refine rgn hb62 (op_not rfl rfl rfl rfl) ?_
            refine rgn hb62 (op_move rfl rfl rfl rfl) ?_
            rcases ite_some hF with ⟨hb65, hF⟩ | ⟨hb65, hF⟩
            · refine rgo_t hb65 ?_
              iterate 2 (refine rgo_t hb65 ?_)
              iterate 3 (refine rgu ?_)
              refine rgo_t hb65 ?_
              refine rgn hb62 (op_pick_t rfl rfl hb65 rfl rfl rfl) ?_
              refine rgn hb61 (op_pick_t rfl rfl hb62 rfl rfl rfl) ?_
              refine rpf hb61 ?_
              refine reg_nil ?_
              cases hF
              exact post_cut _ rfl (imps [0] ⟨by kernel_rfl, by kernel_rfl, by kernel_rfl, by kernel_rfl, trivial⟩ ⟨by kernel_rfl, trivial⟩)
            refine rgn hb65 (op_move rfl rfl rfl rfl) ?_
            refine rgn hb65 (op_int (k := .i64) (m := x32) (n := 0) rfl rfl rfl rfl rfl rfl) ?_
            refine rgn hb65 (op_move rfl rfl rfl rfl) ?_
            rcases ite_some hF with ⟨hb66, hF⟩ | ⟨hb66, hF⟩
            · refine rgn hb66 (op_field_lp rfl rfl Tryd_fld_23_0 rfl rfl) ?_
              refine rgn hb66 (op_load_lp (v := .pv (.int .i64 y58.fKind)) rfl rfl rfl rfl Tryd_one_3 rfl rfl) ?_
              refine rgn hb66 (op_int (k := .i64) (m := y58.fKind) (n := 6) rfl rfl rfl rfl rfl rfl) ?_
              refine rgn hb65 (op_pick_t rfl rfl hb66 rfl rfl rfl) ?_
              refine rgn hb62 (op_pick_f rfl rfl hb65 rfl rfl rfl) ?_
              refine rgn hb61 (op_pick_t rfl rfl hb62 rfl rfl rfl) ?_
              refine rpf hb61 ?_
              refine reg_nil ?_
              cases hF
              exact post_cut _ rfl (imps [0] ⟨by kernel_rfl, by kernel_rfl, by kernel_rfl, by kernel_rfl, trivial⟩ ⟨by kernel_rfl, trivial⟩)
            iterate 3 (refine rgo_f hb66 ?_)
            refine rgn hb65 (op_pick_f rfl rfl hb66 rfl rfl rfl) ?_
            refine rgn hb62 (op_pick_f rfl rfl hb65 rfl rfl rfl) ?_
            refine rgn hb61 (op_pick_t rfl rfl hb62 rfl rfl rfl) ?_
            refine rpf hb61 ?_
            refine reg_nil ?_
            cases hF
            exact post_cut _ rfl (imps [0] ⟨by kernel_rfl, by kernel_rfl, by kernel_rfl, by kernel_rfl, trivial⟩ ⟨by kernel_rfl, trivial⟩)
          iterate 5 (refine rgo_f hb62 ?_)
          iterate 7 (refine rgu ?_)
          refine rgo_f hb62 ?_
          refine rgn hb61 (op_pick_f rfl rfl hb62 rfl rfl rfl) ?_
          refine rpf hb61 ?_
          refine reg_nil ?_
          cases hF
          exact post_cut _ rfl (imps [0] ⟨by kernel_rfl, by kernel_rfl, by kernel_rfl, by kernel_rfl, trivial⟩ ⟨by kernel_rfl, trivial⟩)
        iterate 3 (refine rgo_f hb60 ?_)
        refine rpf hb60 ?_
        refine rmv ?_
        refine rgn rfl (op_move rfl rfl rfl rfl) ?_
        refine rgn rfl (op_field_lp rfl rfl Tryd_fld_26_2 rfl rfl) ?_
        refine rgn rfl (op_load_lp (v := .pv (.int .i64 a0.fN)) rfl rfl rfl rfl Tryd_one_3 rfl rfl) ?_
        refine rgn rfl (op_int (k := .i64) (m := x32) (n := a0.fN) rfl rfl rfl rfl rfl rfl) ?_
        refine rgn rfl (op_move rfl rfl rfl rfl) ?_
        rcases ite_some hF with ⟨hb67, hF⟩ | ⟨hb67, hF⟩
        · refine rgn hb67 (op_load_lp_agg (ps := eGOwner y58) rfl rfl rfl rfl rfl rfl Tryd_agg_23 rfl rfl) ?_
          refine rgn hb67 (op_move rfl rfl rfl rfl) ?_
          obtain ⟨y68, h69, hF⟩ := bind_some hF
          refine rgn hb67 (op_call 2 rfl (caps := []) (args := [.agg (eGOwner y58), .int .i64 a1]) (rs := [.p (.bool y68)]) rfl rfl rfl Tryd_cal_35 (ref04_Right_ok h69) rfl rfl rfl) ?_
          refine rgn hb67 (op_not rfl rfl rfl rfl) ?_
          refine rgn hb67 (op_move rfl rfl rfl rfl) ?_
          rcases ite_some hF with ⟨hb70, hF⟩ | ⟨hb70, hF⟩
          · refine rgo_t hb70 ?_
            iterate 2 (refine rgo_t hb70 ?_)
            iterate 3 (refine rgu ?_)
            refine rgo_t hb70 ?_
            refine rgn hb67 (op_pick_t rfl rfl hb70 rfl rfl rfl) ?_
            refine rgn rfl (op_pick_t rfl rfl hb67 rfl rfl rfl) ?_
            refine rpf rfl ?_
            refine reg_nil ?_
            cases hF
            exact post_cut _ rfl (imps [0] ⟨by kernel_rfl, by kernel_rfl, by kernel_rfl, by kernel_rfl, trivial⟩ ⟨by kernel_rfl, trivial⟩)
          refine rgn hb70 (op_move rfl rfl rfl rfl) ?_
          refine rgn hb70 (op_int (k := .i64) (m := x32) (n := 0) rfl rfl rfl rfl rfl rfl) ?_
          refine rgn hb70 (op_move rfl rfl rfl rfl) ?_
          rcases ite_some hF with ⟨hb71, hF⟩ | ⟨hb71, hF⟩
          · refine rgn hb71 (op_field_lp rfl rfl Tryd_fld_23_0 rfl rfl) ?_
            refine rgn hb71 (op_load_lp (v := .pv (.int .i64 y58.fKind)) rfl rfl rfl rfl Tryd_one_3 rfl rfl) ?_
            refine rgn hb71 (op_int (k := .i64) (m := y58.fKind) (n := 6) rfl rfl rfl rfl rfl rfl) ?_
            refine rgn hb70 (op_pick_t rfl rfl hb71 rfl rfl rfl) ?_
            refine rgn hb67 (op_pick_f rfl rfl hb70 rfl rfl rfl) ?_
            refine rgn rfl (op_pick_t rfl rfl hb67 rfl rfl rfl) ?_
            refine rpf rfl ?_
            refine reg_nil ?_
            cases hF
            exact post_cut _ rfl (imps [0] ⟨by kernel_rfl, by kernel_rfl, by kernel_rfl, by kernel_rfl, trivial⟩ ⟨by kernel_rfl, trivial⟩)
          iterate 3 (refine rgo_f hb71 ?_)
          refine rgn hb70 (op_pick_f rfl rfl hb71 rfl rfl rfl) ?_
          refine rgn hb67 (op_pick_f rfl rfl hb70 rfl rfl rfl) ?_
          refine rgn rfl (op_pick_t rfl rfl hb67 rfl rfl rfl) ?_
          refine rpf rfl ?_
          refine reg_nil ?_
          cases hF
          exact post_cut _ rfl (imps [0] ⟨by kernel_rfl, by kernel_rfl, by kernel_rfl, by kernel_rfl, trivial⟩ ⟨by kernel_rfl, trivial⟩)
        iterate 5 (refine rgo_f hb67 ?_)
        iterate 7 (refine rgu ?_)
        refine rgo_f hb67 ?_
        refine rgn rfl (op_pick_f rfl rfl hb67 rfl rfl rfl) ?_
        refine rpf rfl ?_
        refine reg_nil ?_
        cases hF
        exact post_cut _ rfl (imps [0] ⟨by kernel_rfl, by kernel_rfl, by kernel_rfl, by kernel_rfl, trivial⟩ ⟨by kernel_rfl, trivial⟩)
      rintro _ rfl
      have hF := hK74
      clear hK74
      refine post_next ?_
      rcases ite_some hF with ⟨hb75, hF⟩ | ⟨hb75, hF⟩
      · refine aw_cond_t rfl hb75 ?_
        refine aw_seq ?_
        refine aw_region ?_
        refine ras ?_
        refine reg_nil ?_
        refine post_imp (s' := ⟨77, [(4, some (.pv (.bool false)))], [], 0, [], [], 0, []⟩) (imps [] ⟨by kernel_rfl, trivial⟩ trivial) ?_
        refine post_next ?_
        refine aw_ret ?_
        refine post_block_ret ?_
        iterate 2 (refine post_then_ret ?_)
        refine post_lp_ret ?_
        obtain rfl := Option.some.inj hF
        have hF := elim_stop hK78
        refine post_then_ret ?_
        obtain rfl := Option.some.inj hF
        exact prt
      refine aw_cond_f rfl hb75 ?_
      refine aw_skip ?_
      refine post_block_normal ?_
      refine post_next ?_
      refine aw_region ?_
      refine rmv ?_
      refine rgp (op_int (k := .i64) (m := x32) (n := 1) rfl rfl rfl rfl rfl rfl) ?_
      refine ras ?_
      refine reg_nil ?_
      refine post_round ?_
      exact rnd_back (ih (w_i64 (x32 + 1)) hF) (imps [0] ⟨by kernel_rfl, by kernel_rfl, by kernel_rfl, trivial⟩ ⟨by kernel_rfl, trivial⟩)
    refine aw_cond_f rfl hb55 ?_
    refine aw_exit ?_
    iterate 2 (refine post_then_exit ?_)
    obtain rfl := Option.some.inj hF
    exact post_lp_break _ ⟨_, rfl, rfl⟩ (imps [] trivial trivial)
  rintro _ ⟨⟨⟩, rfl, rfl⟩
  have hF := elim_next hK78
  clear hK78
  refine post_next ?_
  refine aw_seq ?_
  refine aw_region ?_
  refine ras ?_
  refine reg_nil ?_
  refine post_imp (s' := ⟨77, [(4, some (.pv (.bool true)))], [], 0, [], [], 0, []⟩) (imps [] ⟨by kernel_rfl, trivial⟩ trivial) ?_
  refine post_next ?_
  refine aw_ret ?_
  obtain rfl := Option.some.inj hF
  exact prt
theorem ref04_Text_ok {a0 : GOwner} {a1 : List (List UInt8)} {r : (List UInt8)} (hF : ref04_Text a0 a1 = some r) : Abs.Fn globs_Tryd Tryd.prog 38 [.agg (eGOwner a0), .vs 1 (List.map eS a1)] [.p (.str r)] := by
  unfold ref04_Text at hF
  refine fn_of_body (n := 26) Tryd.func38 rfl rfl rfl ?_
  intro w O
  refine aw_seq ?_
  refine aw_region ?_
  refine rgp (op_box 0 rfl rfl rfl rfl rfl rfl) ?_
  refine ras ?_
  refine reg_nil ?_
  refine post_imp (s' := ⟨26, [(1, some (.pv (.vs 1 (List.map eS a1)))), (2, some (.lp 0 0))], [(0, some (.box 23 (bxv (eGOwner a0))))], 1, [], [], 0, []⟩) (imps [0] ⟨by kernel_rfl, by kernel_rfl, trivial⟩ ⟨by kernel_rfl, trivial⟩) ?_
  refine post_next ?_
  iterate 2 (refine aw_seq ?_)
  refine aw_region ?_
  refine rgp (op_load_lp_agg (ps := eGOwner a0) rfl rfl rfl rfl rfl rfl Tryd_agg_23 rfl rfl) ?_
  refine rmv ?_
  refine rgp (op_len_vs (n := a1.length) rfl rfl (List.length_map ..) Tryd_slc_27 rfl rfl) ?_
  obtain ⟨y3, h4, hF⟩ := bind_some hF
  refine rgp (op_call 1 rfl (caps := []) (args := [.agg (eGOwner a0), .int .i64 (a1.length : Int)]) (rs := [.p (.bool y3)]) rfl rfl rfl Tryd_cal_35 (ref04_Right_ok h4) rfl rfl rfl) ?_
  refine rgp (op_not rfl rfl rfl rfl) ?_
  refine reg_nil ?_
  refine post_imp (s' := ⟨26, [(1, some (.pv (.vs 1 (List.map eS a1)))), (2, some (.lp 0 0)), (10, some (.pv (.bool (!y3))))], [(0, some (.box 23 (bxv (eGOwner a0))))], 1, [], [], 0, []⟩) (imps [0] ⟨by kernel_rfl, by kernel_rfl, by kernel_rfl, trivial⟩ ⟨by kernel_rfl, trivial⟩) ?_
  refine post_next ?_
  rcases ite_some hF with ⟨hb5, hF⟩ | ⟨hb5, hF⟩
  · refine aw_cond_t rfl hb5 ?_
    refine aw_seq ?_
    refine aw_region ?_
    refine ras ?_
    refine reg_nil ?_
    refine post_imp (s' := ⟨26, [(4, some (.pv (.str [])))], [], 0, [], [], 0, []⟩) (imps [] ⟨by kernel_rfl, trivial⟩ trivial) ?_
    refine post_next ?_
    refine aw_ret ?_
    refine post_then_ret ?_
    obtain rfl := Option.some.inj hF
    exact prt
  refine aw_cond_f rfl hb5 ?_
  refine aw_skip ?_
  refine post_next ?_
  iterate 2 (refine aw_seq ?_)
  refine aw_region ?_
  refine rgp (op_field_lp rfl rfl Tryd_fld_23_0 rfl rfl) ?_
  refine rgp (op_load_lp (v := .pv (.int .i64 a0.fKind)) rfl rfl rfl rfl Tryd_one_3 rfl rfl) ?_
  refine rgp (op_int (k := .i64) (m := a0.fKind) (n := 3) rfl rfl rfl rfl rfl rfl) ?_
  refine reg_nil ?_
  refine post_imp (s' := ⟨26, [(1, some (.pv (.vs 1 (List.map eS a1)))), (2, some (.lp 0 0)), (13, some (.pv (.bool (a0.fKind == 3))))], [(0, some (.box 23 (bxv (eGOwner a0))))], 1, [], [], 0, []⟩) (imps [0] ⟨by kernel_rfl, by kernel_rfl, by kernel_rfl, trivial⟩ ⟨by kernel_rfl, trivial⟩) ?_
  refine post_next ?_
  rcases ite_some hF with ⟨hb6, hF⟩ | ⟨hb6, hF⟩
  · refine aw_cond_t rfl hb6 ?_
    refine aw_seq ?_
    refine aw_region ?_
    refine rmv ?_
    refine rgp (op_field_lp rfl rfl Tryd_fld_23_1 rfl rfl) ?_
    refine rgp (op_load_lp (v := .pv (.int .i64 a0.fN)) rfl rfl rfl rfl Tryd_one_3 rfl rfl) ?_
    refine rgp (op_int (k := .i64) (m := a0.fN) (n := 1) rfl rfl rfl rfl rfl rfl) ?_
    obtain ⟨y7, h8, hF⟩ := bind_some hF
    refine rgp (op_index_vs (k := .i64) rfl rfl rfl (idx_map eS h8) Tryd_slc_27 rfl rfl) ?_
    refine rgp (op_load_vp (p := .str y7) rfl rfl rfl Tryd_one_9 rfl rfl) ?_
    refine ras ?_
    refine reg_nil ?_
    refine post_imp (s' := ⟨26, [(4, some (.pv (.str y7)))], [], 0, [], [], 0, []⟩) (imps [] ⟨by kernel_rfl, trivial⟩ trivial) ?_
    refine post_next ?_
    refine aw_ret ?_
    refine post_then_ret ?_
    obtain rfl := Option.some.inj hF
    exact prt
  refine aw_cond_f rfl hb6 ?_
  refine aw_skip ?_
  refine post_next ?_
  refine aw_seq ?_
  refine aw_region ?_
  refine rgp (op_lit (rows := List.map eS ([[], [114, 101, 112], [112, 101, 101, 114], [], [119, 111, 114, 108, 100], [97, 110, 121], [117, 110, 105, 113, 117, 101], [63]] : List (List UInt8))) (zs := [.str []]) rfl rfl Tryd_slc_27 Tryd_zer_9 (by exact ⟨rfl, trivial⟩) rfl rfl rfl rfl rfl rfl rfl rfl) ?_
  refine ras ?_
  refine reg_nil ?_
  refine post_imp (s' := ⟨26, [(2, some (.lp 0 0)), (5, some (.pv (.vs 1 (List.map eS [[], [114, 101, 112], [112, 101, 101, 114], [], [119, 111, 114, 108, 100], [97, 110, 121], [117, 110, 105, 113, 117, 101], [63]]))))], [(0, some (.box 23 (bxv (eGOwner a0))))], 1, [], [], 0, []⟩) (imps [0] ⟨by kernel_rfl, by kernel_rfl, trivial⟩ ⟨by kernel_rfl, trivial⟩) ?_
  refine post_next ?_
  refine aw_seq ?_
  refine aw_region ?_
  refine rmv ?_
  refine rgp (op_field_lp rfl rfl Tryd_fld_23_0 rfl rfl) ?_
  refine rgp (op_load_lp (v := .pv (.int .i64 a0.fKind)) rfl rfl rfl rfl Tryd_one_3 rfl rfl) ?_
  obtain ⟨y9, h10, hF⟩ := bind_some hF
  refine rgp (op_index_vs (k := .i64) rfl rfl rfl (idx_map eS h10) Tryd_slc_27 rfl rfl) ?_
  refine rgp (op_load_vp (p := .str y9) rfl rfl rfl Tryd_one_9 rfl rfl) ?_
  refine ras ?_
  refine reg_nil ?_
  refine post_imp (s' := ⟨26, [(4, some (.pv (.str y9)))], [], 0, [], [], 0, []⟩) (imps [] ⟨by kernel_rfl, trivial⟩ trivial) ?_
  refine post_next ?_
  refine aw_ret ?_
  obtain rfl := Option.some.inj hF
  exact prt
theorem ref05_Text_ok {a0 : GType} {a1 : List (List UInt8)} {r : (List UInt8)} (hF : ref05_Text a0 a1 = some r) : Abs.Fn globs_Tryd Tryd.prog 14 [.agg (eGType a0), .vs 1 (List.map eS a1)] [.p (.str r)] := by
  unfold ref05_Text at hF
  refine fn_of_body (n := 59) Tryd.func14 rfl rfl rfl ?_
  intro w O
  refine aw_seq ?_
  refine aw_region ?_
  refine rgp (op_box 0 rfl rfl rfl rfl rfl rfl) ?_
  refine ras ?_
  refine reg_nil ?_
  refine post_imp (s' := ⟨59, [(1, some (.pv (.vs 1 (List.map eS a1)))), (2, some (.lp 0 0))], [(0, some (.box 26 (bxv (eGType a0))))], 1, [], [], 0, []⟩) (imps [0] ⟨by kernel_rfl, by kernel_rfl, trivial⟩ ⟨by kernel_rfl, trivial⟩) ?_
  refine post_next ?_
  iterate 2 (refine aw_seq ?_)
  refine aw_region ?_
  refine rgp (op_load_lp_agg (ps := eGType a0) rfl rfl rfl rfl rfl rfl Tryd_agg_26 rfl rfl) ?_
  refine rmv ?_
  refine rgp (op_len_vs (n := a1.length) rfl rfl (List.length_map ..) Tryd_slc_27 rfl rfl) ?_
  obtain ⟨y3, h4, hF⟩ := bind_some hF
  refine rgp (op_call 1 rfl (caps := []) (args := [.agg (eGType a0), .int .i64 (a1.length : Int)]) (rs := [.p (.bool y3)]) rfl rfl rfl Tryd_cal_12 (ref05_Right_ok h4) rfl rfl rfl) ?_
  refine rgp (op_not rfl rfl rfl rfl) ?_
  refine reg_nil ?_
  refine post_imp (s' := ⟨59, [(1, some (.pv (.vs 1 (List.map eS a1)))), (2, some (.lp 0 0)), (11, some (.pv (.bool (!y3))))], [(0, some (.box 26 (bxv (eGType a0))))], 1, [], [], 0, []⟩) (imps [0] ⟨by kernel_rfl, by kernel_rfl, by kernel_rfl, trivial⟩ ⟨by kernel_rfl, trivial⟩) ?_
  refine post_next ?_
  rcases ite_some hF with ⟨hb5, hF⟩ | ⟨hb5, hF⟩
  · refine aw_cond_t rfl hb5 ?_
    refine aw_seq ?_
    refine aw_region ?_
    refine ras ?_
    refine reg_nil ?_
    refine post_imp (s' := ⟨59, [(4, some (.pv (.str [])))], [], 0, [], [], 0, []⟩) (imps [] ⟨by kernel_rfl, trivial⟩ trivial) ?_
    refine post_next ?_
    refine aw_ret ?_
    refine post_then_ret ?_
    obtain rfl := Option.some.inj hF
    exact prt
  refine aw_cond_f rfl hb5 ?_
  refine aw_skip ?_
  refine post_next ?_
  iterate 2 (refine aw_seq ?_)
  refine aw_region ?_
  refine rgp (op_field_lp rfl rfl Tryd_fld_26_0 rfl rfl) ?_
  refine rgp (op_load_lp (v := .pv (.int .i64 a0.fKind)) rfl rfl rfl rfl Tryd_one_3 rfl rfl) ?_
  refine rgp (op_int (k := .i64) (m := a0.fKind) (n := 0) rfl rfl rfl rfl rfl rfl) ?_
  refine reg_nil ?_
  refine post_imp (s' := ⟨59, [(1, some (.pv (.vs 1 (List.map eS a1)))), (2, some (.lp 0 0)), (14, some (.pv (.bool (a0.fKind == 0))))], [(0, some (.box 26 (bxv (eGType a0))))], 1, [], [], 0, []⟩) (imps [0] ⟨by kernel_rfl, by kernel_rfl, by kernel_rfl, trivial⟩ ⟨by kernel_rfl, trivial⟩) ?_
  refine post_next ?_
  rcases ite_some hF with ⟨hb6, hF⟩ | ⟨hb6, hF⟩
  · refine aw_cond_t rfl hb6 ?_
    refine aw_seq ?_
    refine aw_region ?_
    refine ras ?_
    refine reg_nil ?_
    refine post_imp (s' := ⟨59, [(4, some (.pv (.str [118, 111, 105, 100])))], [], 0, [], [], 0, []⟩) (imps [] ⟨by kernel_rfl, trivial⟩ trivial) ?_
    refine post_next ?_
    refine aw_ret ?_
    refine post_then_ret ?_
    obtain rfl := Option.some.inj hF
    exact prt
  refine aw_cond_f rfl hb6 ?_
  refine aw_skip ?_
  refine post_next ?_
  iterate 2 (refine aw_seq ?_)
  refine aw_region ?_
  refine rgp (op_field_lp rfl rfl Tryd_fld_26_0 rfl rfl) ?_
  refine rgp (op_load_lp (v := .pv (.int .i64 a0.fKind)) rfl rfl rfl rfl Tryd_one_3 rfl rfl) ?_
  refine rgp (op_int (k := .i64) (m := a0.fKind) (n := 1) rfl rfl rfl rfl rfl rfl) ?_
  refine reg_nil ?_
  refine post_imp (s' := ⟨59, [(1, some (.pv (.vs 1 (List.map eS a1)))), (2, some (.lp 0 0)), (17, some (.pv (.bool (a0.fKind == 1))))], [(0, some (.box 26 (bxv (eGType a0))))], 1, [], [], 0, []⟩) (imps [0] ⟨by kernel_rfl, by kernel_rfl, by kernel_rfl, trivial⟩ ⟨by kernel_rfl, trivial⟩) ?_
  refine post_next ?_
  rcases ite_some hF with ⟨hb7, hF⟩ | ⟨hb7, hF⟩
  · refine aw_cond_t rfl hb7 ?_
    refine aw_seq ?_
    refine aw_region ?_
    refine ras ?_
    refine reg_nil ?_
    refine post_imp (s' := ⟨59, [(4, some (.pv (.str [105, 110, 116])))], [], 0, [], [], 0, []⟩) (imps [] ⟨by kernel_rfl, trivial⟩ trivial) ?_
    refine post_next ?_
    refine aw_ret ?_
    refine post_then_ret ?_
    obtain rfl := Option.some.inj hF
    exact prt
  refine aw_cond_f rfl hb7 ?_
  refine aw_skip ?_
  refine post_next ?_
  refine aw_seq ?_
  refine aw_region ?_
  refine rgp (op_field_lp rfl rfl Tryd_fld_26_1 rfl rfl) ?_
  refine rgp (op_load_lp (v := .pv (.str a0.fClass)) rfl rfl rfl rfl Tryd_one_9 rfl rfl) ?_
  refine ras ?_
  refine reg_nil ?_
  refine post_imp (s' := ⟨59, [(1, some (.pv (.vs 1 (List.map eS a1)))), (2, some (.lp 0 0)), (5, some (.pv (.str a0.fClass)))], [(0, some (.box 26 (bxv (eGType a0))))], 1, [], [], 0, []⟩) (imps [0] ⟨by kernel_rfl, by kernel_rfl, by kernel_rfl, trivial⟩ ⟨by kernel_rfl, trivial⟩) ?_
  refine post_next ?_
  refine aw_seq ?_
  obtain ⟨x15, hF, hK17⟩ := bind_some hF
  refine aw_cut (fun s1 => s1 = ⟨59, [(1, some (.pv (.vs 1 (List.map eS a1)))), (2, some (.lp 0 0)), (5, some (.pv (.str x15)))], [(0, some (.box 26 (bxv (eGType a0))))], 1, [], [], 0, []⟩) ?_ ?_
  · refine aw_seq ?_
    refine aw_region ?_
    refine rgp (op_field_lp rfl rfl Tryd_fld_26_3 rfl rfl) ?_
    refine rgp (op_arr_lp (k := .i64) (m := 0) (n := 4) rfl rfl rfl Tryd_arr_24 rfl rfl rfl rfl) ?_
    refine rgp (op_field_lp rfl rfl Tryd_fld_23_0 rfl rfl) ?_
    refine rgp (op_load_lp (v := .pv (.int .i64 a0.fOwn.a0.fKind)) rfl rfl rfl rfl Tryd_one_3 rfl rfl) ?_
    refine rgp (op_int (k := .i64) (m := a0.fOwn.a0.fKind) (n := 7) rfl rfl rfl rfl rfl rfl) ?_
    refine reg_nil ?_
    refine post_imp (s' := ⟨59, [(1, some (.pv (.vs 1 (List.map eS a1)))), (2, some (.lp 0 0)), (5, some (.pv (.str a0.fClass))), (24, some (.pv (.bool (a0.fOwn.a0.fKind != 7))))], [(0, some (.box 26 (bxv (eGType a0))))], 1, [], [], 0, []⟩) (imps [0] ⟨by kernel_rfl, by kernel_rfl, by kernel_rfl, by kernel_rfl, trivial⟩ ⟨by kernel_rfl, trivial⟩) ?_
    refine post_next ?_
    rcases ite_some hF with ⟨hb8, hF⟩ | ⟨hb8, hF⟩
    · refine aw_cond_t rfl hb8 ?_
      refine aw_region ?_
      refine rgp (op_field_lp rfl rfl Tryd_fld_26_3 rfl rfl) ?_
      refine rgp (op_arr_lp (k := .i64) (m := 0) (n := 4) rfl rfl rfl Tryd_arr_24 rfl rfl rfl rfl) ?_
      refine rgp (op_load_lp_agg (ps := eGOwner a0.fOwn.a0) rfl rfl rfl rfl rfl rfl Tryd_agg_23 rfl rfl) ?_
      refine rmv ?_
      obtain ⟨y9, h10, hF⟩ := bind_some hF
      refine rgp (op_call 1 rfl (caps := []) (args := [.agg (eGOwner a0.fOwn.a0), .vs 1 (List.map eS a1)]) (rs := [.p (.str y9)]) rfl rfl rfl Tryd_cal_38 (ref04_Text_ok h10) rfl rfl rfl) ?_
      obtain ⟨u11, h12, hF⟩ := bind_some hF
      refine rgp (op_concat rfl rfl rfl (room_str h12) rfl rfl) ?_
      refine rmv ?_
      obtain ⟨u13, h14, hF⟩ := bind_some hF
      refine rgp (op_concat rfl rfl rfl (room_str h14) rfl rfl) ?_
      refine ras ?_
      refine reg_nil ?_
      cases hF
      exact post_cut _ rfl (imps [0] ⟨by kernel_rfl, by kernel_rfl, by kernel_rfl, trivial⟩ ⟨by kernel_rfl, trivial⟩)
    refine aw_cond_f rfl hb8 ?_
    refine aw_skip ?_
    cases hF
    exact post_cut _ rfl (imps [0] ⟨by kernel_rfl, by kernel_rfl, by kernel_rfl, trivial⟩ ⟨by kernel_rfl, trivial⟩)
  rintro _ rfl
  have hF := hK17
  clear hK17
  refine post_next ?_
  iterate 2 (refine aw_seq ?_)
  refine aw_region ?_
  refine ras ?_
  refine reg_nil ?_
  refine post_imp (s' := ⟨59, [(1, some (.pv (.vs 1 (List.map eS a1)))), (2, some (.lp 0 0)), (5, some (.pv (.str x15))), (6, some (.pv (.int .i64 1)))], [(0, some (.box 26 (bxv (eGType a0))))], 1, [], [], 0, []⟩) (imps [0] ⟨by kernel_rfl, by kernel_rfl, by kernel_rfl, by kernel_rfl, trivial⟩ ⟨by kernel_rfl, trivial⟩) ?_
  refine post_next ?_
  obtain ⟨x83, hF, hK84⟩ := bind_some hF
  refine aw_for 6 (fun s1 => s1 = ⟨59, [(2, some (.lp 0 0)), (5, some (.pv (.str x83)))], [(0, some (.box 26 (bxv (eGType a0))))], 1, [], [], 0, []⟩) ?_ ?_
  · refine rnd_loop (α := (List UInt8) × Int) (fun q => ⟨59, [(1, some (.pv (.vs 1 (List.map eS a1)))), (2, some (.lp 0 0)), (5, some (.pv (.str q.1))), (6, some (.pv (.int .i64 q.2)))], [(0, some (.box 26 (bxv (eGType a0))))], 1, [], [], 0, []⟩) (fun k q => ref05_Text_L1 a0 a1 k q.1 q.2 = some x83) (x15, 1) (imps [0] ⟨by kernel_rfl, by kernel_rfl, by kernel_rfl, by kernel_rfl, trivial⟩ ⟨by kernel_rfl, trivial⟩) hF (fun q h => by cases h) ?_
    clear hF
    rintro k ⟨x35, x36⟩ hF ih
    refine rnd_succ ?_
    iterate 2 (refine aw_seq ?_)
    refine aw_region ?_
    refine rmv ?_
    refine rgp (op_field_lp rfl rfl Tryd_fld_26_2 rfl rfl) ?_
    refine rgp (op_load_lp (v := .pv (.int .i64 a0.fN)) rfl rfl rfl rfl Tryd_one_3 rfl rfl) ?_
    refine rgp (op_int (k := .i64) (m := x36) (n := a0.fN) rfl rfl rfl rfl rfl rfl) ?_
    refine reg_nil ?_
    refine post_imp (s' := ⟨59, [(1, some (.pv (.vs 1 (List.map eS a1)))), (2, some (.lp 0 0)), (5, some (.pv (.str x35))), (6, some (.pv (.int .i64 x36))), (36, some (.pv (.bool (decide (x36 ≤ a0.fN)))))], [(0, some (.box 26 (bxv (eGType a0))))], 1, [], [], 0, []⟩) (imps [0] ⟨by kernel_rfl, by kernel_rfl, by kernel_rfl, by kernel_rfl, by kernel_rfl, trivial⟩ ⟨by kernel_rfl, trivial⟩) ?_
    refine post_next ?_
    rcases ite_some hF with ⟨hb60, hF⟩ | ⟨hb60, hF⟩
    · refine aw_cond_t rfl hb60 ?_
      refine aw_skip ?_
      refine post_next ?_
      refine aw_seq ?_
      refine aw_block ?_
      refine aw_seq ?_
      obtain ⟨x66, hF, hK68⟩ := bind_some hF
      refine aw_cut (fun s1 => s1 = ⟨59, [(1, some (.pv (.vs 1 (List.map eS a1)))), (2, some (.lp 0 0)), (5, some (.pv (.str x66))), (6, some (.pv (.int .i64 x36)))], [(0, some (.box 26 (bxv (eGType a0))))], 1, [], [], 0, []⟩) ?_ ?_
      · refine aw_seq ?_
        refine aw_region ?_
        refine rmv ?_
        refine rgp (op_int (k := .i64) (m := x36) (n := 1) rfl rfl rfl rfl rfl rfl) ?_
        refine reg_nil ?_
        refine post_imp (s' := ⟨59, [(1, some (.pv (.vs 1 (List.map eS a1)))), (2, some (.lp 0 0)), (5, some (.pv (.str x35))), (6, some (.pv (.int .i64 x36))), (40, some (.pv (.bool (x36 == 1))))], [(0, some (.box 26 (bxv (eGType a0))))], 1, [], [], 0, []⟩) (imps [0] ⟨by kernel_rfl, by kernel_rfl, by kernel_rfl, by kernel_rfl, by kernel_rfl, trivial⟩ ⟨by kernel_rfl, trivial⟩) ?_
        refine post_next ?_
        rcases ite_some hF with ⟨hb61, hF⟩ | ⟨hb61, hF⟩
        · refine aw_cond_t rfl hb61 ?_
          refine aw_region ?_
          refine rmv ?_
          obtain ⟨u62, h63, hF⟩ := bind_some hF
          refine rgp (op_concat rfl rfl rfl (room_str h63) rfl rfl) ?_
          refine ras ?_
          refine reg_nil ?_
          cases hF
          exact post_cut _ rfl (imps [0] ⟨by kernel_rfl, by kernel_rfl, by kernel_rfl, by kernel_rfl, trivial⟩ ⟨by kernel_rfl, trivial⟩)
        refine aw_cond_f rfl hb61 ?_
        refine aw_region ?_
        refine rmv ?_
        obtain ⟨u64, h65, hF⟩ := bind_some hF
        refine rgp (op_concat rfl rfl rfl (room_str h65) rfl rfl) ?_
        refine ras ?_
        refine reg_nil ?_
        cases hF
        exact post_cut _ rfl (imps [0] ⟨by kernel_rfl, by kernel_rfl, by kernel_rfl, by kernel_rfl, trivial⟩ ⟨by kernel_rfl, trivial⟩)
      rintro _ rfl
      have hF := hK68
      clear hK68
      refine post_next ?_
      refine aw_region ?_
      iterate 2 (refine rmv ?_)
      refine rgp (op_field_lp rfl rfl Tryd_fld_26_3 rfl rfl) ?_
      obtain ⟨y75, h76, hF⟩ := bind_some hF
      refine rgp (op_arr_lpN (l := (a0.fOwn).l) rfl rfl rfl Tryd_arr_24 rfl h76 rfl rfl) ?_
      refine rgp (op_load_lp_agg (ps := eGOwner y75) rfl rfl rfl (arr_cellsN (l := (a0.fOwn).l) (f := eGOwner) rfl (fun _ => rfl) rfl h76) rfl rfl Tryd_agg_23 rfl rfl) ?_
      refine rmv ?_
      obtain ⟨y77, h78, hF⟩ := bind_some hF
      refine rgp (op_call 1 rfl (caps := []) (args := [.agg (eGOwner y75), .vs 1 (List.map eS a1)]) (rs := [.p (.str y77)]) rfl rfl rfl Tryd_cal_38 (ref04_Text_ok h78) rfl rfl rfl) ?_
      obtain ⟨u79, h80, hF⟩ := bind_some hF
      refine rgp (op_concat rfl rfl rfl (room_str h80) rfl rfl) ?_
      refine ras ?_
      refine reg_nil ?_
      refine post_imp (s' := ⟨59, [(1, some (.pv (.vs 1 (List.map eS a1)))), (2, some (.lp 0 0)), (5, some (.pv (.str (x66 ++ y77)))), (6, some (.pv (.int .i64 x36)))], [(0, some (.box 26 (bxv (eGType a0))))], 1, [], [], 0, []⟩) (imps [0] ⟨by kernel_rfl, by kernel_rfl, by kernel_rfl, by kernel_rfl, trivial⟩ ⟨by kernel_rfl, trivial⟩) ?_
      refine post_block_normal ?_
      refine post_next ?_
      refine aw_region ?_
      refine rmv ?_
      refine rgp (op_int (k := .i64) (m := x36) (n := 1) rfl rfl rfl rfl rfl rfl) ?_
      refine ras ?_
      refine reg_nil ?_
      refine post_round ?_
      exact rnd_back (ih ((x66 ++ y77), w_i64 (x36 + 1)) hF) (imps [0] ⟨by kernel_rfl, by kernel_rfl, by kernel_rfl, by kernel_rfl, trivial⟩ ⟨by kernel_rfl, trivial⟩)
    refine aw_cond_f rfl hb60 ?_
    refine aw_exit ?_
    iterate 2 (refine post_then_exit ?_)
    obtain rfl := Option.some.inj hF
    exact post_lp_break _ rfl (imps [0] ⟨by kernel_rfl, by kernel_rfl, trivial⟩ ⟨by kernel_rfl, trivial⟩)
  rintro _ rfl
  have hF := hK84
  clear hK84
  refine post_next ?_
  iterate 2 (refine aw_seq ?_)
  refine aw_region ?_
  refine rgp (op_field_lp rfl rfl Tryd_fld_26_2 rfl rfl) ?_
  refine rgp (op_load_lp (v := .pv (.int .i64 a0.fN)) rfl rfl rfl rfl Tryd_one_3 rfl rfl) ?_
  refine rgp (op_int (k := .i64) (m := a0.fN) (n := 0) rfl rfl rfl rfl rfl rfl) ?_
  refine reg_nil ?_
  refine post_imp (s' := ⟨59, [(5, some (.pv (.str x83))), (55, some (.pv (.bool (decide (a0.fN > 0)))))], [], 0, [], [], 0, []⟩) (imps [] ⟨by kernel_rfl, by kernel_rfl, trivial⟩ trivial) ?_
  refine post_next ?_
  rcases ite_some hF with ⟨hb85, hF⟩ | ⟨hb85, hF⟩
  · refine aw_cond_t rfl hb85 ?_
    refine aw_region ?_
    refine rmv ?_
    obtain ⟨u86, h87, hF⟩ := bind_some hF
    refine rgp (op_concat rfl rfl rfl (room_str h87) rfl rfl) ?_
    refine ras ?_
    refine reg_nil ?_
    refine post_imp (s' := ⟨59, [(5, some (.pv (.str (x83 ++ [62]))))], [], 0, [], [], 0, []⟩) (imps [] ⟨by kernel_rfl, trivial⟩ trivial) ?_
    refine post_next ?_
    refine aw_seq ?_
    refine aw_region ?_
    refine rmv ?_
    refine ras ?_
    refine reg_nil ?_
    refine post_imp (s' := ⟨59, [(4, some (.pv (.str (x83 ++ [62]))))], [], 0, [], [], 0, []⟩) (imps [] ⟨by kernel_rfl, trivial⟩ trivial) ?_
    refine post_next ?_
    refine aw_ret ?_
    obtain rfl := Option.some.inj hF
    exact prt
  refine aw_cond_f rfl hb85 ?_
  refine aw_skip ?_
  refine post_next ?_
  refine aw_seq ?_
  refine aw_region ?_
  refine rmv ?_
  refine ras ?_
  refine reg_nil ?_
  refine post_imp (s' := ⟨59, [(4, some (.pv (.str x83)))], [], 0, [], [], 0, []⟩) (imps [] ⟨by kernel_rfl, trivial⟩ trivial) ?_
  refine post_next ?_
  refine aw_ret ?_
  obtain rfl := Option.some.inj hF
  exact prt
theorem law05_KindTells_ok {a0 : GType} {a1 : Int} {a2 : List (List UInt8)} {r : Bool} (hF : law05_KindTells a0 a1 a2 = some r) : Abs.Fn globs_Tryd Tryd.prog 3 [.agg (eGType a0), .int .i64 a1, .vs 1 (List.map eS a2)] [.p (.bool r)] := by
  unfold law05_KindTells at hF
  refine fn_of_body (n := 36) Tryd.func3 rfl rfl rfl ?_
  intro w O
  refine aw_seq ?_
  refine aw_region ?_
  refine rgp (op_box 0 rfl rfl rfl rfl rfl rfl) ?_
  refine ras ?_
  refine reg_nil ?_
  refine post_imp (s' := ⟨36, [(1, some (.pv (.int .i64 a1))), (2, some (.pv (.vs 1 (List.map eS a2)))), (3, some (.lp 0 0))], [(0, some (.box 26 (bxv (eGType a0))))], 1, [], [], 0, []⟩) (imps [0] ⟨by kernel_rfl, by kernel_rfl, by kernel_rfl, trivial⟩ ⟨by kernel_rfl, trivial⟩) ?_
  refine post_next ?_
  iterate 2 (refine aw_seq ?_)
  obtain ⟨x2, hF, hK4⟩ := bind_some hF
  refine aw_cut (fun s1 => s1 = ⟨36, [(1, some (.pv (.int .i64 a1))), (2, some (.pv (.vs 1 (List.map eS a2)))), (3, some (.lp 0 0)), (15, some (.pv (.bool x2)))], [(0, some (.box 26 (bxv (eGType a0))))], 1, [], [], 0, []⟩) ?_ ?_
  · refine aw_region ?_
    refine rmv ?_
    refine rgp (op_len_vs (n := a2.length) rfl rfl (List.length_map ..) Tryd_slc_27 rfl rfl) ?_
    refine rgp (op_int (k := .i64) (m := (a2.length : Int)) (n := 20) rfl rfl rfl rfl rfl rfl) ?_
    refine rmv ?_
    rcases ite_some hF with ⟨hb1, hF⟩ | ⟨hb1, hF⟩
    · refine rgo_t hb1 ?_
      iterate 3 (refine rgo_t hb1 ?_)
      refine rpt hb1 ?_
      refine reg_nil ?_
      cases hF
      exact post_cut _ rfl (imps [0] ⟨by kernel_rfl, by kernel_rfl, by kernel_rfl, by kernel_rfl, trivial⟩ ⟨by kernel_rfl, trivial⟩)
    refine rgn hb1 (op_field_lp rfl rfl Tryd_fld_26_1 rfl rfl) ?_
    refine rgn hb1 (op_load_lp (v := .pv (.str a0.fClass)) rfl rfl rfl rfl Tryd_one_9 rfl rfl) ?_
    refine rgn hb1 (op_len_str rfl rfl Tryd_und_9 rfl rfl) ?_
    refine rgn hb1 (op_int (k := .i64) (m := (a0.fClass.length : Int)) (n := 60) rfl rfl rfl rfl rfl rfl) ?_
    refine rpf hb1 ?_
    refine reg_nil ?_
    cases hF
    exact post_cut _ rfl (imps [0] ⟨by kernel_rfl, by kernel_rfl, by kernel_rfl, by kernel_rfl, trivial⟩ ⟨by kernel_rfl, trivial⟩)
  rintro _ rfl
  have hF := hK4
  clear hK4
  refine post_next ?_
  rcases ite_some hF with ⟨hb5, hF⟩ | ⟨hb5, hF⟩
  · refine aw_cond_t rfl hb5 ?_
    refine aw_seq ?_
    refine aw_region ?_
    obtain ⟨y6, h7, hF⟩ := bind_some hF
    refine rgp (op_call 1 rfl (caps := []) (args := []) (rs := [.p (.bool y6)]) rfl rfl rfl Tryd_cal_10 (law05_awake_ok h7) rfl rfl rfl) ?_
    refine ras ?_
    refine reg_nil ?_
    refine post_imp (s' := ⟨36, [(6, some (.pv (.bool y6)))], [], 0, [], [], 0, []⟩) (imps [] ⟨by kernel_rfl, trivial⟩ trivial) ?_
    refine post_next ?_
    refine aw_ret ?_
    refine post_then_ret ?_
    obtain rfl := Option.some.inj hF
    exact prt
  refine aw_cond_f rfl hb5 ?_
  refine aw_skip ?_
  refine post_next ?_
  refine aw_seq ?_
  refine dr_start ⟨_, _, _⟩ rfl ?_
  refine dr_cons { need := [(3, .lp 0 0)], hneed := [(0, .box 26 (bxv (eGType a0)))], dst := some 17, val := some (.pv (.agg (eGType a0))) } (fun m h => step_on (guard_no rfl) (op_load_lp_agg (ps := eGType a0) rfl h.1.1 h.2.1.1 rfl rfl rfl Tryd_agg_26 rfl rfl) rfl) ⟨⟨rfl, trivial⟩, ⟨rfl, trivial⟩, trivial⟩ ?_
  refine drm ?_
  obtain ⟨y8, h9, hF⟩ := bind_some hF
  refine dr_cons { need := [(18, .pv (.int .i64 a1)), (17, .pv (.agg (eGType a0)))], dst := some 19, val := some (.pv (.bool y8)) } (fun m h => step_on (guard_no rfl) (op_call 1 rfl (caps := []) (args := [.agg (eGType a0), .int .i64 a1]) (rs := [.p (.bool y8)]) rfl rfl (evl_cons h.1.2.1 (evl_cons h.1.1 evl_nil)) Tryd_cal_11 (kind_Right_ok h9) rfl rfl rfl) rfl) ⟨⟨rfl, rfl, trivial⟩, trivial, trivial⟩ ?_
  refine dr_cons { need := [(3, .lp 0 0)], hneed := [(0, .box 26 (bxv (eGType a0)))], dst := some 20, val := some (.pv (.agg (eGType a0))) } (fun m h => step_on (guard_no rfl) (op_load_lp_agg (ps := eGType a0) rfl h.1.1 h.2.1.1 rfl rfl rfl Tryd_agg_26 rfl rfl) rfl) ⟨⟨rfl, trivial⟩, ⟨rfl, trivial⟩, trivial⟩ ?_
  refine drm ?_
  obtain ⟨y10, h11, hF⟩ := bind_some hF
  refine dr_cons { need := [(21, .pv (.int .i64 a1)), (20, .pv (.agg (eGType a0)))], dst := some 22, val := some (.pv (.bool y10)) } (fun m h => step_on (guard_no rfl) (op_call 1 rfl (caps := []) (args := [.agg (eGType a0), .int .i64 a1]) (rs := [.p (.bool y10)]) rfl rfl (evl_cons h.1.2.1 (evl_cons h.1.1 evl_nil)) Tryd_cal_12 (ref05_Right_ok h11) rfl rfl rfl) rfl) ⟨⟨rfl, rfl, trivial⟩, trivial, trivial⟩ ?_
  refine dr_cons { need := [(19, .pv (.bool y8)), (22, .pv (.bool y10))], dst := some 23, val := some (.pv (.bool (y8 == y10))) } (fun m h => step_on (guard_no rfl) (op_eqBool_eql rfl h.1.1 h.1.2.1 Tryd_und_4 rfl rfl) rfl) ⟨⟨rfl, rfl, trivial⟩, trivial, trivial⟩ ?_
  refine drm ?_
  rcases ite_some hF with ⟨hb12, hF⟩ | ⟨hb12, hF⟩
  · refine dr_cons { need := [(24, .pv (.bool (y8 == y10))), (3, .lp 0 0)], hneed := [(0, .box 26 (bxv (eGType a0)))], dst := some 25, val := some (.pv (.agg (eGType a0))) } (fun m h => step_on (guard_on rfl rfl rfl h.1.1 hb12) (op_load_lp_agg (ps := eGType a0) rfl h.1.2.1 h.2.1.1 rfl rfl rfl Tryd_agg_26 rfl rfl) rfl) ⟨⟨rfl, rfl, trivial⟩, ⟨rfl, trivial⟩, trivial⟩ ?_
    refine dr_cons { need := [(24, .pv (.bool (y8 == y10))), (2, .pv (.vs 1 (List.map eS a2)))], dst := some 26, val := some (.pv (.vs 1 (List.map eS a2))) } (fun m h => step_on (guard_on rfl rfl rfl h.1.1 hb12) (op_move rfl h.1.2.1 rfl rfl) rfl) ⟨⟨rfl, rfl, trivial⟩, trivial, trivial⟩ ?_
    obtain ⟨y13, h14, hF⟩ := bind_some hF
    refine dr_cons { need := [(24, .pv (.bool (y8 == y10))), (26, .pv (.vs 1 (List.map eS a2))), (25, .pv (.agg (eGType a0)))], dst := some 27, val := some (.pv (.str y13)) } (fun m h => step_on (guard_on rfl rfl rfl h.1.1 hb12) (op_call 1 rfl (caps := []) (args := [.agg (eGType a0), .vs 1 (List.map eS a2)]) (rs := [.p (.str y13)]) rfl rfl (evl_cons h.1.2.2.1 (evl_cons h.1.2.1 evl_nil)) Tryd_cal_13 (kind_Text_ok h14) rfl rfl rfl) rfl) ⟨⟨rfl, rfl, rfl, trivial⟩, trivial, trivial⟩ ?_
    refine dr_cons { need := [(24, .pv (.bool (y8 == y10))), (3, .lp 0 0)], hneed := [(0, .box 26 (bxv (eGType a0)))], dst := some 28, val := some (.pv (.agg (eGType a0))) } (fun m h => step_on (guard_on rfl rfl rfl h.1.1 hb12) (op_load_lp_agg (ps := eGType a0) rfl h.1.2.1 h.2.1.1 rfl rfl rfl Tryd_agg_26 rfl rfl) rfl) ⟨⟨rfl, rfl, trivial⟩, ⟨rfl, trivial⟩, trivial⟩ ?_
    refine dr_cons { need := [(24, .pv (.bool (y8 == y10))), (2, .pv (.vs 1 (List.map eS a2)))], dst := some 29, val := some (.pv (.vs 1 (List.map eS a2))) } (fun m h => step_on (guard_on rfl rfl rfl h.1.1 hb12) (op_move rfl h.1.2.1 rfl rfl) rfl) ⟨⟨rfl, rfl, trivial⟩, trivial, trivial⟩ ?_
    obtain ⟨y15, h16, hF⟩ := bind_some hF
    refine dr_cons { need := [(24, .pv (.bool (y8 == y10))), (29, .pv (.vs 1 (List.map eS a2))), (28, .pv (.agg (eGType a0)))], dst := some 30, val := some (.pv (.str y15)) } (fun m h => step_on (guard_on rfl rfl rfl h.1.1 hb12) (op_call 1 rfl (caps := []) (args := [.agg (eGType a0), .vs 1 (List.map eS a2)]) (rs := [.p (.str y15)]) rfl rfl (evl_cons h.1.2.2.1 (evl_cons h.1.2.1 evl_nil)) Tryd_cal_14 (ref05_Text_ok h16) rfl rfl rfl) rfl) ⟨⟨rfl, rfl, rfl, trivial⟩, trivial, trivial⟩ ?_
    refine dr_cons { need := [(24, .pv (.bool (y8 == y10))), (27, .pv (.str y13)), (30, .pv (.str y15))], dst := some 31, val := some (.pv (.bool (y13 == y15))) } (fun m h => step_on (guard_on rfl rfl rfl h.1.1 hb12) (op_str rfl h.1.2.1 h.1.2.2.1 rfl rfl rfl) rfl) ⟨⟨rfl, rfl, rfl, trivial⟩, trivial, trivial⟩ ?_
    refine dr_cons { need := [(24, .pv (.bool (y8 == y10))), (31, .pv (.bool (y13 == y15)))], dst := some 32, val := some (.pv (.bool (y13 == y15))) } (fun m h => step_on (guard_no rfl) (op_pick_t rfl h.1.1 hb12 h.1.2.1 rfl rfl) rfl) ⟨⟨rfl, rfl, trivial⟩, trivial, trivial⟩ ?_
    refine drm ?_
    rcases ite_some hF with ⟨hb17, hF⟩ | ⟨hb17, hF⟩
    · obtain ⟨y18, h19, hF⟩ := bind_some hF
      refine dr_cons { need := [(33, .pv (.bool (y13 == y15)))], dst := some 34, val := some (.pv (.bool y18)) } (fun m h => step_on (guard_on rfl rfl rfl h.1.1 hb17) (op_call 1 rfl (caps := []) (args := []) (rs := [.p (.bool y18)]) rfl rfl evl_nil Tryd_cal_10 (law05_awake_ok h19) rfl rfl rfl) rfl) ⟨⟨rfl, trivial⟩, trivial, trivial⟩ ?_
      refine dr_cons { need := [(33, .pv (.bool (y13 == y15))), (34, .pv (.bool y18))], dst := some 35, val := some (.pv (.bool y18)) } (fun m h => step_on (guard_no rfl) (op_pick_t rfl h.1.1 hb17 h.1.2.1 rfl rfl) rfl) ⟨⟨rfl, rfl, trivial⟩, trivial, trivial⟩ ?_
      refine dr_cons { need := [(35, .pv (.bool y18))], dst := some 6, val := some (.pv (.bool y18)) } (fun m h => step_on (guard_no rfl) (op_assign rfl h.1.1 rfl rfl) rfl) ⟨⟨rfl, trivial⟩, trivial, trivial⟩ ?_
      refine dr_nil Tryd_mixed rfl (by kernel_rfl) ?_
      refine post_imp (s' := ⟨36, [(6, some (.pv (.bool y18)))], [], 0, [], [], 0, []⟩) (imps [] ⟨by kernel_rfl, trivial⟩ trivial) ?_
      refine post_next ?_
      refine aw_ret ?_
      obtain rfl := Option.some.inj hF
      exact prt
    refine dro_f hb17 ?_
    refine drpf hb17 ?_
    refine dr_cons { need := [(35, .pv (.bool false))], dst := some 6, val := some (.pv (.bool false)) } (fun m h => step_on (guard_no rfl) (op_assign rfl h.1.1 rfl rfl) rfl) ⟨⟨rfl, trivial⟩, trivial, trivial⟩ ?_
    refine dr_nil Tryd_mixed rfl (by kernel_rfl) ?_
    refine post_imp (s' := ⟨36, [(6, some (.pv (.bool false)))], [], 0, [], [], 0, []⟩) (imps [] ⟨by kernel_rfl, trivial⟩ trivial) ?_
    refine post_next ?_
    refine aw_ret ?_
    obtain rfl := Option.some.inj hF
    exact prt
  iterate 7 (refine dro_f hb12 ?_)
  refine drpf hb12 ?_
  refine drm ?_
  refine dro_f rfl ?_
  refine drpf rfl ?_
  refine dr_cons { need := [(35, .pv (.bool false))], dst := some 6, val := some (.pv (.bool false)) } (fun m h => step_on (guard_no rfl) (op_assign rfl h.1.1 rfl rfl) rfl) ⟨⟨rfl, trivial⟩, trivial, trivial⟩ ?_
  refine dr_nil Tryd_mixed rfl (by kernel_rfl) ?_
  refine post_imp (s' := ⟨36, [(6, some (.pv (.bool false)))], [], 0, [], [], 0, []⟩) (imps [] ⟨by kernel_rfl, trivial⟩ trivial) ?_
  refine post_next ?_
  refine aw_ret ?_
  obtain rfl := Option.some.inj hF
  exact prt
end Go.Proofs.YtkmaieldmcjbfaaDoor
