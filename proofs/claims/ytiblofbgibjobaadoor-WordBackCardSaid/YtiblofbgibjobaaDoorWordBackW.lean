/- A part of the proof that the law WordBack gives true for every input. -/
import Derived.Test.YtiblofbgibjobaaDoorWordBackT
import Derived.Test.YtiblofbgibjobaaDoorWordBackX
/- Each Go function computes its plain function. -/
namespace Go.Proofs.YtiblofbgibjobaaDoor
open Go.RowKit Go.Abs
set_option maxRecDepth 100000
set_option maxHeartbeats 4000000
theorem word_Digit_ok {a0 : Int} {r : Bool} (hF : word_Digit a0 = some r) : Abs.Fn globs_Tryd Tryd.prog 16 [.int .u8 a0] [.p (.bool r)] := by
  unfold word_Digit at hF
  refine fn_of_body (n := 6) Tryd.func16 rfl rfl rfl ?_
  intro w O
  refine aw_seq ?_
  refine aw_region ?_
  refine ras ?_
  refine reg_nil ?_
  refine post_imp (s' := ⟨6, [(0, some (.pv (.int .u8 a0)))], [], 0, [], [], 0, []⟩) (imps [] ⟨by kernel_rfl, trivial⟩ trivial) ?_
  refine post_next ?_
  refine aw_seq ?_
  refine aw_region ?_
  refine rmv ?_
  refine rgp (op_int (k := .u8) (m := a0) (n := 48) rfl rfl rfl rfl rfl rfl) ?_
  refine rgp (op_int (k := .u8) (m := w_u8 (a0 - 48)) (n := 10) rfl rfl rfl rfl rfl rfl) ?_
  refine ras ?_
  refine reg_nil ?_
  refine post_imp (s' := ⟨6, [(2, some (.pv (.bool (decide ((w_u8 (a0 - 48)) < 10)))))], [], 0, [], [], 0, []⟩) (imps [] ⟨by kernel_rfl, trivial⟩ trivial) ?_
  refine post_next ?_
  refine aw_ret ?_
  obtain rfl := Option.some.inj hF
  exact prt
theorem slices_Reverse_byte_w_ok {b0 : List Int} {r : (List Int)} (hF : slices_Reverse_byte_w b0 = some r) : Abs.FnW globs_Tryd Tryd.prog 23 [.ls 0] [(0, some (.row 5 1 (List.map eI_u8 b0)))] 1 [(0, 0)] [] [(0, some (.row 5 1 (List.map eI_u8 r)))] 1 := by
  unfold slices_Reverse_byte_w at hF
  refine fnW_of_body (n := 28) (m := 1) [0] Tryd.func23 rfl rfl rfl ?_
  intro c w O θ hcx
  refine aw_seq ?_
  refine aw_region ?_
  refine rmv ?_
  refine rgp (op_len_ls (n := b0.length) rfl rfl rfl (List.length_map ..) Tryd_slc_33 rfl rfl) ?_
  refine rgp (op_int (k := .i64) (m := (b0.length : Int)) (n := 1) rfl rfl rfl rfl rfl rfl) ?_
  iterate 2 (refine ras ?_)
  refine reg_nil ?_
  refine post_imp (s' := ⟨28, [(0, some (.ls 0)), (2, some (.pv (.int .i64 0))), (3, some (.pv (.int .i64 (w_i64 ((b0.length : Int) - 1)))))], [(0, some (.row 5 1 (List.map eI_u8 b0)))], 1, [], [], 0, [0]⟩) (imps [0] ⟨by kernel_rfl, by kernel_rfl, by kernel_rfl, trivial⟩ ⟨by kernel_rfl, trivial⟩) ?_
  refine post_next ?_
  obtain ⟨x61, hF, hK62⟩ := bind_some hF
  refine aw_for (b0.length + 1) (fun s1 => s1 = ⟨28, [(0, some (.ls 0))], [(0, some (.row 5 1 (List.map eI_u8 x61)))], 1, [], [], 0, [0]⟩) ?_ ?_
  · refine rnd_loop (α := (List Int) × Int × Int) (fun q => ⟨28, [(0, some (.ls 0)), (2, some (.pv (.int .i64 q.2.1))), (3, some (.pv (.int .i64 q.2.2)))], [(0, some (.row 5 1 (List.map eI_u8 q.1)))], 1, [], [], 0, [0]⟩) (fun k q => slices_Reverse_byte_w_L1 k q.1 q.2.1 q.2.2 = some x61) (b0, 0, w_i64 ((b0.length : Int) - 1)) (imps [0] ⟨by kernel_rfl, by kernel_rfl, by kernel_rfl, trivial⟩ ⟨by kernel_rfl, trivial⟩) hF (fun q h => by cases h) ?_
    clear hF
    rintro k ⟨x18, x19, x20⟩ hF ih
    refine rnd_succ ?_
    iterate 2 (refine aw_seq ?_)
    refine aw_region ?_
    iterate 2 (refine rmv ?_)
    refine rgp (op_int (k := .i64) (m := x19) (n := x20) rfl rfl rfl rfl rfl rfl) ?_
    refine reg_nil ?_
    refine post_imp (s' := ⟨28, [(0, some (.ls 0)), (2, some (.pv (.int .i64 x19))), (3, some (.pv (.int .i64 x20))), (9, some (.pv (.bool (decide (x19 < x20)))))], [(0, some (.row 5 1 (List.map eI_u8 x18)))], 1, [], [], 0, [0]⟩) (imps [0] ⟨by kernel_rfl, by kernel_rfl, by kernel_rfl, by kernel_rfl, trivial⟩ ⟨by kernel_rfl, trivial⟩) ?_
    refine post_next ?_
    rcases ite_some hF with ⟨hb41, hF⟩ | ⟨hb41, hF⟩
    · refine aw_cond_t rfl hb41 ?_
      refine aw_skip ?_
      refine post_next ?_
      refine aw_seq ?_
      refine aw_block ?_
      refine dr_start ⟨_, _, _⟩ rfl ?_
      iterate 6 (refine drm ?_)
      obtain ⟨y50, h51, hF⟩ := bind_some hF
      refine dr_cons { need := [(18, .ls 0), (19, .pv (.int .i64 x20))], hneed := [(0, .row 5 1 (List.map eI_u8 x18))], dst := some 20, val := some (.le 0 1 (x20 : Int).toNat 0) } (fun m h => step_on (guard_no rfl) (op_index_ls (k := .i64) rfl h.1.1 h.1.2.1 h.2.1.1 (idx_map eI_u8 h51) Tryd_slc_33 rfl rfl) rfl) ⟨⟨rfl, rfl, trivial⟩, ⟨rfl, trivial⟩, trivial⟩ ?_
      refine dr_cons { need := [(20, .le 0 1 (x20 : Int).toNat 0)], hneed := [(0, .row 5 1 (List.map eI_u8 x18))], dst := some 21, val := some (.pv (.int .u8 y50)) } (fun m h => step_on (guard_no rfl) (op_load_le (p := .int .u8 y50) rfl h.1.1 h.2.1.1 (map_get eI_u8 h51) rfl Tryd_one_5 rfl rfl) rfl) ⟨⟨rfl, trivial⟩, ⟨rfl, trivial⟩, trivial⟩ ?_
      iterate 2 (refine drm ?_)
      obtain ⟨y52, h53, hF⟩ := bind_some hF
      refine dr_cons { need := [(22, .ls 0), (23, .pv (.int .i64 x19))], hneed := [(0, .row 5 1 (List.map eI_u8 x18))], dst := some 24, val := some (.le 0 1 (x19 : Int).toNat 0) } (fun m h => step_on (guard_no rfl) (op_index_ls (k := .i64) rfl h.1.1 h.1.2.1 h.2.1.1 (idx_map eI_u8 h53) Tryd_slc_33 rfl rfl) rfl) ⟨⟨rfl, rfl, trivial⟩, ⟨rfl, trivial⟩, trivial⟩ ?_
      refine dr_cons { need := [(24, .le 0 1 (x19 : Int).toNat 0)], hneed := [(0, .row 5 1 (List.map eI_u8 x18))], dst := some 25, val := some (.pv (.int .u8 y52)) } (fun m h => step_on (guard_no rfl) (op_load_le (p := .int .u8 y52) rfl h.1.1 h.2.1.1 (map_get eI_u8 h53) rfl Tryd_one_5 rfl rfl) rfl) ⟨⟨rfl, trivial⟩, ⟨rfl, trivial⟩, trivial⟩ ?_
      obtain ⟨y54, h55, hF⟩ := bind_some hF
      refine dr_cons { need := [(14, .ls 0), (15, .pv (.int .i64 x19))], hneed := [(0, .row 5 1 (List.map eI_u8 x18))], dst := some 26, val := some (.le 0 1 (x19 : Int).toNat 0) } (fun m h => step_on (guard_no rfl) (op_index_ls (k := .i64) rfl h.1.1 h.1.2.1 h.2.1.1 (idx_map eI_u8 h55) Tryd_slc_33 rfl rfl) rfl) ⟨⟨rfl, rfl, trivial⟩, ⟨rfl, trivial⟩, trivial⟩ ?_
      refine dr_cons { need := [(26, .le 0 1 (x19 : Int).toNat 0), (21, .pv (.int .u8 y50))], hneed := [(0, .row 5 1 (List.map eI_u8 x18))], upd := [(0, some (.row 5 1 (List.map eI_u8 (x18.set (x19 : Int).toNat y50))))] } (fun m h => step_on (guard_no rfl) (op_store_le (n := 1) rfl h.1.1 h.1.2.1 rfl h.2.1.1 (map_get eI_u8 h55) (or_one Tryd_one_5) (by rw [Tryd_one_5]; rfl) rfl (map_set' eI_u8 x18 _ y50) rfl rfl) rfl) ⟨⟨rfl, rfl, trivial⟩, ⟨rfl, trivial⟩, trivial⟩ ?_
      obtain ⟨y56, h57, hF⟩ := bind_some hF
      refine dr_cons { need := [(16, .ls 0), (17, .pv (.int .i64 x20))], hneed := [(0, .row 5 1 (List.map eI_u8 (x18.set (x19 : Int).toNat y50)))], dst := some 27, val := some (.le 0 1 (x20 : Int).toNat 0) } (fun m h => step_on (guard_no rfl) (op_index_ls (k := .i64) rfl h.1.1 h.1.2.1 h.2.1.1 (idx_map eI_u8 h57) Tryd_slc_33 rfl rfl) rfl) ⟨⟨rfl, rfl, trivial⟩, ⟨rfl, trivial⟩, trivial⟩ ?_
      refine dr_cons { need := [(27, .le 0 1 (x20 : Int).toNat 0), (25, .pv (.int .u8 y52))], hneed := [(0, .row 5 1 (List.map eI_u8 (x18.set (x19 : Int).toNat y50)))], upd := [(0, some (.row 5 1 (List.map eI_u8 ((x18.set (x19 : Int).toNat y50).set (x20 : Int).toNat y52))))] } (fun m h => step_on (guard_no rfl) (op_store_le (n := 1) rfl h.1.1 h.1.2.1 rfl h.2.1.1 (map_get eI_u8 h57) (or_one Tryd_one_5) (by rw [Tryd_one_5]; rfl) rfl (map_set' eI_u8 (x18.set (x19 : Int).toNat y50) _ y52) rfl rfl) rfl) ⟨⟨rfl, rfl, trivial⟩, ⟨rfl, trivial⟩, trivial⟩ ?_
      refine dr_nil Tryd_mixed rfl (by kernel_rfl) ?_
      refine post_imp (s' := ⟨28, [(0, some (.ls 0)), (2, some (.pv (.int .i64 x19))), (3, some (.pv (.int .i64 x20)))], [(0, some (.row 5 1 (List.map eI_u8 ((x18.set (x19 : Int).toNat y50).set (x20 : Int).toNat y52))))], 1, [], [], 0, [0]⟩) (imps [0] ⟨by kernel_rfl, by kernel_rfl, by kernel_rfl, trivial⟩ ⟨by kernel_rfl, trivial⟩) ?_
      refine post_block_normal ?_
      refine post_next ?_
      refine aw_region ?_
      refine rmv ?_
      refine rgp (op_int (k := .i64) (m := x19) (n := 1) rfl rfl rfl rfl rfl rfl) ?_
      refine rmv ?_
      refine rgp (op_int (k := .i64) (m := x20) (n := 1) rfl rfl rfl rfl rfl rfl) ?_
      iterate 2 (refine ras ?_)
      refine reg_nil ?_
      refine post_round ?_
      exact rnd_back (ih (((x18.set (x19 : Int).toNat y50).set (x20 : Int).toNat y52), w_i64 (x19 + 1), w_i64 (x20 - 1)) hF) (imps [0] ⟨by kernel_rfl, by kernel_rfl, by kernel_rfl, trivial⟩ ⟨by kernel_rfl, trivial⟩)
    refine aw_cond_f rfl hb41 ?_
    refine aw_exit ?_
    iterate 2 (refine post_then_exit ?_)
    obtain rfl := Option.some.inj hF
    exact post_lp_break _ rfl (imps [0] ⟨by kernel_rfl, trivial⟩ ⟨by kernel_rfl, trivial⟩)
  rintro _ rfl
  have hF := hK62
  clear hK62
  refine post_imp (s' := ⟨28, [(0, some (.ls 0))], [(0, some (.row 5 1 (List.map eI_u8 x61)))], 1, [], [], 0, [0]⟩) (imps [0] ⟨by kernel_rfl, trivial⟩ ⟨by kernel_rfl, trivial⟩) ?_
  obtain rfl := Option.some.inj hF
  exact post_retW hcx rfl .nil rfl (.inr rfl)
theorem word_Digits_ok {a0 : Int} {r : (List UInt8)} (hF : word_Digits a0 = some r) : Abs.Fn globs_Tryd Tryd.prog 9 [.int .i64 a0] [.p (.str r)] := by
  unfold word_Digits at hF
  refine fn_of_body (n := 38) Tryd.func9 rfl rfl rfl ?_
  intro w O
  refine aw_seq ?_
  refine aw_region ?_
  refine ras ?_
  refine reg_nil ?_
  refine post_imp (s' := ⟨38, [(0, some (.pv (.int .i64 a0)))], [], 0, [], [], 0, []⟩) (imps [] ⟨by kernel_rfl, trivial⟩ trivial) ?_
  refine post_next ?_
  refine aw_seq ?_
  refine aw_region ?_
  refine rmv ?_
  refine rgp (op_convInt rfl rfl Tryd_und_3 Tryd_und_34 rfl rfl) ?_
  refine ras ?_
  refine reg_nil ?_
  refine post_imp (s' := ⟨38, [(0, some (.pv (.int .i64 a0))), (3, some (.pv (.int .u64 (w_u64 a0))))], [], 0, [], [], 0, []⟩) (imps [] ⟨by kernel_rfl, by kernel_rfl, trivial⟩ trivial) ?_
  refine post_next ?_
  refine aw_seq ?_
  obtain ⟨x2, hF, hK4⟩ := bind_some hF
  refine aw_cut (fun s1 => s1 = ⟨38, [(0, some (.pv (.int .i64 a0))), (3, some (.pv (.int .u64 x2)))], [], 0, [], [], 0, []⟩) ?_ ?_
  · refine aw_seq ?_
    refine aw_region ?_
    refine rmv ?_
    refine rgp (op_int (k := .i64) (m := a0) (n := 0) rfl rfl rfl rfl rfl rfl) ?_
    refine reg_nil ?_
    refine post_imp (s' := ⟨38, [(0, some (.pv (.int .i64 a0))), (3, some (.pv (.int .u64 (w_u64 a0)))), (8, some (.pv (.bool (decide (a0 < 0)))))], [], 0, [], [], 0, []⟩) (imps [] ⟨by kernel_rfl, by kernel_rfl, by kernel_rfl, trivial⟩ trivial) ?_
    refine post_next ?_
    rcases ite_some hF with ⟨hb1, hF⟩ | ⟨hb1, hF⟩
    · refine aw_cond_t rfl hb1 ?_
      refine aw_region ?_
      refine rmv ?_
      refine rgp (op_neg rfl rfl rfl rfl) ?_
      refine ras ?_
      refine reg_nil ?_
      cases hF
      exact post_cut _ rfl (imps [] ⟨by kernel_rfl, by kernel_rfl, trivial⟩ trivial)
    refine aw_cond_f rfl hb1 ?_
    refine aw_skip ?_
    cases hF
    exact post_cut _ rfl (imps [] ⟨by kernel_rfl, by kernel_rfl, trivial⟩ trivial)
  rintro _ rfl
  have hF := hK4
  clear hK4
  refine post_next ?_
  refine aw_seq ?_
  refine aw_region ?_
  refine ras ?_
  refine reg_imp (imp_nil_own 4 5 1 0 rfl rfl) ?_
  refine reg_nil ?_
  refine post_imp (s' := ⟨38, [(0, some (.pv (.int .i64 a0))), (3, some (.pv (.int .u64 x2))), (4, some (.ls 0))], [(0, some (.row 5 1 (List.map eI_u8 [])))], 1, [], [], 0, []⟩) (imps [0] ⟨by kernel_rfl, by kernel_rfl, by kernel_rfl, trivial⟩ ⟨by kernel_rfl, trivial⟩) ?_
  refine post_next ?_
  iterate 2 (refine aw_seq ?_)
  refine aw_region ?_
  iterate 2 (refine rmv ?_)
  refine rgp (op_int2 (k := .u64) (m := x2) (n := 10) rfl rfl rfl (rem_op (by decide)) rfl rfl) ?_
  refine rgp (op_int (k := .u64) (m := 48) (n := Int.tmod x2 10) rfl rfl rfl rfl rfl rfl) ?_
  refine rgp (op_convInt rfl rfl Tryd_und_34 Tryd_und_5 rfl rfl) ?_
  refine rgp (op_lit (rows := List.map eI_u8 ([w_u8 (w_u64 (48 + (Int.tmod x2 10)))] : List Int)) (zs := [.int .u8 0]) rfl rfl Tryd_slc_33 Tryd_zer_5 (by exact ⟨rfl, trivial⟩) rfl rfl rfl rfl rfl rfl rfl rfl) ?_
  obtain ⟨u7, h8, hF⟩ := bind_some hF
  refine rgp (op_append 1 rfl rfl rfl rfl rfl Tryd_slc_33 Tryd_elm_5 Tryd_zer_5 rfl rfl rfl (room_map (f := eI_u8) (g := eI_u8) h8) (List.map_append (f := eI_u8) (l₁ := []) (l₂ := [w_u8 (w_u64 (48 + (Int.tmod x2 10)))])).symm rfl rfl) ?_
  refine ras ?_
  refine reg_nil ?_
  refine post_imp (s' := ⟨38, [(0, some (.pv (.int .i64 a0))), (3, some (.pv (.int .u64 x2))), (4, some (.ls 0))], [(0, some (.row 5 1 (List.map eI_u8 ([] ++ [w_u8 (w_u64 (48 + (Int.tmod x2 10)))]))))], 1, [], [], 0, []⟩) (imps [1] ⟨by kernel_rfl, by kernel_rfl, by kernel_rfl, trivial⟩ ⟨by kernel_rfl, trivial⟩) ?_
  refine post_next ?_
  obtain ⟨x24, hF, hK25⟩ := bind_some hF
  refine aw_for 21 (fun s1 => s1 = ⟨38, [(0, some (.pv (.int .i64 a0))), (4, some (.ls 0))], [(0, some (.row 5 1 (List.map eI_u8 x24)))], 1, [], [], 0, []⟩) ?_ ?_
  · refine rnd_loop (α := Int × (List Int)) (fun q => ⟨38, [(0, some (.pv (.int .i64 a0))), (3, some (.pv (.int .u64 q.1))), (4, some (.ls 0))], [(0, some (.row 5 1 (List.map eI_u8 q.2)))], 1, [], [], 0, []⟩) (fun k q => word_Digits_L1 k q.1 q.2 = some x24) (x2, ([] ++ [w_u8 (w_u64 (48 + (Int.tmod x2 10)))])) (imps [0] ⟨by kernel_rfl, by kernel_rfl, by kernel_rfl, trivial⟩ ⟨by kernel_rfl, trivial⟩) hF (fun q h => by cases h) ?_
    clear hF
    rintro k ⟨x12, x13⟩ hF ih
    refine rnd_succ ?_
    iterate 2 (refine aw_seq ?_)
    refine aw_region ?_
    refine rmv ?_
    refine rgp (op_int (k := .u64) (m := x12) (n := 10) rfl rfl rfl rfl rfl rfl) ?_
    refine reg_nil ?_
    refine post_imp (s' := ⟨38, [(0, some (.pv (.int .i64 a0))), (3, some (.pv (.int .u64 x12))), (4, some (.ls 0)), (19, some (.pv (.bool (decide (x12 ≥ 10)))))], [(0, some (.row 5 1 (List.map eI_u8 x13)))], 1, [], [], 0, []⟩) (imps [0] ⟨by kernel_rfl, by kernel_rfl, by kernel_rfl, by kernel_rfl, trivial⟩ ⟨by kernel_rfl, trivial⟩) ?_
    refine post_next ?_
    rcases ite_some hF with ⟨hb19, hF⟩ | ⟨hb19, hF⟩
    · refine aw_cond_t rfl hb19 ?_
      refine aw_skip ?_
      refine post_next ?_
      refine aw_seq ?_
      refine aw_block ?_
      refine aw_region ?_
      refine rmv ?_
      refine rgp (op_int2 (k := .u64) (m := x12) (n := 10) rfl rfl rfl (quo_op (by decide)) rfl rfl) ?_
      refine ras ?_
      refine reg_nil ?_
      refine post_imp (s' := ⟨38, [(0, some (.pv (.int .i64 a0))), (3, some (.pv (.int .u64 (w_u64 (Int.tdiv x12 10))))), (4, some (.ls 0))], [(0, some (.row 5 1 (List.map eI_u8 x13)))], 1, [], [], 0, []⟩) (imps [0] ⟨by kernel_rfl, by kernel_rfl, by kernel_rfl, trivial⟩ ⟨by kernel_rfl, trivial⟩) ?_
      refine post_block_normal ?_
      refine post_next ?_
      refine aw_region ?_
      iterate 2 (refine rmv ?_)
      refine rgp (op_int2 (k := .u64) (m := w_u64 (Int.tdiv x12 10)) (n := 10) rfl rfl rfl (rem_op (by decide)) rfl rfl) ?_
      refine rgp (op_int (k := .u64) (m := 48) (n := Int.tmod (w_u64 (Int.tdiv x12 10)) 10) rfl rfl rfl rfl rfl rfl) ?_
      refine rgp (op_convInt rfl rfl Tryd_und_34 Tryd_und_5 rfl rfl) ?_
      refine rgp (op_lit (rows := List.map eI_u8 ([w_u8 (w_u64 (48 + (Int.tmod (w_u64 (Int.tdiv x12 10)) 10)))] : List Int)) (zs := [.int .u8 0]) rfl rfl Tryd_slc_33 Tryd_zer_5 (by exact ⟨rfl, trivial⟩) rfl rfl rfl rfl rfl rfl rfl rfl) ?_
      obtain ⟨u20, h21, hF⟩ := bind_some hF
      refine rgp (op_append 1 rfl rfl rfl rfl rfl Tryd_slc_33 Tryd_elm_5 Tryd_zer_5 rfl rfl rfl (room_map (f := eI_u8) (g := eI_u8) h21) (List.map_append (f := eI_u8) (l₁ := x13) (l₂ := [w_u8 (w_u64 (48 + (Int.tmod (w_u64 (Int.tdiv x12 10)) 10)))])).symm rfl rfl) ?_
      refine ras ?_
      refine reg_nil ?_
      refine post_round ?_
      exact rnd_back (ih (w_u64 (Int.tdiv x12 10), (x13 ++ [w_u8 (w_u64 (48 + (Int.tmod (w_u64 (Int.tdiv x12 10)) 10)))])) hF) (imps [1] ⟨by kernel_rfl, by kernel_rfl, by kernel_rfl, trivial⟩ ⟨by kernel_rfl, trivial⟩)
    refine aw_cond_f rfl hb19 ?_
    refine aw_exit ?_
    iterate 2 (refine post_then_exit ?_)
    obtain rfl := Option.some.inj hF
    exact post_lp_break _ rfl (imps [0] ⟨by kernel_rfl, by kernel_rfl, trivial⟩ ⟨by kernel_rfl, trivial⟩)
  rintro _ rfl
  have hF := hK25
  clear hK25
  refine post_next ?_
  refine aw_seq ?_
  obtain ⟨x29, hF, hK31⟩ := bind_some hF
  refine aw_cut (fun s1 => s1 = ⟨38, [(4, some (.ls 0))], [(0, some (.row 5 1 (List.map eI_u8 x29)))], 1, [], [], 0, []⟩) ?_ ?_
  · refine aw_seq ?_
    refine aw_region ?_
    refine rmv ?_
    refine rgp (op_int (k := .i64) (m := a0) (n := 0) rfl rfl rfl rfl rfl rfl) ?_
    refine reg_nil ?_
    refine post_imp (s' := ⟨38, [(4, some (.ls 0)), (30, some (.pv (.bool (decide (a0 < 0)))))], [(0, some (.row 5 1 (List.map eI_u8 x24)))], 1, [], [], 0, []⟩) (imps [0] ⟨by kernel_rfl, by kernel_rfl, trivial⟩ ⟨by kernel_rfl, trivial⟩) ?_
    refine post_next ?_
    rcases ite_some hF with ⟨hb26, hF⟩ | ⟨hb26, hF⟩
    · refine aw_cond_t rfl hb26 ?_
      refine aw_region ?_
      refine rmv ?_
      refine rgp (op_lit (rows := List.map eI_u8 ([45] : List Int)) (zs := [.int .u8 0]) rfl rfl Tryd_slc_33 Tryd_zer_5 (by exact ⟨rfl, trivial⟩) rfl rfl rfl rfl rfl rfl rfl rfl) ?_
      obtain ⟨u27, h28, hF⟩ := bind_some hF
      refine rgp (op_append 1 rfl rfl rfl rfl rfl Tryd_slc_33 Tryd_elm_5 Tryd_zer_5 rfl rfl rfl (room_map (f := eI_u8) (g := eI_u8) h28) (List.map_append (f := eI_u8) (l₁ := x24) (l₂ := [45])).symm rfl rfl) ?_
      refine ras ?_
      refine reg_nil ?_
      cases hF
      exact post_cut _ rfl (imps [1] ⟨by kernel_rfl, trivial⟩ ⟨by kernel_rfl, trivial⟩)
    refine aw_cond_f rfl hb26 ?_
    refine aw_skip ?_
    cases hF
    exact post_cut _ rfl (imps [0] ⟨by kernel_rfl, trivial⟩ ⟨by kernel_rfl, trivial⟩)
  rintro _ rfl
  have hF := hK31
  clear hK31
  refine post_next ?_
  refine aw_seq ?_
  refine aw_region ?_
  refine rmv ?_
  obtain ⟨y32, h33, hF⟩ := bind_some hF
  refine rgp (op_callW (args := [.ls 0]) [0] [0] [] 1 rfl rfl rfl rfl rfl Tryd_cal_23 (slices_Reverse_byte_w_ok h33) rfl (by decide) ⟨rfl, trivial⟩ rfl (by decide) ⟨.inl rfl, trivial⟩ (by kernel_rfl) (by kernel_rfl) rfl rfl rfl rfl) ?_
  refine reg_nil ?_
  refine post_imp (s' := ⟨38, [(4, some (.ls 0))], [(0, some (.row 5 1 (List.map eI_u8 y32)))], 1, [], [], 0, []⟩) (imps [0] ⟨by kernel_rfl, trivial⟩ ⟨by kernel_rfl, trivial⟩) ?_
  refine post_next ?_
  refine aw_seq ?_
  refine aw_region ?_
  refine rmv ?_
  refine reg_imp (imp_freeze [(0, some (.row 5 1 (List.map eI_u8 y32)))] [(4, some (.pv (.vs 1 (List.map eI_u8 y32)))), (36, some (.pv (.vs 1 (List.map eI_u8 y32))))] (FzH.spec ⟨rfl, trivial⟩) ⟨⟨_, rfl, rfl⟩, ⟨_, rfl, rfl⟩, trivial⟩) ?_
  refine rgp (op_bytesStr (E := eI_u8) rfl rfl rfl Tryd_und_33 Tryd_und_5 Tryd_und_9 rfl rfl) ?_
  refine ras ?_
  refine reg_nil ?_
  refine post_imp (s' := ⟨38, [(2, some (.pv (.str (strL y32))))], [], 0, [], [], 0, []⟩) (imps [] ⟨by kernel_rfl, trivial⟩ trivial) ?_
  refine post_next ?_
  refine aw_ret ?_
  obtain rfl := Option.some.inj hF
  exact prt
theorem word_Number_ok {a0 : List UInt8} {r : Int × Bool} (hF : word_Number a0 = some r) : Abs.Fn globs_Tryd Tryd.prog 7 [.str a0] [.p (.int .i64 r.1), .p (.bool r.2)] := by
  unfold word_Number at hF
  refine fn_of_body (n := 36) Tryd.func7 rfl rfl rfl ?_
  intro w O
  refine aw_seq ?_
  refine aw_region ?_
  iterate 2 (refine ras ?_)
  refine reg_nil ?_
  refine post_imp (s' := ⟨36, [(0, some (.pv (.str a0)))], [], 0, [], [], 0, []⟩) (imps [] ⟨by kernel_rfl, trivial⟩ trivial) ?_
  refine post_next ?_
  iterate 2 (refine aw_seq ?_)
  obtain ⟨x2, hF, hK4⟩ := bind_some hF
  refine aw_cut (fun s1 => s1 = ⟨36, [(0, some (.pv (.str a0))), (13, some (.pv (.bool x2)))], [], 0, [], [], 0, []⟩) ?_ ?_
  · refine aw_region ?_
    refine rmv ?_
    refine rgp (op_str rfl rfl rfl rfl rfl rfl) ?_
    refine rmv ?_
    rcases ite_some hF with ⟨hb1, hF⟩ | ⟨hb1, hF⟩
    · refine rgo_t hb1 ?_
      iterate 2 (refine rgo_t hb1 ?_)
      refine rpt hb1 ?_
      refine reg_nil ?_
      cases hF
      exact post_cut _ rfl (imps [] ⟨by kernel_rfl, by kernel_rfl, trivial⟩ trivial)
    refine rgn hb1 (op_move rfl rfl rfl rfl) ?_
    refine rgn hb1 (op_len_str rfl rfl Tryd_und_9 rfl rfl) ?_
    refine rgn hb1 (op_int (k := .i64) (m := (a0.length : Int)) (n := 9) rfl rfl rfl rfl rfl rfl) ?_
    refine rpf hb1 ?_
    refine reg_nil ?_
    cases hF
    exact post_cut _ rfl (imps [] ⟨by kernel_rfl, by kernel_rfl, trivial⟩ trivial)
  rintro _ rfl
  have hF := hK4
  clear hK4
  refine post_next ?_
  rcases ite_some hF with ⟨hb5, hF⟩ | ⟨hb5, hF⟩
  · refine aw_cond_t rfl hb5 ?_
    refine aw_seq ?_
    refine aw_region ?_
    iterate 2 (refine ras ?_)
    refine reg_nil ?_
    refine post_imp (s' := ⟨36, [(2, some (.pv (.int .i64 0))), (3, some (.pv (.bool false)))], [], 0, [], [], 0, []⟩) (imps [] ⟨by kernel_rfl, by kernel_rfl, trivial⟩ trivial) ?_
    refine post_next ?_
    refine aw_ret ?_
    refine post_then_ret ?_
    obtain rfl := Option.some.inj hF
    exact post_ret rfl rfl (.cons _ _ _ _ _ (.tmp _ _ rfl) (.p _) (.cons _ _ _ _ _ (.tmp _ _ rfl) (.p _) .nil)) (.inl rfl)
  refine aw_cond_f rfl hb5 ?_
  refine aw_skip ?_
  refine post_next ?_
  refine aw_seq ?_
  refine aw_region ?_
  refine ras ?_
  refine reg_nil ?_
  refine post_imp (s' := ⟨36, [(0, some (.pv (.str a0))), (4, some (.pv (.int .i64 0)))], [], 0, [], [], 0, []⟩) (imps [] ⟨by kernel_rfl, by kernel_rfl, trivial⟩ trivial) ?_
  refine post_next ?_
  iterate 2 (refine aw_seq ?_)
  refine aw_region ?_
  refine rmv ?_
  obtain ⟨u8, h9, hF⟩ := bind_some hF
  refine rgp (op_strBytes (E := eI_u8) rfl rfl Tryd_und_9 Tryd_und_33 Tryd_und_5 h9 rfl rfl rfl) ?_
  refine rgp (op_len_vs (n := (bytesL a0).length) rfl rfl (List.length_map ..) Tryd_slc_33 rfl rfl) ?_
  refine rmv ?_
  refine reg_nil ?_
  refine post_imp (s' := ⟨36, [(0, some (.pv (.str a0))), (4, some (.pv (.int .i64 0))), (15, some (.pv (.vs 1 (List.map eI_u8 (bytesL a0))))), (16, some (.pv (.int .i64 ((bytesL a0).length : Int)))), (17, some (.pv (.int .i64 0)))], [], 0, [], [], 0, []⟩) (imps [] ⟨by kernel_rfl, by kernel_rfl, by kernel_rfl, by kernel_rfl, by kernel_rfl, trivial⟩ trivial) ?_
  refine post_next ?_
  obtain ⟨lr47, hF, hK48⟩ := bind_some hF
  refine aw_for (((((bytesL a0).length : Int) : Int) - (0)).toNat + 1) (fun s1 => ∃ q, lr47 = .next q ∧ s1 = ⟨36, [(0, some (.pv (.str a0))), (4, some (.pv (.int .i64 q)))], [], 0, [], [], 0, []⟩) ?_ ?_
  · refine rnd_loop (α := Int × Int) (fun q => ⟨36, [(0, some (.pv (.str a0))), (4, some (.pv (.int .i64 q.1))), (15, some (.pv (.vs 1 (List.map eI_u8 (bytesL a0))))), (16, some (.pv (.int .i64 ((bytesL a0).length : Int)))), (17, some (.pv (.int .i64 q.2)))], [], 0, [], [], 0, []⟩) (fun k q => word_Number_L1 a0 u8 k q.1 q.2 = some lr47) (0, 0) (imps [] ⟨by kernel_rfl, by kernel_rfl, by kernel_rfl, by kernel_rfl, by kernel_rfl, trivial⟩ trivial) hF (fun q h => by cases h) ?_
    clear hF
    rintro k ⟨x20, x21⟩ hF ih
    refine rnd_succ ?_
    refine aw_seq ?_
    refine aw_region ?_
    refine rgp (op_int (k := .i64) (m := x21) (n := ((bytesL a0).length : Int)) rfl rfl rfl rfl rfl rfl) ?_
    refine reg_nil ?_
    refine post_imp (s' := ⟨36, [(0, some (.pv (.str a0))), (4, some (.pv (.int .i64 x20))), (15, some (.pv (.vs 1 (List.map eI_u8 (bytesL a0))))), (16, some (.pv (.int .i64 ((bytesL a0).length : Int)))), (17, some (.pv (.int .i64 x21))), (18, some (.pv (.bool (decide (x21 < ((bytesL a0).length : Int))))))], [], 0, [], [], 0, []⟩) (imps [] ⟨by kernel_rfl, by kernel_rfl, by kernel_rfl, by kernel_rfl, by kernel_rfl, by kernel_rfl, trivial⟩ trivial) ?_
    refine post_next ?_
    refine aw_seq ?_
    rcases ite_some hF with ⟨hb34, hF⟩ | ⟨hb34, hF⟩
    · refine aw_cond_t rfl hb34 ?_
      refine aw_skip ?_
      refine post_next ?_
      refine aw_seq ?_
      refine aw_block ?_
      refine aw_seq ?_
      refine aw_region ?_
      obtain ⟨y37, h38, hF⟩ := bind_some hF
      refine rgp (op_index_vs (k := .i64) rfl rfl rfl (idx_map eI_u8 h38) Tryd_slc_33 rfl rfl) ?_
      refine rgp (op_load_vp (p := .int .u8 y37) rfl rfl rfl Tryd_one_5 rfl rfl) ?_
      refine ras ?_
      refine reg_nil ?_
      refine post_imp (s' := ⟨36, [(0, some (.pv (.str a0))), (4, some (.pv (.int .i64 x20))), (6, some (.pv (.int .u8 y37))), (15, some (.pv (.vs 1 (List.map eI_u8 (bytesL a0))))), (16, some (.pv (.int .i64 ((bytesL a0).length : Int)))), (17, some (.pv (.int .i64 x21)))], [], 0, [], [], 0, []⟩) (imps [] ⟨by kernel_rfl, by kernel_rfl, by kernel_rfl, by kernel_rfl, by kernel_rfl, by kernel_rfl, trivial⟩ trivial) ?_
      refine post_next ?_
      iterate 2 (refine aw_seq ?_)
      refine aw_region ?_
      refine rmv ?_
      obtain ⟨y41, h42, hF⟩ := bind_some hF
      refine rgp (op_call 0 rfl (caps := []) (args := [.int .u8 y37]) (rs := [.p (.bool y41)]) rfl rfl rfl Tryd_cal_16 (word_Digit_ok h42) rfl rfl rfl) ?_
      refine rgp (op_not rfl rfl rfl rfl) ?_
      refine reg_nil ?_
      refine post_imp (s' := ⟨36, [(0, some (.pv (.str a0))), (4, some (.pv (.int .i64 x20))), (6, some (.pv (.int .u8 y37))), (15, some (.pv (.vs 1 (List.map eI_u8 (bytesL a0))))), (16, some (.pv (.int .i64 ((bytesL a0).length : Int)))), (17, some (.pv (.int .i64 x21))), (23, some (.pv (.bool (!y41))))], [], 0, [], [], 0, []⟩) (imps [] ⟨by kernel_rfl, by kernel_rfl, by kernel_rfl, by kernel_rfl, by kernel_rfl, by kernel_rfl, by kernel_rfl, trivial⟩ trivial) ?_
      refine post_next ?_
      rcases ite_some hF with ⟨hb43, hF⟩ | ⟨hb43, hF⟩
      · refine aw_cond_t rfl hb43 ?_
        refine aw_seq ?_
        refine aw_region ?_
        iterate 2 (refine ras ?_)
        refine reg_nil ?_
        refine post_imp (s' := ⟨36, [(2, some (.pv (.int .i64 0))), (3, some (.pv (.bool false)))], [], 0, [], [], 0, []⟩) (imps [] ⟨by kernel_rfl, by kernel_rfl, trivial⟩ trivial) ?_
        refine post_next ?_
        refine aw_ret ?_
        refine post_then_ret ?_
        refine post_block_ret ?_
        iterate 2 (refine post_then_ret ?_)
        refine post_lp_ret ?_
        obtain rfl := Option.some.inj hF
        have hF := elim_stop hK48
        refine post_then_ret ?_
        obtain rfl := Option.some.inj hF
        exact post_ret rfl rfl (.cons _ _ _ _ _ (.tmp _ _ rfl) (.p _) (.cons _ _ _ _ _ (.tmp _ _ rfl) (.p _) .nil)) (.inl rfl)
      refine aw_cond_f rfl hb43 ?_
      refine aw_skip ?_
      refine post_next ?_
      refine aw_region ?_
      refine rmv ?_
      refine rgp (op_int (k := .i64) (m := 10) (n := x20) rfl rfl rfl rfl rfl rfl) ?_
      refine rmv ?_
      refine rgp (op_int2 (k := .u8) (m := y37) (n := 15) rfl rfl rfl rfl rfl rfl) ?_
      refine rgp (op_convInt rfl rfl Tryd_und_5 Tryd_und_3 rfl rfl) ?_
      refine rgp (op_int (k := .i64) (m := w_i64 (10 * x20)) (n := w_i64 (andI .u8 y37 15)) rfl rfl rfl rfl rfl rfl) ?_
      refine ras ?_
      refine reg_nil ?_
      refine post_imp (s' := ⟨36, [(0, some (.pv (.str a0))), (4, some (.pv (.int .i64 (w_i64 ((w_i64 (10 * x20)) + (w_i64 (andI .u8 y37 15))))))), (15, some (.pv (.vs 1 (List.map eI_u8 (bytesL a0))))), (16, some (.pv (.int .i64 ((bytesL a0).length : Int)))), (17, some (.pv (.int .i64 x21)))], [], 0, [], [], 0, []⟩) (imps [] ⟨by kernel_rfl, by kernel_rfl, by kernel_rfl, by kernel_rfl, by kernel_rfl, trivial⟩ trivial) ?_
      refine post_block_normal ?_
      refine post_next ?_
      refine aw_region ?_
      refine rgp (op_int (k := .i64) (m := x21) (n := 1) rfl rfl rfl rfl rfl rfl) ?_
      refine rmv ?_
      refine reg_nil ?_
      refine post_round ?_
      exact rnd_back (ih (w_i64 ((w_i64 (10 * x20)) + (w_i64 (andI .u8 y37 15))), w_i64 (x21 + 1)) hF) (imps [] ⟨by kernel_rfl, by kernel_rfl, by kernel_rfl, by kernel_rfl, by kernel_rfl, trivial⟩ trivial)
    refine aw_cond_f rfl hb34 ?_
    refine aw_exit ?_
    iterate 2 (refine post_then_exit ?_)
    obtain rfl := Option.some.inj hF
    exact post_lp_break _ ⟨_, rfl, rfl⟩ (imps [] ⟨by kernel_rfl, by kernel_rfl, trivial⟩ trivial)
  rintro _ ⟨x46, rfl, rfl⟩
  have hF := elim_next hK48
  clear hK48
  refine post_next ?_
  iterate 2 (refine aw_seq ?_)
  refine aw_region ?_
  refine rmv ?_
  obtain ⟨y51, h52, hF⟩ := bind_some hF
  refine rgp (op_call 0 rfl (caps := []) (args := [.int .i64 x46]) (rs := [.p (.str y51)]) rfl rfl rfl Tryd_cal_9 (word_Digits_ok h52) rfl rfl rfl) ?_
  refine rmv ?_
  refine rgp (op_str rfl rfl rfl rfl rfl rfl) ?_
  refine reg_nil ?_
  refine post_imp (s' := ⟨36, [(4, some (.pv (.int .i64 x46))), (34, some (.pv (.bool (!(y51 == a0)))))], [], 0, [], [], 0, []⟩) (imps [] ⟨by kernel_rfl, by kernel_rfl, trivial⟩ trivial) ?_
  refine post_next ?_
  rcases ite_some hF with ⟨hb53, hF⟩ | ⟨hb53, hF⟩
  · refine aw_cond_t rfl hb53 ?_
    refine aw_seq ?_
    refine aw_region ?_
    iterate 2 (refine ras ?_)
    refine reg_nil ?_
    refine post_imp (s' := ⟨36, [(2, some (.pv (.int .i64 0))), (3, some (.pv (.bool false)))], [], 0, [], [], 0, []⟩) (imps [] ⟨by kernel_rfl, by kernel_rfl, trivial⟩ trivial) ?_
    refine post_next ?_
    refine aw_ret ?_
    refine post_then_ret ?_
    obtain rfl := Option.some.inj hF
    exact post_ret rfl rfl (.cons _ _ _ _ _ (.tmp _ _ rfl) (.p _) (.cons _ _ _ _ _ (.tmp _ _ rfl) (.p _) .nil)) (.inl rfl)
  refine aw_cond_f rfl hb53 ?_
  refine aw_skip ?_
  refine post_next ?_
  refine aw_seq ?_
  refine aw_region ?_
  refine rmv ?_
  iterate 2 (refine ras ?_)
  refine reg_nil ?_
  refine post_imp (s' := ⟨36, [(2, some (.pv (.int .i64 x46))), (3, some (.pv (.bool true)))], [], 0, [], [], 0, []⟩) (imps [] ⟨by kernel_rfl, by kernel_rfl, trivial⟩ trivial) ?_
  refine post_next ?_
  refine aw_ret ?_
  obtain rfl := Option.some.inj hF
  exact post_ret rfl rfl (.cons _ _ _ _ _ (.tmp _ _ rfl) (.p _) (.cons _ _ _ _ _ (.tmp _ _ rfl) (.p _) .nil)) (.inl rfl)

theorem word_is_ok {a0 : List UInt8} {r : (List UInt8)} (hF : word_is a0 = some r) : Abs.Fn globs_Tryd Tryd.prog 25 [.str a0] [.p (.fn 27 [.vp (eS r)])] := by
  unfold word_is at hF
  refine fn_of_body (n := 4) Tryd.func25 rfl rfl rfl ?_
  intro w O
  refine aw_seq ?_
  refine aw_region ?_
  refine rgp (op_box 0 rfl rfl rfl rfl rfl rfl) ?_
  refine ras ?_
  refine reg_nil ?_
  refine post_imp (s' := ⟨4, [(1, some (.lp 0 0))], [(0, some (.box 9 [.pv (.str a0)]))], 1, [], [], 0, []⟩) (imps [0] ⟨by kernel_rfl, trivial⟩ ⟨by kernel_rfl, trivial⟩) ?_
  refine post_next ?_
  refine aw_seq ?_
  refine aw_region ?_
  refine rgp (op_makeFunc rfl rfl rfl rfl) ?_
  refine ras ?_
  refine reg_nil ?_
  refine post_imp (s' := ⟨4, [(2, some (.fn 27 [.lp 0 0]))], [(0, some (.box 9 [.pv (.str a0)]))], 1, [], [], 0, []⟩) (imps [0] ⟨by kernel_rfl, trivial⟩ ⟨by kernel_rfl, trivial⟩) ?_
  refine post_next ?_
  refine aw_ret ?_
  refine post_imp (imp_freeze [(0, some (.box 9 [.pv (.str a0)]))] [(2, some (.pv (.fn 27 [.vp (eS a0)])))] (FzH.spec ⟨rfl, trivial⟩) ⟨⟨_, rfl, rfl⟩, trivial⟩) ?_
  obtain rfl := Option.some.inj hF
  exact post_ret rfl rfl (.cons _ _ _ _ _ (.tmp _ _ rfl) (.p _) .nil) (.inl rfl)
theorem slices_IndexFunc_string_ok {a0 : List (List UInt8)} {q1 : (List UInt8) → Option Bool} {r : Int} {q1_f : Nat} {q1_c : List PV} (q1_b : callB Tryd.prog q1_f = true) (q1_h : ∀ (x0 : List UInt8) (r : Bool), q1 x0 = some r → Abs.Fn globs_Tryd Tryd.prog q1_f ([.str x0] ++ q1_c) [.p (.bool r)]) (hF : slices_IndexFunc_string a0 q1 = some r) : Abs.Fn globs_Tryd Tryd.prog 24 [.vs 1 (List.map eS a0), .fn q1_f q1_c] [.p (.int .i64 r)] := by
  unfold slices_IndexFunc_string at hF
  refine fn_of_body (n := 19) Tryd.func24 rfl rfl rfl ?_
  intro w O
  refine aw_seq ?_
  refine aw_region ?_
  refine ras ?_
  refine reg_nil ?_
  refine post_imp (s' := ⟨19, [(0, some (.pv (.vs 1 (List.map eS a0)))), (1, some (.pv (.fn q1_f q1_c)))], [], 0, [], [], 0, []⟩) (imps [] ⟨by kernel_rfl, by kernel_rfl, trivial⟩ trivial) ?_
  refine post_next ?_
  iterate 2 (refine aw_seq ?_)
  refine aw_region ?_
  refine rmv ?_
  refine rgp (op_len_vs (n := a0.length) rfl rfl (List.length_map ..) Tryd_slc_38 rfl rfl) ?_
  refine rmv ?_
  refine reg_nil ?_
  refine post_imp (s' := ⟨19, [(0, some (.pv (.vs 1 (List.map eS a0)))), (1, some (.pv (.fn q1_f q1_c))), (7, some (.pv (.int .i64 (a0.length : Int)))), (8, some (.pv (.int .i64 0)))], [], 0, [], [], 0, []⟩) (imps [] ⟨by kernel_rfl, by kernel_rfl, by kernel_rfl, by kernel_rfl, trivial⟩ trivial) ?_
  refine post_next ?_
  obtain ⟨lr34, hF, hK35⟩ := bind_some hF
  refine aw_for ((((a0.length : Int) : Int) - (0)).toNat + 1) (fun s1 => ∃ q, lr34 = .next q ∧ s1 = ⟨19, [], [], 0, [], [], 0, []⟩) ?_ ?_
  · refine rnd_loop (α := Int) (fun q => ⟨19, [(0, some (.pv (.vs 1 (List.map eS a0)))), (1, some (.pv (.fn q1_f q1_c))), (7, some (.pv (.int .i64 (a0.length : Int)))), (8, some (.pv (.int .i64 q)))], [], 0, [], [], 0, []⟩) (fun k q => slices_IndexFunc_string_L1 a0 q1 k q = some lr34) 0 (imps [] ⟨by kernel_rfl, by kernel_rfl, by kernel_rfl, by kernel_rfl, trivial⟩ trivial) hF (fun q h => by cases h) ?_
    clear hF
    rintro k x11 hF ih
    refine rnd_succ ?_
    refine aw_seq ?_
    refine aw_region ?_
    refine rgp (op_int (k := .i64) (m := x11) (n := (a0.length : Int)) rfl rfl rfl rfl rfl rfl) ?_
    refine reg_nil ?_
    refine post_imp (s' := ⟨19, [(0, some (.pv (.vs 1 (List.map eS a0)))), (1, some (.pv (.fn q1_f q1_c))), (7, some (.pv (.int .i64 (a0.length : Int)))), (8, some (.pv (.int .i64 x11))), (9, some (.pv (.bool (decide (x11 < (a0.length : Int))))))], [], 0, [], [], 0, []⟩) (imps [] ⟨by kernel_rfl, by kernel_rfl, by kernel_rfl, by kernel_rfl, by kernel_rfl, trivial⟩ trivial) ?_
    refine post_next ?_
    refine aw_seq ?_
    rcases ite_some hF with ⟨hb23, hF⟩ | ⟨hb23, hF⟩
    · refine aw_cond_t rfl hb23 ?_
      refine aw_skip ?_
      refine post_next ?_
      refine aw_seq ?_
      refine aw_block ?_
      refine aw_seq ?_
      refine aw_region ?_
      refine rmv ?_
      refine ras ?_
      refine reg_nil ?_
      refine post_imp (s' := ⟨19, [(0, some (.pv (.vs 1 (List.map eS a0)))), (1, some (.pv (.fn q1_f q1_c))), (5, some (.pv (.int .i64 x11))), (7, some (.pv (.int .i64 (a0.length : Int)))), (8, some (.pv (.int .i64 x11)))], [], 0, [], [], 0, []⟩) (imps [] ⟨by kernel_rfl, by kernel_rfl, by kernel_rfl, by kernel_rfl, by kernel_rfl, trivial⟩ trivial) ?_
      refine post_next ?_
      refine aw_seq ?_
      refine aw_region ?_
      iterate 3 (refine rmv ?_)
      obtain ⟨y28, h29, hF⟩ := bind_some hF
      refine rgp (op_index_vs (k := .i64) rfl rfl rfl (idx_map eS h29) Tryd_slc_38 rfl rfl) ?_
      refine rgp (op_load_vp (p := .str y28) rfl rfl rfl Tryd_one_9 rfl rfl) ?_
      obtain ⟨y30, h31, hF⟩ := bind_some hF
      refine rgp (op_call 0 rfl (caps := q1_c) (args := [.str y28]) (rs := [.p (.bool y30)]) rfl rfl rfl q1_b (q1_h y28 _ h31) rfl rfl rfl) ?_
      refine reg_nil ?_
      refine post_imp (s' := ⟨19, [(0, some (.pv (.vs 1 (List.map eS a0)))), (1, some (.pv (.fn q1_f q1_c))), (5, some (.pv (.int .i64 x11))), (7, some (.pv (.int .i64 (a0.length : Int)))), (8, some (.pv (.int .i64 x11))), (16, some (.pv (.bool y30)))], [], 0, [], [], 0, []⟩) (imps [] ⟨by kernel_rfl, by kernel_rfl, by kernel_rfl, by kernel_rfl, by kernel_rfl, by kernel_rfl, trivial⟩ trivial) ?_
      refine post_next ?_
      rcases ite_some hF with ⟨hb32, hF⟩ | ⟨hb32, hF⟩
      · refine aw_cond_t rfl hb32 ?_
        refine aw_seq ?_
        refine aw_region ?_
        refine rmv ?_
        refine ras ?_
        refine reg_nil ?_
        refine post_imp (s' := ⟨19, [(4, some (.pv (.int .i64 x11)))], [], 0, [], [], 0, []⟩) (imps [] ⟨by kernel_rfl, trivial⟩ trivial) ?_
        refine post_next ?_
        refine aw_ret ?_
        refine post_block_ret ?_
        iterate 2 (refine post_then_ret ?_)
        refine post_lp_ret ?_
        obtain rfl := Option.some.inj hF
        have hF := elim_stop hK35
        refine post_then_ret ?_
        obtain rfl := Option.some.inj hF
        exact prt
      refine aw_cond_f rfl hb32 ?_
      refine aw_skip ?_
      refine post_block_normal ?_
      refine post_next ?_
      refine aw_region ?_
      refine rgp (op_int (k := .i64) (m := x11) (n := 1) rfl rfl rfl rfl rfl rfl) ?_
      refine rmv ?_
      refine reg_nil ?_
      refine post_round ?_
      exact rnd_back (ih (w_i64 (x11 + 1)) hF) (imps [] ⟨by kernel_rfl, by kernel_rfl, by kernel_rfl, by kernel_rfl, trivial⟩ trivial)
    refine aw_cond_f rfl hb23 ?_
    refine aw_exit ?_
    iterate 2 (refine post_then_exit ?_)
    obtain rfl := Option.some.inj hF
    exact post_lp_break _ ⟨_, rfl, rfl⟩ (imps [] trivial trivial)
  rintro _ ⟨⟨⟩, rfl, rfl⟩
  have hF := elim_next hK35
  clear hK35
  refine post_next ?_
  refine aw_seq ?_
  refine aw_region ?_
  refine ras ?_
  refine reg_nil ?_
  refine post_imp (s' := ⟨19, [(4, some (.pv (.int .i64 (-1))))], [], 0, [], [], 0, []⟩) (imps [] ⟨by kernel_rfl, trivial⟩ trivial) ?_
  refine post_next ?_
  refine aw_ret ?_
  obtain rfl := Option.some.inj hF
  exact prt
theorem word_is_1_ok {a0 : List UInt8} {c0 : List UInt8} {r : Bool} (hF : word_is_1 a0 c0 = some r) : Abs.Fn globs_Tryd Tryd.prog 27 [.str a0, .vp (eS c0)] [.p (.bool r)] := by
  unfold word_is_1 at hF
  refine fn_of_body (n := 7) Tryd.func27 rfl rfl rfl ?_
  intro w O
  refine aw_seq ?_
  refine aw_region ?_
  refine ras ?_
  refine reg_nil ?_
  refine post_imp (s' := ⟨7, [(0, some (.pv (.str a0))), (1, some (.pv (.vp (eS c0))))], [], 0, [], [], 0, []⟩) (imps [] ⟨by kernel_rfl, by kernel_rfl, trivial⟩ trivial) ?_
  refine post_next ?_
  refine aw_seq ?_
  refine aw_region ?_
  refine rmv ?_
  refine rgp (op_load_vp (p := .str c0) rfl rfl rfl Tryd_one_9 rfl rfl) ?_
  refine rgp (op_str rfl rfl rfl rfl rfl rfl) ?_
  refine ras ?_
  refine reg_nil ?_
  refine post_imp (s' := ⟨7, [(3, some (.pv (.bool (a0 == c0))))], [], 0, [], [], 0, []⟩) (imps [] ⟨by kernel_rfl, trivial⟩ trivial) ?_
  refine post_next ?_
  refine aw_ret ?_
  obtain rfl := Option.some.inj hF
  exact prt
theorem word_Find_ok {a0 : List UInt8} {r : Int} (hF : word_Find a0 = some r) : Abs.Fn globs_Tryd Tryd.prog 12 [.str a0] [.p (.int .i64 r)] := by
  unfold word_Find at hF
  refine fn_of_body (n := 8) Tryd.func12 rfl rfl rfl ?_
  intro w O
  refine aw_seq ?_
  refine aw_region ?_
  refine ras ?_
  refine reg_nil ?_
  refine post_imp (s' := ⟨8, [(0, some (.pv (.str a0)))], [], 0, [], [], 0, []⟩) (imps [] ⟨by kernel_rfl, trivial⟩ trivial) ?_
  refine post_next ?_
  refine aw_seq ?_
  refine dr_start ⟨_, _, _⟩ rfl ?_
  refine dr_cons { dst := some 3, val := some (.pv (.vs 1 (List.map eS glob_0))) } (fun m h => step_on (guard_no rfl) (op_glob_slice (l := glob_0) (f := eS) rfl globm_0 Tryd_arr_36 globe_0 (fun _ => rfl) rfl rfl rfl rfl) rfl) ⟨trivial, trivial, trivial⟩ ?_
  refine drm ?_
  obtain ⟨y1, h2, hF⟩ := bind_some hF
  refine dr_cons { need := [(4, .pv (.str a0))], dst := some 5, val := some (.pv (.fn 27 [.vp (eS y1)])) } (fun m h => step_on (guard_no rfl) (op_call 0 rfl (caps := []) (args := [.str a0]) (rs := [.p (.fn 27 [.vp (eS y1)])]) rfl rfl (evl_cons h.1.1 evl_nil) Tryd_cal_25 (word_is_ok h2) rfl rfl rfl) rfl) ⟨⟨rfl, trivial⟩, trivial, trivial⟩ ?_
  obtain ⟨y4, h5, hF⟩ := bind_some hF
  refine dr_cons { need := [(5, .pv (.fn 27 [.vp (eS y1)])), (3, .pv (.vs 1 (List.map eS glob_0)))], dst := some 6, val := some (.pv (.int .i64 y4)) } (fun m h => step_on (guard_no rfl) (op_call 0 rfl (caps := []) (args := [.vs 1 (List.map eS glob_0), .fn 27 [.vp (eS y1)]]) (rs := [.p (.int .i64 y4)]) rfl rfl (evl_cons h.1.2.1 (evl_cons h.1.1 evl_nil)) Tryd_cal_24 (slices_IndexFunc_string_ok (q1_f := 27) (q1_c := [.vp (eS y1)]) (q1_b := Tryd_cal_27) (q1_h := fun _ r h => (word_is_1_ok h)) h5) rfl rfl rfl) rfl) ⟨⟨rfl, rfl, trivial⟩, trivial, trivial⟩ ?_
  refine dr_cons { need := [(6, .pv (.int .i64 y4))], dst := some 7, val := some (.pv (.int .i64 (w_i64 (y4 + 1)))) } (fun m h => step_on (guard_no rfl) (op_int (k := .i64) (m := y4) (n := 1) rfl h.1.1 rfl rfl rfl rfl) rfl) ⟨⟨rfl, trivial⟩, trivial, trivial⟩ ?_
  refine dr_cons { need := [(7, .pv (.int .i64 (w_i64 (y4 + 1))))], dst := some 2, val := some (.pv (.int .i64 (w_i64 (y4 + 1)))) } (fun m h => step_on (guard_no rfl) (op_assign rfl h.1.1 rfl rfl) rfl) ⟨⟨rfl, trivial⟩, trivial, trivial⟩ ?_
  refine dr_nil Tryd_mixed rfl (by kernel_rfl) ?_
  refine post_imp (s' := ⟨8, [(2, some (.pv (.int .i64 (w_i64 (y4 + 1)))))], [], 0, [], [], 0, []⟩) (imps [] ⟨by kernel_rfl, trivial⟩ trivial) ?_
  refine post_next ?_
  refine aw_ret ?_
  obtain rfl := Option.some.inj hF
  exact prt
theorem word_Letter_ok {a0 : Int} {r : Bool} (hF : word_Letter a0 = some r) : Abs.Fn globs_Tryd Tryd.prog 14 [.int .u8 a0] [.p (.bool r)] := by
  unfold word_Letter at hF
  refine fn_of_body (n := 12) Tryd.func14 rfl rfl rfl ?_
  intro w O
  refine aw_seq ?_
  refine aw_region ?_
  refine ras ?_
  refine reg_nil ?_
  refine post_imp (s' := ⟨12, [(0, some (.pv (.int .u8 a0)))], [], 0, [], [], 0, []⟩) (imps [] ⟨by kernel_rfl, trivial⟩ trivial) ?_
  refine post_next ?_
  refine aw_seq ?_
  refine aw_region ?_
  refine rmv ?_
  refine rgp (op_int2 (k := .u8) (m := a0) (n := 32) rfl rfl rfl rfl rfl rfl) ?_
  refine ras ?_
  refine reg_nil ?_
  refine post_imp (s' := ⟨12, [(3, some (.pv (.int .u8 (orI .u8 a0 32))))], [], 0, [], [], 0, []⟩) (imps [] ⟨by kernel_rfl, trivial⟩ trivial) ?_
  refine post_next ?_
  refine aw_seq ?_
  refine aw_region ?_
  refine rmv ?_
  refine rgp (op_int (k := .u8) (m := orI .u8 a0 32) (n := 97) rfl rfl rfl rfl rfl rfl) ?_
  refine rmv ?_
  rcases ite_some hF with ⟨hb1, hF⟩ | ⟨hb1, hF⟩
  · refine rgn hb1 (op_move rfl rfl rfl rfl) ?_
    refine rgn hb1 (op_int (k := .u8) (m := orI .u8 a0 32) (n := 122) rfl rfl rfl rfl rfl rfl) ?_
    refine rpt hb1 ?_
    refine ras ?_
    refine reg_nil ?_
    refine post_imp (s' := ⟨12, [(2, some (.pv (.bool (decide ((orI .u8 a0 32) ≤ 122)))))], [], 0, [], [], 0, []⟩) (imps [] ⟨by kernel_rfl, trivial⟩ trivial) ?_
    refine post_next ?_
    refine aw_ret ?_
    obtain rfl := Option.some.inj hF
    exact prt
  iterate 2 (refine rgo_f hb1 ?_)
  refine rpf hb1 ?_
  refine ras ?_
  refine reg_nil ?_
  refine post_imp (s' := ⟨12, [(2, some (.pv (.bool false)))], [], 0, [], [], 0, []⟩) (imps [] ⟨by kernel_rfl, trivial⟩ trivial) ?_
  refine post_next ?_
  refine aw_ret ?_
  obtain rfl := Option.some.inj hF
  exact prt
theorem word_Name_ok {a0 : List UInt8} {r : Bool} (hF : word_Name a0 = some r) : Abs.Fn globs_Tryd Tryd.prog 13 [.str a0] [.p (.bool r)] := by
  unfold word_Name at hF
  refine fn_of_body (n := 37) Tryd.func13 rfl rfl rfl ?_
  intro w O
  refine aw_seq ?_
  refine aw_region ?_
  refine ras ?_
  refine reg_nil ?_
  refine post_imp (s' := ⟨37, [(0, some (.pv (.str a0)))], [], 0, [], [], 0, []⟩) (imps [] ⟨by kernel_rfl, trivial⟩ trivial) ?_
  refine post_next ?_
  iterate 2 (refine aw_seq ?_)
  obtain ⟨x7, hF, hK9⟩ := bind_some hF
  refine aw_cut (fun s1 => s1 = ⟨37, [(0, some (.pv (.str a0))), (17, some (.pv (.bool x7)))], [], 0, [], [], 0, []⟩) ?_ ?_
  · refine aw_region ?_
    refine rmv ?_
    refine rgp (op_str rfl rfl rfl rfl rfl rfl) ?_
    refine rmv ?_
    rcases ite_some hF with ⟨hb1, hF⟩ | ⟨hb1, hF⟩
    · refine rgo_t hb1 ?_
      iterate 2 (refine rgo_t hb1 ?_)
      refine rpt hb1 ?_
      refine rmv ?_
      iterate 4 (refine rgo_t rfl ?_)
      refine rpt rfl ?_
      refine reg_nil ?_
      cases hF
      exact post_cut _ rfl (imps [] ⟨by kernel_rfl, by kernel_rfl, trivial⟩ trivial)
    refine rgn hb1 (op_move rfl rfl rfl rfl) ?_
    refine rgn hb1 (op_len_str rfl rfl Tryd_und_9 rfl rfl) ?_
    refine rgn hb1 (op_int (k := .i64) (m := (a0.length : Int)) (n := 20) rfl rfl rfl rfl rfl rfl) ?_
    refine rpf hb1 ?_
    refine rmv ?_
    rcases ite_some hF with ⟨hb2, hF⟩ | ⟨hb2, hF⟩
    · refine rgo_t hb2 ?_
      iterate 3 (refine rgo_t hb2 ?_)
      refine rpt hb2 ?_
      refine reg_nil ?_
      cases hF
      exact post_cut _ rfl (imps [] ⟨by kernel_rfl, by kernel_rfl, trivial⟩ trivial)
    refine rgn hb2 (op_move rfl rfl rfl rfl) ?_
    obtain ⟨y3, h4, hF⟩ := bind_some hF
    refine rgn hb2 (op_index_str (k := .i64) rfl rfl rfl h4 Tryd_und_9 rfl rfl) ?_
    obtain ⟨y5, h6, hF⟩ := bind_some hF
    refine rgn hb2 (op_call 0 rfl (caps := []) (args := [.int .u8 (y3.toNat : Int)]) (rs := [.p (.bool y5)]) rfl rfl rfl Tryd_cal_14 (word_Letter_ok h6) rfl rfl rfl) ?_
    refine rgn hb2 (op_not rfl rfl rfl rfl) ?_
    refine rpf hb2 ?_
    refine reg_nil ?_
    cases hF
    exact post_cut _ rfl (imps [] ⟨by kernel_rfl, by kernel_rfl, trivial⟩ trivial)
  rintro _ rfl
  have hF := hK9
  clear hK9
  refine post_next ?_
  rcases ite_some hF with ⟨hb10, hF⟩ | ⟨hb10, hF⟩
  · refine aw_cond_t rfl hb10 ?_
    refine aw_seq ?_
    refine aw_region ?_
    refine ras ?_
    refine reg_nil ?_
    refine post_imp (s' := ⟨37, [(2, some (.pv (.bool false)))], [], 0, [], [], 0, []⟩) (imps [] ⟨by kernel_rfl, trivial⟩ trivial) ?_
    refine post_next ?_
    refine aw_ret ?_
    refine post_then_ret ?_
    obtain rfl := Option.some.inj hF
    exact prt
  refine aw_cond_f rfl hb10 ?_
  refine aw_skip ?_
  refine post_next ?_
  iterate 2 (refine aw_seq ?_)
  refine aw_region ?_
  refine rmv ?_
  obtain ⟨u13, h14, hF⟩ := bind_some hF
  refine rgp (op_strBytes (E := eI_u8) rfl rfl Tryd_und_9 Tryd_und_33 Tryd_und_5 h14 rfl rfl rfl) ?_
  refine rgp (op_len_vs (n := (bytesL a0).length) rfl rfl (List.length_map ..) Tryd_slc_33 rfl rfl) ?_
  refine rmv ?_
  refine reg_nil ?_
  refine post_imp (s' := ⟨37, [(0, some (.pv (.str a0))), (19, some (.pv (.vs 1 (List.map eI_u8 (bytesL a0))))), (20, some (.pv (.int .i64 ((bytesL a0).length : Int)))), (21, some (.pv (.int .i64 0)))], [], 0, [], [], 0, []⟩) (imps [] ⟨by kernel_rfl, by kernel_rfl, by kernel_rfl, by kernel_rfl, trivial⟩ trivial) ?_
  refine post_next ?_
  obtain ⟨lr66, hF, hK67⟩ := bind_some hF
  refine aw_for (((((bytesL a0).length : Int) : Int) - (0)).toNat + 1) (fun s1 => ∃ q, lr66 = .next q ∧ s1 = ⟨37, [(0, some (.pv (.str a0)))], [], 0, [], [], 0, []⟩) ?_ ?_
  · refine rnd_loop (α := Int) (fun q => ⟨37, [(0, some (.pv (.str a0))), (19, some (.pv (.vs 1 (List.map eI_u8 (bytesL a0))))), (20, some (.pv (.int .i64 ((bytesL a0).length : Int)))), (21, some (.pv (.int .i64 q)))], [], 0, [], [], 0, []⟩) (fun k q => word_Name_L1 a0 k q = some lr66) 0 (imps [] ⟨by kernel_rfl, by kernel_rfl, by kernel_rfl, by kernel_rfl, trivial⟩ trivial) hF (fun q h => by cases h) ?_
    clear hF
    rintro k x31 hF ih
    refine rnd_succ ?_
    refine aw_seq ?_
    refine aw_region ?_
    refine rgp (op_int (k := .i64) (m := x31) (n := ((bytesL a0).length : Int)) rfl rfl rfl rfl rfl rfl) ?_
    refine reg_nil ?_
    refine post_imp (s' := ⟨37, [(0, some (.pv (.str a0))), (19, some (.pv (.vs 1 (List.map eI_u8 (bytesL a0))))), (20, some (.pv (.int .i64 ((bytesL a0).length : Int)))), (21, some (.pv (.int .i64 x31))), (22, some (.pv (.bool (decide (x31 < ((bytesL a0).length : Int))))))], [], 0, [], [], 0, []⟩) (imps [] ⟨by kernel_rfl, by kernel_rfl, by kernel_rfl, by kernel_rfl, by kernel_rfl, trivial⟩ trivial) ?_
    refine post_next ?_
    refine aw_seq ?_
    rcases ite_some hF with ⟨hb49, hF⟩ | ⟨hb49, hF⟩
    · refine aw_cond_t rfl hb49 ?_
      refine aw_skip ?_
      refine post_next ?_
      refine aw_seq ?_
      refine aw_block ?_
      refine aw_seq ?_
      refine aw_region ?_
      obtain ⟨y52, h53, hF⟩ := bind_some hF
      refine rgp (op_index_vs (k := .i64) rfl rfl rfl (idx_map eI_u8 h53) Tryd_slc_33 rfl rfl) ?_
      refine rgp (op_load_vp (p := .int .u8 y52) rfl rfl rfl Tryd_one_5 rfl rfl) ?_
      refine ras ?_
      refine reg_nil ?_
      refine post_imp (s' := ⟨37, [(0, some (.pv (.str a0))), (4, some (.pv (.int .u8 y52))), (19, some (.pv (.vs 1 (List.map eI_u8 (bytesL a0))))), (20, some (.pv (.int .i64 ((bytesL a0).length : Int)))), (21, some (.pv (.int .i64 x31)))], [], 0, [], [], 0, []⟩) (imps [] ⟨by kernel_rfl, by kernel_rfl, by kernel_rfl, by kernel_rfl, by kernel_rfl, trivial⟩ trivial) ?_
      refine post_next ?_
      refine aw_seq ?_
      obtain ⟨x61, hF, hK63⟩ := bind_some hF
      refine aw_cut (fun s1 => s1 = ⟨37, [(0, some (.pv (.str a0))), (19, some (.pv (.vs 1 (List.map eI_u8 (bytesL a0))))), (20, some (.pv (.int .i64 ((bytesL a0).length : Int)))), (21, some (.pv (.int .i64 x31))), (32, some (.pv (.bool x61)))], [], 0, [], [], 0, []⟩) ?_ ?_
      · refine aw_region ?_
        refine rmv ?_
        obtain ⟨y56, h57, hF⟩ := bind_some hF
        refine rgp (op_call 0 rfl (caps := []) (args := [.int .u8 y52]) (rs := [.p (.bool y56)]) rfl rfl rfl Tryd_cal_14 (word_Letter_ok h57) rfl rfl rfl) ?_
        refine rgp (op_not rfl rfl rfl rfl) ?_
        refine rmv ?_
        rcases ite_some hF with ⟨hb58, hF⟩ | ⟨hb58, hF⟩
        · refine rgn hb58 (op_move rfl rfl rfl rfl) ?_
          obtain ⟨y59, h60, hF⟩ := bind_some hF
          refine rgn hb58 (op_call 0 rfl (caps := []) (args := [.int .u8 y52]) (rs := [.p (.bool y59)]) rfl rfl rfl Tryd_cal_16 (word_Digit_ok h60) rfl rfl rfl) ?_
          refine rgn hb58 (op_not rfl rfl rfl rfl) ?_
          refine rpt hb58 ?_
          refine reg_nil ?_
          cases hF
          exact post_cut _ rfl (imps [] ⟨by kernel_rfl, by kernel_rfl, by kernel_rfl, by kernel_rfl, by kernel_rfl, trivial⟩ trivial)
        iterate 3 (refine rgo_f hb58 ?_)
        refine rpf hb58 ?_
        refine reg_nil ?_
        cases hF
        exact post_cut _ rfl (imps [] ⟨by kernel_rfl, by kernel_rfl, by kernel_rfl, by kernel_rfl, by kernel_rfl, trivial⟩ trivial)
      rintro _ rfl
      have hF := hK63
      clear hK63
      refine post_next ?_
      rcases ite_some hF with ⟨hb64, hF⟩ | ⟨hb64, hF⟩
      · refine aw_cond_t rfl hb64 ?_
        refine aw_seq ?_
        refine aw_region ?_
        refine ras ?_
        refine reg_nil ?_
        refine post_imp (s' := ⟨37, [(2, some (.pv (.bool false)))], [], 0, [], [], 0, []⟩) (imps [] ⟨by kernel_rfl, trivial⟩ trivial) ?_
        refine post_next ?_
        refine aw_ret ?_
        refine post_block_ret ?_
        iterate 2 (refine post_then_ret ?_)
        refine post_lp_ret ?_
        obtain rfl := Option.some.inj hF
        have hF := elim_stop hK67
        refine post_then_ret ?_
        obtain rfl := Option.some.inj hF
        exact prt
      refine aw_cond_f rfl hb64 ?_
      refine aw_skip ?_
      refine post_block_normal ?_
      refine post_next ?_
      refine aw_region ?_
      refine rgp (op_int (k := .i64) (m := x31) (n := 1) rfl rfl rfl rfl rfl rfl) ?_
      refine rmv ?_
      refine reg_nil ?_
      refine post_round ?_
      exact rnd_back (ih (w_i64 (x31 + 1)) hF) (imps [] ⟨by kernel_rfl, by kernel_rfl, by kernel_rfl, by kernel_rfl, trivial⟩ trivial)
    refine aw_cond_f rfl hb49 ?_
    refine aw_exit ?_
    iterate 2 (refine post_then_exit ?_)
    obtain rfl := Option.some.inj hF
    exact post_lp_break _ ⟨_, rfl, rfl⟩ (imps [] ⟨by kernel_rfl, trivial⟩ trivial)
  rintro _ ⟨⟨⟩, rfl, rfl⟩
  have hF := elim_next hK67
  clear hK67
  refine post_next ?_
  refine aw_seq ?_
  refine aw_region ?_
  refine rmv ?_
  obtain ⟨y68, h69, hF⟩ := bind_some hF
  refine rgp (op_call 0 rfl (caps := []) (args := [.str a0]) (rs := [.p (.int .i64 y68)]) rfl rfl rfl Tryd_cal_12 (word_Find_ok h69) rfl rfl rfl) ?_
  refine rgp (op_int (k := .i64) (m := y68) (n := 0) rfl rfl rfl rfl rfl rfl) ?_
  refine ras ?_
  refine reg_nil ?_
  refine post_imp (s' := ⟨37, [(2, some (.pv (.bool (y68 == 0))))], [], 0, [], [], 0, []⟩) (imps [] ⟨by kernel_rfl, trivial⟩ trivial) ?_
  refine post_next ?_
  refine aw_ret ?_
  obtain rfl := Option.some.inj hF
  exact prt
theorem law02_awake_ok  {r : Bool} (hF : law02_awake = some r) : Abs.Fn globs_Tryd Tryd.prog 6 [] [.p (.bool r)] := by
  unfold law02_awake at hF
  refine fn_of_body (n := 20) Tryd.func6 rfl rfl rfl ?_
  intro w O
  refine aw_seq ?_
  refine aw_region ?_
  refine ras ?_
  refine reg_nil ?_
  refine post_imp (s' := ⟨20, [], [], 0, [], [], 0, []⟩) (imps [] trivial trivial) ?_
  refine post_next ?_
  refine aw_seq ?_
  refine aw_region ?_
  obtain ⟨y3, h4, hF⟩ := bind_some hF
  refine rgp (op_call 0 rfl (caps := []) (args := [.str [48, 48, 55]]) (rs := [.p (.int .i64 y3.1), .p (.bool y3.2)]) rfl rfl rfl Tryd_cal_7 (word_Number_ok h4) rfl rfl rfl) ?_
  refine rmv ?_
  iterate 2 (refine rgp (op_extract rfl rfl rfl rfl rfl) ?_)
  iterate 2 (refine ras ?_)
  refine reg_nil ?_
  refine post_imp (s' := ⟨20, [(2, some (.pv (.bool y3.2)))], [], 0, [], [], 0, []⟩) (imps [] ⟨by kernel_rfl, trivial⟩ trivial) ?_
  refine post_next ?_
  refine aw_seq ?_
  refine aw_region ?_
  obtain ⟨y5, h6, hF⟩ := bind_some hF
  refine rgp (op_call 0 rfl (caps := []) (args := [.str [116, 104, 105, 115]]) (rs := [.p (.int .i64 y5)]) rfl rfl rfl Tryd_cal_12 (word_Find_ok h6) rfl rfl rfl) ?_
  refine rgp (op_int (k := .i64) (m := y5) (n := 18) rfl rfl rfl rfl rfl rfl) ?_
  refine rmv ?_
  rcases ite_some hF with ⟨hb7, hF⟩ | ⟨hb7, hF⟩
  · obtain ⟨y8, h9, hF⟩ := bind_some hF
    refine rgn hb7 (op_call 0 rfl (caps := []) (args := [.str [116, 104, 105, 115]]) (rs := [.p (.bool y8)]) rfl rfl rfl Tryd_cal_13 (word_Name_ok h9) rfl rfl rfl) ?_
    refine rgn hb7 (op_not rfl rfl rfl rfl) ?_
    refine rpt hb7 ?_
    refine rmv ?_
    rcases ite_some hF with ⟨hb10, hF⟩ | ⟨hb10, hF⟩
    · obtain ⟨y11, h12, hF⟩ := bind_some hF
      refine rgn hb10 (op_call 0 rfl (caps := []) (args := [.str [116, 104, 97, 116]]) (rs := [.p (.bool y11)]) rfl rfl rfl Tryd_cal_13 (word_Name_ok h12) rfl rfl rfl) ?_
      refine rpt hb10 ?_
      refine rmv ?_
      rcases ite_some hF with ⟨hb13, hF⟩ | ⟨hb13, hF⟩
      · refine rgn hb13 (op_move rfl rfl rfl rfl) ?_
        refine rgn hb13 (op_not rfl rfl rfl rfl) ?_
        refine rpt hb13 ?_
        refine ras ?_
        refine reg_nil ?_
        refine post_imp (s' := ⟨20, [(0, some (.pv (.bool (!y3.2))))], [], 0, [], [], 0, []⟩) (imps [] ⟨by kernel_rfl, trivial⟩ trivial) ?_
        refine post_next ?_
        refine aw_ret ?_
        obtain rfl := Option.some.inj hF
        exact prt
      iterate 2 (refine rgo_f hb13 ?_)
      refine rpf hb13 ?_
      refine ras ?_
      refine reg_nil ?_
      refine post_imp (s' := ⟨20, [(0, some (.pv (.bool false)))], [], 0, [], [], 0, []⟩) (imps [] ⟨by kernel_rfl, trivial⟩ trivial) ?_
      refine post_next ?_
      refine aw_ret ?_
      obtain rfl := Option.some.inj hF
      exact prt
    refine rgo_f hb10 ?_
    refine rpf hb10 ?_
    refine rmv ?_
    iterate 2 (refine rgo_f rfl ?_)
    refine rpf rfl ?_
    refine ras ?_
    refine reg_nil ?_
    refine post_imp (s' := ⟨20, [(0, some (.pv (.bool false)))], [], 0, [], [], 0, []⟩) (imps [] ⟨by kernel_rfl, trivial⟩ trivial) ?_
    refine post_next ?_
    refine aw_ret ?_
    obtain rfl := Option.some.inj hF
    exact prt
  iterate 2 (refine rgo_f hb7 ?_)
  refine rpf hb7 ?_
  refine rmv ?_
  refine rgo_f rfl ?_
  refine rpf rfl ?_
  refine rmv ?_
  iterate 2 (refine rgo_f rfl ?_)
  refine rpf rfl ?_
  refine ras ?_
  refine reg_nil ?_
  refine post_imp (s' := ⟨20, [(0, some (.pv (.bool false)))], [], 0, [], [], 0, []⟩) (imps [] ⟨by kernel_rfl, trivial⟩ trivial) ?_
  refine post_next ?_
  refine aw_ret ?_
  obtain rfl := Option.some.inj hF
  exact prt
theorem word_Word_ok {a0 : Int} {r : (List UInt8)} (hF : word_Word a0 = some r) : Abs.Fn globs_Tryd Tryd.prog 11 [.int .i64 a0] [.p (.str r)] := by
  unfold word_Word at hF
  refine fn_of_body (n := 13) Tryd.func11 rfl rfl rfl ?_
  intro w O
  refine aw_seq ?_
  refine aw_region ?_
  refine ras ?_
  refine reg_nil ?_
  refine post_imp (s' := ⟨13, [(0, some (.pv (.int .i64 a0)))], [], 0, [], [], 0, []⟩) (imps [] ⟨by kernel_rfl, trivial⟩ trivial) ?_
  refine post_next ?_
  iterate 2 (refine aw_seq ?_)
  obtain ⟨x2, hF, hK4⟩ := bind_some hF
  refine aw_cut (fun s1 => s1 = ⟨13, [(0, some (.pv (.int .i64 a0))), (8, some (.pv (.bool x2)))], [], 0, [], [], 0, []⟩) ?_ ?_
  · refine aw_region ?_
    refine rmv ?_
    refine rgp (op_int (k := .i64) (m := a0) (n := 1) rfl rfl rfl rfl rfl rfl) ?_
    refine rmv ?_
    rcases ite_some hF with ⟨hb1, hF⟩ | ⟨hb1, hF⟩
    · refine rgo_t hb1 ?_
      refine rgo_t hb1 ?_
      refine rpt hb1 ?_
      refine reg_nil ?_
      cases hF
      exact post_cut _ rfl (imps [] ⟨by kernel_rfl, by kernel_rfl, trivial⟩ trivial)
    refine rgn hb1 (op_move rfl rfl rfl rfl) ?_
    refine rgn hb1 (op_int (k := .i64) (m := a0) (n := 23) rfl rfl rfl rfl rfl rfl) ?_
    refine rpf hb1 ?_
    refine reg_nil ?_
    cases hF
    exact post_cut _ rfl (imps [] ⟨by kernel_rfl, by kernel_rfl, trivial⟩ trivial)
  rintro _ rfl
  have hF := hK4
  clear hK4
  refine post_next ?_
  rcases ite_some hF with ⟨hb5, hF⟩ | ⟨hb5, hF⟩
  · refine aw_cond_t rfl hb5 ?_
    refine aw_seq ?_
    refine aw_region ?_
    refine ras ?_
    refine reg_nil ?_
    refine post_imp (s' := ⟨13, [(2, some (.pv (.str [])))], [], 0, [], [], 0, []⟩) (imps [] ⟨by kernel_rfl, trivial⟩ trivial) ?_
    refine post_next ?_
    refine aw_ret ?_
    refine post_then_ret ?_
    obtain rfl := Option.some.inj hF
    exact prt
  refine aw_cond_f rfl hb5 ?_
  refine aw_skip ?_
  refine post_next ?_
  refine aw_seq ?_
  refine aw_region ?_
  refine rmv ?_
  refine rgp (op_int (k := .i64) (m := a0) (n := 1) rfl rfl rfl rfl rfl rfl) ?_
  obtain ⟨y6, h7, hF⟩ := bind_some hF
  refine rgp (op_glob_index (k := .i64) (l := glob_0) (f := eS) rfl globm_0 rfl Tryd_arr_36 globe_0 (fun _ => rfl) rfl h7 rfl rfl) ?_
  refine rgp (op_load_vp (p := .str y6) rfl rfl rfl Tryd_one_9 rfl rfl) ?_
  refine ras ?_
  refine reg_nil ?_
  refine post_imp (s' := ⟨13, [(2, some (.pv (.str y6)))], [], 0, [], [], 0, []⟩) (imps [] ⟨by kernel_rfl, trivial⟩ trivial) ?_
  refine post_next ?_
  refine aw_ret ?_
  obtain rfl := Option.some.inj hF
  exact prt
theorem law02_WordBack_ok {a0 : Int} {a1 : List UInt8} {a2 : Int} {r : Bool} (hF : law02_WordBack a0 a1 a2 = some r) : Abs.Fn globs_Tryd Tryd.prog 4 [.int .u32 a0, .str a1, .int .u8 a2] [.p (.bool r)] := by
  unfold law02_WordBack at hF
  refine fn_of_body (n := 96) Tryd.func4 rfl rfl rfl ?_
  intro w O
  refine aw_seq ?_
  refine aw_region ?_
  refine ras ?_
  refine reg_nil ?_
  refine post_imp (s' := ⟨96, [(0, some (.pv (.int .u32 a0))), (1, some (.pv (.str a1))), (2, some (.pv (.int .u8 a2)))], [], 0, [], [], 0, []⟩) (imps [] ⟨by kernel_rfl, by kernel_rfl, by kernel_rfl, trivial⟩ trivial) ?_
  refine post_next ?_
  iterate 2 (refine aw_seq ?_)
  refine aw_region ?_
  refine rmv ?_
  refine rgp (op_len_str rfl rfl Tryd_und_9 rfl rfl) ?_
  refine rgp (op_int (k := .i64) (m := (a1.length : Int)) (n := 100) rfl rfl rfl rfl rfl rfl) ?_
  refine reg_nil ?_
  refine post_imp (s' := ⟨96, [(0, some (.pv (.int .u32 a0))), (1, some (.pv (.str a1))), (2, some (.pv (.int .u8 a2))), (15, some (.pv (.bool (decide ((a1.length : Int) > 100)))))], [], 0, [], [], 0, []⟩) (imps [] ⟨by kernel_rfl, by kernel_rfl, by kernel_rfl, by kernel_rfl, trivial⟩ trivial) ?_
  refine post_next ?_
  rcases ite_some hF with ⟨hb1, hF⟩ | ⟨hb1, hF⟩
  · refine aw_cond_t rfl hb1 ?_
    refine aw_seq ?_
    refine aw_region ?_
    obtain ⟨y2, h3, hF⟩ := bind_some hF
    refine rgp (op_call 0 rfl (caps := []) (args := []) (rs := [.p (.bool y2)]) rfl rfl rfl Tryd_cal_6 (law02_awake_ok h3) rfl rfl rfl) ?_
    refine ras ?_
    refine reg_nil ?_
    refine post_imp (s' := ⟨96, [(6, some (.pv (.bool y2)))], [], 0, [], [], 0, []⟩) (imps [] ⟨by kernel_rfl, trivial⟩ trivial) ?_
    refine post_next ?_
    refine aw_ret ?_
    refine post_then_ret ?_
    obtain rfl := Option.some.inj hF
    exact prt
  refine aw_cond_f rfl hb1 ?_
  refine aw_skip ?_
  refine post_next ?_
  refine aw_seq ?_
  refine aw_region ?_
  refine rmv ?_
  refine rgp (op_int2 (k := .u32) (m := a0) (n := 1000000000) rfl rfl rfl (rem_op (by decide)) rfl rfl) ?_
  refine rgp (op_convInt rfl rfl Tryd_und_27 Tryd_und_3 rfl rfl) ?_
  refine ras ?_
  refine reg_nil ?_
  refine post_imp (s' := ⟨96, [(1, some (.pv (.str a1))), (2, some (.pv (.int .u8 a2))), (7, some (.pv (.int .i64 (w_i64 (Int.tmod a0 1000000000)))))], [], 0, [], [], 0, []⟩) (imps [] ⟨by kernel_rfl, by kernel_rfl, by kernel_rfl, trivial⟩ trivial) ?_
  refine post_next ?_
  refine aw_seq ?_
  refine aw_region ?_
  refine rmv ?_
  obtain ⟨y8, h9, hF⟩ := bind_some hF
  refine rgp (op_call 0 rfl (caps := []) (args := [.int .i64 (w_i64 (Int.tmod a0 1000000000))]) (rs := [.p (.str y8)]) rfl rfl rfl Tryd_cal_9 (word_Digits_ok h9) rfl rfl rfl) ?_
  obtain ⟨y10, h11, hF⟩ := bind_some hF
  refine rgp (op_call 0 rfl (caps := []) (args := [.str y8]) (rs := [.p (.int .i64 y10.1), .p (.bool y10.2)]) rfl rfl rfl Tryd_cal_7 (word_Number_ok h11) rfl rfl rfl) ?_
  refine rmv ?_
  iterate 2 (refine rgp (op_extract rfl rfl rfl rfl rfl) ?_)
  iterate 2 (refine ras ?_)
  refine reg_nil ?_
  refine post_imp (s' := ⟨96, [(1, some (.pv (.str a1))), (2, some (.pv (.int .u8 a2))), (7, some (.pv (.int .i64 (w_i64 (Int.tmod a0 1000000000))))), (8, some (.pv (.int .i64 y10.1))), (9, some (.pv (.bool y10.2)))], [], 0, [], [], 0, []⟩) (imps [] ⟨by kernel_rfl, by kernel_rfl, by kernel_rfl, by kernel_rfl, by kernel_rfl, trivial⟩ trivial) ?_
  refine post_next ?_
  refine aw_seq ?_
  refine aw_region ?_
  refine rmv ?_
  obtain ⟨y14, h15, hF⟩ := bind_some hF
  refine rgp (op_call 0 rfl (caps := []) (args := [.str a1]) (rs := [.p (.int .i64 y14.1), .p (.bool y14.2)]) rfl rfl rfl Tryd_cal_7 (word_Number_ok h15) rfl rfl rfl) ?_
  refine rmv ?_
  iterate 2 (refine rgp (op_extract rfl rfl rfl rfl rfl) ?_)
  iterate 2 (refine ras ?_)
  refine reg_nil ?_
  refine post_imp (s' := ⟨96, [(1, some (.pv (.str a1))), (2, some (.pv (.int .u8 a2))), (7, some (.pv (.int .i64 (w_i64 (Int.tmod a0 1000000000))))), (8, some (.pv (.int .i64 y10.1))), (9, some (.pv (.bool y10.2))), (10, some (.pv (.int .i64 y14.1))), (11, some (.pv (.bool y14.2)))], [], 0, [], [], 0, []⟩) (imps [] ⟨by kernel_rfl, by kernel_rfl, by kernel_rfl, by kernel_rfl, by kernel_rfl, by kernel_rfl, by kernel_rfl, trivial⟩ trivial) ?_
  refine post_next ?_
  refine aw_seq ?_
  refine aw_region ?_
  refine rmv ?_
  refine rgp (op_convInt rfl rfl Tryd_und_5 Tryd_und_3 rfl rfl) ?_
  refine rgp (op_int (k := .i64) (m := w_i64 a2) (n := 1) rfl rfl rfl rfl rfl rfl) ?_
  obtain ⟨y18, h19, hF⟩ := bind_some hF
  refine rgp (op_call 0 rfl (caps := []) (args := [.int .i64 (w_i64 ((w_i64 a2) + 1))]) (rs := [.p (.str y18)]) rfl rfl rfl Tryd_cal_11 (word_Word_ok h19) rfl rfl rfl) ?_
  refine ras ?_
  refine reg_nil ?_
  refine post_imp (s' := ⟨96, [(1, some (.pv (.str a1))), (2, some (.pv (.int .u8 a2))), (7, some (.pv (.int .i64 (w_i64 (Int.tmod a0 1000000000))))), (8, some (.pv (.int .i64 y10.1))), (9, some (.pv (.bool y10.2))), (10, some (.pv (.int .i64 y14.1))), (11, some (.pv (.bool y14.2))), (12, some (.pv (.str y18)))], [], 0, [], [], 0, []⟩) (imps [] ⟨by kernel_rfl, by kernel_rfl, by kernel_rfl, by kernel_rfl, by kernel_rfl, by kernel_rfl, by kernel_rfl, by kernel_rfl, trivial⟩ trivial) ?_
  refine post_next ?_
  iterate 2 (refine aw_seq ?_)
  obtain ⟨x28, hF, hK30⟩ := bind_some hF
  refine aw_cut (fun s1 => s1 = ⟨96, [(1, some (.pv (.str a1))), (2, some (.pv (.int .u8 a2))), (7, some (.pv (.int .i64 (w_i64 (Int.tmod a0 1000000000))))), (8, some (.pv (.int .i64 y10.1))), (9, some (.pv (.bool y10.2))), (12, some (.pv (.str y18))), (57, some (.pv (.bool x28)))], [], 0, [], [], 0, []⟩) ?_ ?_
  · refine aw_region ?_
    iterate 2 (refine rmv ?_)
    rcases ite_some hF with ⟨hb20, hF⟩ | ⟨hb20, hF⟩
    · refine rgn hb20 (op_move rfl rfl rfl rfl) ?_
      obtain ⟨y21, h22, hF⟩ := bind_some hF
      refine rgn hb20 (op_call 0 rfl (caps := []) (args := [.int .i64 y14.1]) (rs := [.p (.str y21)]) rfl rfl rfl Tryd_cal_9 (word_Digits_ok h22) rfl rfl rfl) ?_
      refine rgn hb20 (op_move rfl rfl rfl rfl) ?_
      refine rgn hb20 (op_str rfl rfl rfl rfl rfl rfl) ?_
      refine rgn hb20 (op_move rfl rfl rfl rfl) ?_
      rcases ite_some hF with ⟨hb23, hF⟩ | ⟨hb23, hF⟩
      · refine rgo_t hb23 ?_
        refine rgo_t hb23 ?_
        refine rgn hb20 (op_pick_t rfl rfl hb23 rfl rfl rfl) ?_
        refine rgn hb20 (op_move rfl rfl rfl rfl) ?_
        iterate 2 (refine rgo_t rfl ?_)
        refine rgn hb20 (op_pick_t rfl rfl rfl rfl rfl rfl) ?_
        refine rpt hb20 ?_
        refine rmv ?_
        iterate 3 (refine rgo_t rfl ?_)
        iterate 2 (refine rgu ?_)
        refine rgo_t rfl ?_
        refine rpt rfl ?_
        refine reg_nil ?_
        cases hF
        exact post_cut _ rfl (imps [] ⟨by kernel_rfl, by kernel_rfl, by kernel_rfl, by kernel_rfl, by kernel_rfl, by kernel_rfl, by kernel_rfl, trivial⟩ trivial)
      refine rgn hb23 (op_move rfl rfl rfl rfl) ?_
      refine rgn hb23 (op_int (k := .i64) (m := y14.1) (n := 0) rfl rfl rfl rfl rfl rfl) ?_
      refine rgn hb20 (op_pick_f rfl rfl hb23 rfl rfl rfl) ?_
      refine rgn hb20 (op_move rfl rfl rfl rfl) ?_
      rcases ite_some hF with ⟨hb24, hF⟩ | ⟨hb24, hF⟩
      · refine rgo_t hb24 ?_
        refine rgo_t hb24 ?_
        refine rgn hb20 (op_pick_t rfl rfl hb24 rfl rfl rfl) ?_
        refine rpt hb20 ?_
        refine rmv ?_
        iterate 3 (refine rgo_t rfl ?_)
        iterate 2 (refine rgu ?_)
        refine rgo_t rfl ?_
        refine rpt rfl ?_
        refine reg_nil ?_
        cases hF
        exact post_cut _ rfl (imps [] ⟨by kernel_rfl, by kernel_rfl, by kernel_rfl, by kernel_rfl, by kernel_rfl, by kernel_rfl, by kernel_rfl, trivial⟩ trivial)
      refine rgn hb24 (op_move rfl rfl rfl rfl) ?_
      refine rgn hb24 (op_int (k := .i64) (m := y14.1) (n := 999999999) rfl rfl rfl rfl rfl rfl) ?_
      refine rgn hb20 (op_pick_f rfl rfl hb24 rfl rfl rfl) ?_
      refine rpt hb20 ?_
      refine rmv ?_
      rcases ite_some hF with ⟨hb25, hF⟩ | ⟨hb25, hF⟩
      · refine rgo_t hb25 ?_
        iterate 2 (refine rgo_t hb25 ?_)
        iterate 2 (refine rgu ?_)
        refine rgo_t hb25 ?_
        refine rpt hb25 ?_
        refine reg_nil ?_
        cases hF
        exact post_cut _ rfl (imps [] ⟨by kernel_rfl, by kernel_rfl, by kernel_rfl, by kernel_rfl, by kernel_rfl, by kernel_rfl, by kernel_rfl, trivial⟩ trivial)
      refine rgn hb25 (op_move rfl rfl rfl rfl) ?_
      refine rgn hb25 (op_not rfl rfl rfl rfl) ?_
      refine rgn hb25 (op_move rfl rfl rfl rfl) ?_
      rcases ite_some hF with ⟨hb26, hF⟩ | ⟨hb26, hF⟩
      · refine rgn hb26 (op_move rfl rfl rfl rfl) ?_
        refine rgn hb26 (op_int (k := .i64) (m := y14.1) (n := 0) rfl rfl rfl rfl rfl rfl) ?_
        refine rgn hb25 (op_pick_t rfl rfl hb26 rfl rfl rfl) ?_
        refine rpf hb25 ?_
        refine reg_nil ?_
        cases hF
        exact post_cut _ rfl (imps [] ⟨by kernel_rfl, by kernel_rfl, by kernel_rfl, by kernel_rfl, by kernel_rfl, by kernel_rfl, by kernel_rfl, trivial⟩ trivial)
      iterate 2 (refine rgo_f hb26 ?_)
      refine rgn hb25 (op_pick_f rfl rfl hb26 rfl rfl rfl) ?_
      refine rpf hb25 ?_
      refine reg_nil ?_
      cases hF
      exact post_cut _ rfl (imps [] ⟨by kernel_rfl, by kernel_rfl, by kernel_rfl, by kernel_rfl, by kernel_rfl, by kernel_rfl, by kernel_rfl, trivial⟩ trivial)
    iterate 5 (refine rgo_f hb20 ?_)
    iterate 2 (refine rgu ?_)
    iterate 2 (refine rgo_f hb20 ?_)
    iterate 2 (refine rgu ?_)
    refine rgo_f hb20 ?_
    refine rpf hb20 ?_
    refine rmv ?_
    refine rgn rfl (op_move rfl rfl rfl rfl) ?_
    refine rgn rfl (op_not rfl rfl rfl rfl) ?_
    refine rgn rfl (op_move rfl rfl rfl rfl) ?_
    rcases ite_some hF with ⟨hb27, hF⟩ | ⟨hb27, hF⟩
    · refine rgn hb27 (op_move rfl rfl rfl rfl) ?_
      refine rgn hb27 (op_int (k := .i64) (m := y14.1) (n := 0) rfl rfl rfl rfl rfl rfl) ?_
      refine rgn rfl (op_pick_t rfl rfl hb27 rfl rfl rfl) ?_
      refine rpf rfl ?_
      refine reg_nil ?_
      cases hF
      exact post_cut _ rfl (imps [] ⟨by kernel_rfl, by kernel_rfl, by kernel_rfl, by kernel_rfl, by kernel_rfl, by kernel_rfl, by kernel_rfl, trivial⟩ trivial)
    iterate 2 (refine rgo_f hb27 ?_)
    refine rgn rfl (op_pick_f rfl rfl hb27 rfl rfl rfl) ?_
    refine rpf rfl ?_
    refine reg_nil ?_
    cases hF
    exact post_cut _ rfl (imps [] ⟨by kernel_rfl, by kernel_rfl, by kernel_rfl, by kernel_rfl, by kernel_rfl, by kernel_rfl, by kernel_rfl, trivial⟩ trivial)
  rintro _ rfl
  have hF := hK30
  clear hK30
  refine post_next ?_
  rcases ite_some hF with ⟨hb31, hF⟩ | ⟨hb31, hF⟩
  · refine aw_cond_t rfl hb31 ?_
    refine aw_seq ?_
    refine aw_region ?_
    refine ras ?_
    refine reg_nil ?_
    refine post_imp (s' := ⟨96, [(6, some (.pv (.bool false)))], [], 0, [], [], 0, []⟩) (imps [] ⟨by kernel_rfl, trivial⟩ trivial) ?_
    refine post_next ?_
    refine aw_ret ?_
    refine post_then_ret ?_
    obtain rfl := Option.some.inj hF
    exact prt
  refine aw_cond_f rfl hb31 ?_
  refine aw_skip ?_
  refine post_next ?_
  refine aw_seq ?_
  refine aw_region ?_
  iterate 2 (refine rmv ?_)
  rcases ite_some hF with ⟨hb32, hF⟩ | ⟨hb32, hF⟩
  · refine rgn hb32 (op_move rfl rfl rfl rfl) ?_
    refine rgn hb32 (op_move rfl rfl rfl rfl) ?_
    refine rgn hb32 (op_int (k := .i64) (m := y10.1) (n := w_i64 (Int.tmod a0 1000000000)) rfl rfl rfl rfl rfl rfl) ?_
    refine rpt hb32 ?_
    refine rmv ?_
    rcases ite_some hF with ⟨hb33, hF⟩ | ⟨hb33, hF⟩
    · refine rgn hb33 (op_move rfl rfl rfl rfl) ?_
      refine rgn hb33 (op_str rfl rfl rfl rfl rfl rfl) ?_
      refine rgn hb33 (op_move rfl rfl rfl rfl) ?_
      rcases ite_some hF with ⟨hb34, hF⟩ | ⟨hb34, hF⟩
      · refine rgo_t hb34 ?_
        iterate 6 (refine rgo_t hb34 ?_)
        iterate 3 (refine rgu ?_)
        refine rgo_t hb34 ?_
        refine rgn hb33 (op_pick_t rfl rfl hb34 rfl rfl rfl) ?_
        refine rpt hb33 ?_
        refine rmv ?_
        refine rgn rfl (op_move rfl rfl rfl rfl) ?_
        obtain ⟨y35, h36, hF⟩ := bind_some hF
        refine rgn rfl (op_call 0 rfl (caps := []) (args := [.str a1]) (rs := [.p (.int .i64 y35)]) rfl rfl rfl Tryd_cal_12 (word_Find_ok h36) rfl rfl rfl) ?_
        refine rgn rfl (op_int (k := .i64) (m := y35) (n := 0) rfl rfl rfl rfl rfl rfl) ?_
        refine rgn rfl (op_move rfl rfl rfl rfl) ?_
        rcases ite_some hF with ⟨hb37, hF⟩ | ⟨hb37, hF⟩
        · refine rgo_t hb37 ?_
          iterate 4 (refine rgo_t hb37 ?_)
          refine rgn rfl (op_pick_t rfl rfl hb37 rfl rfl rfl) ?_
          refine rpt rfl ?_
          refine rmv ?_
          obtain ⟨y38, h39, hF⟩ := bind_some hF
          refine rgn rfl (op_call 0 rfl (caps := []) (args := []) (rs := [.p (.bool y38)]) rfl rfl rfl Tryd_cal_6 (law02_awake_ok h39) rfl rfl rfl) ?_
          refine rpt rfl ?_
          refine ras ?_
          refine reg_nil ?_
          refine post_imp (s' := ⟨96, [(6, some (.pv (.bool y38)))], [], 0, [], [], 0, []⟩) (imps [] ⟨by kernel_rfl, trivial⟩ trivial) ?_
          refine post_next ?_
          refine aw_ret ?_
          obtain rfl := Option.some.inj hF
          exact prt
        refine rgn hb37 (op_move rfl rfl rfl rfl) ?_
        obtain ⟨y40, h41, hF⟩ := bind_some hF
        refine rgn hb37 (op_call 0 rfl (caps := []) (args := [.str a1]) (rs := [.p (.int .i64 y40)]) rfl rfl rfl Tryd_cal_12 (word_Find_ok h41) rfl rfl rfl) ?_
        obtain ⟨y42, h43, hF⟩ := bind_some hF
        refine rgn hb37 (op_call 0 rfl (caps := []) (args := [.int .i64 y40]) (rs := [.p (.str y42)]) rfl rfl rfl Tryd_cal_11 (word_Word_ok h43) rfl rfl rfl) ?_
        refine rgn hb37 (op_move rfl rfl rfl rfl) ?_
        refine rgn hb37 (op_str rfl rfl rfl rfl rfl rfl) ?_
        refine rgn rfl (op_pick_f rfl rfl hb37 rfl rfl rfl) ?_
        refine rpt rfl ?_
        refine rmv ?_
        rcases ite_some hF with ⟨hb44, hF⟩ | ⟨hb44, hF⟩
        · obtain ⟨y45, h46, hF⟩ := bind_some hF
          refine rgn hb44 (op_call 0 rfl (caps := []) (args := []) (rs := [.p (.bool y45)]) rfl rfl rfl Tryd_cal_6 (law02_awake_ok h46) rfl rfl rfl) ?_
          refine rpt hb44 ?_
          refine ras ?_
          refine reg_nil ?_
          refine post_imp (s' := ⟨96, [(6, some (.pv (.bool y45)))], [], 0, [], [], 0, []⟩) (imps [] ⟨by kernel_rfl, trivial⟩ trivial) ?_
          refine post_next ?_
          refine aw_ret ?_
          obtain rfl := Option.some.inj hF
          exact prt
        refine rgo_f hb44 ?_
        refine rpf hb44 ?_
        refine ras ?_
        refine reg_nil ?_
        refine post_imp (s' := ⟨96, [(6, some (.pv (.bool false)))], [], 0, [], [], 0, []⟩) (imps [] ⟨by kernel_rfl, trivial⟩ trivial) ?_
        refine post_next ?_
        refine aw_ret ?_
        obtain rfl := Option.some.inj hF
        exact prt
      refine rgn hb34 (op_move rfl rfl rfl rfl) ?_
      obtain ⟨y47, h48, hF⟩ := bind_some hF
      refine rgn hb34 (op_call 0 rfl (caps := []) (args := [.str y18]) (rs := [.p (.int .i64 y47)]) rfl rfl rfl Tryd_cal_12 (word_Find_ok h48) rfl rfl rfl) ?_
      refine rgn hb34 (op_move rfl rfl rfl rfl) ?_
      refine rgn hb34 (op_convInt rfl rfl Tryd_und_5 Tryd_und_3 rfl rfl) ?_
      refine rgn hb34 (op_int (k := .i64) (m := w_i64 a2) (n := 1) rfl rfl rfl rfl rfl rfl) ?_
      refine rgn hb34 (op_int (k := .i64) (m := y47) (n := w_i64 ((w_i64 a2) + 1)) rfl rfl rfl rfl rfl rfl) ?_
      refine rgn hb34 (op_move rfl rfl rfl rfl) ?_
      rcases ite_some hF with ⟨hb49, hF⟩ | ⟨hb49, hF⟩
      · refine rgn hb49 (op_move rfl rfl rfl rfl) ?_
        obtain ⟨y50, h51, hF⟩ := bind_some hF
        refine rgn hb49 (op_call 0 rfl (caps := []) (args := [.str y18]) (rs := [.p (.bool y50)]) rfl rfl rfl Tryd_cal_13 (word_Name_ok h51) rfl rfl rfl) ?_
        refine rgn hb49 (op_not rfl rfl rfl rfl) ?_
        refine rgn hb34 (op_pick_t rfl rfl hb49 rfl rfl rfl) ?_
        refine rgn hb33 (op_pick_f rfl rfl hb34 rfl rfl rfl) ?_
        refine rpt hb33 ?_
        refine rmv ?_
        rcases ite_some hF with ⟨hb52, hF⟩ | ⟨hb52, hF⟩
        · refine rgn hb52 (op_move rfl rfl rfl rfl) ?_
          obtain ⟨y53, h54, hF⟩ := bind_some hF
          refine rgn hb52 (op_call 0 rfl (caps := []) (args := [.str a1]) (rs := [.p (.int .i64 y53)]) rfl rfl rfl Tryd_cal_12 (word_Find_ok h54) rfl rfl rfl) ?_
          refine rgn hb52 (op_int (k := .i64) (m := y53) (n := 0) rfl rfl rfl rfl rfl rfl) ?_
          refine rgn hb52 (op_move rfl rfl rfl rfl) ?_
          rcases ite_some hF with ⟨hb55, hF⟩ | ⟨hb55, hF⟩
          · refine rgo_t hb55 ?_
            iterate 4 (refine rgo_t hb55 ?_)
            refine rgn hb52 (op_pick_t rfl rfl hb55 rfl rfl rfl) ?_
            refine rpt hb52 ?_
            refine rmv ?_
            obtain ⟨y56, h57, hF⟩ := bind_some hF
            refine rgn rfl (op_call 0 rfl (caps := []) (args := []) (rs := [.p (.bool y56)]) rfl rfl rfl Tryd_cal_6 (law02_awake_ok h57) rfl rfl rfl) ?_
            refine rpt rfl ?_
            refine ras ?_
            refine reg_nil ?_
            refine post_imp (s' := ⟨96, [(6, some (.pv (.bool y56)))], [], 0, [], [], 0, []⟩) (imps [] ⟨by kernel_rfl, trivial⟩ trivial) ?_
            refine post_next ?_
            refine aw_ret ?_
            obtain rfl := Option.some.inj hF
            exact prt
          refine rgn hb55 (op_move rfl rfl rfl rfl) ?_
          obtain ⟨y58, h59, hF⟩ := bind_some hF
          refine rgn hb55 (op_call 0 rfl (caps := []) (args := [.str a1]) (rs := [.p (.int .i64 y58)]) rfl rfl rfl Tryd_cal_12 (word_Find_ok h59) rfl rfl rfl) ?_
          obtain ⟨y60, h61, hF⟩ := bind_some hF
          refine rgn hb55 (op_call 0 rfl (caps := []) (args := [.int .i64 y58]) (rs := [.p (.str y60)]) rfl rfl rfl Tryd_cal_11 (word_Word_ok h61) rfl rfl rfl) ?_
          refine rgn hb55 (op_move rfl rfl rfl rfl) ?_
          refine rgn hb55 (op_str rfl rfl rfl rfl rfl rfl) ?_
          refine rgn hb52 (op_pick_f rfl rfl hb55 rfl rfl rfl) ?_
          refine rpt hb52 ?_
          refine rmv ?_
          rcases ite_some hF with ⟨hb62, hF⟩ | ⟨hb62, hF⟩
          · obtain ⟨y63, h64, hF⟩ := bind_some hF
            refine rgn hb62 (op_call 0 rfl (caps := []) (args := []) (rs := [.p (.bool y63)]) rfl rfl rfl Tryd_cal_6 (law02_awake_ok h64) rfl rfl rfl) ?_
            refine rpt hb62 ?_
            refine ras ?_
            refine reg_nil ?_
            refine post_imp (s' := ⟨96, [(6, some (.pv (.bool y63)))], [], 0, [], [], 0, []⟩) (imps [] ⟨by kernel_rfl, trivial⟩ trivial) ?_
            refine post_next ?_
            refine aw_ret ?_
            obtain rfl := Option.some.inj hF
            exact prt
          refine rgo_f hb62 ?_
          refine rpf hb62 ?_
          refine ras ?_
          refine reg_nil ?_
          refine post_imp (s' := ⟨96, [(6, some (.pv (.bool false)))], [], 0, [], [], 0, []⟩) (imps [] ⟨by kernel_rfl, trivial⟩ trivial) ?_
          refine post_next ?_
          refine aw_ret ?_
          obtain rfl := Option.some.inj hF
          exact prt
        iterate 4 (refine rgo_f hb52 ?_)
        iterate 5 (refine rgu ?_)
        refine rgo_f hb52 ?_
        refine rpf hb52 ?_
        refine rmv ?_
        refine rgo_f rfl ?_
        refine rpf rfl ?_
        refine ras ?_
        refine reg_nil ?_
        refine post_imp (s' := ⟨96, [(6, some (.pv (.bool false)))], [], 0, [], [], 0, []⟩) (imps [] ⟨by kernel_rfl, trivial⟩ trivial) ?_
        refine post_next ?_
        refine aw_ret ?_
        obtain rfl := Option.some.inj hF
        exact prt
      iterate 3 (refine rgo_f hb49 ?_)
      refine rgn hb34 (op_pick_f rfl rfl hb49 rfl rfl rfl) ?_
      refine rgn hb33 (op_pick_f rfl rfl hb34 rfl rfl rfl) ?_
      refine rpt hb33 ?_
      refine rmv ?_
      iterate 4 (refine rgo_f rfl ?_)
      iterate 5 (refine rgu ?_)
      refine rgo_f rfl ?_
      refine rpf rfl ?_
      refine rmv ?_
      refine rgo_f rfl ?_
      refine rpf rfl ?_
      refine ras ?_
      refine reg_nil ?_
      refine post_imp (s' := ⟨96, [(6, some (.pv (.bool false)))], [], 0, [], [], 0, []⟩) (imps [] ⟨by kernel_rfl, trivial⟩ trivial) ?_
      refine post_next ?_
      refine aw_ret ?_
      obtain rfl := Option.some.inj hF
      exact prt
    iterate 3 (refine rgo_f hb33 ?_)
    iterate 11 (refine rgu ?_)
    refine rgo_f hb33 ?_
    refine rpf hb33 ?_
    refine rmv ?_
    iterate 4 (refine rgo_f rfl ?_)
    iterate 5 (refine rgu ?_)
    refine rgo_f rfl ?_
    refine rpf rfl ?_
    refine rmv ?_
    refine rgo_f rfl ?_
    refine rpf rfl ?_
    refine ras ?_
    refine reg_nil ?_
    refine post_imp (s' := ⟨96, [(6, some (.pv (.bool false)))], [], 0, [], [], 0, []⟩) (imps [] ⟨by kernel_rfl, trivial⟩ trivial) ?_
    refine post_next ?_
    refine aw_ret ?_
    obtain rfl := Option.some.inj hF
    exact prt
  iterate 3 (refine rgo_f hb32 ?_)
  refine rpf hb32 ?_
  refine rmv ?_
  iterate 3 (refine rgo_f rfl ?_)
  iterate 11 (refine rgu ?_)
  refine rgo_f rfl ?_
  refine rpf rfl ?_
  refine rmv ?_
  iterate 4 (refine rgo_f rfl ?_)
  iterate 5 (refine rgu ?_)
  refine rgo_f rfl ?_
  refine rpf rfl ?_
  refine rmv ?_
  refine rgo_f rfl ?_
  refine rpf rfl ?_
  refine ras ?_
  refine reg_nil ?_
  refine post_imp (s' := ⟨96, [(6, some (.pv (.bool false)))], [], 0, [], [], 0, []⟩) (imps [] ⟨by kernel_rfl, trivial⟩ trivial) ?_
  refine post_next ?_
  refine aw_ret ?_
  obtain rfl := Option.some.inj hF
  exact prt
theorem ref02_Letter_ok {a0 : Int} {r : Bool} (hF : ref02_Letter a0 = some r) : Abs.Fn globs_Tryd Tryd.prog 15 [.int .u8 a0] [.p (.bool r)] := by
  unfold ref02_Letter at hF
  refine fn_of_body (n := 17) Tryd.func15 rfl rfl rfl ?_
  intro w O
  refine aw_seq ?_
  refine aw_region ?_
  refine ras ?_
  refine reg_nil ?_
  refine post_imp (s' := ⟨17, [(0, some (.pv (.int .u8 a0)))], [], 0, [], [], 0, []⟩) (imps [] ⟨by kernel_rfl, trivial⟩ trivial) ?_
  refine post_next ?_
  refine aw_seq ?_
  refine aw_region ?_
  refine rmv ?_
  refine rgp (op_int (k := .u8) (m := a0) (n := 97) rfl rfl rfl rfl rfl rfl) ?_
  refine rmv ?_
  rcases ite_some hF with ⟨hb1, hF⟩ | ⟨hb1, hF⟩
  · refine rgn hb1 (op_move rfl rfl rfl rfl) ?_
    refine rgn hb1 (op_int (k := .u8) (m := a0) (n := 122) rfl rfl rfl rfl rfl rfl) ?_
    refine rpt hb1 ?_
    refine rmv ?_
    rcases ite_some hF with ⟨hb2, hF⟩ | ⟨hb2, hF⟩
    · refine rgo_t hb2 ?_
      iterate 2 (refine rgo_t hb2 ?_)
      iterate 2 (refine rgu ?_)
      refine rgo_t hb2 ?_
      refine rpt hb2 ?_
      refine ras ?_
      refine reg_nil ?_
      refine post_imp (s' := ⟨17, [(2, some (.pv (.bool true)))], [], 0, [], [], 0, []⟩) (imps [] ⟨by kernel_rfl, trivial⟩ trivial) ?_
      refine post_next ?_
      refine aw_ret ?_
      obtain rfl := Option.some.inj hF
      exact prt
    refine rgn hb2 (op_move rfl rfl rfl rfl) ?_
    refine rgn hb2 (op_int (k := .u8) (m := a0) (n := 65) rfl rfl rfl rfl rfl rfl) ?_
    refine rgn hb2 (op_move rfl rfl rfl rfl) ?_
    rcases ite_some hF with ⟨hb3, hF⟩ | ⟨hb3, hF⟩
    · refine rgn hb3 (op_move rfl rfl rfl rfl) ?_
      refine rgn hb3 (op_int (k := .u8) (m := a0) (n := 90) rfl rfl rfl rfl rfl rfl) ?_
      refine rgn hb2 (op_pick_t rfl rfl hb3 rfl rfl rfl) ?_
      refine rpf hb2 ?_
      refine ras ?_
      refine reg_nil ?_
      refine post_imp (s' := ⟨17, [(2, some (.pv (.bool (decide (a0 ≤ 90)))))], [], 0, [], [], 0, []⟩) (imps [] ⟨by kernel_rfl, trivial⟩ trivial) ?_
      refine post_next ?_
      refine aw_ret ?_
      obtain rfl := Option.some.inj hF
      exact prt
    iterate 2 (refine rgo_f hb3 ?_)
    refine rgn hb2 (op_pick_f rfl rfl hb3 rfl rfl rfl) ?_
    refine rpf hb2 ?_
    refine ras ?_
    refine reg_nil ?_
    refine post_imp (s' := ⟨17, [(2, some (.pv (.bool false)))], [], 0, [], [], 0, []⟩) (imps [] ⟨by kernel_rfl, trivial⟩ trivial) ?_
    refine post_next ?_
    refine aw_ret ?_
    obtain rfl := Option.some.inj hF
    exact prt
  iterate 2 (refine rgo_f hb1 ?_)
  refine rpf hb1 ?_
  refine rmv ?_
  refine rgn rfl (op_move rfl rfl rfl rfl) ?_
  refine rgn rfl (op_int (k := .u8) (m := a0) (n := 65) rfl rfl rfl rfl rfl rfl) ?_
  refine rgn rfl (op_move rfl rfl rfl rfl) ?_
  rcases ite_some hF with ⟨hb4, hF⟩ | ⟨hb4, hF⟩
  · refine rgn hb4 (op_move rfl rfl rfl rfl) ?_
    refine rgn hb4 (op_int (k := .u8) (m := a0) (n := 90) rfl rfl rfl rfl rfl rfl) ?_
    refine rgn rfl (op_pick_t rfl rfl hb4 rfl rfl rfl) ?_
    refine rpf rfl ?_
    refine ras ?_
    refine reg_nil ?_
    refine post_imp (s' := ⟨17, [(2, some (.pv (.bool (decide (a0 ≤ 90)))))], [], 0, [], [], 0, []⟩) (imps [] ⟨by kernel_rfl, trivial⟩ trivial) ?_
    refine post_next ?_
    refine aw_ret ?_
    obtain rfl := Option.some.inj hF
    exact prt
  iterate 2 (refine rgo_f hb4 ?_)
  refine rgn rfl (op_pick_f rfl rfl hb4 rfl rfl rfl) ?_
  refine rpf rfl ?_
  refine ras ?_
  refine reg_nil ?_
  refine post_imp (s' := ⟨17, [(2, some (.pv (.bool false)))], [], 0, [], [], 0, []⟩) (imps [] ⟨by kernel_rfl, trivial⟩ trivial) ?_
  refine post_next ?_
  refine aw_ret ?_
  obtain rfl := Option.some.inj hF
  exact prt
theorem ref02_Digit_ok {a0 : Int} {r : Bool} (hF : ref02_Digit a0 = some r) : Abs.Fn globs_Tryd Tryd.prog 17 [.int .u8 a0] [.p (.bool r)] := by
  unfold ref02_Digit at hF
  refine fn_of_body (n := 9) Tryd.func17 rfl rfl rfl ?_
  intro w O
  refine aw_seq ?_
  refine aw_region ?_
  refine ras ?_
  refine reg_nil ?_
  refine post_imp (s' := ⟨9, [(0, some (.pv (.int .u8 a0)))], [], 0, [], [], 0, []⟩) (imps [] ⟨by kernel_rfl, trivial⟩ trivial) ?_
  refine post_next ?_
  refine aw_seq ?_
  refine aw_region ?_
  refine rmv ?_
  refine rgp (op_int (k := .u8) (m := a0) (n := 48) rfl rfl rfl rfl rfl rfl) ?_
  refine rmv ?_
  rcases ite_some hF with ⟨hb1, hF⟩ | ⟨hb1, hF⟩
  · refine rgn hb1 (op_move rfl rfl rfl rfl) ?_
    refine rgn hb1 (op_int (k := .u8) (m := a0) (n := 57) rfl rfl rfl rfl rfl rfl) ?_
    refine rpt hb1 ?_
    refine ras ?_
    refine reg_nil ?_
    refine post_imp (s' := ⟨9, [(2, some (.pv (.bool (decide (a0 ≤ 57)))))], [], 0, [], [], 0, []⟩) (imps [] ⟨by kernel_rfl, trivial⟩ trivial) ?_
    refine post_next ?_
    refine aw_ret ?_
    obtain rfl := Option.some.inj hF
    exact prt
  iterate 2 (refine rgo_f hb1 ?_)
  refine rpf hb1 ?_
  refine ras ?_
  refine reg_nil ?_
  refine post_imp (s' := ⟨9, [(2, some (.pv (.bool false)))], [], 0, [], [], 0, []⟩) (imps [] ⟨by kernel_rfl, trivial⟩ trivial) ?_
  refine post_next ?_
  refine aw_ret ?_
  obtain rfl := Option.some.inj hF
  exact prt
theorem word_Blank_ok {a0 : Int} {r : Bool} (hF : word_Blank a0 = some r) : Abs.Fn globs_Tryd Tryd.prog 18 [.int .u8 a0] [.p (.bool r)] := by
  unfold word_Blank at hF
  refine fn_of_body (n := 9) Tryd.func18 rfl rfl rfl ?_
  intro w O
  refine aw_seq ?_
  refine aw_region ?_
  refine ras ?_
  refine reg_nil ?_
  refine post_imp (s' := ⟨9, [(0, some (.pv (.int .u8 a0)))], [], 0, [], [], 0, []⟩) (imps [] ⟨by kernel_rfl, trivial⟩ trivial) ?_
  refine post_next ?_
  iterate 2 (refine aw_seq ?_)
  refine aw_region ?_
  refine rmv ?_
  refine reg_nil ?_
  refine post_imp (s' := ⟨9, [(3, some (.pv (.int .u8 a0)))], [], 0, [], [], 0, []⟩) (imps [] ⟨by kernel_rfl, trivial⟩ trivial) ?_
  refine post_next ?_
  refine aw_block ?_
  refine aw_seq ?_
  obtain ⟨x4, hF, hK6⟩ := bind_some hF
  refine aw_cut (fun s1 => s1 = ⟨9, [(4, some (.pv (.bool x4)))], [], 0, [], [], 0, []⟩) ?_ ?_
  · refine aw_seq ?_
    refine aw_region ?_
    refine rgp (op_int (k := .u8) (m := a0) (n := 9) rfl rfl rfl rfl rfl rfl) ?_
    refine ras ?_
    refine reg_nil ?_
    refine post_imp (s' := ⟨9, [(3, some (.pv (.int .u8 a0))), (4, some (.pv (.bool (a0 == 9))))], [], 0, [], [], 0, []⟩) (imps [] ⟨by kernel_rfl, by kernel_rfl, trivial⟩ trivial) ?_
    refine post_next ?_
    rcases ite_some hF with ⟨hb1, hF⟩ | ⟨hb1, hF⟩
    · refine aw_cond_t rfl hb1 ?_
      refine aw_skip ?_
      cases hF
      exact post_cut _ rfl (imps [] ⟨by kernel_rfl, trivial⟩ trivial)
    refine aw_cond_f rfl hb1 ?_
    refine aw_seq ?_
    refine aw_region ?_
    refine rgp (op_int (k := .u8) (m := a0) (n := 10) rfl rfl rfl rfl rfl rfl) ?_
    refine ras ?_
    refine reg_nil ?_
    refine post_imp (s' := ⟨9, [(3, some (.pv (.int .u8 a0))), (4, some (.pv (.bool (a0 == 10))))], [], 0, [], [], 0, []⟩) (imps [] ⟨by kernel_rfl, by kernel_rfl, trivial⟩ trivial) ?_
    refine post_next ?_
    rcases ite_some hF with ⟨hb2, hF⟩ | ⟨hb2, hF⟩
    · refine aw_cond_t rfl hb2 ?_
      refine aw_skip ?_
      cases hF
      exact post_cut _ rfl (imps [] ⟨by kernel_rfl, trivial⟩ trivial)
    refine aw_cond_f rfl hb2 ?_
    refine aw_seq ?_
    refine aw_region ?_
    refine rgp (op_int (k := .u8) (m := a0) (n := 13) rfl rfl rfl rfl rfl rfl) ?_
    refine ras ?_
    refine reg_nil ?_
    refine post_imp (s' := ⟨9, [(3, some (.pv (.int .u8 a0))), (4, some (.pv (.bool (a0 == 13))))], [], 0, [], [], 0, []⟩) (imps [] ⟨by kernel_rfl, by kernel_rfl, trivial⟩ trivial) ?_
    refine post_next ?_
    rcases ite_some hF with ⟨hb3, hF⟩ | ⟨hb3, hF⟩
    · refine aw_cond_t rfl hb3 ?_
      refine aw_skip ?_
      cases hF
      exact post_cut _ rfl (imps [] ⟨by kernel_rfl, trivial⟩ trivial)
    refine aw_cond_f rfl hb3 ?_
    refine aw_region ?_
    refine rgp (op_int (k := .u8) (m := a0) (n := 32) rfl rfl rfl rfl rfl rfl) ?_
    refine ras ?_
    refine reg_nil ?_
    cases hF
    exact post_cut _ rfl (imps [] ⟨by kernel_rfl, trivial⟩ trivial)
  rintro _ rfl
  have hF := hK6
  clear hK6
  refine post_next ?_
  rcases ite_some hF with ⟨hb7, hF⟩ | ⟨hb7, hF⟩
  · refine aw_cond_t rfl hb7 ?_
    refine aw_seq ?_
    refine aw_region ?_
    refine ras ?_
    refine reg_nil ?_
    refine post_imp (s' := ⟨9, [(2, some (.pv (.bool true)))], [], 0, [], [], 0, []⟩) (imps [] ⟨by kernel_rfl, trivial⟩ trivial) ?_
    refine post_next ?_
    refine aw_ret ?_
    refine post_block_ret ?_
    refine post_then_ret ?_
    obtain rfl := Option.some.inj hF
    exact prt
  refine aw_cond_f rfl hb7 ?_
  refine aw_skip ?_
  refine post_block_normal ?_
  refine post_next ?_
  refine aw_seq ?_
  refine aw_region ?_
  refine ras ?_
  refine reg_nil ?_
  refine post_imp (s' := ⟨9, [(2, some (.pv (.bool false)))], [], 0, [], [], 0, []⟩) (imps [] ⟨by kernel_rfl, trivial⟩ trivial) ?_
  refine post_next ?_
  refine aw_ret ?_
  obtain rfl := Option.some.inj hF
  exact prt
theorem ref02_Blank_ok {a0 : Int} {r : Bool} (hF : ref02_Blank a0 = some r) : Abs.Fn globs_Tryd Tryd.prog 19 [.int .u8 a0] [.p (.bool r)] := by
  unfold ref02_Blank at hF
  refine fn_of_body (n := 17) Tryd.func19 rfl rfl rfl ?_
  intro w O
  refine aw_seq ?_
  refine aw_region ?_
  refine ras ?_
  refine reg_nil ?_
  refine post_imp (s' := ⟨17, [(0, some (.pv (.int .u8 a0)))], [], 0, [], [], 0, []⟩) (imps [] ⟨by kernel_rfl, trivial⟩ trivial) ?_
  refine post_next ?_
  refine aw_seq ?_
  refine aw_region ?_
  refine rmv ?_
  refine rgp (op_int (k := .u8) (m := a0) (n := 9) rfl rfl rfl rfl rfl rfl) ?_
  refine rmv ?_
  rcases ite_some hF with ⟨hb1, hF⟩ | ⟨hb1, hF⟩
  · refine rgo_t hb1 ?_
    refine rgo_t hb1 ?_
    refine rpt hb1 ?_
    refine rmv ?_
    iterate 2 (refine rgo_t rfl ?_)
    refine rpt rfl ?_
    refine rmv ?_
    iterate 2 (refine rgo_t rfl ?_)
    refine rpt rfl ?_
    refine ras ?_
    refine reg_nil ?_
    refine post_imp (s' := ⟨17, [(2, some (.pv (.bool true)))], [], 0, [], [], 0, []⟩) (imps [] ⟨by kernel_rfl, trivial⟩ trivial) ?_
    refine post_next ?_
    refine aw_ret ?_
    obtain rfl := Option.some.inj hF
    exact prt
  refine rgn hb1 (op_move rfl rfl rfl rfl) ?_
  refine rgn hb1 (op_int (k := .u8) (m := a0) (n := 10) rfl rfl rfl rfl rfl rfl) ?_
  refine rpf hb1 ?_
  refine rmv ?_
  rcases ite_some hF with ⟨hb2, hF⟩ | ⟨hb2, hF⟩
  · refine rgo_t hb2 ?_
    refine rgo_t hb2 ?_
    refine rpt hb2 ?_
    refine rmv ?_
    iterate 2 (refine rgo_t rfl ?_)
    refine rpt rfl ?_
    refine ras ?_
    refine reg_nil ?_
    refine post_imp (s' := ⟨17, [(2, some (.pv (.bool true)))], [], 0, [], [], 0, []⟩) (imps [] ⟨by kernel_rfl, trivial⟩ trivial) ?_
    refine post_next ?_
    refine aw_ret ?_
    obtain rfl := Option.some.inj hF
    exact prt
  refine rgn hb2 (op_move rfl rfl rfl rfl) ?_
  refine rgn hb2 (op_int (k := .u8) (m := a0) (n := 13) rfl rfl rfl rfl rfl rfl) ?_
  refine rpf hb2 ?_
  refine rmv ?_
  rcases ite_some hF with ⟨hb3, hF⟩ | ⟨hb3, hF⟩
  · refine rgo_t hb3 ?_
    refine rgo_t hb3 ?_
    refine rpt hb3 ?_
    refine ras ?_
    refine reg_nil ?_
    refine post_imp (s' := ⟨17, [(2, some (.pv (.bool true)))], [], 0, [], [], 0, []⟩) (imps [] ⟨by kernel_rfl, trivial⟩ trivial) ?_
    refine post_next ?_
    refine aw_ret ?_
    obtain rfl := Option.some.inj hF
    exact prt
  refine rgn hb3 (op_move rfl rfl rfl rfl) ?_
  refine rgn hb3 (op_int (k := .u8) (m := a0) (n := 32) rfl rfl rfl rfl rfl rfl) ?_
  refine rpf hb3 ?_
  refine ras ?_
  refine reg_nil ?_
  refine post_imp (s' := ⟨17, [(2, some (.pv (.bool (a0 == 32))))], [], 0, [], [], 0, []⟩) (imps [] ⟨by kernel_rfl, trivial⟩ trivial) ?_
  refine post_next ?_
  refine aw_ret ?_
  obtain rfl := Option.some.inj hF
  exact prt
theorem ref02_Words_ok  {r : (List (List UInt8))} (hF : ref02_Words = some r) : Abs.Fn globs_Tryd Tryd.prog 26 [] [.p (.vs 1 (List.map eS r))] := by
  unfold ref02_Words at hF
  refine fn_of_body (n := 2) Tryd.func26 rfl rfl rfl ?_
  intro w O
  refine aw_seq ?_
  refine aw_region ?_
  refine ras ?_
  refine reg_nil ?_
  refine post_imp (s' := ⟨2, [], [], 0, [], [], 0, []⟩) (imps [] trivial trivial) ?_
  refine post_next ?_
  refine aw_seq ?_
  refine aw_region ?_
  refine rgp (op_lit (rows := List.map eS ([[99, 108, 97, 115, 115], [101, 120, 116, 101, 110, 100, 115], [114, 101, 112], [112, 101, 101, 114], [119, 111, 114, 108, 100], [97, 110, 121], [117, 110, 105, 113, 117, 101], [112, 117, 114, 101], [118, 111, 105, 100], [105, 110, 116], [105, 102], [101, 108, 115, 101], [119, 104, 105, 108, 101], [114, 101, 116, 117, 114, 110], [110, 101, 119], [109, 111, 118, 101], [100, 101, 108, 101, 116, 101], [116, 104, 105, 115], [110, 117, 108, 108], [105, 110, 112, 117, 116], [110, 105, 108], [115, 97, 109, 101], [99, 97, 115, 116]] : List (List UInt8))) (zs := [.str []]) rfl rfl Tryd_slc_38 Tryd_zer_9 (by exact ⟨rfl, trivial⟩) rfl rfl rfl rfl rfl rfl rfl rfl) ?_
  refine ras ?_
  refine reg_nil ?_
  refine post_imp (s' := ⟨2, [(0, some (.pv (.vs 1 (List.map eS [[99, 108, 97, 115, 115], [101, 120, 116, 101, 110, 100, 115], [114, 101, 112], [112, 101, 101, 114], [119, 111, 114, 108, 100], [97, 110, 121], [117, 110, 105, 113, 117, 101], [112, 117, 114, 101], [118, 111, 105, 100], [105, 110, 116], [105, 102], [101, 108, 115, 101], [119, 104, 105, 108, 101], [114, 101, 116, 117, 114, 110], [110, 101, 119], [109, 111, 118, 101], [100, 101, 108, 101, 116, 101], [116, 104, 105, 115], [110, 117, 108, 108], [105, 110, 112, 117, 116], [110, 105, 108], [115, 97, 109, 101], [99, 97, 115, 116]]))))], [], 0, [], [], 0, []⟩) (imps [] ⟨by kernel_rfl, trivial⟩ trivial) ?_
  refine post_next ?_
  refine aw_ret ?_
  obtain rfl := Option.some.inj hF
  exact prt
theorem ref02_Find_ok {a0 : List UInt8} {r : Int} (hF : ref02_Find a0 = some r) : Abs.Fn globs_Tryd Tryd.prog 21 [.str a0] [.p (.int .i64 r)] := by
  unfold ref02_Find at hF
  refine fn_of_body (n := 20) Tryd.func21 rfl rfl rfl ?_
  intro w O
  refine aw_seq ?_
  refine aw_region ?_
  refine ras ?_
  refine reg_nil ?_
  refine post_imp (s' := ⟨20, [(0, some (.pv (.str a0)))], [], 0, [], [], 0, []⟩) (imps [] ⟨by kernel_rfl, trivial⟩ trivial) ?_
  refine post_next ?_
  refine aw_seq ?_
  refine aw_region ?_
  obtain ⟨y3, h4, hF⟩ := bind_some hF
  refine rgp (op_call 0 rfl (caps := []) (args := []) (rs := [.p (.vs 1 (List.map eS y3))]) rfl rfl rfl Tryd_cal_26 (ref02_Words_ok h4) rfl rfl rfl) ?_
  refine ras ?_
  refine reg_nil ?_
  refine post_imp (s' := ⟨20, [(0, some (.pv (.str a0))), (3, some (.pv (.vs 1 (List.map eS y3))))], [], 0, [], [], 0, []⟩) (imps [] ⟨by kernel_rfl, by kernel_rfl, trivial⟩ trivial) ?_
  refine post_next ?_
  iterate 2 (refine aw_seq ?_)
  refine aw_region ?_
  refine ras ?_
  refine reg_nil ?_
  refine post_imp (s' := ⟨20, [(0, some (.pv (.str a0))), (3, some (.pv (.vs 1 (List.map eS y3)))), (4, some (.pv (.int .i64 0)))], [], 0, [], [], 0, []⟩) (imps [] ⟨by kernel_rfl, by kernel_rfl, by kernel_rfl, trivial⟩ trivial) ?_
  refine post_next ?_
  obtain ⟨lr26, hF, hK27⟩ := bind_some hF
  refine aw_for ((((y3.length : Int) : Int) - (0)).toNat + 1) (fun s1 => ∃ q, lr26 = .next q ∧ s1 = ⟨20, [], [], 0, [], [], 0, []⟩) ?_ ?_
  · refine rnd_loop (α := Int) (fun q => ⟨20, [(0, some (.pv (.str a0))), (3, some (.pv (.vs 1 (List.map eS y3)))), (4, some (.pv (.int .i64 q)))], [], 0, [], [], 0, []⟩) (fun k q => ref02_Find_L1 a0 y3 k q = some lr26) 0 (imps [] ⟨by kernel_rfl, by kernel_rfl, by kernel_rfl, trivial⟩ trivial) hF (fun q h => by cases h) ?_
    clear hF
    rintro k x11 hF ih
    refine rnd_succ ?_
    iterate 2 (refine aw_seq ?_)
    refine aw_region ?_
    iterate 2 (refine rmv ?_)
    refine rgp (op_len_vs (n := y3.length) rfl rfl (List.length_map ..) Tryd_slc_38 rfl rfl) ?_
    refine rgp (op_int (k := .i64) (m := x11) (n := (y3.length : Int)) rfl rfl rfl rfl rfl rfl) ?_
    refine reg_nil ?_
    refine post_imp (s' := ⟨20, [(0, some (.pv (.str a0))), (3, some (.pv (.vs 1 (List.map eS y3)))), (4, some (.pv (.int .i64 x11))), (9, some (.pv (.bool (decide (x11 < (y3.length : Int))))))], [], 0, [], [], 0, []⟩) (imps [] ⟨by kernel_rfl, by kernel_rfl, by kernel_rfl, by kernel_rfl, trivial⟩ trivial) ?_
    refine post_next ?_
    rcases ite_some hF with ⟨hb19, hF⟩ | ⟨hb19, hF⟩
    · refine aw_cond_t rfl hb19 ?_
      refine aw_skip ?_
      refine post_next ?_
      refine aw_seq ?_
      refine aw_block ?_
      refine aw_seq ?_
      refine aw_region ?_
      iterate 2 (refine rmv ?_)
      obtain ⟨y22, h23, hF⟩ := bind_some hF
      refine rgp (op_index_vs (k := .i64) rfl rfl rfl (idx_map eS h23) Tryd_slc_38 rfl rfl) ?_
      refine rgp (op_load_vp (p := .str y22) rfl rfl rfl Tryd_one_9 rfl rfl) ?_
      refine rmv ?_
      refine rgp (op_str rfl rfl rfl rfl rfl rfl) ?_
      refine reg_nil ?_
      refine post_imp (s' := ⟨20, [(0, some (.pv (.str a0))), (3, some (.pv (.vs 1 (List.map eS y3)))), (4, some (.pv (.int .i64 x11))), (17, some (.pv (.bool (y22 == a0))))], [], 0, [], [], 0, []⟩) (imps [] ⟨by kernel_rfl, by kernel_rfl, by kernel_rfl, by kernel_rfl, trivial⟩ trivial) ?_
      refine post_next ?_
      rcases ite_some hF with ⟨hb24, hF⟩ | ⟨hb24, hF⟩
      · refine aw_cond_t rfl hb24 ?_
        refine aw_seq ?_
        refine aw_region ?_
        refine rmv ?_
        refine rgp (op_int (k := .i64) (m := x11) (n := 1) rfl rfl rfl rfl rfl rfl) ?_
        refine ras ?_
        refine reg_nil ?_
        refine post_imp (s' := ⟨20, [(2, some (.pv (.int .i64 (w_i64 (x11 + 1)))))], [], 0, [], [], 0, []⟩) (imps [] ⟨by kernel_rfl, trivial⟩ trivial) ?_
        refine post_next ?_
        refine aw_ret ?_
        refine post_block_ret ?_
        iterate 2 (refine post_then_ret ?_)
        refine post_lp_ret ?_
        obtain rfl := Option.some.inj hF
        have hF := elim_stop hK27
        refine post_then_ret ?_
        obtain rfl := Option.some.inj hF
        exact prt
      refine aw_cond_f rfl hb24 ?_
      refine aw_skip ?_
      refine post_block_normal ?_
      refine post_next ?_
      refine aw_region ?_
      refine rmv ?_
      refine rgp (op_int (k := .i64) (m := x11) (n := 1) rfl rfl rfl rfl rfl rfl) ?_
      refine ras ?_
      refine reg_nil ?_
      refine post_round ?_
      exact rnd_back (ih (w_i64 (x11 + 1)) hF) (imps [] ⟨by kernel_rfl, by kernel_rfl, by kernel_rfl, trivial⟩ trivial)
    refine aw_cond_f rfl hb19 ?_
    refine aw_exit ?_
    iterate 2 (refine post_then_exit ?_)
    obtain rfl := Option.some.inj hF
    exact post_lp_break _ ⟨_, rfl, rfl⟩ (imps [] trivial trivial)
  rintro _ ⟨⟨⟩, rfl, rfl⟩
  have hF := elim_next hK27
  clear hK27
  refine post_next ?_
  refine aw_seq ?_
  refine aw_region ?_
  refine ras ?_
  refine reg_nil ?_
  refine post_imp (s' := ⟨20, [(2, some (.pv (.int .i64 0)))], [], 0, [], [], 0, []⟩) (imps [] ⟨by kernel_rfl, trivial⟩ trivial) ?_
  refine post_next ?_
  refine aw_ret ?_
  obtain rfl := Option.some.inj hF
  exact prt
theorem ref02_Name_ok {a0 : List UInt8} {r : Bool} (hF : ref02_Name a0 = some r) : Abs.Fn globs_Tryd Tryd.prog 20 [.str a0] [.p (.bool r)] := by
  unfold ref02_Name at hF
  refine fn_of_body (n := 41) Tryd.func20 rfl rfl rfl ?_
  intro w O
  refine aw_seq ?_
  refine aw_region ?_
  refine ras ?_
  refine reg_nil ?_
  refine post_imp (s' := ⟨41, [(0, some (.pv (.str a0)))], [], 0, [], [], 0, []⟩) (imps [] ⟨by kernel_rfl, trivial⟩ trivial) ?_
  refine post_next ?_
  iterate 2 (refine aw_seq ?_)
  obtain ⟨x10, hF, hK12⟩ := bind_some hF
  refine aw_cut (fun s1 => s1 = ⟨41, [(0, some (.pv (.str a0))), (22, some (.pv (.bool x10)))], [], 0, [], [], 0, []⟩) ?_ ?_
  · refine aw_region ?_
    refine rmv ?_
    refine rgp (op_len_str rfl rfl Tryd_und_9 rfl rfl) ?_
    refine rgp (op_int (k := .i64) (m := (a0.length : Int)) (n := 1) rfl rfl rfl rfl rfl rfl) ?_
    refine rmv ?_
    rcases ite_some hF with ⟨hb1, hF⟩ | ⟨hb1, hF⟩
    · refine rgo_t hb1 ?_
      iterate 2 (refine rgo_t hb1 ?_)
      refine rpt hb1 ?_
      refine rmv ?_
      iterate 4 (refine rgo_t rfl ?_)
      refine rpt rfl ?_
      refine rmv ?_
      iterate 3 (refine rgo_t rfl ?_)
      refine rpt rfl ?_
      refine reg_nil ?_
      cases hF
      exact post_cut _ rfl (imps [] ⟨by kernel_rfl, by kernel_rfl, trivial⟩ trivial)
    refine rgn hb1 (op_move rfl rfl rfl rfl) ?_
    refine rgn hb1 (op_len_str rfl rfl Tryd_und_9 rfl rfl) ?_
    refine rgn hb1 (op_int (k := .i64) (m := (a0.length : Int)) (n := 20) rfl rfl rfl rfl rfl rfl) ?_
    refine rpf hb1 ?_
    refine rmv ?_
    rcases ite_some hF with ⟨hb2, hF⟩ | ⟨hb2, hF⟩
    · refine rgo_t hb2 ?_
      iterate 3 (refine rgo_t hb2 ?_)
      refine rpt hb2 ?_
      refine rmv ?_
      iterate 3 (refine rgo_t rfl ?_)
      refine rpt rfl ?_
      refine reg_nil ?_
      cases hF
      exact post_cut _ rfl (imps [] ⟨by kernel_rfl, by kernel_rfl, trivial⟩ trivial)
    refine rgn hb2 (op_move rfl rfl rfl rfl) ?_
    obtain ⟨y3, h4, hF⟩ := bind_some hF
    refine rgn hb2 (op_index_str (k := .i64) rfl rfl rfl h4 Tryd_und_9 rfl rfl) ?_
    obtain ⟨y5, h6, hF⟩ := bind_some hF
    refine rgn hb2 (op_call 0 rfl (caps := []) (args := [.int .u8 (y3.toNat : Int)]) (rs := [.p (.bool y5)]) rfl rfl rfl Tryd_cal_15 (ref02_Letter_ok h6) rfl rfl rfl) ?_
    refine rgn hb2 (op_not rfl rfl rfl rfl) ?_
    refine rpf hb2 ?_
    refine rmv ?_
    rcases ite_some hF with ⟨hb7, hF⟩ | ⟨hb7, hF⟩
    · refine rgo_t hb7 ?_
      iterate 2 (refine rgo_t hb7 ?_)
      refine rpt hb7 ?_
      refine reg_nil ?_
      cases hF
      exact post_cut _ rfl (imps [] ⟨by kernel_rfl, by kernel_rfl, trivial⟩ trivial)
    refine rgn hb7 (op_move rfl rfl rfl rfl) ?_
    obtain ⟨y8, h9, hF⟩ := bind_some hF
    refine rgn hb7 (op_call 0 rfl (caps := []) (args := [.str a0]) (rs := [.p (.int .i64 y8)]) rfl rfl rfl Tryd_cal_21 (ref02_Find_ok h9) rfl rfl rfl) ?_
    refine rgn hb7 (op_int (k := .i64) (m := y8) (n := 0) rfl rfl rfl rfl rfl rfl) ?_
    refine rpf hb7 ?_
    refine reg_nil ?_
    cases hF
    exact post_cut _ rfl (imps [] ⟨by kernel_rfl, by kernel_rfl, trivial⟩ trivial)
  rintro _ rfl
  have hF := hK12
  clear hK12
  refine post_next ?_
  rcases ite_some hF with ⟨hb13, hF⟩ | ⟨hb13, hF⟩
  · refine aw_cond_t rfl hb13 ?_
    refine aw_seq ?_
    refine aw_region ?_
    refine ras ?_
    refine reg_nil ?_
    refine post_imp (s' := ⟨41, [(2, some (.pv (.bool false)))], [], 0, [], [], 0, []⟩) (imps [] ⟨by kernel_rfl, trivial⟩ trivial) ?_
    refine post_next ?_
    refine aw_ret ?_
    refine post_then_ret ?_
    obtain rfl := Option.some.inj hF
    exact prt
  refine aw_cond_f rfl hb13 ?_
  refine aw_skip ?_
  refine post_next ?_
  iterate 2 (refine aw_seq ?_)
  refine aw_region ?_
  refine ras ?_
  refine reg_nil ?_
  refine post_imp (s' := ⟨41, [(0, some (.pv (.str a0))), (3, some (.pv (.int .i64 0)))], [], 0, [], [], 0, []⟩) (imps [] ⟨by kernel_rfl, by kernel_rfl, trivial⟩ trivial) ?_
  refine post_next ?_
  obtain ⟨lr71, hF, hK72⟩ := bind_some hF
  refine aw_for ((((a0.length : Int) : Int) - (0)).toNat + 1) (fun s1 => ∃ q, lr71 = .next q ∧ s1 = ⟨41, [], [], 0, [], [], 0, []⟩) ?_ ?_
  · refine rnd_loop (α := Int) (fun q => ⟨41, [(0, some (.pv (.str a0))), (3, some (.pv (.int .i64 q)))], [], 0, [], [], 0, []⟩) (fun k q => ref02_Name_L1 a0 k q = some lr71) 0 (imps [] ⟨by kernel_rfl, by kernel_rfl, trivial⟩ trivial) hF (fun q h => by cases h) ?_
    clear hF
    rintro k x32 hF ih
    refine rnd_succ ?_
    iterate 2 (refine aw_seq ?_)
    refine aw_region ?_
    iterate 2 (refine rmv ?_)
    refine rgp (op_len_str rfl rfl Tryd_und_9 rfl rfl) ?_
    refine rgp (op_int (k := .i64) (m := x32) (n := (a0.length : Int)) rfl rfl rfl rfl rfl rfl) ?_
    refine reg_nil ?_
    refine post_imp (s' := ⟨41, [(0, some (.pv (.str a0))), (3, some (.pv (.int .i64 x32))), (26, some (.pv (.bool (decide (x32 < (a0.length : Int))))))], [], 0, [], [], 0, []⟩) (imps [] ⟨by kernel_rfl, by kernel_rfl, by kernel_rfl, trivial⟩ trivial) ?_
    refine post_next ?_
    rcases ite_some hF with ⟨hb52, hF⟩ | ⟨hb52, hF⟩
    · refine aw_cond_t rfl hb52 ?_
      refine aw_skip ?_
      refine post_next ?_
      refine aw_seq ?_
      refine aw_block ?_
      refine aw_seq ?_
      obtain ⟨x66, hF, hK68⟩ := bind_some hF
      refine aw_cut (fun s1 => s1 = ⟨41, [(0, some (.pv (.str a0))), (3, some (.pv (.int .i64 x32))), (40, some (.pv (.bool x66)))], [], 0, [], [], 0, []⟩) ?_ ?_
      · refine aw_region ?_
        iterate 2 (refine rmv ?_)
        obtain ⟨y57, h58, hF⟩ := bind_some hF
        refine rgp (op_index_str (k := .i64) rfl rfl rfl h58 Tryd_und_9 rfl rfl) ?_
        obtain ⟨y59, h60, hF⟩ := bind_some hF
        refine rgp (op_call 0 rfl (caps := []) (args := [.int .u8 (y57.toNat : Int)]) (rs := [.p (.bool y59)]) rfl rfl rfl Tryd_cal_15 (ref02_Letter_ok h60) rfl rfl rfl) ?_
        refine rgp (op_not rfl rfl rfl rfl) ?_
        refine rmv ?_
        rcases ite_some hF with ⟨hb61, hF⟩ | ⟨hb61, hF⟩
        · refine rgn hb61 (op_move rfl rfl rfl rfl) ?_
          refine rgn hb61 (op_move rfl rfl rfl rfl) ?_
          obtain ⟨y62, h63, hF⟩ := bind_some hF
          refine rgn hb61 (op_index_str (k := .i64) rfl rfl rfl h63 Tryd_und_9 rfl rfl) ?_
          obtain ⟨y64, h65, hF⟩ := bind_some hF
          refine rgn hb61 (op_call 0 rfl (caps := []) (args := [.int .u8 (y62.toNat : Int)]) (rs := [.p (.bool y64)]) rfl rfl rfl Tryd_cal_17 (ref02_Digit_ok h65) rfl rfl rfl) ?_
          refine rgn hb61 (op_not rfl rfl rfl rfl) ?_
          refine rpt hb61 ?_
          refine reg_nil ?_
          cases hF
          exact post_cut _ rfl (imps [] ⟨by kernel_rfl, by kernel_rfl, by kernel_rfl, trivial⟩ trivial)
        iterate 5 (refine rgo_f hb61 ?_)
        refine rpf hb61 ?_
        refine reg_nil ?_
        cases hF
        exact post_cut _ rfl (imps [] ⟨by kernel_rfl, by kernel_rfl, by kernel_rfl, trivial⟩ trivial)
      rintro _ rfl
      have hF := hK68
      clear hK68
      refine post_next ?_
      rcases ite_some hF with ⟨hb69, hF⟩ | ⟨hb69, hF⟩
      · refine aw_cond_t rfl hb69 ?_
        refine aw_seq ?_
        refine aw_region ?_
        refine ras ?_
        refine reg_nil ?_
        refine post_imp (s' := ⟨41, [(2, some (.pv (.bool false)))], [], 0, [], [], 0, []⟩) (imps [] ⟨by kernel_rfl, trivial⟩ trivial) ?_
        refine post_next ?_
        refine aw_ret ?_
        refine post_block_ret ?_
        iterate 2 (refine post_then_ret ?_)
        refine post_lp_ret ?_
        obtain rfl := Option.some.inj hF
        have hF := elim_stop hK72
        refine post_then_ret ?_
        obtain rfl := Option.some.inj hF
        exact prt
      refine aw_cond_f rfl hb69 ?_
      refine aw_skip ?_
      refine post_block_normal ?_
      refine post_next ?_
      refine aw_region ?_
      refine rmv ?_
      refine rgp (op_int (k := .i64) (m := x32) (n := 1) rfl rfl rfl rfl rfl rfl) ?_
      refine ras ?_
      refine reg_nil ?_
      refine post_round ?_
      exact rnd_back (ih (w_i64 (x32 + 1)) hF) (imps [] ⟨by kernel_rfl, by kernel_rfl, trivial⟩ trivial)
    refine aw_cond_f rfl hb52 ?_
    refine aw_exit ?_
    iterate 2 (refine post_then_exit ?_)
    obtain rfl := Option.some.inj hF
    exact post_lp_break _ ⟨_, rfl, rfl⟩ (imps [] trivial trivial)
  rintro _ ⟨⟨⟩, rfl, rfl⟩
  have hF := elim_next hK72
  clear hK72
  refine post_next ?_
  refine aw_seq ?_
  refine aw_region ?_
  refine ras ?_
  refine reg_nil ?_
  refine post_imp (s' := ⟨41, [(2, some (.pv (.bool true)))], [], 0, [], [], 0, []⟩) (imps [] ⟨by kernel_rfl, trivial⟩ trivial) ?_
  refine post_next ?_
  refine aw_ret ?_
  obtain rfl := Option.some.inj hF
  exact prt
theorem ref02_Word_ok {a0 : Int} {r : (List UInt8)} (hF : ref02_Word a0 = some r) : Abs.Fn globs_Tryd Tryd.prog 22 [.int .i64 a0] [.p (.str r)] := by
  unfold ref02_Word at hF
  refine fn_of_body (n := 20) Tryd.func22 rfl rfl rfl ?_
  intro w O
  refine aw_seq ?_
  refine aw_region ?_
  refine ras ?_
  refine reg_nil ?_
  refine post_imp (s' := ⟨20, [(0, some (.pv (.int .i64 a0)))], [], 0, [], [], 0, []⟩) (imps [] ⟨by kernel_rfl, trivial⟩ trivial) ?_
  refine post_next ?_
  refine aw_seq ?_
  refine aw_region ?_
  obtain ⟨y3, h4, hF⟩ := bind_some hF
  refine rgp (op_call 0 rfl (caps := []) (args := []) (rs := [.p (.vs 1 (List.map eS y3))]) rfl rfl rfl Tryd_cal_26 (ref02_Words_ok h4) rfl rfl rfl) ?_
  refine ras ?_
  refine reg_nil ?_
  refine post_imp (s' := ⟨20, [(0, some (.pv (.int .i64 a0))), (3, some (.pv (.vs 1 (List.map eS y3))))], [], 0, [], [], 0, []⟩) (imps [] ⟨by kernel_rfl, by kernel_rfl, trivial⟩ trivial) ?_
  refine post_next ?_
  iterate 2 (refine aw_seq ?_)
  refine aw_region ?_
  refine ras ?_
  refine reg_nil ?_
  refine post_imp (s' := ⟨20, [(0, some (.pv (.int .i64 a0))), (3, some (.pv (.vs 1 (List.map eS y3)))), (4, some (.pv (.int .i64 0)))], [], 0, [], [], 0, []⟩) (imps [] ⟨by kernel_rfl, by kernel_rfl, by kernel_rfl, trivial⟩ trivial) ?_
  refine post_next ?_
  obtain ⟨lr20, hF, hK21⟩ := bind_some hF
  refine aw_for ((((y3.length : Int) : Int) - (0)).toNat + 1) (fun s1 => ∃ q, lr20 = .next q ∧ s1 = ⟨20, [], [], 0, [], [], 0, []⟩) ?_ ?_
  · refine rnd_loop (α := Int) (fun q => ⟨20, [(0, some (.pv (.int .i64 a0))), (3, some (.pv (.vs 1 (List.map eS y3)))), (4, some (.pv (.int .i64 q)))], [], 0, [], [], 0, []⟩) (fun k q => ref02_Word_L1 a0 y3 k q = some lr20) 0 (imps [] ⟨by kernel_rfl, by kernel_rfl, by kernel_rfl, trivial⟩ trivial) hF (fun q h => by cases h) ?_
    clear hF
    rintro k x9 hF ih
    refine rnd_succ ?_
    iterate 2 (refine aw_seq ?_)
    refine aw_region ?_
    iterate 2 (refine rmv ?_)
    refine rgp (op_len_vs (n := y3.length) rfl rfl (List.length_map ..) Tryd_slc_38 rfl rfl) ?_
    refine rgp (op_int (k := .i64) (m := x9) (n := (y3.length : Int)) rfl rfl rfl rfl rfl rfl) ?_
    refine reg_nil ?_
    refine post_imp (s' := ⟨20, [(0, some (.pv (.int .i64 a0))), (3, some (.pv (.vs 1 (List.map eS y3)))), (4, some (.pv (.int .i64 x9))), (9, some (.pv (.bool (decide (x9 < (y3.length : Int))))))], [], 0, [], [], 0, []⟩) (imps [] ⟨by kernel_rfl, by kernel_rfl, by kernel_rfl, by kernel_rfl, trivial⟩ trivial) ?_
    refine post_next ?_
    rcases ite_some hF with ⟨hb15, hF⟩ | ⟨hb15, hF⟩
    · refine aw_cond_t rfl hb15 ?_
      refine aw_skip ?_
      refine post_next ?_
      refine aw_seq ?_
      refine aw_block ?_
      refine aw_seq ?_
      refine aw_region ?_
      refine rmv ?_
      refine rgp (op_int (k := .i64) (m := x9) (n := 1) rfl rfl rfl rfl rfl rfl) ?_
      refine rmv ?_
      refine rgp (op_int (k := .i64) (m := w_i64 (x9 + 1)) (n := a0) rfl rfl rfl rfl rfl rfl) ?_
      refine reg_nil ?_
      refine post_imp (s' := ⟨20, [(0, some (.pv (.int .i64 a0))), (3, some (.pv (.vs 1 (List.map eS y3)))), (4, some (.pv (.int .i64 x9))), (15, some (.pv (.bool ((w_i64 (x9 + 1)) == a0))))], [], 0, [], [], 0, []⟩) (imps [] ⟨by kernel_rfl, by kernel_rfl, by kernel_rfl, by kernel_rfl, trivial⟩ trivial) ?_
      refine post_next ?_
      rcases ite_some hF with ⟨hb16, hF⟩ | ⟨hb16, hF⟩
      · refine aw_cond_t rfl hb16 ?_
        refine aw_seq ?_
        refine aw_region ?_
        iterate 2 (refine rmv ?_)
        obtain ⟨y17, h18, hF⟩ := bind_some hF
        refine rgp (op_index_vs (k := .i64) rfl rfl rfl (idx_map eS h18) Tryd_slc_38 rfl rfl) ?_
        refine rgp (op_load_vp (p := .str y17) rfl rfl rfl Tryd_one_9 rfl rfl) ?_
        refine ras ?_
        refine reg_nil ?_
        refine post_imp (s' := ⟨20, [(2, some (.pv (.str y17)))], [], 0, [], [], 0, []⟩) (imps [] ⟨by kernel_rfl, trivial⟩ trivial) ?_
        refine post_next ?_
        refine aw_ret ?_
        refine post_block_ret ?_
        iterate 2 (refine post_then_ret ?_)
        refine post_lp_ret ?_
        obtain rfl := Option.some.inj hF
        have hF := elim_stop hK21
        refine post_then_ret ?_
        obtain rfl := Option.some.inj hF
        exact prt
      refine aw_cond_f rfl hb16 ?_
      refine aw_skip ?_
      refine post_block_normal ?_
      refine post_next ?_
      refine aw_region ?_
      refine rmv ?_
      refine rgp (op_int (k := .i64) (m := x9) (n := 1) rfl rfl rfl rfl rfl rfl) ?_
      refine ras ?_
      refine reg_nil ?_
      refine post_round ?_
      exact rnd_back (ih (w_i64 (x9 + 1)) hF) (imps [] ⟨by kernel_rfl, by kernel_rfl, by kernel_rfl, trivial⟩ trivial)
    refine aw_cond_f rfl hb15 ?_
    refine aw_exit ?_
    iterate 2 (refine post_then_exit ?_)
    obtain rfl := Option.some.inj hF
    exact post_lp_break _ ⟨_, rfl, rfl⟩ (imps [] trivial trivial)
  rintro _ ⟨⟨⟩, rfl, rfl⟩
  have hF := elim_next hK21
  clear hK21
  refine post_next ?_
  refine aw_seq ?_
  refine aw_region ?_
  refine ras ?_
  refine reg_nil ?_
  refine post_imp (s' := ⟨20, [(2, some (.pv (.str [])))], [], 0, [], [], 0, []⟩) (imps [] ⟨by kernel_rfl, trivial⟩ trivial) ?_
  refine post_next ?_
  refine aw_ret ?_
  obtain rfl := Option.some.inj hF
  exact prt
theorem law02_WordTells_ok {a0 : Int} {a1 : List UInt8} {a2 : Int} {r : Bool} (hF : law02_WordTells a0 a1 a2 = some r) : Abs.Fn globs_Tryd Tryd.prog 5 [.int .u8 a0, .str a1, .int .i64 a2] [.p (.bool r)] := by
  unfold law02_WordTells at hF
  refine fn_of_body (n := 54) Tryd.func5 rfl rfl rfl ?_
  intro w O
  refine aw_seq ?_
  refine aw_region ?_
  refine ras ?_
  refine reg_nil ?_
  refine post_imp (s' := ⟨54, [(0, some (.pv (.int .u8 a0))), (1, some (.pv (.str a1))), (2, some (.pv (.int .i64 a2)))], [], 0, [], [], 0, []⟩) (imps [] ⟨by kernel_rfl, by kernel_rfl, by kernel_rfl, trivial⟩ trivial) ?_
  refine post_next ?_
  iterate 2 (refine aw_seq ?_)
  refine aw_region ?_
  refine rmv ?_
  refine rgp (op_len_str rfl rfl Tryd_und_9 rfl rfl) ?_
  refine rgp (op_int (k := .i64) (m := (a1.length : Int)) (n := 100) rfl rfl rfl rfl rfl rfl) ?_
  refine reg_nil ?_
  refine post_imp (s' := ⟨54, [(0, some (.pv (.int .u8 a0))), (1, some (.pv (.str a1))), (2, some (.pv (.int .i64 a2))), (9, some (.pv (.bool (decide ((a1.length : Int) > 100)))))], [], 0, [], [], 0, []⟩) (imps [] ⟨by kernel_rfl, by kernel_rfl, by kernel_rfl, by kernel_rfl, trivial⟩ trivial) ?_
  refine post_next ?_
  rcases ite_some hF with ⟨hb1, hF⟩ | ⟨hb1, hF⟩
  · refine aw_cond_t rfl hb1 ?_
    refine aw_seq ?_
    refine aw_region ?_
    obtain ⟨y2, h3, hF⟩ := bind_some hF
    refine rgp (op_call 0 rfl (caps := []) (args := []) (rs := [.p (.bool y2)]) rfl rfl rfl Tryd_cal_6 (law02_awake_ok h3) rfl rfl rfl) ?_
    refine ras ?_
    refine reg_nil ?_
    refine post_imp (s' := ⟨54, [(6, some (.pv (.bool y2)))], [], 0, [], [], 0, []⟩) (imps [] ⟨by kernel_rfl, trivial⟩ trivial) ?_
    refine post_next ?_
    refine aw_ret ?_
    refine post_then_ret ?_
    obtain rfl := Option.some.inj hF
    exact prt
  refine aw_cond_f rfl hb1 ?_
  refine aw_skip ?_
  refine post_next ?_
  refine aw_seq ?_
  refine aw_region ?_
  refine rmv ?_
  obtain ⟨y4, h5, hF⟩ := bind_some hF
  refine rgp (op_call 0 rfl (caps := []) (args := [.int .u8 a0]) (rs := [.p (.bool y4)]) rfl rfl rfl Tryd_cal_14 (word_Letter_ok h5) rfl rfl rfl) ?_
  refine rmv ?_
  obtain ⟨y6, h7, hF⟩ := bind_some hF
  refine rgp (op_call 0 rfl (caps := []) (args := [.int .u8 a0]) (rs := [.p (.bool y6)]) rfl rfl rfl Tryd_cal_15 (ref02_Letter_ok h7) rfl rfl rfl) ?_
  refine rgp (op_eqBool_eql rfl rfl rfl Tryd_und_4 rfl rfl) ?_
  refine rmv ?_
  rcases ite_some hF with ⟨hb8, hF⟩ | ⟨hb8, hF⟩
  · refine rgn hb8 (op_move rfl rfl rfl rfl) ?_
    obtain ⟨y9, h10, hF⟩ := bind_some hF
    refine rgn hb8 (op_call 0 rfl (caps := []) (args := [.int .u8 a0]) (rs := [.p (.bool y9)]) rfl rfl rfl Tryd_cal_16 (word_Digit_ok h10) rfl rfl rfl) ?_
    refine rgn hb8 (op_move rfl rfl rfl rfl) ?_
    obtain ⟨y11, h12, hF⟩ := bind_some hF
    refine rgn hb8 (op_call 0 rfl (caps := []) (args := [.int .u8 a0]) (rs := [.p (.bool y11)]) rfl rfl rfl Tryd_cal_17 (ref02_Digit_ok h12) rfl rfl rfl) ?_
    refine rgn hb8 (op_eqBool_eql rfl rfl rfl Tryd_und_4 rfl rfl) ?_
    refine rpt hb8 ?_
    refine rmv ?_
    rcases ite_some hF with ⟨hb13, hF⟩ | ⟨hb13, hF⟩
    · refine rgn hb13 (op_move rfl rfl rfl rfl) ?_
      obtain ⟨y14, h15, hF⟩ := bind_some hF
      refine rgn hb13 (op_call 0 rfl (caps := []) (args := [.int .u8 a0]) (rs := [.p (.bool y14)]) rfl rfl rfl Tryd_cal_18 (word_Blank_ok h15) rfl rfl rfl) ?_
      refine rgn hb13 (op_move rfl rfl rfl rfl) ?_
      obtain ⟨y16, h17, hF⟩ := bind_some hF
      refine rgn hb13 (op_call 0 rfl (caps := []) (args := [.int .u8 a0]) (rs := [.p (.bool y16)]) rfl rfl rfl Tryd_cal_19 (ref02_Blank_ok h17) rfl rfl rfl) ?_
      refine rgn hb13 (op_eqBool_eql rfl rfl rfl Tryd_und_4 rfl rfl) ?_
      refine rpt hb13 ?_
      refine rmv ?_
      rcases ite_some hF with ⟨hb18, hF⟩ | ⟨hb18, hF⟩
      · refine rgn hb18 (op_move rfl rfl rfl rfl) ?_
        obtain ⟨y19, h20, hF⟩ := bind_some hF
        refine rgn hb18 (op_call 0 rfl (caps := []) (args := [.str a1]) (rs := [.p (.bool y19)]) rfl rfl rfl Tryd_cal_13 (word_Name_ok h20) rfl rfl rfl) ?_
        refine rgn hb18 (op_move rfl rfl rfl rfl) ?_
        obtain ⟨y21, h22, hF⟩ := bind_some hF
        refine rgn hb18 (op_call 0 rfl (caps := []) (args := [.str a1]) (rs := [.p (.bool y21)]) rfl rfl rfl Tryd_cal_20 (ref02_Name_ok h22) rfl rfl rfl) ?_
        refine rgn hb18 (op_eqBool_eql rfl rfl rfl Tryd_und_4 rfl rfl) ?_
        refine rpt hb18 ?_
        refine rmv ?_
        rcases ite_some hF with ⟨hb23, hF⟩ | ⟨hb23, hF⟩
        · refine rgn hb23 (op_move rfl rfl rfl rfl) ?_
          obtain ⟨y24, h25, hF⟩ := bind_some hF
          refine rgn hb23 (op_call 0 rfl (caps := []) (args := [.str a1]) (rs := [.p (.int .i64 y24)]) rfl rfl rfl Tryd_cal_12 (word_Find_ok h25) rfl rfl rfl) ?_
          refine rgn hb23 (op_move rfl rfl rfl rfl) ?_
          obtain ⟨y26, h27, hF⟩ := bind_some hF
          refine rgn hb23 (op_call 0 rfl (caps := []) (args := [.str a1]) (rs := [.p (.int .i64 y26)]) rfl rfl rfl Tryd_cal_21 (ref02_Find_ok h27) rfl rfl rfl) ?_
          refine rgn hb23 (op_int (k := .i64) (m := y24) (n := y26) rfl rfl rfl rfl rfl rfl) ?_
          refine rpt hb23 ?_
          refine rmv ?_
          rcases ite_some hF with ⟨hb28, hF⟩ | ⟨hb28, hF⟩
          · refine rgn hb28 (op_move rfl rfl rfl rfl) ?_
            obtain ⟨y29, h30, hF⟩ := bind_some hF
            refine rgn hb28 (op_call 0 rfl (caps := []) (args := [.int .i64 a2]) (rs := [.p (.str y29)]) rfl rfl rfl Tryd_cal_11 (word_Word_ok h30) rfl rfl rfl) ?_
            refine rgn hb28 (op_move rfl rfl rfl rfl) ?_
            obtain ⟨y31, h32, hF⟩ := bind_some hF
            refine rgn hb28 (op_call 0 rfl (caps := []) (args := [.int .i64 a2]) (rs := [.p (.str y31)]) rfl rfl rfl Tryd_cal_22 (ref02_Word_ok h32) rfl rfl rfl) ?_
            refine rgn hb28 (op_str rfl rfl rfl rfl rfl rfl) ?_
            refine rpt hb28 ?_
            refine rmv ?_
            rcases ite_some hF with ⟨hb33, hF⟩ | ⟨hb33, hF⟩
            · obtain ⟨y34, h35, hF⟩ := bind_some hF
              refine rgn hb33 (op_call 0 rfl (caps := []) (args := []) (rs := [.p (.bool y34)]) rfl rfl rfl Tryd_cal_6 (law02_awake_ok h35) rfl rfl rfl) ?_
              refine rpt hb33 ?_
              refine ras ?_
              refine reg_nil ?_
              refine post_imp (s' := ⟨54, [(6, some (.pv (.bool y34)))], [], 0, [], [], 0, []⟩) (imps [] ⟨by kernel_rfl, trivial⟩ trivial) ?_
              refine post_next ?_
              refine aw_ret ?_
              obtain rfl := Option.some.inj hF
              exact prt
            refine rgo_f hb33 ?_
            refine rpf hb33 ?_
            refine ras ?_
            refine reg_nil ?_
            refine post_imp (s' := ⟨54, [(6, some (.pv (.bool false)))], [], 0, [], [], 0, []⟩) (imps [] ⟨by kernel_rfl, trivial⟩ trivial) ?_
            refine post_next ?_
            refine aw_ret ?_
            obtain rfl := Option.some.inj hF
            exact prt
          iterate 5 (refine rgo_f hb28 ?_)
          refine rpf hb28 ?_
          refine rmv ?_
          refine rgo_f rfl ?_
          refine rpf rfl ?_
          refine ras ?_
          refine reg_nil ?_
          refine post_imp (s' := ⟨54, [(6, some (.pv (.bool false)))], [], 0, [], [], 0, []⟩) (imps [] ⟨by kernel_rfl, trivial⟩ trivial) ?_
          refine post_next ?_
          refine aw_ret ?_
          obtain rfl := Option.some.inj hF
          exact prt
        iterate 5 (refine rgo_f hb23 ?_)
        refine rpf hb23 ?_
        refine rmv ?_
        iterate 5 (refine rgo_f rfl ?_)
        refine rpf rfl ?_
        refine rmv ?_
        refine rgo_f rfl ?_
        refine rpf rfl ?_
        refine ras ?_
        refine reg_nil ?_
        refine post_imp (s' := ⟨54, [(6, some (.pv (.bool false)))], [], 0, [], [], 0, []⟩) (imps [] ⟨by kernel_rfl, trivial⟩ trivial) ?_
        refine post_next ?_
        refine aw_ret ?_
        obtain rfl := Option.some.inj hF
        exact prt
      iterate 5 (refine rgo_f hb18 ?_)
      refine rpf hb18 ?_
      refine rmv ?_
      iterate 5 (refine rgo_f rfl ?_)
      refine rpf rfl ?_
      refine rmv ?_
      iterate 5 (refine rgo_f rfl ?_)
      refine rpf rfl ?_
      refine rmv ?_
      refine rgo_f rfl ?_
      refine rpf rfl ?_
      refine ras ?_
      refine reg_nil ?_
      refine post_imp (s' := ⟨54, [(6, some (.pv (.bool false)))], [], 0, [], [], 0, []⟩) (imps [] ⟨by kernel_rfl, trivial⟩ trivial) ?_
      refine post_next ?_
      refine aw_ret ?_
      obtain rfl := Option.some.inj hF
      exact prt
    iterate 5 (refine rgo_f hb13 ?_)
    refine rpf hb13 ?_
    refine rmv ?_
    iterate 5 (refine rgo_f rfl ?_)
    refine rpf rfl ?_
    refine rmv ?_
    iterate 5 (refine rgo_f rfl ?_)
    refine rpf rfl ?_
    refine rmv ?_
    iterate 5 (refine rgo_f rfl ?_)
    refine rpf rfl ?_
    refine rmv ?_
    refine rgo_f rfl ?_
    refine rpf rfl ?_
    refine ras ?_
    refine reg_nil ?_
    refine post_imp (s' := ⟨54, [(6, some (.pv (.bool false)))], [], 0, [], [], 0, []⟩) (imps [] ⟨by kernel_rfl, trivial⟩ trivial) ?_
    refine post_next ?_
    refine aw_ret ?_
    obtain rfl := Option.some.inj hF
    exact prt
  iterate 5 (refine rgo_f hb8 ?_)
  refine rpf hb8 ?_
  refine rmv ?_
  iterate 5 (refine rgo_f rfl ?_)
  refine rpf rfl ?_
  refine rmv ?_
  iterate 5 (refine rgo_f rfl ?_)
  refine rpf rfl ?_
  refine rmv ?_
  iterate 5 (refine rgo_f rfl ?_)
  refine rpf rfl ?_
  refine rmv ?_
  iterate 5 (refine rgo_f rfl ?_)
  refine rpf rfl ?_
  refine rmv ?_
  refine rgo_f rfl ?_
  refine rpf rfl ?_
  refine ras ?_
  refine reg_nil ?_
  refine post_imp (s' := ⟨54, [(6, some (.pv (.bool false)))], [], 0, [], [], 0, []⟩) (imps [] ⟨by kernel_rfl, trivial⟩ trivial) ?_
  refine post_next ?_
  refine aw_ret ?_
  obtain rfl := Option.some.inj hF
  exact prt
end Go.Proofs.YtiblofbgibjobaaDoor
