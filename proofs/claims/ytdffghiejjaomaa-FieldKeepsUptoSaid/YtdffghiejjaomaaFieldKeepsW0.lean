/- A part of the proof that the law FieldKeeps gives true for every input. -/
import Derived.Test.YtdffghiejjaomaaFieldKeepsT
import Derived.Test.YtdffghiejjaomaaFieldKeepsX
import Derived.Test.YtdffghiejjaomaaFieldKeepsI
/- Each Go function computes its plain function. -/
namespace Go.Proofs.Ytdffghiejjaomaa
open Go.RowKit Go.Abs
set_option maxRecDepth 100000
set_option maxHeartbeats 4000000
theorem law16_great_ok {a0 : List GClass} {r : Bool} (hF : law16_great a0 = some r) : Abs.Fn Try.prog 38 [.vs 7 (List.map eGClass a0)] [.p (.bool r)] := by
  unfold law16_great at hF
  refine fn_of_body (n := 20) Try.func38 rfl rfl rfl ?_
  intro w O
  refine aw_seq ?_
  refine aw_region ?_
  refine ras ?_
  refine reg_nil ?_
  refine post_imp (s' := ⟨20, [(0, some (.pv (.vs 7 (List.map eGClass a0))))], [], 0, [], [], 0, []⟩) (imps [] ⟨by kernel_rfl, trivial⟩ trivial) ?_
  refine post_next ?_
  iterate 2 (refine aw_seq ?_)
  refine aw_region ?_
  refine ras ?_
  refine reg_nil ?_
  refine post_imp (s' := ⟨20, [(0, some (.pv (.vs 7 (List.map eGClass a0)))), (3, some (.pv (.int .i64 0)))], [], 0, [], [], 0, []⟩) (imps [] ⟨by kernel_rfl, by kernel_rfl, trivial⟩ trivial) ?_
  refine post_next ?_
  obtain ⟨lr22, hF, hK23⟩ := bind_some hF
  refine aw_for ((((a0.length : Int) : Int) - (0)).toNat + 1) (fun s1 => ∃ q, lr22 = .next q ∧ s1 = ⟨20, [(0, some (.pv (.vs 7 (List.map eGClass a0))))], [], 0, [], [], 0, []⟩) ?_ ?_
  · refine rnd_loop (α := Int) (fun q => ⟨20, [(0, some (.pv (.vs 7 (List.map eGClass a0)))), (3, some (.pv (.int .i64 q)))], [], 0, [], [], 0, []⟩) (fun k q => law16_great_L1 a0 k q = some lr22) 0 (imps [] ⟨by kernel_rfl, by kernel_rfl, trivial⟩ trivial) hF (fun q h => by cases h) ?_
    clear hF
    rintro k x7 hF ih
    refine rnd_succ ?_
    iterate 2 (refine aw_seq ?_)
    refine aw_region ?_
    iterate 2 (refine rmv ?_)
    refine reg_cons (guard_no rfl) (op_len_vs (n := a0.length) rfl rfl (List.length_map ..) Try_slc_48 rfl rfl) ?_
    refine reg_cons (guard_no rfl) (op_int (k := .i64) (m := x7) (n := (a0.length : Int)) rfl rfl rfl rfl rfl rfl) ?_
    refine reg_nil ?_
    refine post_imp (s' := ⟨20, [(0, some (.pv (.vs 7 (List.map eGClass a0)))), (3, some (.pv (.int .i64 x7))), (7, some (.pv (.bool (decide (x7 < (a0.length : Int))))))], [], 0, [], [], 0, []⟩) (imps [] ⟨by kernel_rfl, by kernel_rfl, by kernel_rfl, trivial⟩ trivial) ?_
    refine post_next ?_
    rcases ite_some hF with ⟨hb15, hF⟩ | ⟨hb15, hF⟩
    · refine aw_cond_t rfl hb15 ?_
      refine aw_skip ?_
      refine post_next ?_
      refine aw_seq ?_
      refine aw_block ?_
      refine aw_seq ?_
      refine aw_region ?_
      iterate 2 (refine rmv ?_)
      obtain ⟨y18, h19, hF⟩ := bind_some hF
      refine reg_cons (guard_no rfl) (op_index_vs (k := .i64) rfl rfl rfl (idx_map eGClass h19) Try_slc_48 rfl rfl) ?_
      refine reg_cons (guard_no rfl) (op_field_vp rfl rfl Try_fld_95_4 rfl rfl) ?_
      refine reg_cons (guard_no rfl) (op_load_vp (p := .vs 13 (List.map eGVar y18.fFields)) rfl rfl rfl Try_one_92 rfl rfl) ?_
      refine reg_cons (guard_no rfl) (op_len_vs (n := y18.fFields.length) rfl rfl (List.length_map ..) Try_slc_92 rfl rfl) ?_
      refine reg_cons (guard_no rfl) (op_int (k := .i64) (m := (y18.fFields.length : Int)) (n := 40) rfl rfl rfl rfl rfl rfl) ?_
      refine reg_nil ?_
      refine post_imp (s' := ⟨20, [(0, some (.pv (.vs 7 (List.map eGClass a0)))), (3, some (.pv (.int .i64 x7))), (16, some (.pv (.bool (decide ((y18.fFields.length : Int) > 40)))))], [], 0, [], [], 0, []⟩) (imps [] ⟨by kernel_rfl, by kernel_rfl, by kernel_rfl, trivial⟩ trivial) ?_
      refine post_next ?_
      rcases ite_some hF with ⟨hb20, hF⟩ | ⟨hb20, hF⟩
      · refine aw_cond_t rfl hb20 ?_
        refine aw_seq ?_
        refine aw_region ?_
        refine ras ?_
        refine reg_nil ?_
        refine post_imp (s' := ⟨20, [(2, some (.pv (.bool true)))], [], 0, [], [], 0, []⟩) (imps [] ⟨by kernel_rfl, trivial⟩ trivial) ?_
        refine post_next ?_
        refine aw_ret ?_
        refine post_block_ret ?_
        iterate 2 (refine post_then_ret ?_)
        refine post_lp_ret ?_
        obtain rfl := Option.some.inj hF
        have hF := elim_stop hK23
        refine post_then_ret ?_
        obtain rfl := Option.some.inj hF
        exact post_ret rfl rfl (.cons _ _ _ _ _ (.tmp _ _ rfl) (.p _) .nil) (.inl rfl)
      refine aw_cond_f rfl hb20 ?_
      refine aw_skip ?_
      refine post_block_normal ?_
      refine post_next ?_
      refine aw_region ?_
      refine rmv ?_
      refine reg_cons (guard_no rfl) (op_int (k := .i64) (m := x7) (n := 1) rfl rfl rfl rfl rfl rfl) ?_
      refine ras ?_
      refine reg_nil ?_
      refine post_round ?_
      exact rnd_back (ih (w_i64 (x7 + 1)) hF) (imps [] ⟨by kernel_rfl, by kernel_rfl, trivial⟩ trivial)
    refine aw_cond_f rfl hb15 ?_
    refine aw_exit ?_
    iterate 2 (refine post_then_exit ?_)
    obtain rfl := Option.some.inj hF
    exact post_lp_break _ ⟨_, rfl, rfl⟩ (imps [] ⟨by kernel_rfl, trivial⟩ trivial)
  rintro _ ⟨⟨⟩, rfl, rfl⟩
  have hF := elim_next hK23
  clear hK23
  refine post_next ?_
  refine aw_seq ?_
  refine aw_region ?_
  refine rmv ?_
  refine reg_cons (guard_no rfl) (op_len_vs (n := a0.length) rfl rfl (List.length_map ..) Try_slc_48 rfl rfl) ?_
  refine reg_cons (guard_no rfl) (op_int (k := .i64) (m := (a0.length : Int)) (n := 30) rfl rfl rfl rfl rfl rfl) ?_
  refine ras ?_
  refine reg_nil ?_
  refine post_imp (s' := ⟨20, [(2, some (.pv (.bool (decide ((a0.length : Int) > 30)))))], [], 0, [], [], 0, []⟩) (imps [] ⟨by kernel_rfl, trivial⟩ trivial) ?_
  refine post_next ?_
  refine aw_ret ?_
  obtain rfl := Option.some.inj hF
  exact post_ret rfl rfl (.cons _ _ _ _ _ (.tmp _ _ rfl) (.p _) .nil) (.inl rfl)
theorem ref02_Letter_ok {a0 : Int} {r : Bool} (hF : ref02_Letter a0 = some r) : Abs.Fn Try.prog 99 [.int .u8 a0] [.p (.bool r)] := by
  unfold ref02_Letter at hF
  refine fn_of_body (n := 17) Try.func99 rfl rfl rfl ?_
  intro w O
  refine aw_seq ?_
  refine aw_region ?_
  refine ras ?_
  refine reg_nil ?_
  refine post_imp (s' := ⟨17, [(0, some (.pv (.int .u8 a0)))], [], 0, [], [], 0, []⟩) (imps [] ⟨by kernel_rfl, trivial⟩ trivial) ?_
  refine post_next ?_
  refine aw_seq ?_
  refine aw_region ?_
  refine rmv ?_
  refine reg_cons (guard_no rfl) (op_int (k := .u8) (m := a0) (n := 97) rfl rfl rfl rfl rfl rfl) ?_
  refine rmv ?_
  rcases ite_some hF with ⟨hb1, hF⟩ | ⟨hb1, hF⟩
  · refine reg_cons (guard_on rfl rfl rfl rfl hb1) (op_move rfl rfl rfl rfl) ?_
    refine reg_cons (guard_on rfl rfl rfl rfl hb1) (op_int (k := .u8) (m := a0) (n := 122) rfl rfl rfl rfl rfl rfl) ?_
    refine rpt hb1 ?_
    refine rmv ?_
    rcases ite_some hF with ⟨hb2, hF⟩ | ⟨hb2, hF⟩
    · refine rgo_t hb2 ?_
      iterate 2 (refine rgo_t hb2 ?_)
      iterate 2 (refine rgu ?_)
      refine rgo_t hb2 ?_
      refine rpt hb2 ?_
      refine ras ?_
      refine reg_nil ?_
      refine post_imp (s' := ⟨17, [(2, some (.pv (.bool true)))], [], 0, [], [], 0, []⟩) (imps [] ⟨by kernel_rfl, trivial⟩ trivial) ?_
      refine post_next ?_
      refine aw_ret ?_
      obtain rfl := Option.some.inj hF
      exact post_ret rfl rfl (.cons _ _ _ _ _ (.tmp _ _ rfl) (.p _) .nil) (.inl rfl)
    refine reg_cons (guard_on rfl rfl rfl rfl hb2) (op_move rfl rfl rfl rfl) ?_
    refine reg_cons (guard_on rfl rfl rfl rfl hb2) (op_int (k := .u8) (m := a0) (n := 65) rfl rfl rfl rfl rfl rfl) ?_
    refine reg_cons (guard_on rfl rfl rfl rfl hb2) (op_move rfl rfl rfl rfl) ?_
    rcases ite_some hF with ⟨hb3, hF⟩ | ⟨hb3, hF⟩
    · refine reg_cons (guard_on rfl rfl rfl rfl hb3) (op_move rfl rfl rfl rfl) ?_
      refine reg_cons (guard_on rfl rfl rfl rfl hb3) (op_int (k := .u8) (m := a0) (n := 90) rfl rfl rfl rfl rfl rfl) ?_
      refine reg_cons (guard_on rfl rfl rfl rfl hb2) (op_pick_t rfl rfl hb3 rfl rfl rfl) ?_
      refine rpf hb2 ?_
      refine ras ?_
      refine reg_nil ?_
      refine post_imp (s' := ⟨17, [(2, some (.pv (.bool (decide (a0 ≤ 90)))))], [], 0, [], [], 0, []⟩) (imps [] ⟨by kernel_rfl, trivial⟩ trivial) ?_
      refine post_next ?_
      refine aw_ret ?_
      obtain rfl := Option.some.inj hF
      exact post_ret rfl rfl (.cons _ _ _ _ _ (.tmp _ _ rfl) (.p _) .nil) (.inl rfl)
    iterate 2 (refine rgo_f hb3 ?_)
    refine reg_cons (guard_on rfl rfl rfl rfl hb2) (op_pick_f rfl rfl hb3 rfl rfl rfl) ?_
    refine rpf hb2 ?_
    refine ras ?_
    refine reg_nil ?_
    refine post_imp (s' := ⟨17, [(2, some (.pv (.bool false)))], [], 0, [], [], 0, []⟩) (imps [] ⟨by kernel_rfl, trivial⟩ trivial) ?_
    refine post_next ?_
    refine aw_ret ?_
    obtain rfl := Option.some.inj hF
    exact post_ret rfl rfl (.cons _ _ _ _ _ (.tmp _ _ rfl) (.p _) .nil) (.inl rfl)
  iterate 2 (refine rgo_f hb1 ?_)
  refine rpf hb1 ?_
  refine rmv ?_
  refine reg_cons (guard_on rfl rfl rfl rfl rfl) (op_move rfl rfl rfl rfl) ?_
  refine reg_cons (guard_on rfl rfl rfl rfl rfl) (op_int (k := .u8) (m := a0) (n := 65) rfl rfl rfl rfl rfl rfl) ?_
  refine reg_cons (guard_on rfl rfl rfl rfl rfl) (op_move rfl rfl rfl rfl) ?_
  rcases ite_some hF with ⟨hb4, hF⟩ | ⟨hb4, hF⟩
  · refine reg_cons (guard_on rfl rfl rfl rfl hb4) (op_move rfl rfl rfl rfl) ?_
    refine reg_cons (guard_on rfl rfl rfl rfl hb4) (op_int (k := .u8) (m := a0) (n := 90) rfl rfl rfl rfl rfl rfl) ?_
    refine reg_cons (guard_on rfl rfl rfl rfl rfl) (op_pick_t rfl rfl hb4 rfl rfl rfl) ?_
    refine rpf rfl ?_
    refine ras ?_
    refine reg_nil ?_
    refine post_imp (s' := ⟨17, [(2, some (.pv (.bool (decide (a0 ≤ 90)))))], [], 0, [], [], 0, []⟩) (imps [] ⟨by kernel_rfl, trivial⟩ trivial) ?_
    refine post_next ?_
    refine aw_ret ?_
    obtain rfl := Option.some.inj hF
    exact post_ret rfl rfl (.cons _ _ _ _ _ (.tmp _ _ rfl) (.p _) .nil) (.inl rfl)
  iterate 2 (refine rgo_f hb4 ?_)
  refine reg_cons (guard_on rfl rfl rfl rfl rfl) (op_pick_f rfl rfl hb4 rfl rfl rfl) ?_
  refine rpf rfl ?_
  refine ras ?_
  refine reg_nil ?_
  refine post_imp (s' := ⟨17, [(2, some (.pv (.bool false)))], [], 0, [], [], 0, []⟩) (imps [] ⟨by kernel_rfl, trivial⟩ trivial) ?_
  refine post_next ?_
  refine aw_ret ?_
  obtain rfl := Option.some.inj hF
  exact post_ret rfl rfl (.cons _ _ _ _ _ (.tmp _ _ rfl) (.p _) .nil) (.inl rfl)
theorem ref02_Words_ok  {r : (List (List UInt8))} (hF : ref02_Words = some r) : Abs.Fn Try.prog 106 [] [.p (.vs 1 (List.map eS r))] := by
  unfold ref02_Words at hF
  refine fn_of_body (n := 2) Try.func106 rfl rfl rfl ?_
  intro w O
  refine aw_seq ?_
  refine aw_region ?_
  refine ras ?_
  refine reg_nil ?_
  refine post_imp (s' := ⟨2, [], [], 0, [], [], 0, []⟩) (imps [] trivial trivial) ?_
  refine post_next ?_
  refine aw_seq ?_
  refine aw_region ?_
  refine reg_cons (guard_no rfl) (op_lit (rows := List.map eS ([[99, 108, 97, 115, 115], [101, 120, 116, 101, 110, 100, 115], [114, 101, 112], [112, 101, 101, 114], [119, 111, 114, 108, 100], [97, 110, 121], [117, 110, 105, 113, 117, 101], [112, 117, 114, 101], [118, 111, 105, 100], [105, 110, 116], [105, 102], [101, 108, 115, 101], [119, 104, 105, 108, 101], [114, 101, 116, 117, 114, 110], [110, 101, 119], [109, 111, 118, 101], [100, 101, 108, 101, 116, 101], [116, 104, 105, 115], [110, 117, 108, 108], [105, 110, 112, 117, 116], [110, 105, 108], [115, 97, 109, 101], [99, 97, 115, 116]] : List (List UInt8))) (zs := [.str []]) rfl rfl Try_slc_91 Try_zer_9 (by exact ⟨rfl, trivial⟩) rfl rfl rfl rfl rfl rfl rfl rfl) ?_
  refine ras ?_
  refine reg_nil ?_
  refine post_imp (s' := ⟨2, [(0, some (.pv (.vs 1 (List.map eS [[99, 108, 97, 115, 115], [101, 120, 116, 101, 110, 100, 115], [114, 101, 112], [112, 101, 101, 114], [119, 111, 114, 108, 100], [97, 110, 121], [117, 110, 105, 113, 117, 101], [112, 117, 114, 101], [118, 111, 105, 100], [105, 110, 116], [105, 102], [101, 108, 115, 101], [119, 104, 105, 108, 101], [114, 101, 116, 117, 114, 110], [110, 101, 119], [109, 111, 118, 101], [100, 101, 108, 101, 116, 101], [116, 104, 105, 115], [110, 117, 108, 108], [105, 110, 112, 117, 116], [110, 105, 108], [115, 97, 109, 101], [99, 97, 115, 116]]))))], [], 0, [], [], 0, []⟩) (imps [] ⟨by kernel_rfl, trivial⟩ trivial) ?_
  refine post_next ?_
  refine aw_ret ?_
  obtain rfl := Option.some.inj hF
  exact post_ret rfl rfl (.cons _ _ _ _ _ (.tmp _ _ rfl) (.p _) .nil) (.inl rfl)
theorem ref02_Find_ok {a0 : List UInt8} {r : Int} (hF : ref02_Find a0 = some r) : Abs.Fn Try.prog 100 [.str a0] [.p (.int .i64 r)] := by
  unfold ref02_Find at hF
  refine fn_of_body (n := 20) Try.func100 rfl rfl rfl ?_
  intro w O
  refine aw_seq ?_
  refine aw_region ?_
  refine ras ?_
  refine reg_nil ?_
  refine post_imp (s' := ⟨20, [(0, some (.pv (.str a0)))], [], 0, [], [], 0, []⟩) (imps [] ⟨by kernel_rfl, trivial⟩ trivial) ?_
  refine post_next ?_
  refine aw_seq ?_
  refine aw_region ?_
  obtain ⟨y3, h4, hF⟩ := bind_some hF
  refine reg_cons (guard_no rfl) (op_call 0 rfl (caps := []) (args := []) (rs := [.p (.vs 1 (List.map eS y3))]) rfl rfl rfl Try_cal_106 (ref02_Words_ok h4) rfl rfl rfl) ?_
  refine ras ?_
  refine reg_nil ?_
  refine post_imp (s' := ⟨20, [(0, some (.pv (.str a0))), (3, some (.pv (.vs 1 (List.map eS y3))))], [], 0, [], [], 0, []⟩) (imps [] ⟨by kernel_rfl, by kernel_rfl, trivial⟩ trivial) ?_
  refine post_next ?_
  iterate 2 (refine aw_seq ?_)
  refine aw_region ?_
  refine ras ?_
  refine reg_nil ?_
  refine post_imp (s' := ⟨20, [(0, some (.pv (.str a0))), (3, some (.pv (.vs 1 (List.map eS y3)))), (4, some (.pv (.int .i64 0)))], [], 0, [], [], 0, []⟩) (imps [] ⟨by kernel_rfl, by kernel_rfl, by kernel_rfl, trivial⟩ trivial) ?_
  refine post_next ?_
  obtain ⟨lr26, hF, hK27⟩ := bind_some hF
  refine aw_for ((((y3.length : Int) : Int) - (0)).toNat + 1) (fun s1 => ∃ q, lr26 = .next q ∧ s1 = ⟨20, [], [], 0, [], [], 0, []⟩) ?_ ?_
  · refine rnd_loop (α := Int) (fun q => ⟨20, [(0, some (.pv (.str a0))), (3, some (.pv (.vs 1 (List.map eS y3)))), (4, some (.pv (.int .i64 q)))], [], 0, [], [], 0, []⟩) (fun k q => ref02_Find_L1 a0 y3 k q = some lr26) 0 (imps [] ⟨by kernel_rfl, by kernel_rfl, by kernel_rfl, trivial⟩ trivial) hF (fun q h => by cases h) ?_
    clear hF
    rintro k x11 hF ih
    refine rnd_succ ?_
    iterate 2 (refine aw_seq ?_)
    refine aw_region ?_
    iterate 2 (refine rmv ?_)
    refine reg_cons (guard_no rfl) (op_len_vs (n := y3.length) rfl rfl (List.length_map ..) Try_slc_91 rfl rfl) ?_
    refine reg_cons (guard_no rfl) (op_int (k := .i64) (m := x11) (n := (y3.length : Int)) rfl rfl rfl rfl rfl rfl) ?_
    refine reg_nil ?_
    refine post_imp (s' := ⟨20, [(0, some (.pv (.str a0))), (3, some (.pv (.vs 1 (List.map eS y3)))), (4, some (.pv (.int .i64 x11))), (9, some (.pv (.bool (decide (x11 < (y3.length : Int))))))], [], 0, [], [], 0, []⟩) (imps [] ⟨by kernel_rfl, by kernel_rfl, by kernel_rfl, by kernel_rfl, trivial⟩ trivial) ?_
    refine post_next ?_
    rcases ite_some hF with ⟨hb19, hF⟩ | ⟨hb19, hF⟩
    · refine aw_cond_t rfl hb19 ?_
      refine aw_skip ?_
      refine post_next ?_
      refine aw_seq ?_
      refine aw_block ?_
      refine aw_seq ?_
      refine aw_region ?_
      iterate 2 (refine rmv ?_)
      obtain ⟨y22, h23, hF⟩ := bind_some hF
      refine reg_cons (guard_no rfl) (op_index_vs (k := .i64) rfl rfl rfl (idx_map eS h23) Try_slc_91 rfl rfl) ?_
      refine reg_cons (guard_no rfl) (op_load_vp (p := .str y22) rfl rfl rfl Try_one_9 rfl rfl) ?_
      refine rmv ?_
      refine reg_cons (guard_no rfl) (op_str rfl rfl rfl rfl rfl rfl) ?_
      refine reg_nil ?_
      refine post_imp (s' := ⟨20, [(0, some (.pv (.str a0))), (3, some (.pv (.vs 1 (List.map eS y3)))), (4, some (.pv (.int .i64 x11))), (17, some (.pv (.bool (y22 == a0))))], [], 0, [], [], 0, []⟩) (imps [] ⟨by kernel_rfl, by kernel_rfl, by kernel_rfl, by kernel_rfl, trivial⟩ trivial) ?_
      refine post_next ?_
      rcases ite_some hF with ⟨hb24, hF⟩ | ⟨hb24, hF⟩
      · refine aw_cond_t rfl hb24 ?_
        refine aw_seq ?_
        refine aw_region ?_
        refine rmv ?_
        refine reg_cons (guard_no rfl) (op_int (k := .i64) (m := x11) (n := 1) rfl rfl rfl rfl rfl rfl) ?_
        refine ras ?_
        refine reg_nil ?_
        refine post_imp (s' := ⟨20, [(2, some (.pv (.int .i64 (w_i64 (x11 + 1)))))], [], 0, [], [], 0, []⟩) (imps [] ⟨by kernel_rfl, trivial⟩ trivial) ?_
        refine post_next ?_
        refine aw_ret ?_
        refine post_block_ret ?_
        iterate 2 (refine post_then_ret ?_)
        refine post_lp_ret ?_
        obtain rfl := Option.some.inj hF
        have hF := elim_stop hK27
        refine post_then_ret ?_
        obtain rfl := Option.some.inj hF
        exact post_ret rfl rfl (.cons _ _ _ _ _ (.tmp _ _ rfl) (.p _) .nil) (.inl rfl)
      refine aw_cond_f rfl hb24 ?_
      refine aw_skip ?_
      refine post_block_normal ?_
      refine post_next ?_
      refine aw_region ?_
      refine rmv ?_
      refine reg_cons (guard_no rfl) (op_int (k := .i64) (m := x11) (n := 1) rfl rfl rfl rfl rfl rfl) ?_
      refine ras ?_
      refine reg_nil ?_
      refine post_round ?_
      exact rnd_back (ih (w_i64 (x11 + 1)) hF) (imps [] ⟨by kernel_rfl, by kernel_rfl, by kernel_rfl, trivial⟩ trivial)
    refine aw_cond_f rfl hb19 ?_
    refine aw_exit ?_
    iterate 2 (refine post_then_exit ?_)
    obtain rfl := Option.some.inj hF
    exact post_lp_break _ ⟨_, rfl, rfl⟩ (imps [] trivial trivial)
  rintro _ ⟨⟨⟩, rfl, rfl⟩
  have hF := elim_next hK27
  clear hK27
  refine post_next ?_
  refine aw_seq ?_
  refine aw_region ?_
  refine ras ?_
  refine reg_nil ?_
  refine post_imp (s' := ⟨20, [(2, some (.pv (.int .i64 0)))], [], 0, [], [], 0, []⟩) (imps [] ⟨by kernel_rfl, trivial⟩ trivial) ?_
  refine post_next ?_
  refine aw_ret ?_
  obtain rfl := Option.some.inj hF
  exact post_ret rfl rfl (.cons _ _ _ _ _ (.tmp _ _ rfl) (.p _) .nil) (.inl rfl)
theorem ref02_Digit_ok {a0 : Int} {r : Bool} (hF : ref02_Digit a0 = some r) : Abs.Fn Try.prog 101 [.int .u8 a0] [.p (.bool r)] := by
  unfold ref02_Digit at hF
  refine fn_of_body (n := 9) Try.func101 rfl rfl rfl ?_
  intro w O
  refine aw_seq ?_
  refine aw_region ?_
  refine ras ?_
  refine reg_nil ?_
  refine post_imp (s' := ⟨9, [(0, some (.pv (.int .u8 a0)))], [], 0, [], [], 0, []⟩) (imps [] ⟨by kernel_rfl, trivial⟩ trivial) ?_
  refine post_next ?_
  refine aw_seq ?_
  refine aw_region ?_
  refine rmv ?_
  refine reg_cons (guard_no rfl) (op_int (k := .u8) (m := a0) (n := 48) rfl rfl rfl rfl rfl rfl) ?_
  refine rmv ?_
  rcases ite_some hF with ⟨hb1, hF⟩ | ⟨hb1, hF⟩
  · refine reg_cons (guard_on rfl rfl rfl rfl hb1) (op_move rfl rfl rfl rfl) ?_
    refine reg_cons (guard_on rfl rfl rfl rfl hb1) (op_int (k := .u8) (m := a0) (n := 57) rfl rfl rfl rfl rfl rfl) ?_
    refine rpt hb1 ?_
    refine ras ?_
    refine reg_nil ?_
    refine post_imp (s' := ⟨9, [(2, some (.pv (.bool (decide (a0 ≤ 57)))))], [], 0, [], [], 0, []⟩) (imps [] ⟨by kernel_rfl, trivial⟩ trivial) ?_
    refine post_next ?_
    refine aw_ret ?_
    obtain rfl := Option.some.inj hF
    exact post_ret rfl rfl (.cons _ _ _ _ _ (.tmp _ _ rfl) (.p _) .nil) (.inl rfl)
  iterate 2 (refine rgo_f hb1 ?_)
  refine rpf hb1 ?_
  refine ras ?_
  refine reg_nil ?_
  refine post_imp (s' := ⟨9, [(2, some (.pv (.bool false)))], [], 0, [], [], 0, []⟩) (imps [] ⟨by kernel_rfl, trivial⟩ trivial) ?_
  refine post_next ?_
  refine aw_ret ?_
  obtain rfl := Option.some.inj hF
  exact post_ret rfl rfl (.cons _ _ _ _ _ (.tmp _ _ rfl) (.p _) .nil) (.inl rfl)
theorem ref02_Name_ok {a0 : List UInt8} {r : Bool} (hF : ref02_Name a0 = some r) : Abs.Fn Try.prog 94 [.str a0] [.p (.bool r)] := by
  unfold ref02_Name at hF
  refine fn_of_body (n := 41) Try.func94 rfl rfl rfl ?_
  intro w O
  refine aw_seq ?_
  refine aw_region ?_
  refine ras ?_
  refine reg_nil ?_
  refine post_imp (s' := ⟨41, [(0, some (.pv (.str a0)))], [], 0, [], [], 0, []⟩) (imps [] ⟨by kernel_rfl, trivial⟩ trivial) ?_
  refine post_next ?_
  iterate 2 (refine aw_seq ?_)
  obtain ⟨x10, hF, hK12⟩ := bind_some hF
  refine aw_cut (fun s1 => s1 = ⟨41, [(0, some (.pv (.str a0))), (22, some (.pv (.bool x10)))], [], 0, [], [], 0, []⟩) ?_ ?_
  · refine aw_region ?_
    refine rmv ?_
    refine reg_cons (guard_no rfl) (op_len_str rfl rfl Try_und_9 rfl rfl) ?_
    refine reg_cons (guard_no rfl) (op_int (k := .i64) (m := (a0.length : Int)) (n := 1) rfl rfl rfl rfl rfl rfl) ?_
    refine rmv ?_
    rcases ite_some hF with ⟨hb1, hF⟩ | ⟨hb1, hF⟩
    · refine rgo_t hb1 ?_
      iterate 2 (refine rgo_t hb1 ?_)
      refine rpt hb1 ?_
      refine rmv ?_
      iterate 4 (refine rgo_t rfl ?_)
      refine rpt rfl ?_
      refine rmv ?_
      iterate 3 (refine rgo_t rfl ?_)
      refine rpt rfl ?_
      refine reg_nil ?_
      cases hF
      exact post_cut _ rfl (imps [] ⟨by kernel_rfl, by kernel_rfl, trivial⟩ trivial)
    refine reg_cons (guard_on rfl rfl rfl rfl hb1) (op_move rfl rfl rfl rfl) ?_
    refine reg_cons (guard_on rfl rfl rfl rfl hb1) (op_len_str rfl rfl Try_und_9 rfl rfl) ?_
    refine reg_cons (guard_on rfl rfl rfl rfl hb1) (op_int (k := .i64) (m := (a0.length : Int)) (n := 20) rfl rfl rfl rfl rfl rfl) ?_
    refine rpf hb1 ?_
    refine rmv ?_
    rcases ite_some hF with ⟨hb2, hF⟩ | ⟨hb2, hF⟩
    · refine rgo_t hb2 ?_
      iterate 3 (refine rgo_t hb2 ?_)
      refine rpt hb2 ?_
      refine rmv ?_
      iterate 3 (refine rgo_t rfl ?_)
      refine rpt rfl ?_
      refine reg_nil ?_
      cases hF
      exact post_cut _ rfl (imps [] ⟨by kernel_rfl, by kernel_rfl, trivial⟩ trivial)
    refine reg_cons (guard_on rfl rfl rfl rfl hb2) (op_move rfl rfl rfl rfl) ?_
    obtain ⟨y3, h4, hF⟩ := bind_some hF
    refine reg_cons (guard_on rfl rfl rfl rfl hb2) (op_index_str (k := .i64) rfl rfl rfl h4 Try_und_9 rfl rfl) ?_
    obtain ⟨y5, h6, hF⟩ := bind_some hF
    refine reg_cons (guard_on rfl rfl rfl rfl hb2) (op_call 0 rfl (caps := []) (args := [.int .u8 (y3.toNat : Int)]) (rs := [.p (.bool y5)]) rfl rfl rfl Try_cal_99 (ref02_Letter_ok h6) rfl rfl rfl) ?_
    refine reg_cons (guard_on rfl rfl rfl rfl hb2) (op_not rfl rfl rfl rfl) ?_
    refine rpf hb2 ?_
    refine rmv ?_
    rcases ite_some hF with ⟨hb7, hF⟩ | ⟨hb7, hF⟩
    · refine rgo_t hb7 ?_
      iterate 2 (refine rgo_t hb7 ?_)
      refine rpt hb7 ?_
      refine reg_nil ?_
      cases hF
      exact post_cut _ rfl (imps [] ⟨by kernel_rfl, by kernel_rfl, trivial⟩ trivial)
    refine reg_cons (guard_on rfl rfl rfl rfl hb7) (op_move rfl rfl rfl rfl) ?_
    obtain ⟨y8, h9, hF⟩ := bind_some hF
    refine reg_cons (guard_on rfl rfl rfl rfl hb7) (op_call 0 rfl (caps := []) (args := [.str a0]) (rs := [.p (.int .i64 y8)]) rfl rfl rfl Try_cal_100 (ref02_Find_ok h9) rfl rfl rfl) ?_
    refine reg_cons (guard_on rfl rfl rfl rfl hb7) (op_int (k := .i64) (m := y8) (n := 0) rfl rfl rfl rfl rfl rfl) ?_
    refine rpf hb7 ?_
    refine reg_nil ?_
    cases hF
    exact post_cut _ rfl (imps [] ⟨by kernel_rfl, by kernel_rfl, trivial⟩ trivial)
  rintro _ rfl
  have hF := hK12
  clear hK12
  refine post_next ?_
  rcases ite_some hF with ⟨hb13, hF⟩ | ⟨hb13, hF⟩
  · refine aw_cond_t rfl hb13 ?_
    refine aw_seq ?_
    refine aw_region ?_
    refine ras ?_
    refine reg_nil ?_
    refine post_imp (s' := ⟨41, [(2, some (.pv (.bool false)))], [], 0, [], [], 0, []⟩) (imps [] ⟨by kernel_rfl, trivial⟩ trivial) ?_
    refine post_next ?_
    refine aw_ret ?_
    refine post_then_ret ?_
    obtain rfl := Option.some.inj hF
    exact post_ret rfl rfl (.cons _ _ _ _ _ (.tmp _ _ rfl) (.p _) .nil) (.inl rfl)
  refine aw_cond_f rfl hb13 ?_
  refine aw_skip ?_
  refine post_next ?_
  iterate 2 (refine aw_seq ?_)
  refine aw_region ?_
  refine ras ?_
  refine reg_nil ?_
  refine post_imp (s' := ⟨41, [(0, some (.pv (.str a0))), (3, some (.pv (.int .i64 0)))], [], 0, [], [], 0, []⟩) (imps [] ⟨by kernel_rfl, by kernel_rfl, trivial⟩ trivial) ?_
  refine post_next ?_
  obtain ⟨lr71, hF, hK72⟩ := bind_some hF
  refine aw_for ((((a0.length : Int) : Int) - (0)).toNat + 1) (fun s1 => ∃ q, lr71 = .next q ∧ s1 = ⟨41, [], [], 0, [], [], 0, []⟩) ?_ ?_
  · refine rnd_loop (α := Int) (fun q => ⟨41, [(0, some (.pv (.str a0))), (3, some (.pv (.int .i64 q)))], [], 0, [], [], 0, []⟩) (fun k q => ref02_Name_L1 a0 k q = some lr71) 0 (imps [] ⟨by kernel_rfl, by kernel_rfl, trivial⟩ trivial) hF (fun q h => by cases h) ?_
    clear hF
    rintro k x32 hF ih
    refine rnd_succ ?_
    iterate 2 (refine aw_seq ?_)
    refine aw_region ?_
    iterate 2 (refine rmv ?_)
    refine reg_cons (guard_no rfl) (op_len_str rfl rfl Try_und_9 rfl rfl) ?_
    refine reg_cons (guard_no rfl) (op_int (k := .i64) (m := x32) (n := (a0.length : Int)) rfl rfl rfl rfl rfl rfl) ?_
    refine reg_nil ?_
    refine post_imp (s' := ⟨41, [(0, some (.pv (.str a0))), (3, some (.pv (.int .i64 x32))), (26, some (.pv (.bool (decide (x32 < (a0.length : Int))))))], [], 0, [], [], 0, []⟩) (imps [] ⟨by kernel_rfl, by kernel_rfl, by kernel_rfl, trivial⟩ trivial) ?_
    refine post_next ?_
    rcases ite_some hF with ⟨hb52, hF⟩ | ⟨hb52, hF⟩
    · refine aw_cond_t rfl hb52 ?_
      refine aw_skip ?_
      refine post_next ?_
      refine aw_seq ?_
      refine aw_block ?_
      refine aw_seq ?_
      obtain ⟨x66, hF, hK68⟩ := bind_some hF
      refine aw_cut (fun s1 => s1 = ⟨41, [(0, some (.pv (.str a0))), (3, some (.pv (.int .i64 x32))), (40, some (.pv (.bool x66)))], [], 0, [], [], 0, []⟩) ?_ ?_
      · refine aw_region ?_
        iterate 2 (refine rmv ?_)
        obtain ⟨y57, h58, hF⟩ := bind_some hF
        refine reg_cons (guard_no rfl) (op_index_str (k := .i64) rfl rfl rfl h58 Try_und_9 rfl rfl) ?_
        obtain ⟨y59, h60, hF⟩ := bind_some hF
        refine reg_cons (guard_no rfl) (op_call 0 rfl (caps := []) (args := [.int .u8 (y57.toNat : Int)]) (rs := [.p (.bool y59)]) rfl rfl rfl Try_cal_99 (ref02_Letter_ok h60) rfl rfl rfl) ?_
        refine reg_cons (guard_no rfl) (op_not rfl rfl rfl rfl) ?_
        refine rmv ?_
        rcases ite_some hF with ⟨hb61, hF⟩ | ⟨hb61, hF⟩
        · refine reg_cons (guard_on rfl rfl rfl rfl hb61) (op_move rfl rfl rfl rfl) ?_
          refine reg_cons (guard_on rfl rfl rfl rfl hb61) (op_move rfl rfl rfl rfl) ?_
          obtain ⟨y62, h63, hF⟩ := bind_some hF
          refine reg_cons (guard_on rfl rfl rfl rfl hb61) (op_index_str (k := .i64) rfl rfl rfl h63 Try_und_9 rfl rfl) ?_
          obtain ⟨y64, h65, hF⟩ := bind_some hF
          refine reg_cons (guard_on rfl rfl rfl rfl hb61) (op_call 0 rfl (caps := []) (args := [.int .u8 (y62.toNat : Int)]) (rs := [.p (.bool y64)]) rfl rfl rfl Try_cal_101 (ref02_Digit_ok h65) rfl rfl rfl) ?_
          refine reg_cons (guard_on rfl rfl rfl rfl hb61) (op_not rfl rfl rfl rfl) ?_
          refine rpt hb61 ?_
          refine reg_nil ?_
          cases hF
          exact post_cut _ rfl (imps [] ⟨by kernel_rfl, by kernel_rfl, by kernel_rfl, trivial⟩ trivial)
        iterate 5 (refine rgo_f hb61 ?_)
        refine rpf hb61 ?_
        refine reg_nil ?_
        cases hF
        exact post_cut _ rfl (imps [] ⟨by kernel_rfl, by kernel_rfl, by kernel_rfl, trivial⟩ trivial)
      rintro _ rfl
      have hF := hK68
      clear hK68
      refine post_next ?_
      rcases ite_some hF with ⟨hb69, hF⟩ | ⟨hb69, hF⟩
      · refine aw_cond_t rfl hb69 ?_
        refine aw_seq ?_
        refine aw_region ?_
        refine ras ?_
        refine reg_nil ?_
        refine post_imp (s' := ⟨41, [(2, some (.pv (.bool false)))], [], 0, [], [], 0, []⟩) (imps [] ⟨by kernel_rfl, trivial⟩ trivial) ?_
        refine post_next ?_
        refine aw_ret ?_
        refine post_block_ret ?_
        iterate 2 (refine post_then_ret ?_)
        refine post_lp_ret ?_
        obtain rfl := Option.some.inj hF
        have hF := elim_stop hK72
        refine post_then_ret ?_
        obtain rfl := Option.some.inj hF
        exact post_ret rfl rfl (.cons _ _ _ _ _ (.tmp _ _ rfl) (.p _) .nil) (.inl rfl)
      refine aw_cond_f rfl hb69 ?_
      refine aw_skip ?_
      refine post_block_normal ?_
      refine post_next ?_
      refine aw_region ?_
      refine rmv ?_
      refine reg_cons (guard_no rfl) (op_int (k := .i64) (m := x32) (n := 1) rfl rfl rfl rfl rfl rfl) ?_
      refine ras ?_
      refine reg_nil ?_
      refine post_round ?_
      exact rnd_back (ih (w_i64 (x32 + 1)) hF) (imps [] ⟨by kernel_rfl, by kernel_rfl, trivial⟩ trivial)
    refine aw_cond_f rfl hb52 ?_
    refine aw_exit ?_
    iterate 2 (refine post_then_exit ?_)
    obtain rfl := Option.some.inj hF
    exact post_lp_break _ ⟨_, rfl, rfl⟩ (imps [] trivial trivial)
  rintro _ ⟨⟨⟩, rfl, rfl⟩
  have hF := elim_next hK72
  clear hK72
  refine post_next ?_
  refine aw_seq ?_
  refine aw_region ?_
  refine ras ?_
  refine reg_nil ?_
  refine post_imp (s' := ⟨41, [(2, some (.pv (.bool true)))], [], 0, [], [], 0, []⟩) (imps [] ⟨by kernel_rfl, trivial⟩ trivial) ?_
  refine post_next ?_
  refine aw_ret ?_
  obtain rfl := Option.some.inj hF
  exact post_ret rfl rfl (.cons _ _ _ _ _ (.tmp _ _ rfl) (.p _) .nil) (.inl rfl)
theorem ref04_Right_ok {a0 : GOwner} {a1 : Int} {r : Bool} (hF : ref04_Right a0 a1 = some r) : Abs.Fn Try.prog 95 [.agg (eGOwner a0), .int .i64 a1] [.p (.bool r)] := by
  unfold ref04_Right at hF
  refine fn_of_body (n := 51) Try.func95 rfl rfl rfl ?_
  intro w O
  refine aw_seq ?_
  refine aw_region ?_
  refine reg_cons (guard_no rfl) (op_box 0 rfl rfl rfl rfl rfl rfl) ?_
  refine ras ?_
  refine reg_nil ?_
  refine post_imp (s' := ⟨51, [(1, some (.pv (.int .i64 a1))), (2, some (.lp 0 0))], [(0, some (.box 42 (bxv (eGOwner a0))))], 1, [], [], 0, []⟩) (imps [0] ⟨by kernel_rfl, by kernel_rfl, trivial⟩ ⟨by kernel_rfl, trivial⟩) ?_
  refine post_next ?_
  iterate 2 (refine aw_seq ?_)
  refine aw_region ?_
  refine reg_cons (guard_no rfl) (op_field_lp rfl rfl Try_fld_42_0 rfl rfl) ?_
  refine reg_cons (guard_no rfl) (op_load_lp (v := .pv (.int .i64 a0.fKind)) rfl rfl rfl rfl Try_one_3 rfl rfl) ?_
  refine reg_cons (guard_no rfl) (op_int (k := .i64) (m := a0.fKind) (n := 3) rfl rfl rfl rfl rfl rfl) ?_
  refine reg_nil ?_
  refine post_imp (s' := ⟨51, [(1, some (.pv (.int .i64 a1))), (2, some (.lp 0 0)), (7, some (.pv (.bool (a0.fKind == 3))))], [(0, some (.box 42 (bxv (eGOwner a0))))], 1, [], [], 0, []⟩) (imps [0] ⟨by kernel_rfl, by kernel_rfl, by kernel_rfl, trivial⟩ ⟨by kernel_rfl, trivial⟩) ?_
  refine post_next ?_
  rcases ite_some hF with ⟨hb1, hF⟩ | ⟨hb1, hF⟩
  · refine aw_cond_t rfl hb1 ?_
    refine aw_seq ?_
    refine aw_region ?_
    refine reg_cons (guard_no rfl) (op_field_lp rfl rfl Try_fld_42_1 rfl rfl) ?_
    refine reg_cons (guard_no rfl) (op_load_lp (v := .pv (.int .i64 a0.fN)) rfl rfl rfl rfl Try_one_3 rfl rfl) ?_
    refine reg_cons (guard_no rfl) (op_int (k := .i64) (m := a0.fN) (n := 1) rfl rfl rfl rfl rfl rfl) ?_
    refine rmv ?_
    rcases ite_some hF with ⟨hb2, hF⟩ | ⟨hb2, hF⟩
    · refine reg_cons (guard_on rfl rfl rfl rfl hb2) (op_field_lp rfl rfl Try_fld_42_1 rfl rfl) ?_
      refine reg_cons (guard_on rfl rfl rfl rfl hb2) (op_load_lp (v := .pv (.int .i64 a0.fN)) rfl rfl rfl rfl Try_one_3 rfl rfl) ?_
      refine reg_cons (guard_on rfl rfl rfl rfl hb2) (op_move rfl rfl rfl rfl) ?_
      refine reg_cons (guard_on rfl rfl rfl rfl hb2) (op_int (k := .i64) (m := a0.fN) (n := a1) rfl rfl rfl rfl rfl rfl) ?_
      refine rpt hb2 ?_
      refine ras ?_
      refine reg_nil ?_
      refine post_imp (s' := ⟨51, [(4, some (.pv (.bool (decide (a0.fN ≤ a1)))))], [], 0, [], [], 0, []⟩) (imps [] ⟨by kernel_rfl, trivial⟩ trivial) ?_
      refine post_next ?_
      refine aw_ret ?_
      refine post_then_ret ?_
      obtain rfl := Option.some.inj hF
      exact post_ret rfl rfl (.cons _ _ _ _ _ (.tmp _ _ rfl) (.p _) .nil) (.inl rfl)
    iterate 4 (refine rgo_f hb2 ?_)
    refine rpf hb2 ?_
    refine ras ?_
    refine reg_nil ?_
    refine post_imp (s' := ⟨51, [(4, some (.pv (.bool false)))], [], 0, [], [], 0, []⟩) (imps [] ⟨by kernel_rfl, trivial⟩ trivial) ?_
    refine post_next ?_
    refine aw_ret ?_
    refine post_then_ret ?_
    obtain rfl := Option.some.inj hF
    exact post_ret rfl rfl (.cons _ _ _ _ _ (.tmp _ _ rfl) (.p _) .nil) (.inl rfl)
  refine aw_cond_f rfl hb1 ?_
  refine aw_skip ?_
  refine post_next ?_
  iterate 2 (refine aw_seq ?_)
  refine aw_region ?_
  refine reg_cons (guard_no rfl) (op_field_lp rfl rfl Try_fld_42_0 rfl rfl) ?_
  refine reg_cons (guard_no rfl) (op_load_lp (v := .pv (.int .i64 a0.fKind)) rfl rfl rfl rfl Try_one_3 rfl rfl) ?_
  refine reg_cons (guard_no rfl) (op_int (k := .i64) (m := a0.fKind) (n := 7) rfl rfl rfl rfl rfl rfl) ?_
  refine reg_nil ?_
  refine post_imp (s' := ⟨51, [(2, some (.lp 0 0)), (19, some (.pv (.bool (a0.fKind == 7))))], [(0, some (.box 42 (bxv (eGOwner a0))))], 1, [], [], 0, []⟩) (imps [0] ⟨by kernel_rfl, by kernel_rfl, trivial⟩ ⟨by kernel_rfl, trivial⟩) ?_
  refine post_next ?_
  rcases ite_some hF with ⟨hb3, hF⟩ | ⟨hb3, hF⟩
  · refine aw_cond_t rfl hb3 ?_
    refine aw_seq ?_
    refine aw_region ?_
    refine reg_cons (guard_no rfl) (op_field_lp rfl rfl Try_fld_42_1 rfl rfl) ?_
    refine reg_cons (guard_no rfl) (op_load_lp (v := .pv (.int .i64 a0.fN)) rfl rfl rfl rfl Try_one_3 rfl rfl) ?_
    refine reg_cons (guard_no rfl) (op_int (k := .i64) (m := a0.fN) (n := 0) rfl rfl rfl rfl rfl rfl) ?_
    refine ras ?_
    refine reg_nil ?_
    refine post_imp (s' := ⟨51, [(4, some (.pv (.bool (decide (a0.fN ≥ 0)))))], [], 0, [], [], 0, []⟩) (imps [] ⟨by kernel_rfl, trivial⟩ trivial) ?_
    refine post_next ?_
    refine aw_ret ?_
    refine post_then_ret ?_
    obtain rfl := Option.some.inj hF
    exact post_ret rfl rfl (.cons _ _ _ _ _ (.tmp _ _ rfl) (.p _) .nil) (.inl rfl)
  refine aw_cond_f rfl hb3 ?_
  refine aw_skip ?_
  refine post_next ?_
  refine aw_seq ?_
  refine aw_region ?_
  refine reg_cons (guard_no rfl) (op_field_lp rfl rfl Try_fld_42_1 rfl rfl) ?_
  refine reg_cons (guard_no rfl) (op_load_lp (v := .pv (.int .i64 a0.fN)) rfl rfl rfl rfl Try_one_3 rfl rfl) ?_
  refine reg_cons (guard_no rfl) (op_int (k := .i64) (m := a0.fN) (n := 0) rfl rfl rfl rfl rfl rfl) ?_
  refine rmv ?_
  rcases ite_some hF with ⟨hb4, hF⟩ | ⟨hb4, hF⟩
  · refine reg_cons (guard_on rfl rfl rfl rfl hb4) (op_field_lp rfl rfl Try_fld_42_0 rfl rfl) ?_
    refine reg_cons (guard_on rfl rfl rfl rfl hb4) (op_load_lp (v := .pv (.int .i64 a0.fKind)) rfl rfl rfl rfl Try_one_3 rfl rfl) ?_
    refine reg_cons (guard_on rfl rfl rfl rfl hb4) (op_int (k := .i64) (m := a0.fKind) (n := 1) rfl rfl rfl rfl rfl rfl) ?_
    refine reg_cons (guard_on rfl rfl rfl rfl hb4) (op_move rfl rfl rfl rfl) ?_
    rcases ite_some hF with ⟨hb5, hF⟩ | ⟨hb5, hF⟩
    · refine rgo_t hb5 ?_
      iterate 2 (refine rgo_t hb5 ?_)
      refine reg_cons (guard_on rfl rfl rfl rfl hb4) (op_pick_t rfl rfl hb5 rfl rfl rfl) ?_
      refine reg_cons (guard_on rfl rfl rfl rfl hb4) (op_move rfl rfl rfl rfl) ?_
      iterate 3 (refine rgo_t rfl ?_)
      refine reg_cons (guard_on rfl rfl rfl rfl hb4) (op_pick_t rfl rfl rfl rfl rfl rfl) ?_
      refine reg_cons (guard_on rfl rfl rfl rfl hb4) (op_move rfl rfl rfl rfl) ?_
      iterate 3 (refine rgo_t rfl ?_)
      refine reg_cons (guard_on rfl rfl rfl rfl hb4) (op_pick_t rfl rfl rfl rfl rfl rfl) ?_
      refine reg_cons (guard_on rfl rfl rfl rfl hb4) (op_move rfl rfl rfl rfl) ?_
      iterate 3 (refine rgo_t rfl ?_)
      refine reg_cons (guard_on rfl rfl rfl rfl hb4) (op_pick_t rfl rfl rfl rfl rfl rfl) ?_
      refine rpt hb4 ?_
      refine ras ?_
      refine reg_nil ?_
      refine post_imp (s' := ⟨51, [(4, some (.pv (.bool true)))], [], 0, [], [], 0, []⟩) (imps [] ⟨by kernel_rfl, trivial⟩ trivial) ?_
      refine post_next ?_
      refine aw_ret ?_
      obtain rfl := Option.some.inj hF
      exact post_ret rfl rfl (.cons _ _ _ _ _ (.tmp _ _ rfl) (.p _) .nil) (.inl rfl)
    refine reg_cons (guard_on rfl rfl rfl rfl hb5) (op_field_lp rfl rfl Try_fld_42_0 rfl rfl) ?_
    refine reg_cons (guard_on rfl rfl rfl rfl hb5) (op_load_lp (v := .pv (.int .i64 a0.fKind)) rfl rfl rfl rfl Try_one_3 rfl rfl) ?_
    refine reg_cons (guard_on rfl rfl rfl rfl hb5) (op_int (k := .i64) (m := a0.fKind) (n := 2) rfl rfl rfl rfl rfl rfl) ?_
    refine reg_cons (guard_on rfl rfl rfl rfl hb4) (op_pick_f rfl rfl hb5 rfl rfl rfl) ?_
    refine reg_cons (guard_on rfl rfl rfl rfl hb4) (op_move rfl rfl rfl rfl) ?_
    rcases ite_some hF with ⟨hb6, hF⟩ | ⟨hb6, hF⟩
    · refine rgo_t hb6 ?_
      iterate 2 (refine rgo_t hb6 ?_)
      refine reg_cons (guard_on rfl rfl rfl rfl hb4) (op_pick_t rfl rfl hb6 rfl rfl rfl) ?_
      refine reg_cons (guard_on rfl rfl rfl rfl hb4) (op_move rfl rfl rfl rfl) ?_
      iterate 3 (refine rgo_t rfl ?_)
      refine reg_cons (guard_on rfl rfl rfl rfl hb4) (op_pick_t rfl rfl rfl rfl rfl rfl) ?_
      refine reg_cons (guard_on rfl rfl rfl rfl hb4) (op_move rfl rfl rfl rfl) ?_
      iterate 3 (refine rgo_t rfl ?_)
      refine reg_cons (guard_on rfl rfl rfl rfl hb4) (op_pick_t rfl rfl rfl rfl rfl rfl) ?_
      refine rpt hb4 ?_
      refine ras ?_
      refine reg_nil ?_
      refine post_imp (s' := ⟨51, [(4, some (.pv (.bool true)))], [], 0, [], [], 0, []⟩) (imps [] ⟨by kernel_rfl, trivial⟩ trivial) ?_
      refine post_next ?_
      refine aw_ret ?_
      obtain rfl := Option.some.inj hF
      exact post_ret rfl rfl (.cons _ _ _ _ _ (.tmp _ _ rfl) (.p _) .nil) (.inl rfl)
    refine reg_cons (guard_on rfl rfl rfl rfl hb6) (op_field_lp rfl rfl Try_fld_42_0 rfl rfl) ?_
    refine reg_cons (guard_on rfl rfl rfl rfl hb6) (op_load_lp (v := .pv (.int .i64 a0.fKind)) rfl rfl rfl rfl Try_one_3 rfl rfl) ?_
    refine reg_cons (guard_on rfl rfl rfl rfl hb6) (op_int (k := .i64) (m := a0.fKind) (n := 4) rfl rfl rfl rfl rfl rfl) ?_
    refine reg_cons (guard_on rfl rfl rfl rfl hb4) (op_pick_f rfl rfl hb6 rfl rfl rfl) ?_
    refine reg_cons (guard_on rfl rfl rfl rfl hb4) (op_move rfl rfl rfl rfl) ?_
    rcases ite_some hF with ⟨hb7, hF⟩ | ⟨hb7, hF⟩
    · refine rgo_t hb7 ?_
      iterate 2 (refine rgo_t hb7 ?_)
      refine reg_cons (guard_on rfl rfl rfl rfl hb4) (op_pick_t rfl rfl hb7 rfl rfl rfl) ?_
      refine reg_cons (guard_on rfl rfl rfl rfl hb4) (op_move rfl rfl rfl rfl) ?_
      iterate 3 (refine rgo_t rfl ?_)
      refine reg_cons (guard_on rfl rfl rfl rfl hb4) (op_pick_t rfl rfl rfl rfl rfl rfl) ?_
      refine rpt hb4 ?_
      refine ras ?_
      refine reg_nil ?_
      refine post_imp (s' := ⟨51, [(4, some (.pv (.bool true)))], [], 0, [], [], 0, []⟩) (imps [] ⟨by kernel_rfl, trivial⟩ trivial) ?_
      refine post_next ?_
      refine aw_ret ?_
      obtain rfl := Option.some.inj hF
      exact post_ret rfl rfl (.cons _ _ _ _ _ (.tmp _ _ rfl) (.p _) .nil) (.inl rfl)
    refine reg_cons (guard_on rfl rfl rfl rfl hb7) (op_field_lp rfl rfl Try_fld_42_0 rfl rfl) ?_
    refine reg_cons (guard_on rfl rfl rfl rfl hb7) (op_load_lp (v := .pv (.int .i64 a0.fKind)) rfl rfl rfl rfl Try_one_3 rfl rfl) ?_
    refine reg_cons (guard_on rfl rfl rfl rfl hb7) (op_int (k := .i64) (m := a0.fKind) (n := 5) rfl rfl rfl rfl rfl rfl) ?_
    refine reg_cons (guard_on rfl rfl rfl rfl hb4) (op_pick_f rfl rfl hb7 rfl rfl rfl) ?_
    refine reg_cons (guard_on rfl rfl rfl rfl hb4) (op_move rfl rfl rfl rfl) ?_
    rcases ite_some hF with ⟨hb8, hF⟩ | ⟨hb8, hF⟩
    · refine rgo_t hb8 ?_
      iterate 2 (refine rgo_t hb8 ?_)
      refine reg_cons (guard_on rfl rfl rfl rfl hb4) (op_pick_t rfl rfl hb8 rfl rfl rfl) ?_
      refine rpt hb4 ?_
      refine ras ?_
      refine reg_nil ?_
      refine post_imp (s' := ⟨51, [(4, some (.pv (.bool true)))], [], 0, [], [], 0, []⟩) (imps [] ⟨by kernel_rfl, trivial⟩ trivial) ?_
      refine post_next ?_
      refine aw_ret ?_
      obtain rfl := Option.some.inj hF
      exact post_ret rfl rfl (.cons _ _ _ _ _ (.tmp _ _ rfl) (.p _) .nil) (.inl rfl)
    refine reg_cons (guard_on rfl rfl rfl rfl hb8) (op_field_lp rfl rfl Try_fld_42_0 rfl rfl) ?_
    refine reg_cons (guard_on rfl rfl rfl rfl hb8) (op_load_lp (v := .pv (.int .i64 a0.fKind)) rfl rfl rfl rfl Try_one_3 rfl rfl) ?_
    refine reg_cons (guard_on rfl rfl rfl rfl hb8) (op_int (k := .i64) (m := a0.fKind) (n := 6) rfl rfl rfl rfl rfl rfl) ?_
    refine reg_cons (guard_on rfl rfl rfl rfl hb4) (op_pick_f rfl rfl hb8 rfl rfl rfl) ?_
    refine rpt hb4 ?_
    refine ras ?_
    refine reg_nil ?_
    refine post_imp (s' := ⟨51, [(4, some (.pv (.bool (a0.fKind == 6))))], [], 0, [], [], 0, []⟩) (imps [] ⟨by kernel_rfl, trivial⟩ trivial) ?_
    refine post_next ?_
    refine aw_ret ?_
    obtain rfl := Option.some.inj hF
    exact post_ret rfl rfl (.cons _ _ _ _ _ (.tmp _ _ rfl) (.p _) .nil) (.inl rfl)
  iterate 4 (refine rgo_f hb4 ?_)
  iterate 3 (refine rgu ?_)
  iterate 2 (refine rgo_f hb4 ?_)
  iterate 3 (refine rgu ?_)
  iterate 2 (refine rgo_f hb4 ?_)
  iterate 3 (refine rgu ?_)
  iterate 2 (refine rgo_f hb4 ?_)
  iterate 3 (refine rgu ?_)
  refine rgo_f hb4 ?_
  refine rpf hb4 ?_
  refine ras ?_
  refine reg_nil ?_
  refine post_imp (s' := ⟨51, [(4, some (.pv (.bool false)))], [], 0, [], [], 0, []⟩) (imps [] ⟨by kernel_rfl, trivial⟩ trivial) ?_
  refine post_next ?_
  refine aw_ret ?_
  obtain rfl := Option.some.inj hF
  exact post_ret rfl rfl (.cons _ _ _ _ _ (.tmp _ _ rfl) (.p _) .nil) (.inl rfl)
theorem ref08_Blank_ok {a0 : GStmt} {r : GStmt} (hF : ref08_Blank a0 = some r) : Abs.Fn Try.prog 113 [.agg (eGStmt a0)] [.p (.agg (eGStmt r))] := by
  unfold ref08_Blank at hF
  refine fn_of_body (n := 105) Try.func113 rfl rfl rfl ?_
  intro w O
  refine aw_seq ?_
  refine aw_region ?_
  refine reg_cons (guard_no rfl) (op_box 0 rfl rfl rfl rfl rfl rfl) ?_
  refine reg_cons (guard_no rfl) (op_alloc 1 rfl (ps := (eGStmt zGStmt)) rfl Try_zer_121 (by exact ⟨rfl, rfl, rfl, rfl, rfl, rfl, rfl, rfl, rfl, rfl, rfl, rfl, rfl, rfl, rfl, rfl, rfl, rfl, trivial, trivial, trivial, trivial, rfl, trivial⟩) rfl rfl) ?_
  refine reg_nil ?_
  refine post_imp (s' := ⟨105, [(1, some (.lp 0 0)), (2, some (.lp 1 0))], [(0, some (.box 121 (bxv (eGStmt a0)))), (1, some (.box 121 (bxv (eGStmt zGStmt))))], 2, [], [], 0, []⟩) (imps [0, 1] ⟨by kernel_rfl, by kernel_rfl, trivial⟩ ⟨by kernel_rfl, by kernel_rfl, trivial⟩) ?_
  refine post_next ?_
  refine aw_seq ?_
  refine aw_region ?_
  refine reg_cons (guard_no rfl) (op_field_lp rfl rfl Try_fld_121_0 rfl rfl) ?_
  refine reg_cons (guard_no rfl) (op_load_lp (v := .pv (.int .i64 a0.fKind)) rfl rfl rfl rfl Try_one_3 rfl rfl) ?_
  refine ras ?_
  refine reg_nil ?_
  refine post_imp (s' := ⟨105, [(1, some (.lp 0 0)), (2, some (.lp 1 0)), (3, some (.pv (.int .i64 a0.fKind)))], [(0, some (.box 121 (bxv (eGStmt a0)))), (1, some (.box 121 (bxv (eGStmt zGStmt))))], 2, [], [], 0, []⟩) (imps [0, 1] ⟨by kernel_rfl, by kernel_rfl, by kernel_rfl, trivial⟩ ⟨by kernel_rfl, by kernel_rfl, trivial⟩) ?_
  refine post_next ?_
  refine aw_seq ?_
  obtain ⟨x10, hF, hK12⟩ := bind_some hF
  refine aw_cut (fun s1 => s1 = ⟨105, [(1, some (.lp 0 0)), (2, some (.lp 1 0)), (3, some (.pv (.int .i64 a0.fKind)))], [(0, some (.box 121 (bxv (eGStmt x10)))), (1, some (.box 121 (bxv (eGStmt zGStmt))))], 2, [], [], 0, []⟩) ?_ ?_
  · refine aw_seq ?_
    obtain ⟨x6, hF, hK8⟩ := bind_some hF
    refine aw_cut (fun s1 => s1 = ⟨105, [(1, some (.lp 0 0)), (2, some (.lp 1 0)), (3, some (.pv (.int .i64 a0.fKind))), (27, some (.pv (.bool x6)))], [(0, some (.box 121 (bxv (eGStmt a0)))), (1, some (.box 121 (bxv (eGStmt zGStmt))))], 2, [], [], 0, []⟩) ?_ ?_
    · refine aw_region ?_
      refine rmv ?_
      refine reg_cons (guard_no rfl) (op_int (k := .i64) (m := a0.fKind) (n := 1) rfl rfl rfl rfl rfl rfl) ?_
      refine rmv ?_
      rcases ite_some hF with ⟨hb1, hF⟩ | ⟨hb1, hF⟩
      · refine rgo_t hb1 ?_
        refine rgo_t hb1 ?_
        refine rpt hb1 ?_
        refine rmv ?_
        iterate 2 (refine rgo_t rfl ?_)
        refine rpt rfl ?_
        refine rmv ?_
        iterate 2 (refine rgo_t rfl ?_)
        refine rpt rfl ?_
        refine rmv ?_
        iterate 2 (refine rgo_t rfl ?_)
        refine rpt rfl ?_
        refine rmv ?_
        iterate 2 (refine rgo_t rfl ?_)
        refine rpt rfl ?_
        refine reg_nil ?_
        cases hF
        exact post_cut _ rfl (imps [0, 1] ⟨by kernel_rfl, by kernel_rfl, by kernel_rfl, by kernel_rfl, trivial⟩ ⟨by kernel_rfl, by kernel_rfl, trivial⟩)
      refine reg_cons (guard_on rfl rfl rfl rfl hb1) (op_move rfl rfl rfl rfl) ?_
      refine reg_cons (guard_on rfl rfl rfl rfl hb1) (op_int (k := .i64) (m := a0.fKind) (n := 2) rfl rfl rfl rfl rfl rfl) ?_
      refine rpf hb1 ?_
      refine rmv ?_
      rcases ite_some hF with ⟨hb2, hF⟩ | ⟨hb2, hF⟩
      · refine rgo_t hb2 ?_
        refine rgo_t hb2 ?_
        refine rpt hb2 ?_
        refine rmv ?_
        iterate 2 (refine rgo_t rfl ?_)
        refine rpt rfl ?_
        refine rmv ?_
        iterate 2 (refine rgo_t rfl ?_)
        refine rpt rfl ?_
        refine rmv ?_
        iterate 2 (refine rgo_t rfl ?_)
        refine rpt rfl ?_
        refine reg_nil ?_
        cases hF
        exact post_cut _ rfl (imps [0, 1] ⟨by kernel_rfl, by kernel_rfl, by kernel_rfl, by kernel_rfl, trivial⟩ ⟨by kernel_rfl, by kernel_rfl, trivial⟩)
      refine reg_cons (guard_on rfl rfl rfl rfl hb2) (op_move rfl rfl rfl rfl) ?_
      refine reg_cons (guard_on rfl rfl rfl rfl hb2) (op_int (k := .i64) (m := a0.fKind) (n := 4) rfl rfl rfl rfl rfl rfl) ?_
      refine rpf hb2 ?_
      refine rmv ?_
      rcases ite_some hF with ⟨hb3, hF⟩ | ⟨hb3, hF⟩
      · refine rgo_t hb3 ?_
        refine rgo_t hb3 ?_
        refine rpt hb3 ?_
        refine rmv ?_
        iterate 2 (refine rgo_t rfl ?_)
        refine rpt rfl ?_
        refine rmv ?_
        iterate 2 (refine rgo_t rfl ?_)
        refine rpt rfl ?_
        refine reg_nil ?_
        cases hF
        exact post_cut _ rfl (imps [0, 1] ⟨by kernel_rfl, by kernel_rfl, by kernel_rfl, by kernel_rfl, trivial⟩ ⟨by kernel_rfl, by kernel_rfl, trivial⟩)
      refine reg_cons (guard_on rfl rfl rfl rfl hb3) (op_move rfl rfl rfl rfl) ?_
      refine reg_cons (guard_on rfl rfl rfl rfl hb3) (op_int (k := .i64) (m := a0.fKind) (n := 5) rfl rfl rfl rfl rfl rfl) ?_
      refine rpf hb3 ?_
      refine rmv ?_
      rcases ite_some hF with ⟨hb4, hF⟩ | ⟨hb4, hF⟩
      · refine rgo_t hb4 ?_
        refine rgo_t hb4 ?_
        refine rpt hb4 ?_
        refine rmv ?_
        iterate 2 (refine rgo_t rfl ?_)
        refine rpt rfl ?_
        refine reg_nil ?_
        cases hF
        exact post_cut _ rfl (imps [0, 1] ⟨by kernel_rfl, by kernel_rfl, by kernel_rfl, by kernel_rfl, trivial⟩ ⟨by kernel_rfl, by kernel_rfl, trivial⟩)
      refine reg_cons (guard_on rfl rfl rfl rfl hb4) (op_move rfl rfl rfl rfl) ?_
      refine reg_cons (guard_on rfl rfl rfl rfl hb4) (op_int (k := .i64) (m := a0.fKind) (n := 6) rfl rfl rfl rfl rfl rfl) ?_
      refine rpf hb4 ?_
      refine rmv ?_
      rcases ite_some hF with ⟨hb5, hF⟩ | ⟨hb5, hF⟩
      · refine rgo_t hb5 ?_
        refine rgo_t hb5 ?_
        refine rpt hb5 ?_
        refine reg_nil ?_
        cases hF
        exact post_cut _ rfl (imps [0, 1] ⟨by kernel_rfl, by kernel_rfl, by kernel_rfl, by kernel_rfl, trivial⟩ ⟨by kernel_rfl, by kernel_rfl, trivial⟩)
      refine reg_cons (guard_on rfl rfl rfl rfl hb5) (op_move rfl rfl rfl rfl) ?_
      refine reg_cons (guard_on rfl rfl rfl rfl hb5) (op_int (k := .i64) (m := a0.fKind) (n := 7) rfl rfl rfl rfl rfl rfl) ?_
      refine rpf hb5 ?_
      refine reg_nil ?_
      cases hF
      exact post_cut _ rfl (imps [0, 1] ⟨by kernel_rfl, by kernel_rfl, by kernel_rfl, by kernel_rfl, trivial⟩ ⟨by kernel_rfl, by kernel_rfl, trivial⟩)
    rintro _ rfl
    have hF := hK8
    clear hK8
    refine post_next ?_
    rcases ite_some hF with ⟨hb9, hF⟩ | ⟨hb9, hF⟩
    · refine aw_cond_t rfl hb9 ?_
      refine aw_region ?_
      refine reg_cons (guard_no rfl) (op_field_lp rfl rfl Try_fld_121_1 rfl rfl) ?_
      refine reg_cons (guard_no rfl) (op_store_lp (n := 1) rfl rfl rfl rfl rfl (or_one Try_one_9) (by rw [Try_one_9]; rfl) rfl rfl rfl) ?_
      refine reg_nil ?_
      cases hF
      exact post_cut _ rfl (imps [0, 1] ⟨by kernel_rfl, by kernel_rfl, by kernel_rfl, trivial⟩ ⟨by kernel_rfl, by kernel_rfl, trivial⟩)
    refine aw_cond_f rfl hb9 ?_
    refine aw_skip ?_
    cases hF
    exact post_cut _ rfl (imps [0, 1] ⟨by kernel_rfl, by kernel_rfl, by kernel_rfl, trivial⟩ ⟨by kernel_rfl, by kernel_rfl, trivial⟩)
  rintro _ rfl
  have hF := hK12
  clear hK12
  refine post_next ?_
  refine aw_seq ?_
  obtain ⟨x21, hF, hK23⟩ := bind_some hF
  refine aw_cut (fun s1 => s1 = ⟨105, [(1, some (.lp 0 0)), (2, some (.lp 1 0)), (3, some (.pv (.int .i64 a0.fKind)))], [(0, some (.box 121 (bxv (eGStmt x21)))), (1, some (.box 121 (bxv (eGStmt zGStmt))))], 2, [], [], 0, []⟩) ?_ ?_
  · refine aw_seq ?_
    obtain ⟨x17, hF, hK19⟩ := bind_some hF
    refine aw_cut (fun s1 => s1 = ⟨105, [(1, some (.lp 0 0)), (2, some (.lp 1 0)), (3, some (.pv (.int .i64 a0.fKind))), (46, some (.pv (.bool x17)))], [(0, some (.box 121 (bxv (eGStmt x10)))), (1, some (.box 121 (bxv (eGStmt zGStmt))))], 2, [], [], 0, []⟩) ?_ ?_
    · refine aw_region ?_
      refine rmv ?_
      refine reg_cons (guard_no rfl) (op_int (k := .i64) (m := a0.fKind) (n := 2) rfl rfl rfl rfl rfl rfl) ?_
      refine rmv ?_
      rcases ite_some hF with ⟨hb13, hF⟩ | ⟨hb13, hF⟩
      · refine rgo_t hb13 ?_
        refine rgo_t hb13 ?_
        refine rpt hb13 ?_
        refine rmv ?_
        iterate 2 (refine rgo_t rfl ?_)
        refine rpt rfl ?_
        refine rmv ?_
        iterate 2 (refine rgo_t rfl ?_)
        refine rpt rfl ?_
        refine rmv ?_
        iterate 2 (refine rgo_t rfl ?_)
        refine rpt rfl ?_
        refine reg_nil ?_
        cases hF
        exact post_cut _ rfl (imps [0, 1] ⟨by kernel_rfl, by kernel_rfl, by kernel_rfl, by kernel_rfl, trivial⟩ ⟨by kernel_rfl, by kernel_rfl, trivial⟩)
      refine reg_cons (guard_on rfl rfl rfl rfl hb13) (op_move rfl rfl rfl rfl) ?_
      refine reg_cons (guard_on rfl rfl rfl rfl hb13) (op_int (k := .i64) (m := a0.fKind) (n := 3) rfl rfl rfl rfl rfl rfl) ?_
      refine rpf hb13 ?_
      refine rmv ?_
      rcases ite_some hF with ⟨hb14, hF⟩ | ⟨hb14, hF⟩
      · refine rgo_t hb14 ?_
        refine rgo_t hb14 ?_
        refine rpt hb14 ?_
        refine rmv ?_
        iterate 2 (refine rgo_t rfl ?_)
        refine rpt rfl ?_
        refine rmv ?_
        iterate 2 (refine rgo_t rfl ?_)
        refine rpt rfl ?_
        refine reg_nil ?_
        cases hF
        exact post_cut _ rfl (imps [0, 1] ⟨by kernel_rfl, by kernel_rfl, by kernel_rfl, by kernel_rfl, trivial⟩ ⟨by kernel_rfl, by kernel_rfl, trivial⟩)
      refine reg_cons (guard_on rfl rfl rfl rfl hb14) (op_move rfl rfl rfl rfl) ?_
      refine reg_cons (guard_on rfl rfl rfl rfl hb14) (op_int (k := .i64) (m := a0.fKind) (n := 4) rfl rfl rfl rfl rfl rfl) ?_
      refine rpf hb14 ?_
      refine rmv ?_
      rcases ite_some hF with ⟨hb15, hF⟩ | ⟨hb15, hF⟩
      · refine rgo_t hb15 ?_
        refine rgo_t hb15 ?_
        refine rpt hb15 ?_
        refine rmv ?_
        iterate 2 (refine rgo_t rfl ?_)
        refine rpt rfl ?_
        refine reg_nil ?_
        cases hF
        exact post_cut _ rfl (imps [0, 1] ⟨by kernel_rfl, by kernel_rfl, by kernel_rfl, by kernel_rfl, trivial⟩ ⟨by kernel_rfl, by kernel_rfl, trivial⟩)
      refine reg_cons (guard_on rfl rfl rfl rfl hb15) (op_move rfl rfl rfl rfl) ?_
      refine reg_cons (guard_on rfl rfl rfl rfl hb15) (op_int (k := .i64) (m := a0.fKind) (n := 7) rfl rfl rfl rfl rfl rfl) ?_
      refine rpf hb15 ?_
      refine rmv ?_
      rcases ite_some hF with ⟨hb16, hF⟩ | ⟨hb16, hF⟩
      · refine rgo_t hb16 ?_
        refine rgo_t hb16 ?_
        refine rpt hb16 ?_
        refine reg_nil ?_
        cases hF
        exact post_cut _ rfl (imps [0, 1] ⟨by kernel_rfl, by kernel_rfl, by kernel_rfl, by kernel_rfl, trivial⟩ ⟨by kernel_rfl, by kernel_rfl, trivial⟩)
      refine reg_cons (guard_on rfl rfl rfl rfl hb16) (op_move rfl rfl rfl rfl) ?_
      refine reg_cons (guard_on rfl rfl rfl rfl hb16) (op_int (k := .i64) (m := a0.fKind) (n := 8) rfl rfl rfl rfl rfl rfl) ?_
      refine rpf hb16 ?_
      refine reg_nil ?_
      cases hF
      exact post_cut _ rfl (imps [0, 1] ⟨by kernel_rfl, by kernel_rfl, by kernel_rfl, by kernel_rfl, trivial⟩ ⟨by kernel_rfl, by kernel_rfl, trivial⟩)
    rintro _ rfl
    have hF := hK19
    clear hK19
    refine post_next ?_
    rcases ite_some hF with ⟨hb20, hF⟩ | ⟨hb20, hF⟩
    · refine aw_cond_t rfl hb20 ?_
      refine aw_region ?_
      refine reg_cons (guard_no rfl) (op_field_lp rfl rfl Try_fld_121_2 rfl rfl) ?_
      refine reg_cons (guard_no rfl) (op_store_lp (n := 1) rfl rfl rfl rfl rfl (or_one Try_one_9) (by rw [Try_one_9]; rfl) rfl rfl rfl) ?_
      refine reg_nil ?_
      cases hF
      exact post_cut _ rfl (imps [0, 1] ⟨by kernel_rfl, by kernel_rfl, by kernel_rfl, trivial⟩ ⟨by kernel_rfl, by kernel_rfl, trivial⟩)
    refine aw_cond_f rfl hb20 ?_
    refine aw_skip ?_
    cases hF
    exact post_cut _ rfl (imps [0, 1] ⟨by kernel_rfl, by kernel_rfl, by kernel_rfl, trivial⟩ ⟨by kernel_rfl, by kernel_rfl, trivial⟩)
  rintro _ rfl
  have hF := hK23
  clear hK23
  refine post_next ?_
  refine aw_seq ?_
  obtain ⟨x30, hF, hK32⟩ := bind_some hF
  refine aw_cut (fun s1 => s1 = ⟨105, [(1, some (.lp 0 0)), (2, some (.lp 1 0)), (3, some (.pv (.int .i64 a0.fKind)))], [(0, some (.box 121 (bxv (eGStmt x30)))), (1, some (.box 121 (bxv (eGStmt zGStmt))))], 2, [], [], 0, []⟩) ?_ ?_
  · refine aw_seq ?_
    obtain ⟨x26, hF, hK28⟩ := bind_some hF
    refine aw_cut (fun s1 => s1 = ⟨105, [(1, some (.lp 0 0)), (2, some (.lp 1 0)), (3, some (.pv (.int .i64 a0.fKind))), (57, some (.pv (.bool x26)))], [(0, some (.box 121 (bxv (eGStmt x21)))), (1, some (.box 121 (bxv (eGStmt zGStmt))))], 2, [], [], 0, []⟩) ?_ ?_
    · refine aw_region ?_
      refine rmv ?_
      refine reg_cons (guard_no rfl) (op_int (k := .i64) (m := a0.fKind) (n := 2) rfl rfl rfl rfl rfl rfl) ?_
      refine rmv ?_
      rcases ite_some hF with ⟨hb24, hF⟩ | ⟨hb24, hF⟩
      · refine rgo_t hb24 ?_
        refine rgo_t hb24 ?_
        refine rpt hb24 ?_
        refine rmv ?_
        iterate 2 (refine rgo_t rfl ?_)
        refine rpt rfl ?_
        refine reg_nil ?_
        cases hF
        exact post_cut _ rfl (imps [0, 1] ⟨by kernel_rfl, by kernel_rfl, by kernel_rfl, by kernel_rfl, trivial⟩ ⟨by kernel_rfl, by kernel_rfl, trivial⟩)
      refine reg_cons (guard_on rfl rfl rfl rfl hb24) (op_move rfl rfl rfl rfl) ?_
      refine reg_cons (guard_on rfl rfl rfl rfl hb24) (op_int (k := .i64) (m := a0.fKind) (n := 3) rfl rfl rfl rfl rfl rfl) ?_
      refine rpf hb24 ?_
      refine rmv ?_
      rcases ite_some hF with ⟨hb25, hF⟩ | ⟨hb25, hF⟩
      · refine rgo_t hb25 ?_
        refine rgo_t hb25 ?_
        refine rpt hb25 ?_
        refine reg_nil ?_
        cases hF
        exact post_cut _ rfl (imps [0, 1] ⟨by kernel_rfl, by kernel_rfl, by kernel_rfl, by kernel_rfl, trivial⟩ ⟨by kernel_rfl, by kernel_rfl, trivial⟩)
      refine reg_cons (guard_on rfl rfl rfl rfl hb25) (op_move rfl rfl rfl rfl) ?_
      refine reg_cons (guard_on rfl rfl rfl rfl hb25) (op_int (k := .i64) (m := a0.fKind) (n := 4) rfl rfl rfl rfl rfl rfl) ?_
      refine rpf hb25 ?_
      refine reg_nil ?_
      cases hF
      exact post_cut _ rfl (imps [0, 1] ⟨by kernel_rfl, by kernel_rfl, by kernel_rfl, by kernel_rfl, trivial⟩ ⟨by kernel_rfl, by kernel_rfl, trivial⟩)
    rintro _ rfl
    have hF := hK28
    clear hK28
    refine post_next ?_
    rcases ite_some hF with ⟨hb29, hF⟩ | ⟨hb29, hF⟩
    · refine aw_cond_t rfl hb29 ?_
      refine aw_region ?_
      refine reg_cons (guard_no rfl) (op_field_lp rfl rfl Try_fld_121_3 rfl rfl) ?_
      refine reg_cons (guard_no rfl) (op_store_lp (n := 1) rfl rfl rfl rfl rfl (or_one Try_one_9) (by rw [Try_one_9]; rfl) rfl rfl rfl) ?_
      refine reg_nil ?_
      cases hF
      exact post_cut _ rfl (imps [0, 1] ⟨by kernel_rfl, by kernel_rfl, by kernel_rfl, trivial⟩ ⟨by kernel_rfl, by kernel_rfl, trivial⟩)
    refine aw_cond_f rfl hb29 ?_
    refine aw_skip ?_
    cases hF
    exact post_cut _ rfl (imps [0, 1] ⟨by kernel_rfl, by kernel_rfl, by kernel_rfl, trivial⟩ ⟨by kernel_rfl, by kernel_rfl, trivial⟩)
  rintro _ rfl
  have hF := hK32
  clear hK32
  refine post_next ?_
  refine aw_seq ?_
  obtain ⟨x38, hF, hK40⟩ := bind_some hF
  refine aw_cut (fun s1 => s1 = ⟨105, [(1, some (.lp 0 0)), (2, some (.lp 1 0)), (3, some (.pv (.int .i64 a0.fKind)))], [(0, some (.box 121 (bxv (eGStmt x38)))), (1, some (.box 121 (bxv (eGStmt zGStmt))))], 2, [], [], 0, []⟩) ?_ ?_
  · refine aw_seq ?_
    obtain ⟨x34, hF, hK36⟩ := bind_some hF
    refine aw_cut (fun s1 => s1 = ⟨105, [(1, some (.lp 0 0)), (2, some (.lp 1 0)), (3, some (.pv (.int .i64 a0.fKind))), (64, some (.pv (.bool x34)))], [(0, some (.box 121 (bxv (eGStmt x30)))), (1, some (.box 121 (bxv (eGStmt zGStmt))))], 2, [], [], 0, []⟩) ?_ ?_
    · refine aw_region ?_
      refine rmv ?_
      refine reg_cons (guard_no rfl) (op_int (k := .i64) (m := a0.fKind) (n := 5) rfl rfl rfl rfl rfl rfl) ?_
      refine rmv ?_
      rcases ite_some hF with ⟨hb33, hF⟩ | ⟨hb33, hF⟩
      · refine rgo_t hb33 ?_
        refine rgo_t hb33 ?_
        refine rpt hb33 ?_
        refine reg_nil ?_
        cases hF
        exact post_cut _ rfl (imps [0, 1] ⟨by kernel_rfl, by kernel_rfl, by kernel_rfl, by kernel_rfl, trivial⟩ ⟨by kernel_rfl, by kernel_rfl, trivial⟩)
      refine reg_cons (guard_on rfl rfl rfl rfl hb33) (op_move rfl rfl rfl rfl) ?_
      refine reg_cons (guard_on rfl rfl rfl rfl hb33) (op_int (k := .i64) (m := a0.fKind) (n := 6) rfl rfl rfl rfl rfl rfl) ?_
      refine rpf hb33 ?_
      refine reg_nil ?_
      cases hF
      exact post_cut _ rfl (imps [0, 1] ⟨by kernel_rfl, by kernel_rfl, by kernel_rfl, by kernel_rfl, trivial⟩ ⟨by kernel_rfl, by kernel_rfl, trivial⟩)
    rintro _ rfl
    have hF := hK36
    clear hK36
    refine post_next ?_
    rcases ite_some hF with ⟨hb37, hF⟩ | ⟨hb37, hF⟩
    · refine aw_cond_t rfl hb37 ?_
      refine aw_region ?_
      refine reg_cons (guard_no rfl) (op_build (zs := (eGType zGType)) (r := eGType ({ fKind := 0, fClass := [], fN := 0, fOwn := (⟨zGOwner, zGOwner, zGOwner, zGOwner⟩ : A4 GOwner) } : GType)) rfl Try_zer_67 (by exact ⟨rfl, rfl, rfl, rfl, rfl, rfl, rfl, rfl, rfl, rfl, rfl, trivial⟩) Try_plc_67 rfl rfl rfl rfl) ?_
      refine reg_cons (guard_no rfl) (op_field_lp rfl rfl Try_fld_121_4 rfl rfl) ?_
      refine reg_cons (guard_no rfl) (op_store_lp (n := 11) rfl rfl rfl rfl rfl (or_agg Try_agg_67) (by rw [Try_non_67]; rfl) rfl rfl rfl) ?_
      refine reg_nil ?_
      cases hF
      exact post_cut _ rfl (imps [0, 1] ⟨by kernel_rfl, by kernel_rfl, by kernel_rfl, trivial⟩ ⟨by kernel_rfl, by kernel_rfl, trivial⟩)
    refine aw_cond_f rfl hb37 ?_
    refine aw_skip ?_
    cases hF
    exact post_cut _ rfl (imps [0, 1] ⟨by kernel_rfl, by kernel_rfl, by kernel_rfl, trivial⟩ ⟨by kernel_rfl, by kernel_rfl, trivial⟩)
  rintro _ rfl
  have hF := hK40
  clear hK40
  refine post_next ?_
  refine aw_seq ?_
  obtain ⟨x50, hF, hK52⟩ := bind_some hF
  refine aw_cut (fun s1 => s1 = ⟨105, [(1, some (.lp 0 0)), (2, some (.lp 1 0)), (3, some (.pv (.int .i64 a0.fKind)))], [(0, some (.box 121 (bxv (eGStmt x50)))), (1, some (.box 121 (bxv (eGStmt zGStmt))))], 2, [], [], 0, []⟩) ?_ ?_
  · refine aw_seq ?_
    obtain ⟨x46, hF, hK48⟩ := bind_some hF
    refine aw_cut (fun s1 => s1 = ⟨105, [(1, some (.lp 0 0)), (2, some (.lp 1 0)), (3, some (.pv (.int .i64 a0.fKind))), (88, some (.pv (.bool x46)))], [(0, some (.box 121 (bxv (eGStmt x38)))), (1, some (.box 121 (bxv (eGStmt zGStmt))))], 2, [], [], 0, []⟩) ?_ ?_
    · refine aw_region ?_
      refine rmv ?_
      refine reg_cons (guard_no rfl) (op_int (k := .i64) (m := a0.fKind) (n := 1) rfl rfl rfl rfl rfl rfl) ?_
      refine rmv ?_
      rcases ite_some hF with ⟨hb41, hF⟩ | ⟨hb41, hF⟩
      · refine rgo_t hb41 ?_
        refine rgo_t hb41 ?_
        refine rpt hb41 ?_
        refine rmv ?_
        iterate 2 (refine rgo_t rfl ?_)
        refine rpt rfl ?_
        refine rmv ?_
        iterate 2 (refine rgo_t rfl ?_)
        refine rpt rfl ?_
        refine rmv ?_
        iterate 2 (refine rgo_t rfl ?_)
        refine rpt rfl ?_
        refine rmv ?_
        iterate 2 (refine rgo_t rfl ?_)
        refine rpt rfl ?_
        refine reg_nil ?_
        cases hF
        exact post_cut _ rfl (imps [0, 1] ⟨by kernel_rfl, by kernel_rfl, by kernel_rfl, by kernel_rfl, trivial⟩ ⟨by kernel_rfl, by kernel_rfl, trivial⟩)
      refine reg_cons (guard_on rfl rfl rfl rfl hb41) (op_move rfl rfl rfl rfl) ?_
      refine reg_cons (guard_on rfl rfl rfl rfl hb41) (op_int (k := .i64) (m := a0.fKind) (n := 3) rfl rfl rfl rfl rfl rfl) ?_
      refine rpf hb41 ?_
      refine rmv ?_
      rcases ite_some hF with ⟨hb42, hF⟩ | ⟨hb42, hF⟩
      · refine rgo_t hb42 ?_
        refine rgo_t hb42 ?_
        refine rpt hb42 ?_
        refine rmv ?_
        iterate 2 (refine rgo_t rfl ?_)
        refine rpt rfl ?_
        refine rmv ?_
        iterate 2 (refine rgo_t rfl ?_)
        refine rpt rfl ?_
        refine rmv ?_
        iterate 2 (refine rgo_t rfl ?_)
        refine rpt rfl ?_
        refine reg_nil ?_
        cases hF
        exact post_cut _ rfl (imps [0, 1] ⟨by kernel_rfl, by kernel_rfl, by kernel_rfl, by kernel_rfl, trivial⟩ ⟨by kernel_rfl, by kernel_rfl, trivial⟩)
      refine reg_cons (guard_on rfl rfl rfl rfl hb42) (op_move rfl rfl rfl rfl) ?_
      refine reg_cons (guard_on rfl rfl rfl rfl hb42) (op_int (k := .i64) (m := a0.fKind) (n := 6) rfl rfl rfl rfl rfl rfl) ?_
      refine rpf hb42 ?_
      refine rmv ?_
      rcases ite_some hF with ⟨hb43, hF⟩ | ⟨hb43, hF⟩
      · refine rgo_t hb43 ?_
        refine rgo_t hb43 ?_
        refine rpt hb43 ?_
        refine rmv ?_
        iterate 2 (refine rgo_t rfl ?_)
        refine rpt rfl ?_
        refine rmv ?_
        iterate 2 (refine rgo_t rfl ?_)
        refine rpt rfl ?_
        refine reg_nil ?_
        cases hF
        exact post_cut _ rfl (imps [0, 1] ⟨by kernel_rfl, by kernel_rfl, by kernel_rfl, by kernel_rfl, trivial⟩ ⟨by kernel_rfl, by kernel_rfl, trivial⟩)
      refine reg_cons (guard_on rfl rfl rfl rfl hb43) (op_move rfl rfl rfl rfl) ?_
      refine reg_cons (guard_on rfl rfl rfl rfl hb43) (op_int (k := .i64) (m := a0.fKind) (n := 9) rfl rfl rfl rfl rfl rfl) ?_
      refine rpf hb43 ?_
      refine rmv ?_
      rcases ite_some hF with ⟨hb44, hF⟩ | ⟨hb44, hF⟩
      · refine rgo_t hb44 ?_
        refine rgo_t hb44 ?_
        refine rpt hb44 ?_
        refine rmv ?_
        iterate 2 (refine rgo_t rfl ?_)
        refine rpt rfl ?_
        refine reg_nil ?_
        cases hF
        exact post_cut _ rfl (imps [0, 1] ⟨by kernel_rfl, by kernel_rfl, by kernel_rfl, by kernel_rfl, trivial⟩ ⟨by kernel_rfl, by kernel_rfl, trivial⟩)
      refine reg_cons (guard_on rfl rfl rfl rfl hb44) (op_move rfl rfl rfl rfl) ?_
      refine reg_cons (guard_on rfl rfl rfl rfl hb44) (op_int (k := .i64) (m := a0.fKind) (n := 10) rfl rfl rfl rfl rfl rfl) ?_
      refine rpf hb44 ?_
      refine rmv ?_
      rcases ite_some hF with ⟨hb45, hF⟩ | ⟨hb45, hF⟩
      · refine rgo_t hb45 ?_
        refine rgo_t hb45 ?_
        refine rpt hb45 ?_
        refine reg_nil ?_
        cases hF
        exact post_cut _ rfl (imps [0, 1] ⟨by kernel_rfl, by kernel_rfl, by kernel_rfl, by kernel_rfl, trivial⟩ ⟨by kernel_rfl, by kernel_rfl, trivial⟩)
      refine reg_cons (guard_on rfl rfl rfl rfl hb45) (op_move rfl rfl rfl rfl) ?_
      refine reg_cons (guard_on rfl rfl rfl rfl hb45) (op_int (k := .i64) (m := a0.fKind) (n := 11) rfl rfl rfl rfl rfl rfl) ?_
      refine rpf hb45 ?_
      refine reg_nil ?_
      cases hF
      exact post_cut _ rfl (imps [0, 1] ⟨by kernel_rfl, by kernel_rfl, by kernel_rfl, by kernel_rfl, trivial⟩ ⟨by kernel_rfl, by kernel_rfl, trivial⟩)
    rintro _ rfl
    have hF := hK48
    clear hK48
    refine post_next ?_
    rcases ite_some hF with ⟨hb49, hF⟩ | ⟨hb49, hF⟩
    · refine aw_cond_t rfl hb49 ?_
      refine aw_region ?_
      refine reg_cons (guard_no rfl) (op_build (zs := (eGExpr zGExpr)) (r := eGExpr ({ fKind := 0, fNum := 0, fName := [], fKids := [] } : GExpr)) rfl Try_zer_119 (by exact ⟨rfl, rfl, rfl, trivial, trivial⟩) Try_plc_119 rfl rfl rfl rfl) ?_
      refine reg_cons (guard_no rfl) (op_field_lp rfl rfl Try_fld_121_5 rfl rfl) ?_
      refine reg_cons (guard_no rfl) (op_store_lp (n := 4) rfl rfl rfl rfl rfl (or_agg Try_agg_119) (by rw [Try_non_119]; rfl) rfl rfl rfl) ?_
      refine reg_nil ?_
      cases hF
      exact post_cut _ rfl (imps [0, 1] ⟨by kernel_rfl, by kernel_rfl, by kernel_rfl, trivial⟩ ⟨by kernel_rfl, by kernel_rfl, trivial⟩)
    refine aw_cond_f rfl hb49 ?_
    refine aw_skip ?_
    cases hF
    exact post_cut _ rfl (imps [0, 1] ⟨by kernel_rfl, by kernel_rfl, by kernel_rfl, trivial⟩ ⟨by kernel_rfl, by kernel_rfl, trivial⟩)
  rintro _ rfl
  have hF := hK52
  clear hK52
  refine post_next ?_
  refine aw_seq ?_
  obtain ⟨x54, hF, hK56⟩ := bind_some hF
  refine aw_cut (fun s1 => s1 = ⟨105, [(1, some (.lp 0 0)), (2, some (.lp 1 0)), (3, some (.pv (.int .i64 a0.fKind)))], [(0, some (.box 121 (bxv (eGStmt x54)))), (1, some (.box 121 (bxv (eGStmt zGStmt))))], 2, [], [], 0, []⟩) ?_ ?_
  · refine aw_seq ?_
    refine aw_region ?_
    refine rmv ?_
    refine reg_cons (guard_no rfl) (op_int (k := .i64) (m := a0.fKind) (n := 4) rfl rfl rfl rfl rfl rfl) ?_
    refine reg_nil ?_
    refine post_imp (s' := ⟨105, [(1, some (.lp 0 0)), (2, some (.lp 1 0)), (3, some (.pv (.int .i64 a0.fKind))), (92, some (.pv (.bool (a0.fKind == 4))))], [(0, some (.box 121 (bxv (eGStmt x50)))), (1, some (.box 121 (bxv (eGStmt zGStmt))))], 2, [], [], 0, []⟩) (imps [0, 1] ⟨by kernel_rfl, by kernel_rfl, by kernel_rfl, by kernel_rfl, trivial⟩ ⟨by kernel_rfl, by kernel_rfl, trivial⟩) ?_
    refine post_next ?_
    rcases ite_some hF with ⟨hb53, hF⟩ | ⟨hb53, hF⟩
    · refine aw_cond_t rfl hb53 ?_
      refine aw_region ?_
      refine reg_cons (guard_no rfl) (op_field_lp rfl rfl Try_fld_121_6 rfl rfl) ?_
      refine reg_cons (guard_no rfl) (op_store_lp (n := 1) rfl rfl rfl rfl rfl (or_one Try_one_117) (by rw [Try_one_117]; rfl) rfl rfl rfl) ?_
      refine reg_imp (imp_nil_cell 0 19 121 4 rfl rfl) ?_
      refine reg_nil ?_
      cases hF
      exact post_cut _ rfl (imps [0, 1] ⟨by kernel_rfl, by kernel_rfl, by kernel_rfl, trivial⟩ ⟨by kernel_rfl, by kernel_rfl, trivial⟩)
    refine aw_cond_f rfl hb53 ?_
    refine aw_skip ?_
    cases hF
    exact post_cut _ rfl (imps [0, 1] ⟨by kernel_rfl, by kernel_rfl, by kernel_rfl, trivial⟩ ⟨by kernel_rfl, by kernel_rfl, trivial⟩)
  rintro _ rfl
  have hF := hK56
  clear hK56
  refine post_next ?_
  refine aw_seq ?_
  obtain ⟨x62, hF, hK64⟩ := bind_some hF
  refine aw_cut (fun s1 => s1 = ⟨105, [(1, some (.lp 0 0)), (2, some (.lp 1 0)), (3, some (.pv (.int .i64 a0.fKind)))], [(0, some (.box 121 (bxv (eGStmt x62)))), (1, some (.box 121 (bxv (eGStmt zGStmt))))], 2, [], [], 0, []⟩) ?_ ?_
  · refine aw_seq ?_
    obtain ⟨x58, hF, hK60⟩ := bind_some hF
    refine aw_cut (fun s1 => s1 = ⟨105, [(1, some (.lp 0 0)), (2, some (.lp 1 0)), (3, some (.pv (.int .i64 a0.fKind))), (99, some (.pv (.bool x58)))], [(0, some (.box 121 (bxv (eGStmt x54)))), (1, some (.box 121 (bxv (eGStmt zGStmt))))], 2, [], [], 0, []⟩) ?_ ?_
    · refine aw_region ?_
      refine rmv ?_
      refine reg_cons (guard_no rfl) (op_int (k := .i64) (m := a0.fKind) (n := 9) rfl rfl rfl rfl rfl rfl) ?_
      refine rmv ?_
      rcases ite_some hF with ⟨hb57, hF⟩ | ⟨hb57, hF⟩
      · refine rgo_t hb57 ?_
        refine rgo_t hb57 ?_
        refine rpt hb57 ?_
        refine reg_nil ?_
        cases hF
        exact post_cut _ rfl (imps [0, 1] ⟨by kernel_rfl, by kernel_rfl, by kernel_rfl, by kernel_rfl, trivial⟩ ⟨by kernel_rfl, by kernel_rfl, trivial⟩)
      refine reg_cons (guard_on rfl rfl rfl rfl hb57) (op_move rfl rfl rfl rfl) ?_
      refine reg_cons (guard_on rfl rfl rfl rfl hb57) (op_int (k := .i64) (m := a0.fKind) (n := 10) rfl rfl rfl rfl rfl rfl) ?_
      refine rpf hb57 ?_
      refine reg_nil ?_
      cases hF
      exact post_cut _ rfl (imps [0, 1] ⟨by kernel_rfl, by kernel_rfl, by kernel_rfl, by kernel_rfl, trivial⟩ ⟨by kernel_rfl, by kernel_rfl, trivial⟩)
    rintro _ rfl
    have hF := hK60
    clear hK60
    refine post_next ?_
    rcases ite_some hF with ⟨hb61, hF⟩ | ⟨hb61, hF⟩
    · refine aw_cond_t rfl hb61 ?_
      refine aw_region ?_
      refine reg_cons (guard_no rfl) (op_field_lp rfl rfl Try_fld_121_7 rfl rfl) ?_
      refine reg_cons (guard_no rfl) (op_store_lp (n := 1) rfl rfl rfl rfl rfl (or_one Try_one_112) (by rw [Try_one_112]; rfl) rfl rfl rfl) ?_
      refine reg_imp (imp_nil_cell 0 20 121 23 rfl rfl) ?_
      refine reg_nil ?_
      cases hF
      exact post_cut _ rfl (imps [0, 1] ⟨by kernel_rfl, by kernel_rfl, by kernel_rfl, trivial⟩ ⟨by kernel_rfl, by kernel_rfl, trivial⟩)
    refine aw_cond_f rfl hb61 ?_
    refine aw_skip ?_
    cases hF
    exact post_cut _ rfl (imps [0, 1] ⟨by kernel_rfl, by kernel_rfl, by kernel_rfl, trivial⟩ ⟨by kernel_rfl, by kernel_rfl, trivial⟩)
  rintro _ rfl
  have hF := hK64
  clear hK64
  refine post_next ?_
  iterate 2 (refine aw_seq ?_)
  refine aw_region ?_
  refine rmv ?_
  refine reg_cons (guard_no rfl) (op_int (k := .i64) (m := a0.fKind) (n := 9) rfl rfl rfl rfl rfl rfl) ?_
  refine reg_nil ?_
  refine post_imp (s' := ⟨105, [(1, some (.lp 0 0)), (2, some (.lp 1 0)), (102, some (.pv (.bool (a0.fKind == 9))))], [(0, some (.box 121 (bxv (eGStmt x62)))), (1, some (.box 121 (bxv (eGStmt zGStmt))))], 2, [], [], 0, []⟩) (imps [0, 1] ⟨by kernel_rfl, by kernel_rfl, by kernel_rfl, trivial⟩ ⟨by kernel_rfl, by kernel_rfl, trivial⟩) ?_
  refine post_next ?_
  rcases ite_some hF with ⟨hb65, hF⟩ | ⟨hb65, hF⟩
  · refine aw_cond_t rfl hb65 ?_
    refine aw_region ?_
    refine reg_cons (guard_no rfl) (op_field_lp rfl rfl Try_fld_121_8 rfl rfl) ?_
    refine reg_cons (guard_no rfl) (op_store_lp (n := 1) rfl rfl rfl rfl rfl (or_one Try_one_112) (by rw [Try_one_112]; rfl) rfl rfl rfl) ?_
    refine reg_imp (imp_nil_cell 0 21 121 23 rfl rfl) ?_
    refine reg_nil ?_
    refine post_imp (s' := ⟨105, [(1, some (.lp 0 0)), (2, some (.lp 1 0))], [(0, some (.box 121 (bxv (eGStmt ({ x62 with fElse := [] } : GStmt))))), (1, some (.box 121 (bxv (eGStmt zGStmt))))], 2, [], [], 0, []⟩) (imps [0, 1] ⟨by kernel_rfl, by kernel_rfl, trivial⟩ ⟨by kernel_rfl, by kernel_rfl, trivial⟩) ?_
    refine post_next ?_
    refine aw_seq ?_
    refine aw_region ?_
    refine reg_cons (guard_no rfl) (op_load_lp_agg (ps := eGStmt ({ x62 with fElse := [] } : GStmt)) rfl rfl rfl rfl rfl rfl Try_agg_121 rfl rfl) ?_
    refine reg_cons (guard_no rfl) (op_store_lp (n := 23) rfl rfl rfl rfl rfl (or_agg Try_agg_121) (by rw [Try_non_121]; rfl) rfl rfl rfl) ?_
    refine reg_nil ?_
    refine post_imp (s' := ⟨105, [(2, some (.lp 0 0))], [(0, some (.box 121 (bxv (eGStmt ({ x62 with fElse := [] } : GStmt)))))], 1, [], [], 0, []⟩) (imps [1] ⟨by kernel_rfl, trivial⟩ ⟨by kernel_rfl, trivial⟩) ?_
    refine post_next ?_
    refine aw_ret ?_
    obtain rfl := Option.some.inj hF
    exact post_ret rfl rfl (.cons _ _ _ _ _ (.agg _ _ _ _ _ 23 _ _ rfl rfl Try_agg_121 rfl rfl rfl) (.p _) .nil) (.inl rfl)
  refine aw_cond_f rfl hb65 ?_
  refine aw_skip ?_
  refine post_next ?_
  refine aw_seq ?_
  refine aw_region ?_
  refine reg_cons (guard_no rfl) (op_load_lp_agg (ps := eGStmt x62) rfl rfl rfl rfl rfl rfl Try_agg_121 rfl rfl) ?_
  refine reg_cons (guard_no rfl) (op_store_lp (n := 23) rfl rfl rfl rfl rfl (or_agg Try_agg_121) (by rw [Try_non_121]; rfl) rfl rfl rfl) ?_
  refine reg_nil ?_
  refine post_imp (s' := ⟨105, [(2, some (.lp 0 0))], [(0, some (.box 121 (bxv (eGStmt x62))))], 1, [], [], 0, []⟩) (imps [1] ⟨by kernel_rfl, trivial⟩ ⟨by kernel_rfl, trivial⟩) ?_
  refine post_next ?_
  refine aw_ret ?_
  obtain rfl := Option.some.inj hF
  exact post_ret rfl rfl (.cons _ _ _ _ _ (.agg _ _ _ _ _ 23 _ _ rfl rfl Try_agg_121 rfl rfl rfl) (.p _) .nil) (.inl rfl)
theorem ref06_Same_ring : ∀ n : Nat, (∀ (a0 : GExpr) (a1 : GExpr) (r : Bool), ref06_Same n a0 a1 = some r → Abs.Fn Try.prog 114 [.agg (eGExpr a0), .agg (eGExpr a1)] [.p (.bool r)]) := by
  intro n
  induction n with
  | zero => exact (fun _ _ _ h => by simp [ref06_Same] at h)
  | succ n ih =>
    have ref06_Same_ih := ih
    clear ih
    intro a0 a1 r hF
    unfold ref06_Same at hF
    revert hF ref06_Same_ih
    generalize ref06_Same n = ref06_Same_rec
    intro ref06_Same_ih hF
    refine fn_of_body (n := 53) Try.func114 rfl rfl rfl ?_
    intro w O
    refine aw_seq ?_
    refine aw_region ?_
    refine reg_cons (guard_no rfl) (op_box 0 rfl rfl rfl rfl rfl rfl) ?_
    refine reg_cons (guard_no rfl) (op_box 1 rfl rfl rfl rfl rfl rfl) ?_
    refine ras ?_
    refine reg_nil ?_
    refine post_imp (s' := ⟨53, [(2, some (.lp 0 0)), (3, some (.lp 1 0))], [(0, some (.box 119 (bxv (eGExpr a0)))), (1, some (.box 119 (bxv (eGExpr a1))))], 2, [], [], 0, []⟩) (imps [0, 1] ⟨by kernel_rfl, by kernel_rfl, trivial⟩ ⟨by kernel_rfl, by kernel_rfl, trivial⟩) ?_
    refine post_next ?_
    iterate 2 (refine aw_seq ?_)
    obtain ⟨x4, hF, hK6⟩ := bind_some hF
    refine aw_cut (fun s1 => s1 = ⟨53, [(2, some (.lp 0 0)), (3, some (.lp 1 0)), (33, some (.pv (.bool x4)))], [(0, some (.box 119 (bxv (eGExpr a0)))), (1, some (.box 119 (bxv (eGExpr a1))))], 2, [], [], 0, []⟩) ?_ ?_
    · refine aw_region ?_
      refine reg_cons (guard_no rfl) (op_field_lp rfl rfl Try_fld_119_0 rfl rfl) ?_
      refine reg_cons (guard_no rfl) (op_load_lp (v := .pv (.int .i64 a0.fKind)) rfl rfl rfl rfl Try_one_3 rfl rfl) ?_
      refine reg_cons (guard_no rfl) (op_field_lp rfl rfl Try_fld_119_0 rfl rfl) ?_
      refine reg_cons (guard_no rfl) (op_load_lp (v := .pv (.int .i64 a1.fKind)) rfl rfl rfl rfl Try_one_3 rfl rfl) ?_
      refine reg_cons (guard_no rfl) (op_int (k := .i64) (m := a0.fKind) (n := a1.fKind) rfl rfl rfl rfl rfl rfl) ?_
      refine rmv ?_
      rcases ite_some hF with ⟨hb1, hF⟩ | ⟨hb1, hF⟩
      · refine rgo_t hb1 ?_
        iterate 4 (refine rgo_t hb1 ?_)
        refine rpt hb1 ?_
        refine rmv ?_
        iterate 5 (refine rgo_t rfl ?_)
        refine rpt rfl ?_
        refine rmv ?_
        iterate 7 (refine rgo_t rfl ?_)
        refine rpt rfl ?_
        refine reg_nil ?_
        cases hF
        exact post_cut _ rfl (imps [0, 1] ⟨by kernel_rfl, by kernel_rfl, by kernel_rfl, trivial⟩ ⟨by kernel_rfl, by kernel_rfl, trivial⟩)
      refine reg_cons (guard_on rfl rfl rfl rfl hb1) (op_field_lp rfl rfl Try_fld_119_1 rfl rfl) ?_
      refine reg_cons (guard_on rfl rfl rfl rfl hb1) (op_load_lp (v := .pv (.int .i64 a0.fNum)) rfl rfl rfl rfl Try_one_3 rfl rfl) ?_
      refine reg_cons (guard_on rfl rfl rfl rfl hb1) (op_field_lp rfl rfl Try_fld_119_1 rfl rfl) ?_
      refine reg_cons (guard_on rfl rfl rfl rfl hb1) (op_load_lp (v := .pv (.int .i64 a1.fNum)) rfl rfl rfl rfl Try_one_3 rfl rfl) ?_
      refine reg_cons (guard_on rfl rfl rfl rfl hb1) (op_int (k := .i64) (m := a0.fNum) (n := a1.fNum) rfl rfl rfl rfl rfl rfl) ?_
      refine rpf hb1 ?_
      refine rmv ?_
      rcases ite_some hF with ⟨hb2, hF⟩ | ⟨hb2, hF⟩
      · refine rgo_t hb2 ?_
        iterate 4 (refine rgo_t hb2 ?_)
        refine rpt hb2 ?_
        refine rmv ?_
        iterate 7 (refine rgo_t rfl ?_)
        refine rpt rfl ?_
        refine reg_nil ?_
        cases hF
        exact post_cut _ rfl (imps [0, 1] ⟨by kernel_rfl, by kernel_rfl, by kernel_rfl, trivial⟩ ⟨by kernel_rfl, by kernel_rfl, trivial⟩)
      refine reg_cons (guard_on rfl rfl rfl rfl hb2) (op_field_lp rfl rfl Try_fld_119_2 rfl rfl) ?_
      refine reg_cons (guard_on rfl rfl rfl rfl hb2) (op_load_lp (v := .pv (.str a0.fName)) rfl rfl rfl rfl Try_one_9 rfl rfl) ?_
      refine reg_cons (guard_on rfl rfl rfl rfl hb2) (op_field_lp rfl rfl Try_fld_119_2 rfl rfl) ?_
      refine reg_cons (guard_on rfl rfl rfl rfl hb2) (op_load_lp (v := .pv (.str a1.fName)) rfl rfl rfl rfl Try_one_9 rfl rfl) ?_
      refine reg_cons (guard_on rfl rfl rfl rfl hb2) (op_str rfl rfl rfl rfl rfl rfl) ?_
      refine rpf hb2 ?_
      refine rmv ?_
      rcases ite_some hF with ⟨hb3, hF⟩ | ⟨hb3, hF⟩
      · refine rgo_t hb3 ?_
        iterate 6 (refine rgo_t hb3 ?_)
        refine rpt hb3 ?_
        refine reg_nil ?_
        cases hF
        exact post_cut _ rfl (imps [0, 1] ⟨by kernel_rfl, by kernel_rfl, by kernel_rfl, trivial⟩ ⟨by kernel_rfl, by kernel_rfl, trivial⟩)
      refine reg_cons (guard_on rfl rfl rfl rfl hb3) (op_field_lp rfl rfl Try_fld_119_3 rfl rfl) ?_
      refine reg_cons (guard_on rfl rfl rfl rfl hb3) (op_load_lp (v := .pv (.vs 4 (eLGExpr a0.fKids))) rfl rfl rfl rfl Try_one_117 rfl rfl) ?_
      refine reg_cons (guard_on rfl rfl rfl rfl hb3) (op_len_vs (n := a0.fKids.length) rfl rfl (lenR eLGExpr_map) Try_slc_117 rfl rfl) ?_
      refine reg_cons (guard_on rfl rfl rfl rfl hb3) (op_field_lp rfl rfl Try_fld_119_3 rfl rfl) ?_
      refine reg_cons (guard_on rfl rfl rfl rfl hb3) (op_load_lp (v := .pv (.vs 4 (eLGExpr a1.fKids))) rfl rfl rfl rfl Try_one_117 rfl rfl) ?_
      refine reg_cons (guard_on rfl rfl rfl rfl hb3) (op_len_vs (n := a1.fKids.length) rfl rfl (lenR eLGExpr_map) Try_slc_117 rfl rfl) ?_
      refine reg_cons (guard_on rfl rfl rfl rfl hb3) (op_int (k := .i64) (m := (a0.fKids.length : Int)) (n := (a1.fKids.length : Int)) rfl rfl rfl rfl rfl rfl) ?_
      refine rpf hb3 ?_
      refine reg_nil ?_
      cases hF
      exact post_cut _ rfl (imps [0, 1] ⟨by kernel_rfl, by kernel_rfl, by kernel_rfl, trivial⟩ ⟨by kernel_rfl, by kernel_rfl, trivial⟩)
    rintro _ rfl
    have hF := hK6
    clear hK6
    refine post_next ?_
    rcases ite_some hF with ⟨hb7, hF⟩ | ⟨hb7, hF⟩
    · refine aw_cond_t rfl hb7 ?_
      refine aw_seq ?_
      refine aw_region ?_
      refine ras ?_
      refine reg_nil ?_
      refine post_imp (s' := ⟨53, [(4, some (.pv (.bool false)))], [], 0, [], [], 0, []⟩) (imps [] ⟨by kernel_rfl, trivial⟩ trivial) ?_
      refine post_next ?_
      refine aw_ret ?_
      refine post_then_ret ?_
      obtain rfl := Option.some.inj hF
      exact post_ret rfl rfl (.cons _ _ _ _ _ (.tmp _ _ rfl) (.p _) .nil) (.inl rfl)
    refine aw_cond_f rfl hb7 ?_
    refine aw_skip ?_
    refine post_next ?_
    iterate 2 (refine aw_seq ?_)
    refine aw_region ?_
    refine ras ?_
    refine reg_nil ?_
    refine post_imp (s' := ⟨53, [(2, some (.lp 0 0)), (3, some (.lp 1 0)), (5, some (.pv (.int .i64 0)))], [(0, some (.box 119 (bxv (eGExpr a0)))), (1, some (.box 119 (bxv (eGExpr a1))))], 2, [], [], 0, []⟩) (imps [0, 1] ⟨by kernel_rfl, by kernel_rfl, by kernel_rfl, trivial⟩ ⟨by kernel_rfl, by kernel_rfl, trivial⟩) ?_
    refine post_next ?_
    obtain ⟨lr53, hF, hK54⟩ := bind_some hF
    refine aw_for ((((a0.fKids.length : Int) : Int) - (0)).toNat + 1) (fun s1 => ∃ q, lr53 = .next q ∧ s1 = ⟨53, [], [], 0, [], [], 0, []⟩) ?_ ?_
    · refine rnd_loop (α := Int) (fun q => ⟨53, [(2, some (.lp 0 0)), (3, some (.lp 1 0)), (5, some (.pv (.int .i64 q)))], [(0, some (.box 119 (bxv (eGExpr a0)))), (1, some (.box 119 (bxv (eGExpr a1))))], 2, [], [], 0, []⟩) (fun k q => ref06_Same_L1 a0 a1 ref06_Same_rec k q = some lr53) 0 (imps [0, 1] ⟨by kernel_rfl, by kernel_rfl, by kernel_rfl, trivial⟩ ⟨by kernel_rfl, by kernel_rfl, trivial⟩) hF (fun q h => by cases h) ?_
      clear hF
      rintro k x22 hF ih
      refine rnd_succ ?_
      iterate 2 (refine aw_seq ?_)
      refine aw_region ?_
      refine rmv ?_
      refine reg_cons (guard_no rfl) (op_field_lp rfl rfl Try_fld_119_3 rfl rfl) ?_
      refine reg_cons (guard_no rfl) (op_load_lp (v := .pv (.vs 4 (eLGExpr a0.fKids))) rfl rfl rfl rfl Try_one_117 rfl rfl) ?_
      refine reg_cons (guard_no rfl) (op_len_vs (n := a0.fKids.length) rfl rfl (lenR eLGExpr_map) Try_slc_117 rfl rfl) ?_
      refine reg_cons (guard_no rfl) (op_int (k := .i64) (m := x22) (n := (a0.fKids.length : Int)) rfl rfl rfl rfl rfl rfl) ?_
      refine reg_nil ?_
      refine post_imp (s' := ⟨53, [(2, some (.lp 0 0)), (3, some (.lp 1 0)), (5, some (.pv (.int .i64 x22))), (38, some (.pv (.bool (decide (x22 < (a0.fKids.length : Int))))))], [(0, some (.box 119 (bxv (eGExpr a0)))), (1, some (.box 119 (bxv (eGExpr a1))))], 2, [], [], 0, []⟩) (imps [0, 1] ⟨by kernel_rfl, by kernel_rfl, by kernel_rfl, by kernel_rfl, trivial⟩ ⟨by kernel_rfl, by kernel_rfl, trivial⟩) ?_
      refine post_next ?_
      rcases ite_some hF with ⟨hb38, hF⟩ | ⟨hb38, hF⟩
      · refine aw_cond_t rfl hb38 ?_
        refine aw_skip ?_
        refine post_next ?_
        refine aw_seq ?_
        refine aw_block ?_
        refine aw_seq ?_
        refine dr_start ⟨_, _, _⟩ rfl ?_
        refine dr_cons { need := [(2, .lp 0 0)], dst := some 41, val := some (.lp 0 3) } (fun m h => step_on (guard_no rfl) (op_field_lp rfl h.1.1 Try_fld_119_3 rfl rfl) rfl) ⟨⟨rfl, trivial⟩, trivial, trivial⟩ ?_
        refine dr_cons { need := [(41, .lp 0 3)], hneed := [(0, .box 119 (bxv (eGExpr a0)))], dst := some 42, val := some (.pv (.vs 4 (eLGExpr a0.fKids))) } (fun m h => step_on (guard_no rfl) (op_load_lp (v := .pv (.vs 4 (eLGExpr a0.fKids))) rfl h.1.1 h.2.1.1 rfl Try_one_117 rfl rfl) rfl) ⟨⟨rfl, trivial⟩, ⟨rfl, trivial⟩, trivial⟩ ?_
        refine drm ?_
        obtain ⟨y45, h46, hF⟩ := bind_some hF
        refine dr_cons { need := [(42, .pv (.vs 4 (eLGExpr a0.fKids))), (43, .pv (.int .i64 x22))], dst := some 44, val := some (.pv (.vp (eGExpr y45))) } (fun m h => step_on (guard_no rfl) (op_index_vs (k := .i64) rfl h.1.1 h.1.2.1 (idxR eLGExpr_map h46) Try_slc_117 rfl rfl) rfl) ⟨⟨rfl, rfl, trivial⟩, trivial, trivial⟩ ?_
        refine dr_cons { need := [(44, .pv (.vp (eGExpr y45)))], dst := some 45, val := some (.pv (.agg (eGExpr y45))) } (fun m h => step_on (guard_no rfl) (op_load_vp_agg (ps := eGExpr y45) rfl h.1.1 rfl rfl Try_agg_119 rfl rfl) rfl) ⟨⟨rfl, trivial⟩, trivial, trivial⟩ ?_
        refine dr_cons { need := [(3, .lp 1 0)], dst := some 46, val := some (.lp 1 3) } (fun m h => step_on (guard_no rfl) (op_field_lp rfl h.1.1 Try_fld_119_3 rfl rfl) rfl) ⟨⟨rfl, trivial⟩, trivial, trivial⟩ ?_
        refine dr_cons { need := [(46, .lp 1 3)], hneed := [(1, .box 119 (bxv (eGExpr a1)))], dst := some 47, val := some (.pv (.vs 4 (eLGExpr a1.fKids))) } (fun m h => step_on (guard_no rfl) (op_load_lp (v := .pv (.vs 4 (eLGExpr a1.fKids))) rfl h.1.1 h.2.1.1 rfl Try_one_117 rfl rfl) rfl) ⟨⟨rfl, trivial⟩, ⟨rfl, trivial⟩, trivial⟩ ?_
        refine drm ?_
        obtain ⟨y47, h48, hF⟩ := bind_some hF
        refine dr_cons { need := [(47, .pv (.vs 4 (eLGExpr a1.fKids))), (48, .pv (.int .i64 x22))], dst := some 49, val := some (.pv (.vp (eGExpr y47))) } (fun m h => step_on (guard_no rfl) (op_index_vs (k := .i64) rfl h.1.1 h.1.2.1 (idxR eLGExpr_map h48) Try_slc_117 rfl rfl) rfl) ⟨⟨rfl, rfl, trivial⟩, trivial, trivial⟩ ?_
        refine dr_cons { need := [(49, .pv (.vp (eGExpr y47)))], dst := some 50, val := some (.pv (.agg (eGExpr y47))) } (fun m h => step_on (guard_no rfl) (op_load_vp_agg (ps := eGExpr y47) rfl h.1.1 rfl rfl Try_agg_119 rfl rfl) rfl) ⟨⟨rfl, trivial⟩, trivial, trivial⟩ ?_
        obtain ⟨y49, h50, hF⟩ := bind_some hF
        refine dr_cons { need := [(50, .pv (.agg (eGExpr y47))), (45, .pv (.agg (eGExpr y45)))], dst := some 51, val := some (.pv (.bool y49)) } (fun m h => step_on (guard_no rfl) (op_call 2 rfl (caps := []) (args := [.agg (eGExpr y45), .agg (eGExpr y47)]) (rs := [.p (.bool y49)]) rfl rfl (evl_cons h.1.2.1 (evl_cons h.1.1 evl_nil)) Try_cal_114 (ref06_Same_ih _ _ _ h50) rfl rfl rfl) rfl) ⟨⟨rfl, rfl, trivial⟩, trivial, trivial⟩ ?_
        refine dr_cons { need := [(51, .pv (.bool y49))], dst := some 52, val := some (.pv (.bool (!y49))) } (fun m h => step_on (guard_no rfl) (op_not rfl h.1.1 rfl rfl) rfl) ⟨⟨rfl, trivial⟩, trivial, trivial⟩ ?_
        refine dr_nil Try_mixed rfl (by kernel_rfl) ?_
        refine post_imp (s' := ⟨53, [(2, some (.lp 0 0)), (3, some (.lp 1 0)), (5, some (.pv (.int .i64 x22))), (52, some (.pv (.bool (!y49))))], [(0, some (.box 119 (bxv (eGExpr a0)))), (1, some (.box 119 (bxv (eGExpr a1))))], 2, [], [], 0, []⟩) (imps [0, 1] ⟨by kernel_rfl, by kernel_rfl, by kernel_rfl, by kernel_rfl, trivial⟩ ⟨by kernel_rfl, by kernel_rfl, trivial⟩) ?_
        refine post_next ?_
        rcases ite_some hF with ⟨hb51, hF⟩ | ⟨hb51, hF⟩
        · refine aw_cond_t rfl hb51 ?_
          refine aw_seq ?_
          refine aw_region ?_
          refine ras ?_
          refine reg_nil ?_
          refine post_imp (s' := ⟨53, [(4, some (.pv (.bool false)))], [], 0, [], [], 0, []⟩) (imps [] ⟨by kernel_rfl, trivial⟩ trivial) ?_
          refine post_next ?_
          refine aw_ret ?_
          refine post_block_ret ?_
          iterate 2 (refine post_then_ret ?_)
          refine post_lp_ret ?_
          obtain rfl := Option.some.inj hF
          have hF := elim_stop hK54
          refine post_then_ret ?_
          obtain rfl := Option.some.inj hF
          exact post_ret rfl rfl (.cons _ _ _ _ _ (.tmp _ _ rfl) (.p _) .nil) (.inl rfl)
        refine aw_cond_f rfl hb51 ?_
        refine aw_skip ?_
        refine post_block_normal ?_
        refine post_next ?_
        refine aw_region ?_
        refine rmv ?_
        refine reg_cons (guard_no rfl) (op_int (k := .i64) (m := x22) (n := 1) rfl rfl rfl rfl rfl rfl) ?_
        refine ras ?_
        refine reg_nil ?_
        refine post_round ?_
        exact rnd_back (ih (w_i64 (x22 + 1)) hF) (imps [0, 1] ⟨by kernel_rfl, by kernel_rfl, by kernel_rfl, trivial⟩ ⟨by kernel_rfl, by kernel_rfl, trivial⟩)
      refine aw_cond_f rfl hb38 ?_
      refine aw_exit ?_
      iterate 2 (refine post_then_exit ?_)
      obtain rfl := Option.some.inj hF
      exact post_lp_break _ ⟨_, rfl, rfl⟩ (imps [] trivial trivial)
    rintro _ ⟨⟨⟩, rfl, rfl⟩
    have hF := elim_next hK54
    clear hK54
    refine post_next ?_
    refine aw_seq ?_
    refine aw_region ?_
    refine ras ?_
    refine reg_nil ?_
    refine post_imp (s' := ⟨53, [(4, some (.pv (.bool true)))], [], 0, [], [], 0, []⟩) (imps [] ⟨by kernel_rfl, trivial⟩ trivial) ?_
    refine post_next ?_
    refine aw_ret ?_
    obtain rfl := Option.some.inj hF
    exact post_ret rfl rfl (.cons _ _ _ _ _ (.tmp _ _ rfl) (.p _) .nil) (.inl rfl)
theorem ref06_Same_ok {n : Nat} {a0 : GExpr} {a1 : GExpr} {r : Bool} (hF : ref06_Same n a0 a1 = some r) : Abs.Fn Try.prog 114 [.agg (eGExpr a0), .agg (eGExpr a1)] [.p (.bool r)] := (ref06_Same_ring n) _ _ _ hF

theorem ref08_only_ok {a0 : GStmt} {r : Bool} (hF : ref08_only a0 = some r) : Abs.Fn Try.prog 110 [.agg (eGStmt a0)] [.p (.bool r)] := by
  unfold ref08_only at hF
  refine fn_of_body (n := 55) Try.func110 rfl rfl rfl ?_
  intro w O
  refine aw_seq ?_
  refine aw_region ?_
  refine reg_cons (guard_no rfl) (op_box 0 rfl rfl rfl rfl rfl rfl) ?_
  refine ras ?_
  refine reg_nil ?_
  refine post_imp (s' := ⟨55, [(1, some (.lp 0 0))], [(0, some (.box 121 (bxv (eGStmt a0))))], 1, [], [], 0, []⟩) (imps [0] ⟨by kernel_rfl, trivial⟩ ⟨by kernel_rfl, trivial⟩) ?_
  refine post_next ?_
  refine aw_seq ?_
  refine aw_region ?_
  refine reg_cons (guard_no rfl) (op_load_lp_agg (ps := eGStmt a0) rfl rfl rfl rfl rfl rfl Try_agg_121 rfl rfl) ?_
  obtain ⟨y3, h4, hF⟩ := bind_some hF
  refine reg_cons (guard_no rfl) (op_call 1 rfl (caps := []) (args := [.agg (eGStmt a0)]) (rs := [.p (.agg (eGStmt y3))]) rfl rfl rfl Try_cal_113 (ref08_Blank_ok h4) rfl rfl rfl) ?_
  refine reg_cons (guard_no rfl) (op_alloc 1 rfl (ps := (eGStmt zGStmt)) rfl Try_zer_121 (by exact ⟨rfl, rfl, rfl, rfl, rfl, rfl, rfl, rfl, rfl, rfl, rfl, rfl, rfl, rfl, rfl, rfl, rfl, rfl, trivial, trivial, trivial, trivial, rfl, trivial⟩) rfl rfl) ?_
  refine reg_cons (guard_no rfl) (op_store_lp (n := 23) rfl rfl rfl rfl rfl (or_agg Try_agg_121) (by rw [Try_non_121]; rfl) rfl rfl rfl) ?_
  refine reg_nil ?_
  refine post_imp (s' := ⟨55, [(1, some (.lp 0 0)), (3, some (.lp 1 0))], [(0, some (.box 121 (bxv (eGStmt a0)))), (1, some (.box 121 (bxv (eGStmt y3))))], 2, [], [], 0, []⟩) (imps [0, 1] ⟨by kernel_rfl, by kernel_rfl, trivial⟩ ⟨by kernel_rfl, by kernel_rfl, trivial⟩) ?_
  refine post_next ?_
  refine aw_seq ?_
  refine aw_region ?_
  refine reg_cons (guard_no rfl) (op_field_lp rfl rfl Try_fld_121_0 rfl rfl) ?_
  refine reg_cons (guard_no rfl) (op_load_lp (v := .pv (.int .i64 a0.fKind)) rfl rfl rfl rfl Try_one_3 rfl rfl) ?_
  refine reg_cons (guard_no rfl) (op_int (k := .i64) (m := a0.fKind) (n := 1) rfl rfl rfl rfl rfl rfl) ?_
  refine rmv ?_
  rcases ite_some hF with ⟨hb5, hF⟩ | ⟨hb5, hF⟩
  · refine reg_cons (guard_on rfl rfl rfl rfl hb5) (op_field_lp rfl rfl Try_fld_121_0 rfl rfl) ?_
    refine reg_cons (guard_on rfl rfl rfl rfl hb5) (op_load_lp (v := .pv (.int .i64 a0.fKind)) rfl rfl rfl rfl Try_one_3 rfl rfl) ?_
    refine reg_cons (guard_on rfl rfl rfl rfl hb5) (op_int (k := .i64) (m := a0.fKind) (n := 11) rfl rfl rfl rfl rfl rfl) ?_
    refine rpt hb5 ?_
    refine rmv ?_
    rcases ite_some hF with ⟨hb6, hF⟩ | ⟨hb6, hF⟩
    · refine reg_cons (guard_on rfl rfl rfl rfl hb6) (op_field_lp rfl rfl Try_fld_121_1 rfl rfl) ?_
      refine reg_cons (guard_on rfl rfl rfl rfl hb6) (op_load_lp (v := .pv (.str y3.fX)) rfl rfl rfl rfl Try_one_9 rfl rfl) ?_
      refine reg_cons (guard_on rfl rfl rfl rfl hb6) (op_str rfl rfl rfl rfl rfl rfl) ?_
      refine rpt hb6 ?_
      refine rmv ?_
      rcases ite_some hF with ⟨hb7, hF⟩ | ⟨hb7, hF⟩
      · refine reg_cons (guard_on rfl rfl rfl rfl hb7) (op_field_lp rfl rfl Try_fld_121_2 rfl rfl) ?_
        refine reg_cons (guard_on rfl rfl rfl rfl hb7) (op_load_lp (v := .pv (.str y3.fY)) rfl rfl rfl rfl Try_one_9 rfl rfl) ?_
        refine reg_cons (guard_on rfl rfl rfl rfl hb7) (op_str rfl rfl rfl rfl rfl rfl) ?_
        refine rpt hb7 ?_
        refine rmv ?_
        rcases ite_some hF with ⟨hb8, hF⟩ | ⟨hb8, hF⟩
        · refine reg_cons (guard_on rfl rfl rfl rfl hb8) (op_field_lp rfl rfl Try_fld_121_3 rfl rfl) ?_
          refine reg_cons (guard_on rfl rfl rfl rfl hb8) (op_load_lp (v := .pv (.str y3.fName)) rfl rfl rfl rfl Try_one_9 rfl rfl) ?_
          refine reg_cons (guard_on rfl rfl rfl rfl hb8) (op_str rfl rfl rfl rfl rfl rfl) ?_
          refine rpt hb8 ?_
          refine rmv ?_
          rcases ite_some hF with ⟨hb9, hF⟩ | ⟨hb9, hF⟩
          · refine reg_cons (guard_on rfl rfl rfl rfl hb9) (op_field_lp rfl rfl Try_fld_121_4 rfl rfl) ?_
            refine reg_cons (guard_on rfl rfl rfl rfl hb9) (op_load_lp_agg (ps := eGType y3.fType) rfl rfl rfl rfl rfl rfl Try_agg_67 rfl rfl) ?_
            refine reg_cons (guard_on rfl rfl rfl rfl hb9) (op_build (zs := (eGType zGType)) (r := eGType ({ fKind := 0, fClass := [], fN := 0, fOwn := (⟨zGOwner, zGOwner, zGOwner, zGOwner⟩ : A4 GOwner) } : GType)) rfl Try_zer_67 (by exact ⟨rfl, rfl, rfl, rfl, rfl, rfl, rfl, rfl, rfl, rfl, rfl, trivial⟩) Try_plc_67 rfl rfl rfl rfl) ?_
            refine reg_cons (guard_on rfl rfl rfl rfl hb9) (op_eqAgg_eql (r := bGType y3.fType ({ fKind := 0, fClass := [], fN := 0, fOwn := (⟨zGOwner, zGOwner, zGOwner, zGOwner⟩ : A4 GOwner) } : GType)) rfl rfl rfl Try_eqt_67 rfl rfl rfl rfl rfl) ?_
            refine rpt hb9 ?_
            refine rmv ?_
            rcases ite_some hF with ⟨hb10, hF⟩ | ⟨hb10, hF⟩
            · refine reg_cons (guard_on rfl rfl rfl rfl hb10) (op_field_lp rfl rfl Try_fld_121_5 rfl rfl) ?_
              refine reg_cons (guard_on rfl rfl rfl rfl hb10) (op_load_lp_agg (ps := eGExpr y3.fE) rfl rfl rfl rfl rfl rfl Try_agg_119 rfl rfl) ?_
              refine reg_cons (guard_on rfl rfl rfl rfl hb10) (op_build (zs := (eGExpr zGExpr)) (r := eGExpr ({ fKind := 0, fNum := 0, fName := [], fKids := [] } : GExpr)) rfl Try_zer_119 (by exact ⟨rfl, rfl, rfl, trivial, trivial⟩) Try_plc_119 rfl rfl rfl rfl) ?_
              obtain ⟨y11, h12, hF⟩ := bind_some hF
              refine reg_cons (guard_on rfl rfl rfl rfl hb10) (op_call 2 rfl (caps := []) (args := [.agg (eGExpr y3.fE), .agg (eGExpr ({ fKind := 0, fNum := 0, fName := [], fKids := [] } : GExpr))]) (rs := [.p (.bool y11)]) rfl rfl rfl Try_cal_114 (ref06_Same_ok h12) rfl rfl rfl) ?_
              refine rpt hb10 ?_
              refine rmv ?_
              rcases ite_some hF with ⟨hb13, hF⟩ | ⟨hb13, hF⟩
              · refine reg_cons (guard_on rfl rfl rfl rfl hb13) (op_field_lp rfl rfl Try_fld_121_6 rfl rfl) ?_
                refine reg_cons (guard_on rfl rfl rfl rfl hb13) (op_load_lp (v := .pv (.vs 4 (eLGExpr y3.fArgs))) rfl rfl rfl rfl Try_one_117 rfl rfl) ?_
                refine reg_cons (guard_on rfl rfl rfl rfl hb13) (op_len_vs (n := y3.fArgs.length) rfl rfl (lenR eLGExpr_map) Try_slc_117 rfl rfl) ?_
                refine reg_cons (guard_on rfl rfl rfl rfl hb13) (op_field_lp rfl rfl Try_fld_121_7 rfl rfl) ?_
                refine reg_cons (guard_on rfl rfl rfl rfl hb13) (op_load_lp (v := .pv (.vs 23 (eLGStmt y3.fBody))) rfl rfl rfl rfl Try_one_112 rfl rfl) ?_
                refine reg_cons (guard_on rfl rfl rfl rfl hb13) (op_len_vs (n := y3.fBody.length) rfl rfl (lenR eLGStmt_map) Try_slc_112 rfl rfl) ?_
                refine reg_cons (guard_on rfl rfl rfl rfl hb13) (op_int (k := .i64) (m := (y3.fArgs.length : Int)) (n := (y3.fBody.length : Int)) rfl rfl rfl rfl rfl rfl) ?_
                refine reg_cons (guard_on rfl rfl rfl rfl hb13) (op_field_lp rfl rfl Try_fld_121_8 rfl rfl) ?_
                refine reg_cons (guard_on rfl rfl rfl rfl hb13) (op_load_lp (v := .pv (.vs 23 (eLGStmt y3.fElse))) rfl rfl rfl rfl Try_one_112 rfl rfl) ?_
                refine reg_cons (guard_on rfl rfl rfl rfl hb13) (op_len_vs (n := y3.fElse.length) rfl rfl (lenR eLGStmt_map) Try_slc_112 rfl rfl) ?_
                refine reg_cons (guard_on rfl rfl rfl rfl hb13) (op_int (k := .i64) (m := w_i64 ((y3.fArgs.length : Int) + (y3.fBody.length : Int))) (n := (y3.fElse.length : Int)) rfl rfl rfl rfl rfl rfl) ?_
                refine reg_cons (guard_on rfl rfl rfl rfl hb13) (op_int (k := .i64) (m := w_i64 ((w_i64 ((y3.fArgs.length : Int) + (y3.fBody.length : Int))) + (y3.fElse.length : Int))) (n := 0) rfl rfl rfl rfl rfl rfl) ?_
                refine rpt hb13 ?_
                refine ras ?_
                refine reg_nil ?_
                refine post_imp (s' := ⟨55, [(2, some (.pv (.bool ((w_i64 ((w_i64 ((y3.fArgs.length : Int) + (y3.fBody.length : Int))) + (y3.fElse.length : Int))) == 0))))], [], 0, [], [], 0, []⟩) (imps [] ⟨by kernel_rfl, trivial⟩ trivial) ?_
                refine post_next ?_
                refine aw_ret ?_
                obtain rfl := Option.some.inj hF
                exact post_ret rfl rfl (.cons _ _ _ _ _ (.tmp _ _ rfl) (.p _) .nil) (.inl rfl)
              iterate 12 (refine rgo_f hb13 ?_)
              refine rpf hb13 ?_
              refine ras ?_
              refine reg_nil ?_
              refine post_imp (s' := ⟨55, [(2, some (.pv (.bool false)))], [], 0, [], [], 0, []⟩) (imps [] ⟨by kernel_rfl, trivial⟩ trivial) ?_
              refine post_next ?_
              refine aw_ret ?_
              obtain rfl := Option.some.inj hF
              exact post_ret rfl rfl (.cons _ _ _ _ _ (.tmp _ _ rfl) (.p _) .nil) (.inl rfl)
            iterate 4 (refine rgo_f hb10 ?_)
            refine rpf hb10 ?_
            refine rmv ?_
            iterate 12 (refine rgo_f rfl ?_)
            refine rpf rfl ?_
            refine ras ?_
            refine reg_nil ?_
            refine post_imp (s' := ⟨55, [(2, some (.pv (.bool false)))], [], 0, [], [], 0, []⟩) (imps [] ⟨by kernel_rfl, trivial⟩ trivial) ?_
            refine post_next ?_
            refine aw_ret ?_
            obtain rfl := Option.some.inj hF
            exact post_ret rfl rfl (.cons _ _ _ _ _ (.tmp _ _ rfl) (.p _) .nil) (.inl rfl)
          iterate 4 (refine rgo_f hb9 ?_)
          refine rpf hb9 ?_
          refine rmv ?_
          iterate 4 (refine rgo_f rfl ?_)
          refine rpf rfl ?_
          refine rmv ?_
          iterate 12 (refine rgo_f rfl ?_)
          refine rpf rfl ?_
          refine ras ?_
          refine reg_nil ?_
          refine post_imp (s' := ⟨55, [(2, some (.pv (.bool false)))], [], 0, [], [], 0, []⟩) (imps [] ⟨by kernel_rfl, trivial⟩ trivial) ?_
          refine post_next ?_
          refine aw_ret ?_
          obtain rfl := Option.some.inj hF
          exact post_ret rfl rfl (.cons _ _ _ _ _ (.tmp _ _ rfl) (.p _) .nil) (.inl rfl)
        iterate 3 (refine rgo_f hb8 ?_)
        refine rpf hb8 ?_
        refine rmv ?_
        iterate 4 (refine rgo_f rfl ?_)
        refine rpf rfl ?_
        refine rmv ?_
        iterate 4 (refine rgo_f rfl ?_)
        refine rpf rfl ?_
        refine rmv ?_
        iterate 12 (refine rgo_f rfl ?_)
        refine rpf rfl ?_
        refine ras ?_
        refine reg_nil ?_
        refine post_imp (s' := ⟨55, [(2, some (.pv (.bool false)))], [], 0, [], [], 0, []⟩) (imps [] ⟨by kernel_rfl, trivial⟩ trivial) ?_
        refine post_next ?_
        refine aw_ret ?_
        obtain rfl := Option.some.inj hF
        exact post_ret rfl rfl (.cons _ _ _ _ _ (.tmp _ _ rfl) (.p _) .nil) (.inl rfl)
      iterate 3 (refine rgo_f hb7 ?_)
      refine rpf hb7 ?_
      refine rmv ?_
      iterate 3 (refine rgo_f rfl ?_)
      refine rpf rfl ?_
      refine rmv ?_
      iterate 4 (refine rgo_f rfl ?_)
      refine rpf rfl ?_
      refine rmv ?_
      iterate 4 (refine rgo_f rfl ?_)
      refine rpf rfl ?_
      refine rmv ?_
      iterate 12 (refine rgo_f rfl ?_)
      refine rpf rfl ?_
      refine ras ?_
      refine reg_nil ?_
      refine post_imp (s' := ⟨55, [(2, some (.pv (.bool false)))], [], 0, [], [], 0, []⟩) (imps [] ⟨by kernel_rfl, trivial⟩ trivial) ?_
      refine post_next ?_
      refine aw_ret ?_
      obtain rfl := Option.some.inj hF
      exact post_ret rfl rfl (.cons _ _ _ _ _ (.tmp _ _ rfl) (.p _) .nil) (.inl rfl)
    iterate 3 (refine rgo_f hb6 ?_)
    refine rpf hb6 ?_
    refine rmv ?_
    iterate 3 (refine rgo_f rfl ?_)
    refine rpf rfl ?_
    refine rmv ?_
    iterate 3 (refine rgo_f rfl ?_)
    refine rpf rfl ?_
    refine rmv ?_
    iterate 4 (refine rgo_f rfl ?_)
    refine rpf rfl ?_
    refine rmv ?_
    iterate 4 (refine rgo_f rfl ?_)
    refine rpf rfl ?_
    refine rmv ?_
    iterate 12 (refine rgo_f rfl ?_)
    refine rpf rfl ?_
    refine ras ?_
    refine reg_nil ?_
    refine post_imp (s' := ⟨55, [(2, some (.pv (.bool false)))], [], 0, [], [], 0, []⟩) (imps [] ⟨by kernel_rfl, trivial⟩ trivial) ?_
    refine post_next ?_
    refine aw_ret ?_
    obtain rfl := Option.some.inj hF
    exact post_ret rfl rfl (.cons _ _ _ _ _ (.tmp _ _ rfl) (.p _) .nil) (.inl rfl)
  iterate 3 (refine rgo_f hb5 ?_)
  refine rpf hb5 ?_
  refine rmv ?_
  iterate 3 (refine rgo_f rfl ?_)
  refine rpf rfl ?_
  refine rmv ?_
  iterate 3 (refine rgo_f rfl ?_)
  refine rpf rfl ?_
  refine rmv ?_
  iterate 3 (refine rgo_f rfl ?_)
  refine rpf rfl ?_
  refine rmv ?_
  iterate 4 (refine rgo_f rfl ?_)
  refine rpf rfl ?_
  refine rmv ?_
  iterate 4 (refine rgo_f rfl ?_)
  refine rpf rfl ?_
  refine rmv ?_
  iterate 12 (refine rgo_f rfl ?_)
  refine rpf rfl ?_
  refine ras ?_
  refine reg_nil ?_
  refine post_imp (s' := ⟨55, [(2, some (.pv (.bool false)))], [], 0, [], [], 0, []⟩) (imps [] ⟨by kernel_rfl, trivial⟩ trivial) ?_
  refine post_next ?_
  refine aw_ret ?_
  obtain rfl := Option.some.inj hF
  exact post_ret rfl rfl (.cons _ _ _ _ _ (.tmp _ _ rfl) (.p _) .nil) (.inl rfl)
theorem ref05_Right_ok {a0 : GType} {a1 : Int} {r : Bool} (hF : ref05_Right a0 a1 = some r) : Abs.Fn Try.prog 109 [.agg (eGType a0), .int .i64 a1] [.p (.bool r)] := by
  unfold ref05_Right at hF
  refine fn_of_body (n := 77) Try.func109 rfl rfl rfl ?_
  intro w O
  refine aw_seq ?_
  refine aw_region ?_
  refine reg_cons (guard_no rfl) (op_box 0 rfl rfl rfl rfl rfl rfl) ?_
  refine ras ?_
  refine reg_nil ?_
  refine post_imp (s' := ⟨77, [(1, some (.pv (.int .i64 a1))), (2, some (.lp 0 0))], [(0, some (.box 67 (bxv (eGType a0))))], 1, [], [], 0, []⟩) (imps [0] ⟨by kernel_rfl, by kernel_rfl, trivial⟩ ⟨by kernel_rfl, trivial⟩) ?_
  refine post_next ?_
  iterate 2 (refine aw_seq ?_)
  obtain ⟨x2, hF, hK4⟩ := bind_some hF
  refine aw_cut (fun s1 => s1 = ⟨77, [(1, some (.pv (.int .i64 a1))), (2, some (.lp 0 0)), (14, some (.pv (.bool x2)))], [(0, some (.box 67 (bxv (eGType a0))))], 1, [], [], 0, []⟩) ?_ ?_
  · refine aw_region ?_
    refine reg_cons (guard_no rfl) (op_field_lp rfl rfl Try_fld_67_0 rfl rfl) ?_
    refine reg_cons (guard_no rfl) (op_load_lp (v := .pv (.int .i64 a0.fKind)) rfl rfl rfl rfl Try_one_3 rfl rfl) ?_
    refine reg_cons (guard_no rfl) (op_int (k := .i64) (m := a0.fKind) (n := 0) rfl rfl rfl rfl rfl rfl) ?_
    refine rmv ?_
    rcases ite_some hF with ⟨hb1, hF⟩ | ⟨hb1, hF⟩
    · refine rgo_t hb1 ?_
      iterate 2 (refine rgo_t hb1 ?_)
      refine rpt hb1 ?_
      refine reg_nil ?_
      cases hF
      exact post_cut _ rfl (imps [0] ⟨by kernel_rfl, by kernel_rfl, by kernel_rfl, trivial⟩ ⟨by kernel_rfl, trivial⟩)
    refine reg_cons (guard_on rfl rfl rfl rfl hb1) (op_field_lp rfl rfl Try_fld_67_0 rfl rfl) ?_
    refine reg_cons (guard_on rfl rfl rfl rfl hb1) (op_load_lp (v := .pv (.int .i64 a0.fKind)) rfl rfl rfl rfl Try_one_3 rfl rfl) ?_
    refine reg_cons (guard_on rfl rfl rfl rfl hb1) (op_int (k := .i64) (m := a0.fKind) (n := 1) rfl rfl rfl rfl rfl rfl) ?_
    refine rpf hb1 ?_
    refine reg_nil ?_
    cases hF
    exact post_cut _ rfl (imps [0] ⟨by kernel_rfl, by kernel_rfl, by kernel_rfl, trivial⟩ ⟨by kernel_rfl, trivial⟩)
  rintro _ rfl
  have hF := hK4
  clear hK4
  refine post_next ?_
  rcases ite_some hF with ⟨hb5, hF⟩ | ⟨hb5, hF⟩
  · refine aw_cond_t rfl hb5 ?_
    refine aw_seq ?_
    refine aw_region ?_
    refine reg_cons (guard_no rfl) (op_load_lp_agg (ps := eGType a0) rfl rfl rfl rfl rfl rfl Try_agg_67 rfl rfl) ?_
    refine reg_cons (guard_no rfl) (op_field_lp rfl rfl Try_fld_67_0 rfl rfl) ?_
    refine reg_cons (guard_no rfl) (op_load_lp (v := .pv (.int .i64 a0.fKind)) rfl rfl rfl rfl Try_one_3 rfl rfl) ?_
    refine reg_cons (guard_no rfl) (op_build (zs := (eGType zGType)) (r := eGType ({ fKind := a0.fKind, fClass := [], fN := 0, fOwn := (⟨zGOwner, zGOwner, zGOwner, zGOwner⟩ : A4 GOwner) } : GType)) rfl Try_zer_67 (by exact ⟨rfl, rfl, rfl, rfl, rfl, rfl, rfl, rfl, rfl, rfl, rfl, trivial⟩) Try_plc_67 rfl rfl rfl rfl) ?_
    refine reg_cons (guard_no rfl) (op_eqAgg_eql (r := bGType a0 ({ fKind := a0.fKind, fClass := [], fN := 0, fOwn := (⟨zGOwner, zGOwner, zGOwner, zGOwner⟩ : A4 GOwner) } : GType)) rfl rfl rfl Try_eqt_67 rfl rfl rfl rfl rfl) ?_
    refine ras ?_
    refine reg_nil ?_
    refine post_imp (s' := ⟨77, [(4, some (.pv (.bool (bGType a0 ({ fKind := a0.fKind, fClass := [], fN := 0, fOwn := (⟨zGOwner, zGOwner, zGOwner, zGOwner⟩ : A4 GOwner) } : GType)))))], [], 0, [], [], 0, []⟩) (imps [] ⟨by kernel_rfl, trivial⟩ trivial) ?_
    refine post_next ?_
    refine aw_ret ?_
    refine post_then_ret ?_
    obtain rfl := Option.some.inj hF
    exact post_ret rfl rfl (.cons _ _ _ _ _ (.tmp _ _ rfl) (.p _) .nil) (.inl rfl)
  refine aw_cond_f rfl hb5 ?_
  refine aw_skip ?_
  refine post_next ?_
  iterate 2 (refine aw_seq ?_)
  obtain ⟨x11, hF, hK13⟩ := bind_some hF
  refine aw_cut (fun s1 => s1 = ⟨77, [(1, some (.pv (.int .i64 a1))), (2, some (.lp 0 0)), (38, some (.pv (.bool x11)))], [(0, some (.box 67 (bxv (eGType a0))))], 1, [], [], 0, []⟩) ?_ ?_
  · refine aw_region ?_
    refine reg_cons (guard_no rfl) (op_field_lp rfl rfl Try_fld_67_0 rfl rfl) ?_
    refine reg_cons (guard_no rfl) (op_load_lp (v := .pv (.int .i64 a0.fKind)) rfl rfl rfl rfl Try_one_3 rfl rfl) ?_
    refine reg_cons (guard_no rfl) (op_int (k := .i64) (m := a0.fKind) (n := 2) rfl rfl rfl rfl rfl rfl) ?_
    refine rmv ?_
    rcases ite_some hF with ⟨hb6, hF⟩ | ⟨hb6, hF⟩
    · refine rgo_t hb6 ?_
      iterate 3 (refine rgo_t hb6 ?_)
      refine rpt hb6 ?_
      refine rmv ?_
      iterate 3 (refine rgo_t rfl ?_)
      refine rpt rfl ?_
      refine rmv ?_
      iterate 3 (refine rgo_t rfl ?_)
      refine rpt rfl ?_
      refine reg_nil ?_
      cases hF
      exact post_cut _ rfl (imps [0] ⟨by kernel_rfl, by kernel_rfl, by kernel_rfl, trivial⟩ ⟨by kernel_rfl, trivial⟩)
    refine reg_cons (guard_on rfl rfl rfl rfl hb6) (op_field_lp rfl rfl Try_fld_67_1 rfl rfl) ?_
    refine reg_cons (guard_on rfl rfl rfl rfl hb6) (op_load_lp (v := .pv (.str a0.fClass)) rfl rfl rfl rfl Try_one_9 rfl rfl) ?_
    obtain ⟨y7, h8, hF⟩ := bind_some hF
    refine reg_cons (guard_on rfl rfl rfl rfl hb6) (op_call 1 rfl (caps := []) (args := [.str a0.fClass]) (rs := [.p (.bool y7)]) rfl rfl rfl Try_cal_94 (ref02_Name_ok h8) rfl rfl rfl) ?_
    refine reg_cons (guard_on rfl rfl rfl rfl hb6) (op_not rfl rfl rfl rfl) ?_
    refine rpf hb6 ?_
    refine rmv ?_
    rcases ite_some hF with ⟨hb9, hF⟩ | ⟨hb9, hF⟩
    · refine rgo_t hb9 ?_
      iterate 2 (refine rgo_t hb9 ?_)
      refine rpt hb9 ?_
      refine rmv ?_
      iterate 3 (refine rgo_t rfl ?_)
      refine rpt rfl ?_
      refine reg_nil ?_
      cases hF
      exact post_cut _ rfl (imps [0] ⟨by kernel_rfl, by kernel_rfl, by kernel_rfl, trivial⟩ ⟨by kernel_rfl, trivial⟩)
    refine reg_cons (guard_on rfl rfl rfl rfl hb9) (op_field_lp rfl rfl Try_fld_67_2 rfl rfl) ?_
    refine reg_cons (guard_on rfl rfl rfl rfl hb9) (op_load_lp (v := .pv (.int .i64 a0.fN)) rfl rfl rfl rfl Try_one_3 rfl rfl) ?_
    refine reg_cons (guard_on rfl rfl rfl rfl hb9) (op_int (k := .i64) (m := a0.fN) (n := 0) rfl rfl rfl rfl rfl rfl) ?_
    refine rpf hb9 ?_
    refine rmv ?_
    rcases ite_some hF with ⟨hb10, hF⟩ | ⟨hb10, hF⟩
    · refine rgo_t hb10 ?_
      iterate 2 (refine rgo_t hb10 ?_)
      refine rpt hb10 ?_
      refine reg_nil ?_
      cases hF
      exact post_cut _ rfl (imps [0] ⟨by kernel_rfl, by kernel_rfl, by kernel_rfl, trivial⟩ ⟨by kernel_rfl, trivial⟩)
    refine reg_cons (guard_on rfl rfl rfl rfl hb10) (op_field_lp rfl rfl Try_fld_67_2 rfl rfl) ?_
    refine reg_cons (guard_on rfl rfl rfl rfl hb10) (op_load_lp (v := .pv (.int .i64 a0.fN)) rfl rfl rfl rfl Try_one_3 rfl rfl) ?_
    refine reg_cons (guard_on rfl rfl rfl rfl hb10) (op_int (k := .i64) (m := a0.fN) (n := 3) rfl rfl rfl rfl rfl rfl) ?_
    refine rpf hb10 ?_
    refine reg_nil ?_
    cases hF
    exact post_cut _ rfl (imps [0] ⟨by kernel_rfl, by kernel_rfl, by kernel_rfl, trivial⟩ ⟨by kernel_rfl, trivial⟩)
  rintro _ rfl
  have hF := hK13
  clear hK13
  refine post_next ?_
  rcases ite_some hF with ⟨hb14, hF⟩ | ⟨hb14, hF⟩
  · refine aw_cond_t rfl hb14 ?_
    refine aw_seq ?_
    refine aw_region ?_
    refine ras ?_
    refine reg_nil ?_
    refine post_imp (s' := ⟨77, [(4, some (.pv (.bool false)))], [], 0, [], [], 0, []⟩) (imps [] ⟨by kernel_rfl, trivial⟩ trivial) ?_
    refine post_next ?_
    refine aw_ret ?_
    refine post_then_ret ?_
    obtain rfl := Option.some.inj hF
    exact post_ret rfl rfl (.cons _ _ _ _ _ (.tmp _ _ rfl) (.p _) .nil) (.inl rfl)
  refine aw_cond_f rfl hb14 ?_
  refine aw_skip ?_
  refine post_next ?_
  iterate 2 (refine aw_seq ?_)
  refine aw_region ?_
  refine ras ?_
  refine reg_nil ?_
  refine post_imp (s' := ⟨77, [(1, some (.pv (.int .i64 a1))), (2, some (.lp 0 0)), (5, some (.pv (.int .i64 0)))], [(0, some (.box 67 (bxv (eGType a0))))], 1, [], [], 0, []⟩) (imps [0] ⟨by kernel_rfl, by kernel_rfl, by kernel_rfl, trivial⟩ ⟨by kernel_rfl, trivial⟩) ?_
  refine post_next ?_
  obtain ⟨lr77, hF, hK78⟩ := bind_some hF
  refine aw_for (((4 : Int) - (0)).toNat + 1) (fun s1 => ∃ q, lr77 = .next q ∧ s1 = ⟨77, [], [], 0, [], [], 0, []⟩) ?_ ?_
  · refine rnd_loop (α := Int) (fun q => ⟨77, [(1, some (.pv (.int .i64 a1))), (2, some (.lp 0 0)), (5, some (.pv (.int .i64 q)))], [(0, some (.box 67 (bxv (eGType a0))))], 1, [], [], 0, []⟩) (fun k q => ref05_Right_L1 a0 a1 k q = some lr77) 0 (imps [0] ⟨by kernel_rfl, by kernel_rfl, by kernel_rfl, trivial⟩ ⟨by kernel_rfl, trivial⟩) hF (fun q h => by cases h) ?_
    clear hF
    rintro k x32 hF ih
    refine rnd_succ ?_
    iterate 2 (refine aw_seq ?_)
    refine aw_region ?_
    refine rmv ?_
    refine reg_cons (guard_no rfl) (op_int (k := .i64) (m := x32) (n := 4) rfl rfl rfl rfl rfl rfl) ?_
    refine reg_nil ?_
    refine post_imp (s' := ⟨77, [(1, some (.pv (.int .i64 a1))), (2, some (.lp 0 0)), (5, some (.pv (.int .i64 x32))), (40, some (.pv (.bool (decide (x32 < 4)))))], [(0, some (.box 67 (bxv (eGType a0))))], 1, [], [], 0, []⟩) (imps [0] ⟨by kernel_rfl, by kernel_rfl, by kernel_rfl, by kernel_rfl, trivial⟩ ⟨by kernel_rfl, trivial⟩) ?_
    refine post_next ?_
    rcases ite_some hF with ⟨hb55, hF⟩ | ⟨hb55, hF⟩
    · refine aw_cond_t rfl hb55 ?_
      refine aw_skip ?_
      refine post_next ?_
      refine aw_seq ?_
      refine aw_block ?_
      refine aw_seq ?_
      refine aw_region ?_
      refine rmv ?_
      refine reg_cons (guard_no rfl) (op_field_lp rfl rfl Try_fld_67_3 rfl rfl) ?_
      obtain ⟨y58, h59, hF⟩ := bind_some hF
      refine reg_cons (guard_no rfl) (op_arr_lpN (l := (a0.fOwn).l) rfl rfl rfl Try_arr_65 rfl h59 rfl rfl) ?_
      refine reg_cons (guard_no rfl) (op_load_lp_agg (ps := eGOwner y58) rfl rfl rfl (arr_cellsN (l := (a0.fOwn).l) (f := eGOwner) rfl (fun _ => rfl) rfl h59) rfl rfl Try_agg_42 rfl rfl) ?_
      refine reg_cons (guard_no rfl) (op_alloc 1 rfl (ps := (eGOwner zGOwner)) rfl Try_zer_42 (by exact ⟨rfl, rfl, trivial⟩) rfl rfl) ?_
      refine reg_cons (guard_no rfl) (op_store_lp (n := 2) rfl rfl rfl rfl rfl (or_agg Try_agg_42) (by rw [Try_non_42]; rfl) rfl rfl rfl) ?_
      refine reg_nil ?_
      refine post_imp (s' := ⟨77, [(1, some (.pv (.int .i64 a1))), (2, some (.lp 0 0)), (5, some (.pv (.int .i64 x32))), (6, some (.lp 1 0))], [(0, some (.box 67 (bxv (eGType a0)))), (1, some (.box 42 (bxv (eGOwner y58))))], 2, [], [], 0, []⟩) (imps [0, 1] ⟨by kernel_rfl, by kernel_rfl, by kernel_rfl, by kernel_rfl, trivial⟩ ⟨by kernel_rfl, by kernel_rfl, trivial⟩) ?_
      refine post_next ?_
      refine aw_seq ?_
      obtain ⟨x72, hF, hK74⟩ := bind_some hF
      refine aw_cut (fun s1 => s1 = ⟨77, [(1, some (.pv (.int .i64 a1))), (2, some (.lp 0 0)), (5, some (.pv (.int .i64 x32))), (76, some (.pv (.bool x72)))], [(0, some (.box 67 (bxv (eGType a0))))], 1, [], [], 0, []⟩) ?_ ?_
      · refine aw_region ?_
        refine rmv ?_
        refine reg_cons (guard_no rfl) (op_field_lp rfl rfl Try_fld_67_2 rfl rfl) ?_
        refine reg_cons (guard_no rfl) (op_load_lp (v := .pv (.int .i64 a0.fN)) rfl rfl rfl rfl Try_one_3 rfl rfl) ?_
        refine reg_cons (guard_no rfl) (op_int (k := .i64) (m := x32) (n := a0.fN) rfl rfl rfl rfl rfl rfl) ?_
        refine rmv ?_
        rcases ite_some hF with ⟨hb60, hF⟩ | ⟨hb60, hF⟩
        · refine reg_cons (guard_on rfl rfl rfl rfl hb60) (op_load_lp_agg (ps := eGOwner y58) rfl rfl rfl rfl rfl rfl Try_agg_42 rfl rfl) ?_
          refine reg_cons (guard_on rfl rfl rfl rfl hb60) (op_build (zs := (eGOwner zGOwner)) (r := eGOwner ({ fKind := 0, fN := 0 } : GOwner)) rfl Try_zer_42 (by exact ⟨rfl, rfl, trivial⟩) Try_plc_42 rfl rfl rfl rfl) ?_
          refine reg_cons (guard_on rfl rfl rfl rfl hb60) (op_eqAgg_neq (r := bGOwner y58 ({ fKind := 0, fN := 0 } : GOwner)) rfl rfl rfl Try_eqt_42 rfl rfl rfl rfl rfl) ?_
          refine rpt hb60 ?_
          refine rmv ?_
          rcases ite_some hF with ⟨hb61, hF⟩ | ⟨hb61, hF⟩
          · refine rgo_t hb61 ?_
            iterate 4 (refine rgo_t hb61 ?_)
            iterate 13 (refine rgu ?_)
            refine rgo_t hb61 ?_
            refine rpt hb61 ?_
            refine reg_nil ?_
            cases hF
            exact post_cut _ rfl (imps [0] ⟨by kernel_rfl, by kernel_rfl, by kernel_rfl, by kernel_rfl, trivial⟩ ⟨by kernel_rfl, trivial⟩)
          refine reg_cons (guard_on rfl rfl rfl rfl hb61) (op_move rfl rfl rfl rfl) ?_
          refine reg_cons (guard_on rfl rfl rfl rfl hb61) (op_field_lp rfl rfl Try_fld_67_2 rfl rfl) ?_
          refine reg_cons (guard_on rfl rfl rfl rfl hb61) (op_load_lp (v := .pv (.int .i64 a0.fN)) rfl rfl rfl rfl Try_one_3 rfl rfl) ?_
          refine reg_cons (guard_on rfl rfl rfl rfl hb61) (op_int (k := .i64) (m := x32) (n := a0.fN) rfl rfl rfl rfl rfl rfl) ?_
          refine reg_cons (guard_on rfl rfl rfl rfl hb61) (op_move rfl rfl rfl rfl) ?_
          rcases ite_some hF with ⟨hb62, hF⟩ | ⟨hb62, hF⟩
          · refine reg_cons (guard_on rfl rfl rfl rfl hb62) (op_load_lp_agg (ps := eGOwner y58) rfl rfl rfl rfl rfl rfl Try_agg_42 rfl rfl) ?_
            refine reg_cons (guard_on rfl rfl rfl rfl hb62) (op_move rfl rfl rfl rfl) ?_
            obtain ⟨y63, h64, hF⟩ := bind_some hF
            refine reg_cons (guard_on rfl rfl rfl rfl hb62) (op_call 2 rfl (caps := []) (args := [.agg (eGOwner y58), .int .i64 a1]) (rs := [.p (.bool y63)]) rfl rfl rfl Try_cal_95 (ref04_Right_ok h64) rfl rfl rfl) ?_
            refine reg_cons (guard_on rfl rfl rfl rfl hb62) (op_not rfl rfl rfl rfl) ?_
            refine reg_cons (guard_on rfl rfl rfl rfl hb62) (op_move rfl rfl rfl rfl) ?_
            rcases ite_some hF with ⟨hb65, hF⟩ | ⟨hb65, hF⟩
            · refine rgo_t hb65 ?_
              iterate 2 (refine rgo_t hb65 ?_)
              iterate 3 (refine rgu ?_)
              refine rgo_t hb65 ?_
              refine reg_cons (guard_on rfl rfl rfl rfl hb62) (op_pick_t rfl rfl hb65 rfl rfl rfl) ?_
              refine reg_cons (guard_on rfl rfl rfl rfl hb61) (op_pick_t rfl rfl hb62 rfl rfl rfl) ?_
              refine rpf hb61 ?_
              refine reg_nil ?_
              cases hF
              exact post_cut _ rfl (imps [0] ⟨by kernel_rfl, by kernel_rfl, by kernel_rfl, by kernel_rfl, trivial⟩ ⟨by kernel_rfl, trivial⟩)
            refine reg_cons (guard_on rfl rfl rfl rfl hb65) (op_move rfl rfl rfl rfl) ?_
            refine reg_cons (guard_on rfl rfl rfl rfl hb65) (op_int (k := .i64) (m := x32) (n := 0) rfl rfl rfl rfl rfl rfl) ?_
            refine reg_cons (guard_on rfl rfl rfl rfl hb65) (op_move rfl rfl rfl rfl) ?_
            rcases ite_some hF with ⟨hb66, hF⟩ | ⟨hb66, hF⟩
            · refine reg_cons (guard_on rfl rfl rfl rfl hb66) (op_field_lp rfl rfl Try_fld_42_0 rfl rfl) ?_
              refine reg_cons (guard_on rfl rfl rfl rfl hb66) (op_load_lp (v := .pv (.int .i64 y58.fKind)) rfl rfl rfl rfl Try_one_3 rfl rfl) ?_
              refine reg_cons (guard_on rfl rfl rfl rfl hb66) (op_int (k := .i64) (m := y58.fKind) (n := 6) rfl rfl rfl rfl rfl rfl) ?_
              refine reg_cons (guard_on rfl rfl rfl rfl hb65) (op_pick_t rfl rfl hb66 rfl rfl rfl) ?_
              refine reg_cons (guard_on rfl rfl rfl rfl hb62) (op_pick_f rfl rfl hb65 rfl rfl rfl) ?_
              refine reg_cons (guard_on rfl rfl rfl rfl hb61) (op_pick_t rfl rfl hb62 rfl rfl rfl) ?_
              refine rpf hb61 ?_
              refine reg_nil ?_
              cases hF
              exact post_cut _ rfl (imps [0] ⟨by kernel_rfl, by kernel_rfl, by kernel_rfl, by kernel_rfl, trivial⟩ ⟨by kernel_rfl, trivial⟩)
            iterate 3 (refine rgo_f hb66 ?_)
            refine reg_cons (guard_on rfl rfl rfl rfl hb65) (op_pick_f rfl rfl hb66 rfl rfl rfl) ?_
            refine reg_cons (guard_on rfl rfl rfl rfl hb62) (op_pick_f rfl rfl hb65 rfl rfl rfl) ?_
            refine reg_cons (guard_on rfl rfl rfl rfl hb61) (op_pick_t rfl rfl hb62 rfl rfl rfl) ?_
            refine rpf hb61 ?_
            refine reg_nil ?_
            cases hF
            exact post_cut _ rfl (imps [0] ⟨by kernel_rfl, by kernel_rfl, by kernel_rfl, by kernel_rfl, trivial⟩ ⟨by kernel_rfl, trivial⟩)
          iterate 5 (refine rgo_f hb62 ?_)
          iterate 7 (refine rgu ?_)
          refine rgo_f hb62 ?_
          refine reg_cons (guard_on rfl rfl rfl rfl hb61) (op_pick_f rfl rfl hb62 rfl rfl rfl) ?_
          refine rpf hb61 ?_
          refine reg_nil ?_
          cases hF
          exact post_cut _ rfl (imps [0] ⟨by kernel_rfl, by kernel_rfl, by kernel_rfl, by kernel_rfl, trivial⟩ ⟨by kernel_rfl, trivial⟩)
        iterate 3 (refine rgo_f hb60 ?_)
        refine rpf hb60 ?_
        refine rmv ?_
        refine reg_cons (guard_on rfl rfl rfl rfl rfl) (op_move rfl rfl rfl rfl) ?_
        refine reg_cons (guard_on rfl rfl rfl rfl rfl) (op_field_lp rfl rfl Try_fld_67_2 rfl rfl) ?_
        refine reg_cons (guard_on rfl rfl rfl rfl rfl) (op_load_lp (v := .pv (.int .i64 a0.fN)) rfl rfl rfl rfl Try_one_3 rfl rfl) ?_
        refine reg_cons (guard_on rfl rfl rfl rfl rfl) (op_int (k := .i64) (m := x32) (n := a0.fN) rfl rfl rfl rfl rfl rfl) ?_
        refine reg_cons (guard_on rfl rfl rfl rfl rfl) (op_move rfl rfl rfl rfl) ?_
        rcases ite_some hF with ⟨hb67, hF⟩ | ⟨hb67, hF⟩
        · refine reg_cons (guard_on rfl rfl rfl rfl hb67) (op_load_lp_agg (ps := eGOwner y58) rfl rfl rfl rfl rfl rfl Try_agg_42 rfl rfl) ?_
          refine reg_cons (guard_on rfl rfl rfl rfl hb67) (op_move rfl rfl rfl rfl) ?_
          obtain ⟨y68, h69, hF⟩ := bind_some hF
          refine reg_cons (guard_on rfl rfl rfl rfl hb67) (op_call 2 rfl (caps := []) (args := [.agg (eGOwner y58), .int .i64 a1]) (rs := [.p (.bool y68)]) rfl rfl rfl Try_cal_95 (ref04_Right_ok h69) rfl rfl rfl) ?_
          refine reg_cons (guard_on rfl rfl rfl rfl hb67) (op_not rfl rfl rfl rfl) ?_
          refine reg_cons (guard_on rfl rfl rfl rfl hb67) (op_move rfl rfl rfl rfl) ?_
          rcases ite_some hF with ⟨hb70, hF⟩ | ⟨hb70, hF⟩
          · refine rgo_t hb70 ?_
            iterate 2 (refine rgo_t hb70 ?_)
            iterate 3 (refine rgu ?_)
            refine rgo_t hb70 ?_
            refine reg_cons (guard_on rfl rfl rfl rfl hb67) (op_pick_t rfl rfl hb70 rfl rfl rfl) ?_
            refine reg_cons (guard_on rfl rfl rfl rfl rfl) (op_pick_t rfl rfl hb67 rfl rfl rfl) ?_
            refine rpf rfl ?_
            refine reg_nil ?_
            cases hF
            exact post_cut _ rfl (imps [0] ⟨by kernel_rfl, by kernel_rfl, by kernel_rfl, by kernel_rfl, trivial⟩ ⟨by kernel_rfl, trivial⟩)
          refine reg_cons (guard_on rfl rfl rfl rfl hb70) (op_move rfl rfl rfl rfl) ?_
          refine reg_cons (guard_on rfl rfl rfl rfl hb70) (op_int (k := .i64) (m := x32) (n := 0) rfl rfl rfl rfl rfl rfl) ?_
          refine reg_cons (guard_on rfl rfl rfl rfl hb70) (op_move rfl rfl rfl rfl) ?_
          rcases ite_some hF with ⟨hb71, hF⟩ | ⟨hb71, hF⟩
          · refine reg_cons (guard_on rfl rfl rfl rfl hb71) (op_field_lp rfl rfl Try_fld_42_0 rfl rfl) ?_
            refine reg_cons (guard_on rfl rfl rfl rfl hb71) (op_load_lp (v := .pv (.int .i64 y58.fKind)) rfl rfl rfl rfl Try_one_3 rfl rfl) ?_
            refine reg_cons (guard_on rfl rfl rfl rfl hb71) (op_int (k := .i64) (m := y58.fKind) (n := 6) rfl rfl rfl rfl rfl rfl) ?_
            refine reg_cons (guard_on rfl rfl rfl rfl hb70) (op_pick_t rfl rfl hb71 rfl rfl rfl) ?_
            refine reg_cons (guard_on rfl rfl rfl rfl hb67) (op_pick_f rfl rfl hb70 rfl rfl rfl) ?_
            refine reg_cons (guard_on rfl rfl rfl rfl rfl) (op_pick_t rfl rfl hb67 rfl rfl rfl) ?_
            refine rpf rfl ?_
            refine reg_nil ?_
            cases hF
            exact post_cut _ rfl (imps [0] ⟨by kernel_rfl, by kernel_rfl, by kernel_rfl, by kernel_rfl, trivial⟩ ⟨by kernel_rfl, trivial⟩)
          iterate 3 (refine rgo_f hb71 ?_)
          refine reg_cons (guard_on rfl rfl rfl rfl hb70) (op_pick_f rfl rfl hb71 rfl rfl rfl) ?_
          refine reg_cons (guard_on rfl rfl rfl rfl hb67) (op_pick_f rfl rfl hb70 rfl rfl rfl) ?_
          refine reg_cons (guard_on rfl rfl rfl rfl rfl) (op_pick_t rfl rfl hb67 rfl rfl rfl) ?_
          refine rpf rfl ?_
          refine reg_nil ?_
          cases hF
          exact post_cut _ rfl (imps [0] ⟨by kernel_rfl, by kernel_rfl, by kernel_rfl, by kernel_rfl, trivial⟩ ⟨by kernel_rfl, trivial⟩)
        iterate 5 (refine rgo_f hb67 ?_)
        iterate 7 (refine rgu ?_)
        refine rgo_f hb67 ?_
        refine reg_cons (guard_on rfl rfl rfl rfl rfl) (op_pick_f rfl rfl hb67 rfl rfl rfl) ?_
        refine rpf rfl ?_
        refine reg_nil ?_
        cases hF
        exact post_cut _ rfl (imps [0] ⟨by kernel_rfl, by kernel_rfl, by kernel_rfl, by kernel_rfl, trivial⟩ ⟨by kernel_rfl, trivial⟩)
      rintro _ rfl
      have hF := hK74
      clear hK74
      refine post_next ?_
      rcases ite_some hF with ⟨hb75, hF⟩ | ⟨hb75, hF⟩
      · refine aw_cond_t rfl hb75 ?_
        refine aw_seq ?_
        refine aw_region ?_
        refine ras ?_
        refine reg_nil ?_
        refine post_imp (s' := ⟨77, [(4, some (.pv (.bool false)))], [], 0, [], [], 0, []⟩) (imps [] ⟨by kernel_rfl, trivial⟩ trivial) ?_
        refine post_next ?_
        refine aw_ret ?_
        refine post_block_ret ?_
        iterate 2 (refine post_then_ret ?_)
        refine post_lp_ret ?_
        obtain rfl := Option.some.inj hF
        have hF := elim_stop hK78
        refine post_then_ret ?_
        obtain rfl := Option.some.inj hF
        exact post_ret rfl rfl (.cons _ _ _ _ _ (.tmp _ _ rfl) (.p _) .nil) (.inl rfl)
      refine aw_cond_f rfl hb75 ?_
      refine aw_skip ?_
      refine post_block_normal ?_
      refine post_next ?_
      refine aw_region ?_
      refine rmv ?_
      refine reg_cons (guard_no rfl) (op_int (k := .i64) (m := x32) (n := 1) rfl rfl rfl rfl rfl rfl) ?_
      refine ras ?_
      refine reg_nil ?_
      refine post_round ?_
      exact rnd_back (ih (w_i64 (x32 + 1)) hF) (imps [0] ⟨by kernel_rfl, by kernel_rfl, by kernel_rfl, trivial⟩ ⟨by kernel_rfl, trivial⟩)
    refine aw_cond_f rfl hb55 ?_
    refine aw_exit ?_
    iterate 2 (refine post_then_exit ?_)
    obtain rfl := Option.some.inj hF
    exact post_lp_break _ ⟨_, rfl, rfl⟩ (imps [] trivial trivial)
  rintro _ ⟨⟨⟩, rfl, rfl⟩
  have hF := elim_next hK78
  clear hK78
  refine post_next ?_
  refine aw_seq ?_
  refine aw_region ?_
  refine ras ?_
  refine reg_nil ?_
  refine post_imp (s' := ⟨77, [(4, some (.pv (.bool true)))], [], 0, [], [], 0, []⟩) (imps [] ⟨by kernel_rfl, trivial⟩ trivial) ?_
  refine post_next ?_
  refine aw_ret ?_
  obtain rfl := Option.some.inj hF
  exact post_ret rfl rfl (.cons _ _ _ _ _ (.tmp _ _ rfl) (.p _) .nil) (.inl rfl)
theorem ref08_names_ok {a0 : GStmt} {a1 : Int} {r : Bool} (hF : ref08_names a0 a1 = some r) : Abs.Fn Try.prog 111 [.agg (eGStmt a0), .int .i64 a1] [.p (.bool r)] := by
  unfold ref08_names at hF
  refine fn_of_body (n := 115) Try.func111 rfl rfl rfl ?_
  intro w O
  refine aw_seq ?_
  refine aw_region ?_
  refine reg_cons (guard_no rfl) (op_box 0 rfl rfl rfl rfl rfl rfl) ?_
  refine ras ?_
  refine reg_nil ?_
  refine post_imp (s' := ⟨115, [(1, some (.pv (.int .i64 a1))), (2, some (.lp 0 0))], [(0, some (.box 121 (bxv (eGStmt a0))))], 1, [], [], 0, []⟩) (imps [0] ⟨by kernel_rfl, by kernel_rfl, trivial⟩ ⟨by kernel_rfl, trivial⟩) ?_
  refine post_next ?_
  refine aw_seq ?_
  refine aw_region ?_
  refine reg_cons (guard_no rfl) (op_field_lp rfl rfl Try_fld_121_0 rfl rfl) ?_
  refine reg_cons (guard_no rfl) (op_load_lp (v := .pv (.int .i64 a0.fKind)) rfl rfl rfl rfl Try_one_3 rfl rfl) ?_
  refine ras ?_
  refine reg_nil ?_
  refine post_imp (s' := ⟨115, [(1, some (.pv (.int .i64 a1))), (2, some (.lp 0 0)), (5, some (.pv (.int .i64 a0.fKind)))], [(0, some (.box 121 (bxv (eGStmt a0))))], 1, [], [], 0, []⟩) (imps [0] ⟨by kernel_rfl, by kernel_rfl, by kernel_rfl, trivial⟩ ⟨by kernel_rfl, trivial⟩) ?_
  refine post_next ?_
  refine aw_seq ?_
  obtain ⟨x12, hF, hK14⟩ := bind_some hF
  refine aw_cut (fun s1 => s1 = ⟨115, [(1, some (.pv (.int .i64 a1))), (2, some (.lp 0 0)), (5, some (.pv (.int .i64 a0.fKind))), (6, some (.pv (.bool x12)))], [(0, some (.box 121 (bxv (eGStmt a0))))], 1, [], [], 0, []⟩) ?_ ?_
  · refine aw_region ?_
    refine reg_cons (guard_no rfl) (op_field_lp rfl rfl Try_fld_121_1 rfl rfl) ?_
    refine reg_cons (guard_no rfl) (op_load_lp (v := .pv (.str a0.fX)) rfl rfl rfl rfl Try_one_9 rfl rfl) ?_
    obtain ⟨y3, h4, hF⟩ := bind_some hF
    refine reg_cons (guard_no rfl) (op_call 1 rfl (caps := []) (args := [.str a0.fX]) (rs := [.p (.bool y3)]) rfl rfl rfl Try_cal_94 (ref02_Name_ok h4) rfl rfl rfl) ?_
    refine rmv ?_
    rcases ite_some hF with ⟨hb5, hF⟩ | ⟨hb5, hF⟩
    · refine rgo_t hb5 ?_
      iterate 2 (refine rgo_t hb5 ?_)
      iterate 3 (refine rgu ?_)
      refine rgo_t hb5 ?_
      refine rpt hb5 ?_
      refine rmv ?_
      iterate 2 (refine rgo_t rfl ?_)
      refine rpt rfl ?_
      refine rmv ?_
      iterate 2 (refine rgo_t rfl ?_)
      refine rpt rfl ?_
      refine rmv ?_
      iterate 2 (refine rgo_t rfl ?_)
      refine rpt rfl ?_
      refine ras ?_
      refine reg_nil ?_
      cases hF
      exact post_cut _ rfl (imps [0] ⟨by kernel_rfl, by kernel_rfl, by kernel_rfl, by kernel_rfl, trivial⟩ ⟨by kernel_rfl, trivial⟩)
    refine reg_cons (guard_on rfl rfl rfl rfl hb5) (op_move rfl rfl rfl rfl) ?_
    refine reg_cons (guard_on rfl rfl rfl rfl hb5) (op_int (k := .i64) (m := a0.fKind) (n := 4) rfl rfl rfl rfl rfl rfl) ?_
    refine reg_cons (guard_on rfl rfl rfl rfl hb5) (op_move rfl rfl rfl rfl) ?_
    rcases ite_some hF with ⟨hb6, hF⟩ | ⟨hb6, hF⟩
    · refine reg_cons (guard_on rfl rfl rfl rfl hb6) (op_field_lp rfl rfl Try_fld_121_1 rfl rfl) ?_
      refine reg_cons (guard_on rfl rfl rfl rfl hb6) (op_load_lp (v := .pv (.str a0.fX)) rfl rfl rfl rfl Try_one_9 rfl rfl) ?_
      refine reg_cons (guard_on rfl rfl rfl rfl hb6) (op_str rfl rfl rfl rfl rfl rfl) ?_
      refine reg_cons (guard_on rfl rfl rfl rfl hb5) (op_pick_t rfl rfl hb6 rfl rfl rfl) ?_
      refine rpf hb5 ?_
      refine rmv ?_
      rcases ite_some hF with ⟨hb7, hF⟩ | ⟨hb7, hF⟩
      · refine rgo_t hb7 ?_
        refine rgo_t hb7 ?_
        refine rpt hb7 ?_
        refine rmv ?_
        iterate 2 (refine rgo_t rfl ?_)
        refine rpt rfl ?_
        refine rmv ?_
        iterate 2 (refine rgo_t rfl ?_)
        refine rpt rfl ?_
        refine ras ?_
        refine reg_nil ?_
        cases hF
        exact post_cut _ rfl (imps [0] ⟨by kernel_rfl, by kernel_rfl, by kernel_rfl, by kernel_rfl, trivial⟩ ⟨by kernel_rfl, trivial⟩)
      refine reg_cons (guard_on rfl rfl rfl rfl hb7) (op_move rfl rfl rfl rfl) ?_
      refine reg_cons (guard_on rfl rfl rfl rfl hb7) (op_int (k := .i64) (m := a0.fKind) (n := 3) rfl rfl rfl rfl rfl rfl) ?_
      refine rpf hb7 ?_
      refine rmv ?_
      rcases ite_some hF with ⟨hb8, hF⟩ | ⟨hb8, hF⟩
      · refine rgo_t hb8 ?_
        refine rgo_t hb8 ?_
        refine rpt hb8 ?_
        refine rmv ?_
        iterate 2 (refine rgo_t rfl ?_)
        refine rpt rfl ?_
        refine ras ?_
        refine reg_nil ?_
        cases hF
        exact post_cut _ rfl (imps [0] ⟨by kernel_rfl, by kernel_rfl, by kernel_rfl, by kernel_rfl, trivial⟩ ⟨by kernel_rfl, trivial⟩)
      refine reg_cons (guard_on rfl rfl rfl rfl hb8) (op_move rfl rfl rfl rfl) ?_
      refine reg_cons (guard_on rfl rfl rfl rfl hb8) (op_int (k := .i64) (m := a0.fKind) (n := 8) rfl rfl rfl rfl rfl rfl) ?_
      refine rpf hb8 ?_
      refine rmv ?_
      rcases ite_some hF with ⟨hb9, hF⟩ | ⟨hb9, hF⟩
      · refine rgo_t hb9 ?_
        refine rgo_t hb9 ?_
        refine rpt hb9 ?_
        refine ras ?_
        refine reg_nil ?_
        cases hF
        exact post_cut _ rfl (imps [0] ⟨by kernel_rfl, by kernel_rfl, by kernel_rfl, by kernel_rfl, trivial⟩ ⟨by kernel_rfl, trivial⟩)
      refine reg_cons (guard_on rfl rfl rfl rfl hb9) (op_move rfl rfl rfl rfl) ?_
      refine reg_cons (guard_on rfl rfl rfl rfl hb9) (op_int (k := .i64) (m := a0.fKind) (n := 9) rfl rfl rfl rfl rfl rfl) ?_
      refine rpf hb9 ?_
      refine ras ?_
      refine reg_nil ?_
      cases hF
      exact post_cut _ rfl (imps [0] ⟨by kernel_rfl, by kernel_rfl, by kernel_rfl, by kernel_rfl, trivial⟩ ⟨by kernel_rfl, trivial⟩)
    iterate 3 (refine rgo_f hb6 ?_)
    refine reg_cons (guard_on rfl rfl rfl rfl hb5) (op_pick_f rfl rfl hb6 rfl rfl rfl) ?_
    refine rpf hb5 ?_
    refine rmv ?_
    refine reg_cons (guard_on rfl rfl rfl rfl rfl) (op_move rfl rfl rfl rfl) ?_
    refine reg_cons (guard_on rfl rfl rfl rfl rfl) (op_int (k := .i64) (m := a0.fKind) (n := 3) rfl rfl rfl rfl rfl rfl) ?_
    refine rpf rfl ?_
    refine rmv ?_
    rcases ite_some hF with ⟨hb10, hF⟩ | ⟨hb10, hF⟩
    · refine rgo_t hb10 ?_
      refine rgo_t hb10 ?_
      refine rpt hb10 ?_
      refine rmv ?_
      iterate 2 (refine rgo_t rfl ?_)
      refine rpt rfl ?_
      refine ras ?_
      refine reg_nil ?_
      cases hF
      exact post_cut _ rfl (imps [0] ⟨by kernel_rfl, by kernel_rfl, by kernel_rfl, by kernel_rfl, trivial⟩ ⟨by kernel_rfl, trivial⟩)
    refine reg_cons (guard_on rfl rfl rfl rfl hb10) (op_move rfl rfl rfl rfl) ?_
    refine reg_cons (guard_on rfl rfl rfl rfl hb10) (op_int (k := .i64) (m := a0.fKind) (n := 8) rfl rfl rfl rfl rfl rfl) ?_
    refine rpf hb10 ?_
    refine rmv ?_
    rcases ite_some hF with ⟨hb11, hF⟩ | ⟨hb11, hF⟩
    · refine rgo_t hb11 ?_
      refine rgo_t hb11 ?_
      refine rpt hb11 ?_
      refine ras ?_
      refine reg_nil ?_
      cases hF
      exact post_cut _ rfl (imps [0] ⟨by kernel_rfl, by kernel_rfl, by kernel_rfl, by kernel_rfl, trivial⟩ ⟨by kernel_rfl, trivial⟩)
    refine reg_cons (guard_on rfl rfl rfl rfl hb11) (op_move rfl rfl rfl rfl) ?_
    refine reg_cons (guard_on rfl rfl rfl rfl hb11) (op_int (k := .i64) (m := a0.fKind) (n := 9) rfl rfl rfl rfl rfl rfl) ?_
    refine rpf hb11 ?_
    refine ras ?_
    refine reg_nil ?_
    cases hF
    exact post_cut _ rfl (imps [0] ⟨by kernel_rfl, by kernel_rfl, by kernel_rfl, by kernel_rfl, trivial⟩ ⟨by kernel_rfl, trivial⟩)
  rintro _ rfl
  have hF := hK14
  clear hK14
  refine post_next ?_
  refine aw_seq ?_
  obtain ⟨x38, hF, hK40⟩ := bind_some hF
  refine aw_cut (fun s1 => s1 = ⟨115, [(1, some (.pv (.int .i64 a1))), (2, some (.lp 0 0)), (5, some (.pv (.int .i64 a0.fKind))), (6, some (.pv (.bool x12))), (7, some (.pv (.bool x38)))], [(0, some (.box 121 (bxv (eGStmt a0))))], 1, [], [], 0, []⟩) ?_ ?_
  · refine aw_region ?_
    refine reg_cons (guard_no rfl) (op_field_lp rfl rfl Try_fld_121_2 rfl rfl) ?_
    refine reg_cons (guard_no rfl) (op_load_lp (v := .pv (.str a0.fY)) rfl rfl rfl rfl Try_one_9 rfl rfl) ?_
    obtain ⟨y17, h18, hF⟩ := bind_some hF
    refine reg_cons (guard_no rfl) (op_call 1 rfl (caps := []) (args := [.str a0.fY]) (rs := [.p (.bool y17)]) rfl rfl rfl Try_cal_94 (ref02_Name_ok h18) rfl rfl rfl) ?_
    refine rmv ?_
    rcases ite_some hF with ⟨hb19, hF⟩ | ⟨hb19, hF⟩
    · refine rgo_t hb19 ?_
      iterate 2 (refine rgo_t hb19 ?_)
      iterate 2 (refine rgu ?_)
      iterate 2 (refine rgo_t hb19 ?_)
      iterate 2 (refine rgu ?_)
      iterate 2 (refine rgo_t hb19 ?_)
      iterate 3 (refine rgu ?_)
      refine rgo_t hb19 ?_
      refine rpt hb19 ?_
      refine rmv ?_
      iterate 2 (refine rgo_t rfl ?_)
      refine rpt rfl ?_
      refine rmv ?_
      iterate 2 (refine rgo_t rfl ?_)
      refine rpt rfl ?_
      refine rmv ?_
      iterate 2 (refine rgo_t rfl ?_)
      refine rpt rfl ?_
      refine rmv ?_
      iterate 2 (refine rgo_t rfl ?_)
      refine rpt rfl ?_
      refine ras ?_
      refine reg_nil ?_
      cases hF
      exact post_cut _ rfl (imps [0] ⟨by kernel_rfl, by kernel_rfl, by kernel_rfl, by kernel_rfl, by kernel_rfl, trivial⟩ ⟨by kernel_rfl, trivial⟩)
    refine reg_cons (guard_on rfl rfl rfl rfl hb19) (op_move rfl rfl rfl rfl) ?_
    refine reg_cons (guard_on rfl rfl rfl rfl hb19) (op_int (k := .i64) (m := a0.fKind) (n := 2) rfl rfl rfl rfl rfl rfl) ?_
    refine reg_cons (guard_on rfl rfl rfl rfl hb19) (op_move rfl rfl rfl rfl) ?_
    rcases ite_some hF with ⟨hb20, hF⟩ | ⟨hb20, hF⟩
    · refine rgo_t hb20 ?_
      refine rgo_t hb20 ?_
      refine reg_cons (guard_on rfl rfl rfl rfl hb19) (op_pick_t rfl rfl hb20 rfl rfl rfl) ?_
      refine reg_cons (guard_on rfl rfl rfl rfl hb19) (op_move rfl rfl rfl rfl) ?_
      iterate 2 (refine rgo_t rfl ?_)
      refine reg_cons (guard_on rfl rfl rfl rfl hb19) (op_pick_t rfl rfl rfl rfl rfl rfl) ?_
      refine reg_cons (guard_on rfl rfl rfl rfl hb19) (op_move rfl rfl rfl rfl) ?_
      refine reg_cons (guard_on rfl rfl rfl rfl rfl) (op_field_lp rfl rfl Try_fld_121_2 rfl rfl) ?_
      refine reg_cons (guard_on rfl rfl rfl rfl rfl) (op_load_lp (v := .pv (.str a0.fY)) rfl rfl rfl rfl Try_one_9 rfl rfl) ?_
      refine reg_cons (guard_on rfl rfl rfl rfl rfl) (op_str rfl rfl rfl rfl rfl rfl) ?_
      refine reg_cons (guard_on rfl rfl rfl rfl hb19) (op_pick_t rfl rfl rfl rfl rfl rfl) ?_
      refine rpf hb19 ?_
      refine rmv ?_
      rcases ite_some hF with ⟨hb21, hF⟩ | ⟨hb21, hF⟩
      · refine rgo_t hb21 ?_
        refine rgo_t hb21 ?_
        refine rpt hb21 ?_
        refine rmv ?_
        iterate 2 (refine rgo_t rfl ?_)
        refine rpt rfl ?_
        refine rmv ?_
        iterate 2 (refine rgo_t rfl ?_)
        refine rpt rfl ?_
        refine rmv ?_
        iterate 2 (refine rgo_t rfl ?_)
        refine rpt rfl ?_
        refine ras ?_
        refine reg_nil ?_
        cases hF
        exact post_cut _ rfl (imps [0] ⟨by kernel_rfl, by kernel_rfl, by kernel_rfl, by kernel_rfl, by kernel_rfl, trivial⟩ ⟨by kernel_rfl, trivial⟩)
      refine reg_cons (guard_on rfl rfl rfl rfl hb21) (op_move rfl rfl rfl rfl) ?_
      refine reg_cons (guard_on rfl rfl rfl rfl hb21) (op_int (k := .i64) (m := a0.fKind) (n := 1) rfl rfl rfl rfl rfl rfl) ?_
      refine rpf hb21 ?_
      refine rmv ?_
      rcases ite_some hF with ⟨hb22, hF⟩ | ⟨hb22, hF⟩
      · refine rgo_t hb22 ?_
        refine rgo_t hb22 ?_
        refine rpt hb22 ?_
        refine rmv ?_
        iterate 2 (refine rgo_t rfl ?_)
        refine rpt rfl ?_
        refine rmv ?_
        iterate 2 (refine rgo_t rfl ?_)
        refine rpt rfl ?_
        refine ras ?_
        refine reg_nil ?_
        cases hF
        exact post_cut _ rfl (imps [0] ⟨by kernel_rfl, by kernel_rfl, by kernel_rfl, by kernel_rfl, by kernel_rfl, trivial⟩ ⟨by kernel_rfl, trivial⟩)
      refine reg_cons (guard_on rfl rfl rfl rfl hb22) (op_move rfl rfl rfl rfl) ?_
      refine reg_cons (guard_on rfl rfl rfl rfl hb22) (op_int (k := .i64) (m := a0.fKind) (n := 5) rfl rfl rfl rfl rfl rfl) ?_
      refine rpf hb22 ?_
      refine rmv ?_
      rcases ite_some hF with ⟨hb23, hF⟩ | ⟨hb23, hF⟩
      · refine rgo_t hb23 ?_
        refine rgo_t hb23 ?_
        refine rpt hb23 ?_
        refine rmv ?_
        iterate 2 (refine rgo_t rfl ?_)
        refine rpt rfl ?_
        refine ras ?_
        refine reg_nil ?_
        cases hF
        exact post_cut _ rfl (imps [0] ⟨by kernel_rfl, by kernel_rfl, by kernel_rfl, by kernel_rfl, by kernel_rfl, trivial⟩ ⟨by kernel_rfl, trivial⟩)
      refine reg_cons (guard_on rfl rfl rfl rfl hb23) (op_move rfl rfl rfl rfl) ?_
      refine reg_cons (guard_on rfl rfl rfl rfl hb23) (op_int (k := .i64) (m := a0.fKind) (n := 6) rfl rfl rfl rfl rfl rfl) ?_
      refine rpf hb23 ?_
      refine rmv ?_
      rcases ite_some hF with ⟨hb24, hF⟩ | ⟨hb24, hF⟩
      · refine rgo_t hb24 ?_
        refine rgo_t hb24 ?_
        refine rpt hb24 ?_
        refine ras ?_
        refine reg_nil ?_
        cases hF
        exact post_cut _ rfl (imps [0] ⟨by kernel_rfl, by kernel_rfl, by kernel_rfl, by kernel_rfl, by kernel_rfl, trivial⟩ ⟨by kernel_rfl, trivial⟩)
      refine reg_cons (guard_on rfl rfl rfl rfl hb24) (op_move rfl rfl rfl rfl) ?_
      refine reg_cons (guard_on rfl rfl rfl rfl hb24) (op_int (k := .i64) (m := a0.fKind) (n := 9) rfl rfl rfl rfl rfl rfl) ?_
      refine rpf hb24 ?_
      refine ras ?_
      refine reg_nil ?_
      cases hF
      exact post_cut _ rfl (imps [0] ⟨by kernel_rfl, by kernel_rfl, by kernel_rfl, by kernel_rfl, by kernel_rfl, trivial⟩ ⟨by kernel_rfl, trivial⟩)
    refine reg_cons (guard_on rfl rfl rfl rfl hb20) (op_move rfl rfl rfl rfl) ?_
    refine reg_cons (guard_on rfl rfl rfl rfl hb20) (op_int (k := .i64) (m := a0.fKind) (n := 3) rfl rfl rfl rfl rfl rfl) ?_
    refine reg_cons (guard_on rfl rfl rfl rfl hb19) (op_pick_f rfl rfl hb20 rfl rfl rfl) ?_
    refine reg_cons (guard_on rfl rfl rfl rfl hb19) (op_move rfl rfl rfl rfl) ?_
    rcases ite_some hF with ⟨hb25, hF⟩ | ⟨hb25, hF⟩
    · refine rgo_t hb25 ?_
      refine rgo_t hb25 ?_
      refine reg_cons (guard_on rfl rfl rfl rfl hb19) (op_pick_t rfl rfl hb25 rfl rfl rfl) ?_
      refine reg_cons (guard_on rfl rfl rfl rfl hb19) (op_move rfl rfl rfl rfl) ?_
      refine reg_cons (guard_on rfl rfl rfl rfl rfl) (op_field_lp rfl rfl Try_fld_121_2 rfl rfl) ?_
      refine reg_cons (guard_on rfl rfl rfl rfl rfl) (op_load_lp (v := .pv (.str a0.fY)) rfl rfl rfl rfl Try_one_9 rfl rfl) ?_
      refine reg_cons (guard_on rfl rfl rfl rfl rfl) (op_str rfl rfl rfl rfl rfl rfl) ?_
      refine reg_cons (guard_on rfl rfl rfl rfl hb19) (op_pick_t rfl rfl rfl rfl rfl rfl) ?_
      refine rpf hb19 ?_
      refine rmv ?_
      rcases ite_some hF with ⟨hb26, hF⟩ | ⟨hb26, hF⟩
      · refine rgo_t hb26 ?_
        refine rgo_t hb26 ?_
        refine rpt hb26 ?_
        refine rmv ?_
        iterate 2 (refine rgo_t rfl ?_)
        refine rpt rfl ?_
        refine rmv ?_
        iterate 2 (refine rgo_t rfl ?_)
        refine rpt rfl ?_
        refine rmv ?_
        iterate 2 (refine rgo_t rfl ?_)
        refine rpt rfl ?_
        refine ras ?_
        refine reg_nil ?_
        cases hF
        exact post_cut _ rfl (imps [0] ⟨by kernel_rfl, by kernel_rfl, by kernel_rfl, by kernel_rfl, by kernel_rfl, trivial⟩ ⟨by kernel_rfl, trivial⟩)
      refine reg_cons (guard_on rfl rfl rfl rfl hb26) (op_move rfl rfl rfl rfl) ?_
      refine reg_cons (guard_on rfl rfl rfl rfl hb26) (op_int (k := .i64) (m := a0.fKind) (n := 1) rfl rfl rfl rfl rfl rfl) ?_
      refine rpf hb26 ?_
      refine rmv ?_
      rcases ite_some hF with ⟨hb27, hF⟩ | ⟨hb27, hF⟩
      · refine rgo_t hb27 ?_
        refine rgo_t hb27 ?_
        refine rpt hb27 ?_
        refine rmv ?_
        iterate 2 (refine rgo_t rfl ?_)
        refine rpt rfl ?_
        refine rmv ?_
        iterate 2 (refine rgo_t rfl ?_)
        refine rpt rfl ?_
        refine ras ?_
        refine reg_nil ?_
        cases hF
        exact post_cut _ rfl (imps [0] ⟨by kernel_rfl, by kernel_rfl, by kernel_rfl, by kernel_rfl, by kernel_rfl, trivial⟩ ⟨by kernel_rfl, trivial⟩)
      refine reg_cons (guard_on rfl rfl rfl rfl hb27) (op_move rfl rfl rfl rfl) ?_
      refine reg_cons (guard_on rfl rfl rfl rfl hb27) (op_int (k := .i64) (m := a0.fKind) (n := 5) rfl rfl rfl rfl rfl rfl) ?_
      refine rpf hb27 ?_
      refine rmv ?_
      rcases ite_some hF with ⟨hb28, hF⟩ | ⟨hb28, hF⟩
      · refine rgo_t hb28 ?_
        refine rgo_t hb28 ?_
        refine rpt hb28 ?_
        refine rmv ?_
        iterate 2 (refine rgo_t rfl ?_)
        refine rpt rfl ?_
        refine ras ?_
        refine reg_nil ?_
        cases hF
        exact post_cut _ rfl (imps [0] ⟨by kernel_rfl, by kernel_rfl, by kernel_rfl, by kernel_rfl, by kernel_rfl, trivial⟩ ⟨by kernel_rfl, trivial⟩)
      refine reg_cons (guard_on rfl rfl rfl rfl hb28) (op_move rfl rfl rfl rfl) ?_
      refine reg_cons (guard_on rfl rfl rfl rfl hb28) (op_int (k := .i64) (m := a0.fKind) (n := 6) rfl rfl rfl rfl rfl rfl) ?_
      refine rpf hb28 ?_
      refine rmv ?_
      rcases ite_some hF with ⟨hb29, hF⟩ | ⟨hb29, hF⟩
      · refine rgo_t hb29 ?_
        refine rgo_t hb29 ?_
        refine rpt hb29 ?_
        refine ras ?_
        refine reg_nil ?_
        cases hF
        exact post_cut _ rfl (imps [0] ⟨by kernel_rfl, by kernel_rfl, by kernel_rfl, by kernel_rfl, by kernel_rfl, trivial⟩ ⟨by kernel_rfl, trivial⟩)
      refine reg_cons (guard_on rfl rfl rfl rfl hb29) (op_move rfl rfl rfl rfl) ?_
      refine reg_cons (guard_on rfl rfl rfl rfl hb29) (op_int (k := .i64) (m := a0.fKind) (n := 9) rfl rfl rfl rfl rfl rfl) ?_
      refine rpf hb29 ?_
      refine ras ?_
      refine reg_nil ?_
      cases hF
      exact post_cut _ rfl (imps [0] ⟨by kernel_rfl, by kernel_rfl, by kernel_rfl, by kernel_rfl, by kernel_rfl, trivial⟩ ⟨by kernel_rfl, trivial⟩)
    refine reg_cons (guard_on rfl rfl rfl rfl hb25) (op_move rfl rfl rfl rfl) ?_
    refine reg_cons (guard_on rfl rfl rfl rfl hb25) (op_int (k := .i64) (m := a0.fKind) (n := 4) rfl rfl rfl rfl rfl rfl) ?_
    refine reg_cons (guard_on rfl rfl rfl rfl hb19) (op_pick_f rfl rfl hb25 rfl rfl rfl) ?_
    refine reg_cons (guard_on rfl rfl rfl rfl hb19) (op_move rfl rfl rfl rfl) ?_
    rcases ite_some hF with ⟨hb30, hF⟩ | ⟨hb30, hF⟩
    · refine reg_cons (guard_on rfl rfl rfl rfl hb30) (op_field_lp rfl rfl Try_fld_121_2 rfl rfl) ?_
      refine reg_cons (guard_on rfl rfl rfl rfl hb30) (op_load_lp (v := .pv (.str a0.fY)) rfl rfl rfl rfl Try_one_9 rfl rfl) ?_
      refine reg_cons (guard_on rfl rfl rfl rfl hb30) (op_str rfl rfl rfl rfl rfl rfl) ?_
      refine reg_cons (guard_on rfl rfl rfl rfl hb19) (op_pick_t rfl rfl hb30 rfl rfl rfl) ?_
      refine rpf hb19 ?_
      refine rmv ?_
      rcases ite_some hF with ⟨hb31, hF⟩ | ⟨hb31, hF⟩
      · refine rgo_t hb31 ?_
        refine rgo_t hb31 ?_
        refine rpt hb31 ?_
        refine rmv ?_
        iterate 2 (refine rgo_t rfl ?_)
        refine rpt rfl ?_
        refine rmv ?_
        iterate 2 (refine rgo_t rfl ?_)
        refine rpt rfl ?_
        refine rmv ?_
        iterate 2 (refine rgo_t rfl ?_)
        refine rpt rfl ?_
        refine ras ?_
        refine reg_nil ?_
        cases hF
        exact post_cut _ rfl (imps [0] ⟨by kernel_rfl, by kernel_rfl, by kernel_rfl, by kernel_rfl, by kernel_rfl, trivial⟩ ⟨by kernel_rfl, trivial⟩)
      refine reg_cons (guard_on rfl rfl rfl rfl hb31) (op_move rfl rfl rfl rfl) ?_
      refine reg_cons (guard_on rfl rfl rfl rfl hb31) (op_int (k := .i64) (m := a0.fKind) (n := 1) rfl rfl rfl rfl rfl rfl) ?_
      refine rpf hb31 ?_
      refine rmv ?_
      rcases ite_some hF with ⟨hb32, hF⟩ | ⟨hb32, hF⟩
      · refine rgo_t hb32 ?_
        refine rgo_t hb32 ?_
        refine rpt hb32 ?_
        refine rmv ?_
        iterate 2 (refine rgo_t rfl ?_)
        refine rpt rfl ?_
        refine rmv ?_
        iterate 2 (refine rgo_t rfl ?_)
        refine rpt rfl ?_
        refine ras ?_
        refine reg_nil ?_
        cases hF
        exact post_cut _ rfl (imps [0] ⟨by kernel_rfl, by kernel_rfl, by kernel_rfl, by kernel_rfl, by kernel_rfl, trivial⟩ ⟨by kernel_rfl, trivial⟩)
      refine reg_cons (guard_on rfl rfl rfl rfl hb32) (op_move rfl rfl rfl rfl) ?_
      refine reg_cons (guard_on rfl rfl rfl rfl hb32) (op_int (k := .i64) (m := a0.fKind) (n := 5) rfl rfl rfl rfl rfl rfl) ?_
      refine rpf hb32 ?_
      refine rmv ?_
      rcases ite_some hF with ⟨hb33, hF⟩ | ⟨hb33, hF⟩
      · refine rgo_t hb33 ?_
        refine rgo_t hb33 ?_
        refine rpt hb33 ?_
        refine rmv ?_
        iterate 2 (refine rgo_t rfl ?_)
        refine rpt rfl ?_
        refine ras ?_
        refine reg_nil ?_
        cases hF
        exact post_cut _ rfl (imps [0] ⟨by kernel_rfl, by kernel_rfl, by kernel_rfl, by kernel_rfl, by kernel_rfl, trivial⟩ ⟨by kernel_rfl, trivial⟩)
      refine reg_cons (guard_on rfl rfl rfl rfl hb33) (op_move rfl rfl rfl rfl) ?_
      refine reg_cons (guard_on rfl rfl rfl rfl hb33) (op_int (k := .i64) (m := a0.fKind) (n := 6) rfl rfl rfl rfl rfl rfl) ?_
      refine rpf hb33 ?_
      refine rmv ?_
      rcases ite_some hF with ⟨hb34, hF⟩ | ⟨hb34, hF⟩
      · refine rgo_t hb34 ?_
        refine rgo_t hb34 ?_
        refine rpt hb34 ?_
        refine ras ?_
        refine reg_nil ?_
        cases hF
        exact post_cut _ rfl (imps [0] ⟨by kernel_rfl, by kernel_rfl, by kernel_rfl, by kernel_rfl, by kernel_rfl, trivial⟩ ⟨by kernel_rfl, trivial⟩)
      refine reg_cons (guard_on rfl rfl rfl rfl hb34) (op_move rfl rfl rfl rfl) ?_
      refine reg_cons (guard_on rfl rfl rfl rfl hb34) (op_int (k := .i64) (m := a0.fKind) (n := 9) rfl rfl rfl rfl rfl rfl) ?_
      refine rpf hb34 ?_
      refine ras ?_
      refine reg_nil ?_
      cases hF
      exact post_cut _ rfl (imps [0] ⟨by kernel_rfl, by kernel_rfl, by kernel_rfl, by kernel_rfl, by kernel_rfl, trivial⟩ ⟨by kernel_rfl, trivial⟩)
    iterate 3 (refine rgo_f hb30 ?_)
    refine reg_cons (guard_on rfl rfl rfl rfl hb19) (op_pick_f rfl rfl hb30 rfl rfl rfl) ?_
    refine rpf hb19 ?_
    refine rmv ?_
    refine reg_cons (guard_on rfl rfl rfl rfl rfl) (op_move rfl rfl rfl rfl) ?_
    refine reg_cons (guard_on rfl rfl rfl rfl rfl) (op_int (k := .i64) (m := a0.fKind) (n := 1) rfl rfl rfl rfl rfl rfl) ?_
    refine rpf rfl ?_
    refine rmv ?_
    rcases ite_some hF with ⟨hb35, hF⟩ | ⟨hb35, hF⟩
    · refine rgo_t hb35 ?_
      refine rgo_t hb35 ?_
      refine rpt hb35 ?_
      refine rmv ?_
      iterate 2 (refine rgo_t rfl ?_)
      refine rpt rfl ?_
      refine rmv ?_
      iterate 2 (refine rgo_t rfl ?_)
      refine rpt rfl ?_
      refine ras ?_
      refine reg_nil ?_
      cases hF
      exact post_cut _ rfl (imps [0] ⟨by kernel_rfl, by kernel_rfl, by kernel_rfl, by kernel_rfl, by kernel_rfl, trivial⟩ ⟨by kernel_rfl, trivial⟩)
    refine reg_cons (guard_on rfl rfl rfl rfl hb35) (op_move rfl rfl rfl rfl) ?_
    refine reg_cons (guard_on rfl rfl rfl rfl hb35) (op_int (k := .i64) (m := a0.fKind) (n := 5) rfl rfl rfl rfl rfl rfl) ?_
    refine rpf hb35 ?_
    refine rmv ?_
    rcases ite_some hF with ⟨hb36, hF⟩ | ⟨hb36, hF⟩
    · refine rgo_t hb36 ?_
      refine rgo_t hb36 ?_
      refine rpt hb36 ?_
      refine rmv ?_
      iterate 2 (refine rgo_t rfl ?_)
      refine rpt rfl ?_
      refine ras ?_
      refine reg_nil ?_
      cases hF
      exact post_cut _ rfl (imps [0] ⟨by kernel_rfl, by kernel_rfl, by kernel_rfl, by kernel_rfl, by kernel_rfl, trivial⟩ ⟨by kernel_rfl, trivial⟩)
    refine reg_cons (guard_on rfl rfl rfl rfl hb36) (op_move rfl rfl rfl rfl) ?_
    refine reg_cons (guard_on rfl rfl rfl rfl hb36) (op_int (k := .i64) (m := a0.fKind) (n := 6) rfl rfl rfl rfl rfl rfl) ?_
    refine rpf hb36 ?_
    refine rmv ?_
    rcases ite_some hF with ⟨hb37, hF⟩ | ⟨hb37, hF⟩
    · refine rgo_t hb37 ?_
      refine rgo_t hb37 ?_
      refine rpt hb37 ?_
      refine ras ?_
      refine reg_nil ?_
      cases hF
      exact post_cut _ rfl (imps [0] ⟨by kernel_rfl, by kernel_rfl, by kernel_rfl, by kernel_rfl, by kernel_rfl, trivial⟩ ⟨by kernel_rfl, trivial⟩)
    refine reg_cons (guard_on rfl rfl rfl rfl hb37) (op_move rfl rfl rfl rfl) ?_
    refine reg_cons (guard_on rfl rfl rfl rfl hb37) (op_int (k := .i64) (m := a0.fKind) (n := 9) rfl rfl rfl rfl rfl rfl) ?_
    refine rpf hb37 ?_
    refine ras ?_
    refine reg_nil ?_
    cases hF
    exact post_cut _ rfl (imps [0] ⟨by kernel_rfl, by kernel_rfl, by kernel_rfl, by kernel_rfl, by kernel_rfl, trivial⟩ ⟨by kernel_rfl, trivial⟩)
  rintro _ rfl
  have hF := hK40
  clear hK40
  refine post_next ?_
  refine aw_seq ?_
  obtain ⟨x48, hF, hK50⟩ := bind_some hF
  refine aw_cut (fun s1 => s1 = ⟨115, [(1, some (.pv (.int .i64 a1))), (2, some (.lp 0 0)), (5, some (.pv (.int .i64 a0.fKind))), (6, some (.pv (.bool x12))), (7, some (.pv (.bool x38))), (8, some (.pv (.bool x48)))], [(0, some (.box 121 (bxv (eGStmt a0))))], 1, [], [], 0, []⟩) ?_ ?_
  · refine aw_region ?_
    refine reg_cons (guard_no rfl) (op_field_lp rfl rfl Try_fld_121_3 rfl rfl) ?_
    refine reg_cons (guard_no rfl) (op_load_lp (v := .pv (.str a0.fName)) rfl rfl rfl rfl Try_one_9 rfl rfl) ?_
    obtain ⟨y43, h44, hF⟩ := bind_some hF
    refine reg_cons (guard_no rfl) (op_call 1 rfl (caps := []) (args := [.str a0.fName]) (rs := [.p (.bool y43)]) rfl rfl rfl Try_cal_94 (ref02_Name_ok h44) rfl rfl rfl) ?_
    refine rmv ?_
    rcases ite_some hF with ⟨hb45, hF⟩ | ⟨hb45, hF⟩
    · refine rgo_t hb45 ?_
      iterate 2 (refine rgo_t hb45 ?_)
      iterate 2 (refine rgu ?_)
      iterate 2 (refine rgo_t hb45 ?_)
      iterate 2 (refine rgu ?_)
      refine rgo_t hb45 ?_
      refine rpt hb45 ?_
      refine ras ?_
      refine reg_nil ?_
      cases hF
      exact post_cut _ rfl (imps [0] ⟨by kernel_rfl, by kernel_rfl, by kernel_rfl, by kernel_rfl, by kernel_rfl, by kernel_rfl, trivial⟩ ⟨by kernel_rfl, trivial⟩)
    refine reg_cons (guard_on rfl rfl rfl rfl hb45) (op_move rfl rfl rfl rfl) ?_
    refine reg_cons (guard_on rfl rfl rfl rfl hb45) (op_int (k := .i64) (m := a0.fKind) (n := 2) rfl rfl rfl rfl rfl rfl) ?_
    refine reg_cons (guard_on rfl rfl rfl rfl hb45) (op_move rfl rfl rfl rfl) ?_
    rcases ite_some hF with ⟨hb46, hF⟩ | ⟨hb46, hF⟩
    · refine reg_cons (guard_on rfl rfl rfl rfl hb46) (op_move rfl rfl rfl rfl) ?_
      refine reg_cons (guard_on rfl rfl rfl rfl hb46) (op_int (k := .i64) (m := a0.fKind) (n := 3) rfl rfl rfl rfl rfl rfl) ?_
      refine reg_cons (guard_on rfl rfl rfl rfl hb45) (op_pick_t rfl rfl hb46 rfl rfl rfl) ?_
      refine reg_cons (guard_on rfl rfl rfl rfl hb45) (op_move rfl rfl rfl rfl) ?_
      rcases ite_some hF with ⟨hb47, hF⟩ | ⟨hb47, hF⟩
      · refine reg_cons (guard_on rfl rfl rfl rfl hb47) (op_move rfl rfl rfl rfl) ?_
        refine reg_cons (guard_on rfl rfl rfl rfl hb47) (op_int (k := .i64) (m := a0.fKind) (n := 4) rfl rfl rfl rfl rfl rfl) ?_
        refine reg_cons (guard_on rfl rfl rfl rfl hb45) (op_pick_t rfl rfl hb47 rfl rfl rfl) ?_
        refine rpf hb45 ?_
        refine ras ?_
        refine reg_nil ?_
        cases hF
        exact post_cut _ rfl (imps [0] ⟨by kernel_rfl, by kernel_rfl, by kernel_rfl, by kernel_rfl, by kernel_rfl, by kernel_rfl, trivial⟩ ⟨by kernel_rfl, trivial⟩)
      iterate 2 (refine rgo_f hb47 ?_)
      refine reg_cons (guard_on rfl rfl rfl rfl hb45) (op_pick_f rfl rfl hb47 rfl rfl rfl) ?_
      refine rpf hb45 ?_
      refine ras ?_
      refine reg_nil ?_
      cases hF
      exact post_cut _ rfl (imps [0] ⟨by kernel_rfl, by kernel_rfl, by kernel_rfl, by kernel_rfl, by kernel_rfl, by kernel_rfl, trivial⟩ ⟨by kernel_rfl, trivial⟩)
    iterate 2 (refine rgo_f hb46 ?_)
    refine reg_cons (guard_on rfl rfl rfl rfl hb45) (op_pick_f rfl rfl hb46 rfl rfl rfl) ?_
    refine reg_cons (guard_on rfl rfl rfl rfl hb45) (op_move rfl rfl rfl rfl) ?_
    iterate 2 (refine rgo_f rfl ?_)
    refine reg_cons (guard_on rfl rfl rfl rfl hb45) (op_pick_f rfl rfl rfl rfl rfl rfl) ?_
    refine rpf hb45 ?_
    refine ras ?_
    refine reg_nil ?_
    cases hF
    exact post_cut _ rfl (imps [0] ⟨by kernel_rfl, by kernel_rfl, by kernel_rfl, by kernel_rfl, by kernel_rfl, by kernel_rfl, trivial⟩ ⟨by kernel_rfl, trivial⟩)
  rintro _ rfl
  have hF := hK50
  clear hK50
  refine post_next ?_
  refine aw_seq ?_
  obtain ⟨x57, hF, hK59⟩ := bind_some hF
  refine aw_cut (fun s1 => s1 = ⟨115, [(6, some (.pv (.bool x12))), (7, some (.pv (.bool x38))), (8, some (.pv (.bool x48))), (9, some (.pv (.bool x57)))], [], 0, [], [], 0, []⟩) ?_ ?_
  · refine aw_region ?_
    refine reg_cons (guard_no rfl) (op_field_lp rfl rfl Try_fld_121_4 rfl rfl) ?_
    refine reg_cons (guard_no rfl) (op_field_lp rfl rfl Try_fld_67_0 rfl rfl) ?_
    refine reg_cons (guard_no rfl) (op_load_lp (v := .pv (.int .i64 a0.fType.fKind)) rfl rfl rfl rfl Try_one_3 rfl rfl) ?_
    refine reg_cons (guard_no rfl) (op_int (k := .i64) (m := a0.fType.fKind) (n := 2) rfl rfl rfl rfl rfl rfl) ?_
    refine rmv ?_
    rcases ite_some hF with ⟨hb51, hF⟩ | ⟨hb51, hF⟩
    · refine reg_cons (guard_on rfl rfl rfl rfl hb51) (op_field_lp rfl rfl Try_fld_121_4 rfl rfl) ?_
      refine reg_cons (guard_on rfl rfl rfl rfl hb51) (op_load_lp_agg (ps := eGType a0.fType) rfl rfl rfl rfl rfl rfl Try_agg_67 rfl rfl) ?_
      refine reg_cons (guard_on rfl rfl rfl rfl hb51) (op_move rfl rfl rfl rfl) ?_
      obtain ⟨y52, h53, hF⟩ := bind_some hF
      refine reg_cons (guard_on rfl rfl rfl rfl hb51) (op_call 1 rfl (caps := []) (args := [.agg (eGType a0.fType), .int .i64 a1]) (rs := [.p (.bool y52)]) rfl rfl rfl Try_cal_109 (ref05_Right_ok h53) rfl rfl rfl) ?_
      refine rpt hb51 ?_
      refine rmv ?_
      rcases ite_some hF with ⟨hb54, hF⟩ | ⟨hb54, hF⟩
      · refine rgo_t hb54 ?_
        iterate 2 (refine rgo_t hb54 ?_)
        iterate 2 (refine rgu ?_)
        refine rgo_t hb54 ?_
        refine rpt hb54 ?_
        refine ras ?_
        refine reg_nil ?_
        cases hF
        exact post_cut _ rfl (imps [] ⟨by kernel_rfl, by kernel_rfl, by kernel_rfl, by kernel_rfl, trivial⟩ trivial)
      refine reg_cons (guard_on rfl rfl rfl rfl hb54) (op_move rfl rfl rfl rfl) ?_
      refine reg_cons (guard_on rfl rfl rfl rfl hb54) (op_int (k := .i64) (m := a0.fKind) (n := 5) rfl rfl rfl rfl rfl rfl) ?_
      refine reg_cons (guard_on rfl rfl rfl rfl hb54) (op_move rfl rfl rfl rfl) ?_
      rcases ite_some hF with ⟨hb55, hF⟩ | ⟨hb55, hF⟩
      · refine reg_cons (guard_on rfl rfl rfl rfl hb55) (op_move rfl rfl rfl rfl) ?_
        refine reg_cons (guard_on rfl rfl rfl rfl hb55) (op_int (k := .i64) (m := a0.fKind) (n := 6) rfl rfl rfl rfl rfl rfl) ?_
        refine reg_cons (guard_on rfl rfl rfl rfl hb54) (op_pick_t rfl rfl hb55 rfl rfl rfl) ?_
        refine rpf hb54 ?_
        refine ras ?_
        refine reg_nil ?_
        cases hF
        exact post_cut _ rfl (imps [] ⟨by kernel_rfl, by kernel_rfl, by kernel_rfl, by kernel_rfl, trivial⟩ trivial)
      iterate 2 (refine rgo_f hb55 ?_)
      refine reg_cons (guard_on rfl rfl rfl rfl hb54) (op_pick_f rfl rfl hb55 rfl rfl rfl) ?_
      refine rpf hb54 ?_
      refine ras ?_
      refine reg_nil ?_
      cases hF
      exact post_cut _ rfl (imps [] ⟨by kernel_rfl, by kernel_rfl, by kernel_rfl, by kernel_rfl, trivial⟩ trivial)
    iterate 4 (refine rgo_f hb51 ?_)
    refine rpf hb51 ?_
    refine rmv ?_
    refine reg_cons (guard_on rfl rfl rfl rfl rfl) (op_move rfl rfl rfl rfl) ?_
    refine reg_cons (guard_on rfl rfl rfl rfl rfl) (op_int (k := .i64) (m := a0.fKind) (n := 5) rfl rfl rfl rfl rfl rfl) ?_
    refine reg_cons (guard_on rfl rfl rfl rfl rfl) (op_move rfl rfl rfl rfl) ?_
    rcases ite_some hF with ⟨hb56, hF⟩ | ⟨hb56, hF⟩
    · refine reg_cons (guard_on rfl rfl rfl rfl hb56) (op_move rfl rfl rfl rfl) ?_
      refine reg_cons (guard_on rfl rfl rfl rfl hb56) (op_int (k := .i64) (m := a0.fKind) (n := 6) rfl rfl rfl rfl rfl rfl) ?_
      refine reg_cons (guard_on rfl rfl rfl rfl rfl) (op_pick_t rfl rfl hb56 rfl rfl rfl) ?_
      refine rpf rfl ?_
      refine ras ?_
      refine reg_nil ?_
      cases hF
      exact post_cut _ rfl (imps [] ⟨by kernel_rfl, by kernel_rfl, by kernel_rfl, by kernel_rfl, trivial⟩ trivial)
    iterate 2 (refine rgo_f hb56 ?_)
    refine reg_cons (guard_on rfl rfl rfl rfl rfl) (op_pick_f rfl rfl hb56 rfl rfl rfl) ?_
    refine rpf rfl ?_
    refine ras ?_
    refine reg_nil ?_
    cases hF
    exact post_cut _ rfl (imps [] ⟨by kernel_rfl, by kernel_rfl, by kernel_rfl, by kernel_rfl, trivial⟩ trivial)
  rintro _ rfl
  have hF := hK59
  clear hK59
  refine post_next ?_
  refine aw_seq ?_
  refine aw_region ?_
  iterate 2 (refine rmv ?_)
  rcases ite_some hF with ⟨hb60, hF⟩ | ⟨hb60, hF⟩
  · refine reg_cons (guard_on rfl rfl rfl rfl hb60) (op_move rfl rfl rfl rfl) ?_
    refine rpt hb60 ?_
    refine rmv ?_
    rcases ite_some hF with ⟨hb61, hF⟩ | ⟨hb61, hF⟩
    · refine reg_cons (guard_on rfl rfl rfl rfl hb61) (op_move rfl rfl rfl rfl) ?_
      refine rpt hb61 ?_
      refine rmv ?_
      rcases ite_some hF with ⟨hb62, hF⟩ | ⟨hb62, hF⟩
      · refine reg_cons (guard_on rfl rfl rfl rfl hb62) (op_move rfl rfl rfl rfl) ?_
        refine rpt hb62 ?_
        refine ras ?_
        refine reg_nil ?_
        refine post_imp (s' := ⟨115, [(4, some (.pv (.bool x57)))], [], 0, [], [], 0, []⟩) (imps [] ⟨by kernel_rfl, trivial⟩ trivial) ?_
        refine post_next ?_
        refine aw_ret ?_
        obtain rfl := Option.some.inj hF
        exact post_ret rfl rfl (.cons _ _ _ _ _ (.tmp _ _ rfl) (.p _) .nil) (.inl rfl)
      refine rgo_f hb62 ?_
      refine rpf hb62 ?_
      refine ras ?_
      refine reg_nil ?_
      refine post_imp (s' := ⟨115, [(4, some (.pv (.bool false)))], [], 0, [], [], 0, []⟩) (imps [] ⟨by kernel_rfl, trivial⟩ trivial) ?_
      refine post_next ?_
      refine aw_ret ?_
      obtain rfl := Option.some.inj hF
      exact post_ret rfl rfl (.cons _ _ _ _ _ (.tmp _ _ rfl) (.p _) .nil) (.inl rfl)
    refine rgo_f hb61 ?_
    refine rpf hb61 ?_
    refine rmv ?_
    refine rgo_f rfl ?_
    refine rpf rfl ?_
    refine ras ?_
    refine reg_nil ?_
    refine post_imp (s' := ⟨115, [(4, some (.pv (.bool false)))], [], 0, [], [], 0, []⟩) (imps [] ⟨by kernel_rfl, trivial⟩ trivial) ?_
    refine post_next ?_
    refine aw_ret ?_
    obtain rfl := Option.some.inj hF
    exact post_ret rfl rfl (.cons _ _ _ _ _ (.tmp _ _ rfl) (.p _) .nil) (.inl rfl)
  refine rgo_f hb60 ?_
  refine rpf hb60 ?_
  refine rmv ?_
  refine rgo_f rfl ?_
  refine rpf rfl ?_
  refine rmv ?_
  refine rgo_f rfl ?_
  refine rpf rfl ?_
  refine ras ?_
  refine reg_nil ?_
  refine post_imp (s' := ⟨115, [(4, some (.pv (.bool false)))], [], 0, [], [], 0, []⟩) (imps [] ⟨by kernel_rfl, trivial⟩ trivial) ?_
  refine post_next ?_
  refine aw_ret ?_
  obtain rfl := Option.some.inj hF
  exact post_ret rfl rfl (.cons _ _ _ _ _ (.tmp _ _ rfl) (.p _) .nil) (.inl rfl)
theorem ref06_kids_ok {a0 : Int} {r : Int} (hF : ref06_kids a0 = some r) : Abs.Fn Try.prog 118 [.int .i64 a0] [.p (.int .i64 r)] := by
  unfold ref06_kids at hF
  refine fn_of_body (n := 19) Try.func118 rfl rfl rfl ?_
  intro w O
  refine aw_seq ?_
  refine aw_region ?_
  refine ras ?_
  refine reg_nil ?_
  refine post_imp (s' := ⟨19, [(0, some (.pv (.int .i64 a0)))], [], 0, [], [], 0, []⟩) (imps [] ⟨by kernel_rfl, trivial⟩ trivial) ?_
  refine post_next ?_
  iterate 2 (refine aw_seq ?_)
  obtain ⟨x3, hF, hK5⟩ := bind_some hF
  refine aw_cut (fun s1 => s1 = ⟨19, [(0, some (.pv (.int .i64 a0))), (12, some (.pv (.bool x3)))], [], 0, [], [], 0, []⟩) ?_ ?_
  · refine aw_region ?_
    refine rmv ?_
    refine reg_cons (guard_no rfl) (op_int (k := .i64) (m := a0) (n := 6) rfl rfl rfl rfl rfl rfl) ?_
    refine rmv ?_
    rcases ite_some hF with ⟨hb1, hF⟩ | ⟨hb1, hF⟩
    · refine reg_cons (guard_on rfl rfl rfl rfl hb1) (op_move rfl rfl rfl rfl) ?_
      refine reg_cons (guard_on rfl rfl rfl rfl hb1) (op_int (k := .i64) (m := a0) (n := 11) rfl rfl rfl rfl rfl rfl) ?_
      refine rpt hb1 ?_
      refine rmv ?_
      rcases ite_some hF with ⟨hb2, hF⟩ | ⟨hb2, hF⟩
      · refine rgo_t hb2 ?_
        refine rgo_t hb2 ?_
        refine rpt hb2 ?_
        refine reg_nil ?_
        cases hF
        exact post_cut _ rfl (imps [] ⟨by kernel_rfl, by kernel_rfl, trivial⟩ trivial)
      refine reg_cons (guard_on rfl rfl rfl rfl hb2) (op_move rfl rfl rfl rfl) ?_
      refine reg_cons (guard_on rfl rfl rfl rfl hb2) (op_int (k := .i64) (m := a0) (n := 14) rfl rfl rfl rfl rfl rfl) ?_
      refine rpf hb2 ?_
      refine reg_nil ?_
      cases hF
      exact post_cut _ rfl (imps [] ⟨by kernel_rfl, by kernel_rfl, trivial⟩ trivial)
    iterate 2 (refine rgo_f hb1 ?_)
    refine rpf hb1 ?_
    refine rmv ?_
    refine reg_cons (guard_on rfl rfl rfl rfl rfl) (op_move rfl rfl rfl rfl) ?_
    refine reg_cons (guard_on rfl rfl rfl rfl rfl) (op_int (k := .i64) (m := a0) (n := 14) rfl rfl rfl rfl rfl rfl) ?_
    refine rpf rfl ?_
    refine reg_nil ?_
    cases hF
    exact post_cut _ rfl (imps [] ⟨by kernel_rfl, by kernel_rfl, trivial⟩ trivial)
  rintro _ rfl
  have hF := hK5
  clear hK5
  refine post_next ?_
  rcases ite_some hF with ⟨hb6, hF⟩ | ⟨hb6, hF⟩
  · refine aw_cond_t rfl hb6 ?_
    refine aw_seq ?_
    refine aw_region ?_
    refine ras ?_
    refine reg_nil ?_
    refine post_imp (s' := ⟨19, [(2, some (.pv (.int .i64 2)))], [], 0, [], [], 0, []⟩) (imps [] ⟨by kernel_rfl, trivial⟩ trivial) ?_
    refine post_next ?_
    refine aw_ret ?_
    refine post_then_ret ?_
    obtain rfl := Option.some.inj hF
    exact post_ret rfl rfl (.cons _ _ _ _ _ (.tmp _ _ rfl) (.p _) .nil) (.inl rfl)
  refine aw_cond_f rfl hb6 ?_
  refine aw_skip ?_
  refine post_next ?_
  iterate 2 (refine aw_seq ?_)
  obtain ⟨x8, hF, hK10⟩ := bind_some hF
  refine aw_cut (fun s1 => s1 = ⟨19, [(18, some (.pv (.bool x8)))], [], 0, [], [], 0, []⟩) ?_ ?_
  · refine aw_region ?_
    refine rmv ?_
    refine reg_cons (guard_no rfl) (op_int (k := .i64) (m := a0) (n := 12) rfl rfl rfl rfl rfl rfl) ?_
    refine rmv ?_
    rcases ite_some hF with ⟨hb7, hF⟩ | ⟨hb7, hF⟩
    · refine rgo_t hb7 ?_
      refine rgo_t hb7 ?_
      refine rpt hb7 ?_
      refine reg_nil ?_
      cases hF
      exact post_cut _ rfl (imps [] ⟨by kernel_rfl, trivial⟩ trivial)
    refine reg_cons (guard_on rfl rfl rfl rfl hb7) (op_move rfl rfl rfl rfl) ?_
    refine reg_cons (guard_on rfl rfl rfl rfl hb7) (op_int (k := .i64) (m := a0) (n := 13) rfl rfl rfl rfl rfl rfl) ?_
    refine rpf hb7 ?_
    refine reg_nil ?_
    cases hF
    exact post_cut _ rfl (imps [] ⟨by kernel_rfl, trivial⟩ trivial)
  rintro _ rfl
  have hF := hK10
  clear hK10
  refine post_next ?_
  rcases ite_some hF with ⟨hb11, hF⟩ | ⟨hb11, hF⟩
  · refine aw_cond_t rfl hb11 ?_
    refine aw_seq ?_
    refine aw_region ?_
    refine ras ?_
    refine reg_nil ?_
    refine post_imp (s' := ⟨19, [(2, some (.pv (.int .i64 1)))], [], 0, [], [], 0, []⟩) (imps [] ⟨by kernel_rfl, trivial⟩ trivial) ?_
    refine post_next ?_
    refine aw_ret ?_
    refine post_then_ret ?_
    obtain rfl := Option.some.inj hF
    exact post_ret rfl rfl (.cons _ _ _ _ _ (.tmp _ _ rfl) (.p _) .nil) (.inl rfl)
  refine aw_cond_f rfl hb11 ?_
  refine aw_skip ?_
  refine post_next ?_
  refine aw_seq ?_
  refine aw_region ?_
  refine ras ?_
  refine reg_nil ?_
  refine post_imp (s' := ⟨19, [(2, some (.pv (.int .i64 0)))], [], 0, [], [], 0, []⟩) (imps [] ⟨by kernel_rfl, trivial⟩ trivial) ?_
  refine post_next ?_
  refine aw_ret ?_
  obtain rfl := Option.some.inj hF
  exact post_ret rfl rfl (.cons _ _ _ _ _ (.tmp _ _ rfl) (.p _) .nil) (.inl rfl)
end Go.Proofs.Ytdffghiejjaomaa
