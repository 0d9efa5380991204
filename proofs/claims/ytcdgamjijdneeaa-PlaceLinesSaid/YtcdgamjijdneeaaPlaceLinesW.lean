/- A part of the proof that the law PlaceLines gives true for every input. -/
import Derived.Test.YtcdgamjijdneeaaPlaceLinesT
import Derived.Test.YtcdgamjijdneeaaPlaceLinesX
import Derived.Test.YtcdgamjijdneeaaPlaceLinesI
/- Each Go function computes its plain function. -/
namespace Go.Proofs.Ytcdgamjijdneeaa
open Go.RowKit Go.Abs
set_option maxRecDepth 100000
theorem internal_stringslite_IndexByte_ok {a0 : List UInt8} {a1 : Int} {r : Int} (hF : internal_stringslite_IndexByte a0 a1 = some r) : Abs.Fn Try.prog 100 [.str a0, .int .u8 a1] [.p (.int .i64 r)] := by
  unfold internal_stringslite_IndexByte at hF
  refine fn_of_body (n := 8) Try.func100 rfl rfl rfl ?_
  intro w O
  refine aw_seq ?_
  refine aw_region ?_
  refine reg_cons (guard_no rfl) (op_assign rfl rfl rfl rfl) ?_
  refine reg_nil ?_
  refine post_imp (s' := ⟨8, [(0, some (.pv (.str a0))), (1, some (.pv (.int .u8 a1)))], [], 0, [], [], 0, []⟩) (imp_sub [] rfl (by decide) rfl rfl ⟨by kernel_rfl, by kernel_rfl, trivial⟩ trivial rfl rfl rfl) ?_
  refine post_next ?_
  refine aw_seq ?_
  refine aw_region ?_
  refine reg_cons (guard_no rfl) (op_move rfl rfl rfl rfl) ?_
  refine reg_cons (guard_no rfl) (op_move rfl rfl rfl rfl) ?_
  refine reg_cons (guard_no rfl) (op_extSB rfl rfl rfl rfl Try_ext_114 rfl rfl) ?_
  refine reg_cons (guard_no rfl) (op_assign rfl rfl rfl rfl) ?_
  refine reg_nil ?_
  refine post_imp (s' := ⟨8, [(4, some (.pv (.int .i64 (idxB a0 a1))))], [], 0, [], [], 0, []⟩) (imp_sub [] rfl (by decide) rfl rfl ⟨by kernel_rfl, trivial⟩ trivial rfl rfl rfl) ?_
  refine post_next ?_
  refine aw_ret ?_
  obtain rfl := Option.some.inj hF
  exact post_ret rfl rfl (.cons _ _ _ _ _ (.tmp _ _ rfl) (.p _) .nil) (.inl rfl)
theorem strings_Count_ok {a0 : List UInt8} {a1 : List UInt8} {r : Int} (hF : strings_Count a0 a1 = some r) : Abs.Fn Try.prog 38 [.str a0, .str a1] [.p (.int .i64 r)] := by
  unfold strings_Count at hF
  refine fn_of_body (n := 34) Try.func38 rfl rfl rfl ?_
  intro w O
  refine aw_seq ?_
  refine aw_region ?_
  refine reg_cons (guard_no rfl) (op_assign rfl rfl rfl rfl) ?_
  refine reg_nil ?_
  refine post_imp (s' := ⟨34, [(0, some (.pv (.str a0))), (1, some (.pv (.str a1)))], [], 0, [], [], 0, []⟩) (imp_sub [] rfl (by decide) rfl rfl ⟨by kernel_rfl, by kernel_rfl, trivial⟩ trivial rfl rfl rfl) ?_
  refine post_next ?_
  refine aw_seq ?_
  refine aw_seq ?_
  refine aw_region ?_
  refine reg_cons (guard_no rfl) (op_move rfl rfl rfl rfl) ?_
  refine reg_cons (guard_no rfl) (op_len_str rfl rfl Try_und_9 rfl rfl) ?_
  refine reg_cons (guard_no rfl) (op_int (k := .i64) (m := (a1.length : Int)) (n := 0) rfl rfl rfl rfl rfl rfl) ?_
  refine reg_nil ?_
  refine post_imp (s' := ⟨34, [(0, some (.pv (.str a0))), (1, some (.pv (.str a1))), (9, some (.pv (.bool ((a1.length : Int) == 0))))], [], 0, [], [], 0, []⟩) (imp_sub [] rfl (by decide) rfl rfl ⟨by kernel_rfl, by kernel_rfl, by kernel_rfl, trivial⟩ trivial rfl rfl rfl) ?_
  refine post_next ?_
  rcases ite_some hF with ⟨hb1, hF⟩ | ⟨hb1, hF⟩
  · cases hF
  · refine aw_cond_f rfl hb1 ?_
    refine aw_skip ?_
    refine post_next ?_
    refine aw_seq ?_
    refine aw_seq ?_
    refine aw_region ?_
    refine reg_cons (guard_no rfl) (op_move rfl rfl rfl rfl) ?_
    refine reg_cons (guard_no rfl) (op_len_str rfl rfl Try_und_9 rfl rfl) ?_
    refine reg_cons (guard_no rfl) (op_int (k := .i64) (m := (a1.length : Int)) (n := 1) rfl rfl rfl rfl rfl rfl) ?_
    refine reg_nil ?_
    refine post_imp (s' := ⟨34, [(0, some (.pv (.str a0))), (1, some (.pv (.str a1))), (15, some (.pv (.bool ((a1.length : Int) == 1))))], [], 0, [], [], 0, []⟩) (imp_sub [] rfl (by decide) rfl rfl ⟨by kernel_rfl, by kernel_rfl, by kernel_rfl, trivial⟩ trivial rfl rfl rfl) ?_
    refine post_next ?_
    rcases ite_some hF with ⟨hb2, hF⟩ | ⟨hb2, hF⟩
    · refine aw_cond_t rfl hb2 ?_
      refine aw_seq ?_
      refine aw_region ?_
      refine reg_cons (guard_no rfl) (op_move rfl rfl rfl rfl) ?_
      refine reg_cons (guard_no rfl) (op_move rfl rfl rfl rfl) ?_
      obtain ⟨y3, h4, hF⟩ := bind_some hF
      refine reg_cons (guard_no rfl) (op_index_str (k := .i64) rfl rfl rfl h4 Try_und_9 rfl rfl) ?_
      refine reg_cons (guard_no rfl) (op_extSB rfl rfl rfl rfl Try_ext_64 rfl rfl) ?_
      refine reg_cons (guard_no rfl) (op_assign rfl rfl rfl rfl) ?_
      refine reg_nil ?_
      refine post_imp (s' := ⟨34, [(4, some (.pv (.int .i64 (cntB a0 (y3.toNat : Int)))))], [], 0, [], [], 0, []⟩) (imp_sub [] rfl (by decide) rfl rfl ⟨by kernel_rfl, trivial⟩ trivial rfl rfl rfl) ?_
      refine post_next ?_
      refine aw_ret ?_
      refine post_then_ret ?_
      obtain rfl := Option.some.inj hF
      exact post_ret rfl rfl (.cons _ _ _ _ _ (.tmp _ _ rfl) (.p _) .nil) (.inl rfl)
    · cases hF
theorem internal_bytealg_LastIndexByteString_ok {a0 : List UInt8} {a1 : Int} {r : Int} (hF : internal_bytealg_LastIndexByteString a0 a1 = some r) : Abs.Fn Try.prog 67 [.str a0, .int .u8 a1] [.p (.int .i64 r)] := by
  unfold internal_bytealg_LastIndexByteString at hF
  refine fn_of_body (n := 19) Try.func67 rfl rfl rfl ?_
  intro w O
  refine aw_seq ?_
  refine aw_region ?_
  refine reg_cons (guard_no rfl) (op_assign rfl rfl rfl rfl) ?_
  refine reg_nil ?_
  refine post_imp (s' := ⟨19, [(0, some (.pv (.str a0))), (1, some (.pv (.int .u8 a1)))], [], 0, [], [], 0, []⟩) (imp_sub [] rfl (by decide) rfl rfl ⟨by kernel_rfl, by kernel_rfl, trivial⟩ trivial rfl rfl rfl) ?_
  refine post_next ?_
  refine aw_seq ?_
  refine aw_seq ?_
  refine aw_region ?_
  refine reg_cons (guard_no rfl) (op_move rfl rfl rfl rfl) ?_
  refine reg_cons (guard_no rfl) (op_len_str rfl rfl Try_und_9 rfl rfl) ?_
  refine reg_cons (guard_no rfl) (op_int (k := .i64) (m := (a0.length : Int)) (n := 1) rfl rfl rfl rfl rfl rfl) ?_
  refine reg_cons (guard_no rfl) (op_assign rfl rfl rfl rfl) ?_
  refine reg_nil ?_
  refine post_imp (s' := ⟨19, [(0, some (.pv (.str a0))), (1, some (.pv (.int .u8 a1))), (5, some (.pv (.int .i64 (w_i64 ((a0.length : Int) - 1)))))], [], 0, [], [], 0, []⟩) (imp_sub [] rfl (by decide) rfl rfl ⟨by kernel_rfl, by kernel_rfl, by kernel_rfl, trivial⟩ trivial rfl rfl rfl) ?_
  refine post_next ?_
  obtain ⟨lr22, hF, hK23⟩ := bind_some hF
  refine aw_for ((((w_i64 ((a0.length : Int) - 1)) : Int) - (0)).toNat + 2) (fun s1 => ∃ q, lr22 = .next q ∧ s1 = ⟨19, [], [], 0, [], [], 0, []⟩) ?_ ?_
  · refine rnd_loop (α := Int) (fun q => ⟨19, [(0, some (.pv (.str a0))), (1, some (.pv (.int .u8 a1))), (5, some (.pv (.int .i64 q)))], [], 0, [], [], 0, []⟩) (fun k q => internal_bytealg_LastIndexByteString_L1 a0 a1 k q = some lr22) (w_i64 ((a0.length : Int) - 1)) (imp_sub [] rfl (by decide) rfl rfl ⟨by kernel_rfl, by kernel_rfl, by kernel_rfl, trivial⟩ trivial rfl rfl rfl) hF (fun q h => by cases h) ?_
    clear hF
    rintro k x7 hF ih
    refine rnd_succ ?_
    refine aw_seq ?_
    refine aw_seq ?_
    refine aw_region ?_
    refine reg_cons (guard_no rfl) (op_move rfl rfl rfl rfl) ?_
    refine reg_cons (guard_no rfl) (op_int (k := .i64) (m := x7) (n := 0) rfl rfl rfl rfl rfl rfl) ?_
    refine reg_nil ?_
    refine post_imp (s' := ⟨19, [(0, some (.pv (.str a0))), (1, some (.pv (.int .u8 a1))), (5, some (.pv (.int .i64 x7))), (10, some (.pv (.bool (decide (x7 ≥ 0)))))], [], 0, [], [], 0, []⟩) (imp_sub [] rfl (by decide) rfl rfl ⟨by kernel_rfl, by kernel_rfl, by kernel_rfl, by kernel_rfl, trivial⟩ trivial rfl rfl rfl) ?_
    refine post_next ?_
    rcases ite_some hF with ⟨hb15, hF⟩ | ⟨hb15, hF⟩
    · refine aw_cond_t rfl hb15 ?_
      refine aw_skip ?_
      refine post_next ?_
      refine aw_seq ?_
      refine aw_block ?_
      refine aw_seq ?_
      refine aw_region ?_
      refine reg_cons (guard_no rfl) (op_move rfl rfl rfl rfl) ?_
      refine reg_cons (guard_no rfl) (op_move rfl rfl rfl rfl) ?_
      obtain ⟨y18, h19, hF⟩ := bind_some hF
      refine reg_cons (guard_no rfl) (op_index_str (k := .i64) rfl rfl rfl h19 Try_und_9 rfl rfl) ?_
      refine reg_cons (guard_no rfl) (op_move rfl rfl rfl rfl) ?_
      refine reg_cons (guard_no rfl) (op_int (k := .u8) (m := (y18.toNat : Int)) (n := a1) rfl rfl rfl rfl rfl rfl) ?_
      refine reg_nil ?_
      refine post_imp (s' := ⟨19, [(0, some (.pv (.str a0))), (1, some (.pv (.int .u8 a1))), (5, some (.pv (.int .i64 x7))), (17, some (.pv (.bool ((y18.toNat : Int) == a1))))], [], 0, [], [], 0, []⟩) (imp_sub [] rfl (by decide) rfl rfl ⟨by kernel_rfl, by kernel_rfl, by kernel_rfl, by kernel_rfl, trivial⟩ trivial rfl rfl rfl) ?_
      refine post_next ?_
      rcases ite_some hF with ⟨hb20, hF⟩ | ⟨hb20, hF⟩
      · refine aw_cond_t rfl hb20 ?_
        refine aw_seq ?_
        refine aw_region ?_
        refine reg_cons (guard_no rfl) (op_move rfl rfl rfl rfl) ?_
        refine reg_cons (guard_no rfl) (op_assign rfl rfl rfl rfl) ?_
        refine reg_nil ?_
        refine post_imp (s' := ⟨19, [(4, some (.pv (.int .i64 x7)))], [], 0, [], [], 0, []⟩) (imp_sub [] rfl (by decide) rfl rfl ⟨by kernel_rfl, trivial⟩ trivial rfl rfl rfl) ?_
        refine post_next ?_
        refine aw_ret ?_
        refine post_block_ret ?_
        refine post_then_ret ?_
        refine post_then_ret ?_
        refine post_lp_ret ?_
        obtain rfl := Option.some.inj hF
        have hF := elim_stop hK23
        refine post_then_ret ?_
        obtain rfl := Option.some.inj hF
        exact post_ret rfl rfl (.cons _ _ _ _ _ (.tmp _ _ rfl) (.p _) .nil) (.inl rfl)
      · refine aw_cond_f rfl hb20 ?_
        refine aw_skip ?_
        refine post_block_normal ?_
        refine post_next ?_
        refine aw_region ?_
        refine reg_cons (guard_no rfl) (op_move rfl rfl rfl rfl) ?_
        refine reg_cons (guard_no rfl) (op_int (k := .i64) (m := x7) (n := 1) rfl rfl rfl rfl rfl rfl) ?_
        refine reg_cons (guard_no rfl) (op_assign rfl rfl rfl rfl) ?_
        refine reg_nil ?_
        refine post_round ?_
        exact rnd_back (ih (w_i64 (x7 - 1)) hF) (imp_sub [] rfl (by decide) rfl rfl ⟨by kernel_rfl, by kernel_rfl, by kernel_rfl, trivial⟩ trivial rfl rfl rfl)
    · refine aw_cond_f rfl hb15 ?_
      refine aw_exit ?_
      refine post_then_exit ?_
      refine post_then_exit ?_
      obtain rfl := Option.some.inj hF
      exact post_lp_break _ ⟨_, rfl, rfl⟩ (imp_sub [] rfl (by decide) rfl rfl trivial trivial rfl rfl rfl)
  · rintro _ ⟨⟨⟩, rfl, rfl⟩
    have hF := elim_next hK23
    clear hK23
    refine post_next ?_
    refine aw_seq ?_
    refine aw_region ?_
    refine reg_cons (guard_no rfl) (op_assign rfl rfl rfl rfl) ?_
    refine reg_nil ?_
    refine post_imp (s' := ⟨19, [(4, some (.pv (.int .i64 (-1))))], [], 0, [], [], 0, []⟩) (imp_sub [] rfl (by decide) rfl rfl ⟨by kernel_rfl, trivial⟩ trivial rfl rfl rfl) ?_
    refine post_next ?_
    refine aw_ret ?_
    obtain rfl := Option.some.inj hF
    exact post_ret rfl rfl (.cons _ _ _ _ _ (.tmp _ _ rfl) (.p _) .nil) (.inl rfl)
theorem strings_LastIndexByte_ok {a0 : List UInt8} {a1 : Int} {r : Int} (hF : strings_LastIndexByte a0 a1 = some r) : Abs.Fn Try.prog 40 [.str a0, .int .u8 a1] [.p (.int .i64 r)] := by
  unfold strings_LastIndexByte at hF
  refine fn_of_body (n := 8) Try.func40 rfl rfl rfl ?_
  intro w O
  refine aw_seq ?_
  refine aw_region ?_
  refine reg_cons (guard_no rfl) (op_assign rfl rfl rfl rfl) ?_
  refine reg_nil ?_
  refine post_imp (s' := ⟨8, [(0, some (.pv (.str a0))), (1, some (.pv (.int .u8 a1)))], [], 0, [], [], 0, []⟩) (imp_sub [] rfl (by decide) rfl rfl ⟨by kernel_rfl, by kernel_rfl, trivial⟩ trivial rfl rfl rfl) ?_
  refine post_next ?_
  refine aw_seq ?_
  refine aw_region ?_
  refine reg_cons (guard_no rfl) (op_move rfl rfl rfl rfl) ?_
  refine reg_cons (guard_no rfl) (op_move rfl rfl rfl rfl) ?_
  obtain ⟨y1, h2, hF⟩ := bind_some hF
  refine reg_cons (guard_no rfl) (op_call 0 rfl (caps := []) (args := [.str a0, .int .u8 a1]) (rs := [.p (.int .i64 y1)]) rfl rfl rfl Try_cal_67 (internal_bytealg_LastIndexByteString_ok h2) rfl rfl rfl) ?_
  refine reg_cons (guard_no rfl) (op_assign rfl rfl rfl rfl) ?_
  refine reg_nil ?_
  refine post_imp (s' := ⟨8, [(4, some (.pv (.int .i64 y1)))], [], 0, [], [], 0, []⟩) (imp_sub [] rfl (by decide) rfl rfl ⟨by kernel_rfl, trivial⟩ trivial rfl rfl rfl) ?_
  refine post_next ?_
  refine aw_ret ?_
  obtain rfl := Option.some.inj hF
  exact post_ret rfl rfl (.cons _ _ _ _ _ (.tmp _ _ rfl) (.p _) .nil) (.inl rfl)
theorem place_Of_ok {a0 : List UInt8} {a1 : Int} {r : Int × Int} (hF : place_Of a0 a1 = some r) : Abs.Fn Try.prog 13 [.str a0, .int .i64 a1] [.p (.int .i64 r.1), .p (.int .i64 r.2)] := by
  unfold place_Of at hF
  refine fn_of_body (n := 22) Try.func13 rfl rfl rfl ?_
  intro w O
  refine aw_seq ?_
  refine aw_region ?_
  refine reg_cons (guard_no rfl) (op_assign rfl rfl rfl rfl) ?_
  refine reg_cons (guard_no rfl) (op_assign rfl rfl rfl rfl) ?_
  refine reg_nil ?_
  refine post_imp (s' := ⟨22, [(0, some (.pv (.str a0))), (1, some (.pv (.int .i64 a1)))], [], 0, [], [], 0, []⟩) (imp_sub [] rfl (by decide) rfl rfl ⟨by kernel_rfl, by kernel_rfl, trivial⟩ trivial rfl rfl rfl) ?_
  refine post_next ?_
  refine aw_seq ?_
  refine aw_region ?_
  refine reg_cons (guard_no rfl) (op_move rfl rfl rfl rfl) ?_
  refine reg_cons (guard_no rfl) (op_move rfl rfl rfl rfl) ?_
  refine reg_cons (guard_no rfl) (op_len_str rfl rfl Try_und_9 rfl rfl) ?_
  refine reg_cons (guard_no rfl) (op_min2 rfl rfl rfl rfl rfl) ?_
  refine reg_cons (guard_no rfl) (op_max2 rfl rfl rfl rfl rfl) ?_
  refine reg_cons (guard_no rfl) (op_assign rfl rfl rfl rfl) ?_
  refine reg_nil ?_
  refine post_imp (s' := ⟨22, [(0, some (.pv (.str a0))), (1, some (.pv (.int .i64 (if (if (a0.length : Int) < a1 then (a0.length : Int) else a1) > 0 then (if (a0.length : Int) < a1 then (a0.length : Int) else a1) else 0))))], [], 0, [], [], 0, []⟩) (imp_sub [] rfl (by decide) rfl rfl ⟨by kernel_rfl, by kernel_rfl, trivial⟩ trivial rfl rfl rfl) ?_
  refine post_next ?_
  refine aw_seq ?_
  refine aw_region ?_
  refine reg_cons (guard_no rfl) (op_move rfl rfl rfl rfl) ?_
  refine reg_cons (guard_no rfl) (op_move rfl rfl rfl rfl) ?_
  obtain ⟨y3, h4, hF⟩ := bind_some hF
  refine reg_cons (guard_no rfl) (op_slice_str (nl := none) (nh := (some (if (if (a0.length : Int) < a1 then (a0.length : Int) else a1) > 0 then (if (a0.length : Int) < a1 then (a0.length : Int) else a1) else 0))) rfl rfl rfl rfl Try_und_9 h4 rfl rfl) ?_
  refine reg_cons (guard_no rfl) (op_assign rfl rfl rfl rfl) ?_
  refine reg_nil ?_
  refine post_imp (s' := ⟨22, [(1, some (.pv (.int .i64 (if (if (a0.length : Int) < a1 then (a0.length : Int) else a1) > 0 then (if (a0.length : Int) < a1 then (a0.length : Int) else a1) else 0)))), (6, some (.pv (.str y3)))], [], 0, [], [], 0, []⟩) (imp_sub [] rfl (by decide) rfl rfl ⟨by kernel_rfl, by kernel_rfl, trivial⟩ trivial rfl rfl rfl) ?_
  refine post_next ?_
  refine aw_seq ?_
  refine aw_region ?_
  refine reg_cons (guard_no rfl) (op_move rfl rfl rfl rfl) ?_
  obtain ⟨y5, h6, hF⟩ := bind_some hF
  refine reg_cons (guard_no rfl) (op_call 0 rfl (caps := []) (args := [.str y3, .str [10]]) (rs := [.p (.int .i64 y5)]) rfl rfl rfl Try_cal_38 (strings_Count_ok h6) rfl rfl rfl) ?_
  refine reg_cons (guard_no rfl) (op_int (k := .i64) (m := y5) (n := 1) rfl rfl rfl rfl rfl rfl) ?_
  refine reg_cons (guard_no rfl) (op_move rfl rfl rfl rfl) ?_
  refine reg_cons (guard_no rfl) (op_move rfl rfl rfl rfl) ?_
  obtain ⟨y7, h8, hF⟩ := bind_some hF
  refine reg_cons (guard_no rfl) (op_call 0 rfl (caps := []) (args := [.str y3, .int .u8 10]) (rs := [.p (.int .i64 y7)]) rfl rfl rfl Try_cal_40 (strings_LastIndexByte_ok h8) rfl rfl rfl) ?_
  refine reg_cons (guard_no rfl) (op_int (k := .i64) (m := (if (if (a0.length : Int) < a1 then (a0.length : Int) else a1) > 0 then (if (a0.length : Int) < a1 then (a0.length : Int) else a1) else 0)) (n := y7) rfl rfl rfl rfl rfl rfl) ?_
  refine reg_cons (guard_no rfl) (op_assign rfl rfl rfl rfl) ?_
  refine reg_cons (guard_no rfl) (op_assign rfl rfl rfl rfl) ?_
  refine reg_nil ?_
  refine post_imp (s' := ⟨22, [(4, some (.pv (.int .i64 (w_i64 (y5 + 1))))), (5, some (.pv (.int .i64 (w_i64 ((if (if (a0.length : Int) < a1 then (a0.length : Int) else a1) > 0 then (if (a0.length : Int) < a1 then (a0.length : Int) else a1) else 0) - y7)))))], [], 0, [], [], 0, []⟩) (imp_sub [] rfl (by decide) rfl rfl ⟨by kernel_rfl, by kernel_rfl, trivial⟩ trivial rfl rfl rfl) ?_
  refine post_next ?_
  refine aw_ret ?_
  obtain rfl := Option.some.inj hF
  exact post_ret rfl rfl (.cons _ _ _ _ _ (.tmp _ _ rfl) (.p _) (.cons _ _ _ _ _ (.tmp _ _ rfl) (.p _) .nil)) (.inl rfl)
theorem law01_awake_ok  {r : Bool} (hF : law01_awake = some r) : Abs.Fn Try.prog 10 [] [.p (.bool r)] := by
  unfold law01_awake at hF
  refine fn_of_body (n := 27) Try.func10 rfl rfl rfl ?_
  intro w O
  refine aw_seq ?_
  refine aw_region ?_
  refine reg_cons (guard_no rfl) (op_assign rfl rfl rfl rfl) ?_
  refine reg_nil ?_
  refine post_imp (s' := ⟨27, [], [], 0, [], [], 0, []⟩) (imp_sub [] rfl (by decide) rfl rfl trivial trivial rfl rfl rfl) ?_
  refine post_next ?_
  refine aw_seq ?_
  refine aw_region ?_
  obtain ⟨y3, h4, hF⟩ := bind_some hF
  refine reg_cons (guard_no rfl) (op_call 0 rfl (caps := []) (args := [.str [97, 98, 10, 99], .int .i64 3]) (rs := [.p (.int .i64 y3.1), .p (.int .i64 y3.2)]) rfl rfl rfl Try_cal_13 (place_Of_ok h4) rfl rfl rfl) ?_
  refine reg_cons (guard_no rfl) (op_move rfl rfl rfl rfl) ?_
  refine reg_cons (guard_no rfl) (op_extract rfl rfl rfl rfl rfl) ?_
  refine reg_cons (guard_no rfl) (op_extract rfl rfl rfl rfl rfl) ?_
  refine reg_cons (guard_no rfl) (op_assign rfl rfl rfl rfl) ?_
  refine reg_cons (guard_no rfl) (op_assign rfl rfl rfl rfl) ?_
  refine reg_nil ?_
  refine post_imp (s' := ⟨27, [(1, some (.pv (.int .i64 y3.1))), (2, some (.pv (.int .i64 y3.2)))], [], 0, [], [], 0, []⟩) (imp_sub [] rfl (by decide) rfl rfl ⟨by kernel_rfl, by kernel_rfl, trivial⟩ trivial rfl rfl rfl) ?_
  refine post_next ?_
  refine aw_seq ?_
  refine aw_region ?_
  obtain ⟨y7, h8, hF⟩ := bind_some hF
  refine reg_cons (guard_no rfl) (op_call 0 rfl (caps := []) (args := [.str [97, 98, 10, 99], .int .i64 2]) (rs := [.p (.int .i64 y7.1), .p (.int .i64 y7.2)]) rfl rfl rfl Try_cal_13 (place_Of_ok h8) rfl rfl rfl) ?_
  refine reg_cons (guard_no rfl) (op_move rfl rfl rfl rfl) ?_
  refine reg_cons (guard_no rfl) (op_extract rfl rfl rfl rfl rfl) ?_
  refine reg_cons (guard_no rfl) (op_extract rfl rfl rfl rfl rfl) ?_
  refine reg_cons (guard_no rfl) (op_assign rfl rfl rfl rfl) ?_
  refine reg_cons (guard_no rfl) (op_assign rfl rfl rfl rfl) ?_
  refine reg_nil ?_
  refine post_imp (s' := ⟨27, [(1, some (.pv (.int .i64 y3.1))), (2, some (.pv (.int .i64 y3.2))), (3, some (.pv (.int .i64 y7.1))), (4, some (.pv (.int .i64 y7.2)))], [], 0, [], [], 0, []⟩) (imp_sub [] rfl (by decide) rfl rfl ⟨by kernel_rfl, by kernel_rfl, by kernel_rfl, by kernel_rfl, trivial⟩ trivial rfl rfl rfl) ?_
  refine post_next ?_
  refine aw_seq ?_
  refine aw_region ?_
  refine reg_cons (guard_no rfl) (op_move rfl rfl rfl rfl) ?_
  refine reg_cons (guard_no rfl) (op_int (k := .i64) (m := y3.1) (n := 2) rfl rfl rfl rfl rfl rfl) ?_
  refine reg_cons (guard_no rfl) (op_move rfl rfl rfl rfl) ?_
  rcases ite_some hF with ⟨hb9, hF⟩ | ⟨hb9, hF⟩
  · refine reg_cons (guard_on rfl rfl rfl rfl hb9) (op_move rfl rfl rfl rfl) ?_
    refine reg_cons (guard_on rfl rfl rfl rfl hb9) (op_int (k := .i64) (m := y3.2) (n := 1) rfl rfl rfl rfl rfl rfl) ?_
    refine reg_cons (guard_no rfl) (op_pick_t rfl rfl hb9 rfl rfl rfl) ?_
    refine reg_cons (guard_no rfl) (op_move rfl rfl rfl rfl) ?_
    rcases ite_some hF with ⟨hb10, hF⟩ | ⟨hb10, hF⟩
    · refine reg_cons (guard_on rfl rfl rfl rfl hb10) (op_move rfl rfl rfl rfl) ?_
      refine reg_cons (guard_on rfl rfl rfl rfl hb10) (op_int (k := .i64) (m := y7.1) (n := 1) rfl rfl rfl rfl rfl rfl) ?_
      refine reg_cons (guard_no rfl) (op_pick_t rfl rfl hb10 rfl rfl rfl) ?_
      refine reg_cons (guard_no rfl) (op_move rfl rfl rfl rfl) ?_
      rcases ite_some hF with ⟨hb11, hF⟩ | ⟨hb11, hF⟩
      · refine reg_cons (guard_on rfl rfl rfl rfl hb11) (op_move rfl rfl rfl rfl) ?_
        refine reg_cons (guard_on rfl rfl rfl rfl hb11) (op_int (k := .i64) (m := y7.2) (n := 3) rfl rfl rfl rfl rfl rfl) ?_
        refine reg_cons (guard_no rfl) (op_pick_t rfl rfl hb11 rfl rfl rfl) ?_
        refine reg_cons (guard_no rfl) (op_assign rfl rfl rfl rfl) ?_
        refine reg_nil ?_
        refine post_imp (s' := ⟨27, [(0, some (.pv (.bool (y7.2 == 3))))], [], 0, [], [], 0, []⟩) (imp_sub [] rfl (by decide) rfl rfl ⟨by kernel_rfl, trivial⟩ trivial rfl rfl rfl) ?_
        refine post_next ?_
        refine aw_ret ?_
        obtain rfl := Option.some.inj hF
        exact post_ret rfl rfl (.cons _ _ _ _ _ (.tmp _ _ rfl) (.p _) .nil) (.inl rfl)
      · refine reg_off (guard_off rfl rfl rfl rfl hb11) rfl rfl ?_
        refine reg_off (guard_off rfl rfl rfl rfl hb11) rfl rfl ?_
        refine reg_cons (guard_no rfl) (op_pick_f rfl rfl hb11 rfl rfl rfl) ?_
        refine reg_cons (guard_no rfl) (op_assign rfl rfl rfl rfl) ?_
        refine reg_nil ?_
        refine post_imp (s' := ⟨27, [(0, some (.pv (.bool false)))], [], 0, [], [], 0, []⟩) (imp_sub [] rfl (by decide) rfl rfl ⟨by kernel_rfl, trivial⟩ trivial rfl rfl rfl) ?_
        refine post_next ?_
        refine aw_ret ?_
        obtain rfl := Option.some.inj hF
        exact post_ret rfl rfl (.cons _ _ _ _ _ (.tmp _ _ rfl) (.p _) .nil) (.inl rfl)
    · refine reg_off (guard_off rfl rfl rfl rfl hb10) rfl rfl ?_
      refine reg_off (guard_off rfl rfl rfl rfl hb10) rfl rfl ?_
      refine reg_cons (guard_no rfl) (op_pick_f rfl rfl hb10 rfl rfl rfl) ?_
      refine reg_cons (guard_no rfl) (op_move rfl rfl rfl rfl) ?_
      refine reg_off (guard_off rfl rfl rfl rfl rfl) rfl rfl ?_
      refine reg_off (guard_off rfl rfl rfl rfl rfl) rfl rfl ?_
      refine reg_cons (guard_no rfl) (op_pick_f rfl rfl rfl rfl rfl rfl) ?_
      refine reg_cons (guard_no rfl) (op_assign rfl rfl rfl rfl) ?_
      refine reg_nil ?_
      refine post_imp (s' := ⟨27, [(0, some (.pv (.bool false)))], [], 0, [], [], 0, []⟩) (imp_sub [] rfl (by decide) rfl rfl ⟨by kernel_rfl, trivial⟩ trivial rfl rfl rfl) ?_
      refine post_next ?_
      refine aw_ret ?_
      obtain rfl := Option.some.inj hF
      exact post_ret rfl rfl (.cons _ _ _ _ _ (.tmp _ _ rfl) (.p _) .nil) (.inl rfl)
  · refine reg_off (guard_off rfl rfl rfl rfl hb9) rfl rfl ?_
    refine reg_off (guard_off rfl rfl rfl rfl hb9) rfl rfl ?_
    refine reg_cons (guard_no rfl) (op_pick_f rfl rfl hb9 rfl rfl rfl) ?_
    refine reg_cons (guard_no rfl) (op_move rfl rfl rfl rfl) ?_
    refine reg_off (guard_off rfl rfl rfl rfl rfl) rfl rfl ?_
    refine reg_off (guard_off rfl rfl rfl rfl rfl) rfl rfl ?_
    refine reg_cons (guard_no rfl) (op_pick_f rfl rfl rfl rfl rfl rfl) ?_
    refine reg_cons (guard_no rfl) (op_move rfl rfl rfl rfl) ?_
    refine reg_off (guard_off rfl rfl rfl rfl rfl) rfl rfl ?_
    refine reg_off (guard_off rfl rfl rfl rfl rfl) rfl rfl ?_
    refine reg_cons (guard_no rfl) (op_pick_f rfl rfl rfl rfl rfl rfl) ?_
    refine reg_cons (guard_no rfl) (op_assign rfl rfl rfl rfl) ?_
    refine reg_nil ?_
    refine post_imp (s' := ⟨27, [(0, some (.pv (.bool false)))], [], 0, [], [], 0, []⟩) (imp_sub [] rfl (by decide) rfl rfl ⟨by kernel_rfl, trivial⟩ trivial rfl rfl rfl) ?_
    refine post_next ?_
    refine aw_ret ?_
    obtain rfl := Option.some.inj hF
    exact post_ret rfl rfl (.cons _ _ _ _ _ (.tmp _ _ rfl) (.p _) .nil) (.inl rfl)
theorem place_Lines_ok {a0 : List UInt8} {r : Int} (hF : place_Lines a0 = some r) : Abs.Fn Try.prog 11 [.str a0] [.p (.int .i64 r)] := by
  unfold place_Lines at hF
  refine fn_of_body (n := 6) Try.func11 rfl rfl rfl ?_
  intro w O
  refine aw_seq ?_
  refine aw_region ?_
  refine reg_cons (guard_no rfl) (op_assign rfl rfl rfl rfl) ?_
  refine reg_nil ?_
  refine post_imp (s' := ⟨6, [(0, some (.pv (.str a0)))], [], 0, [], [], 0, []⟩) (imp_sub [] rfl (by decide) rfl rfl ⟨by kernel_rfl, trivial⟩ trivial rfl rfl rfl) ?_
  refine post_next ?_
  refine aw_seq ?_
  refine aw_region ?_
  refine reg_cons (guard_no rfl) (op_move rfl rfl rfl rfl) ?_
  obtain ⟨y1, h2, hF⟩ := bind_some hF
  refine reg_cons (guard_no rfl) (op_call 0 rfl (caps := []) (args := [.str a0, .str [10]]) (rs := [.p (.int .i64 y1)]) rfl rfl rfl Try_cal_38 (strings_Count_ok h2) rfl rfl rfl) ?_
  refine reg_cons (guard_no rfl) (op_int (k := .i64) (m := y1) (n := 1) rfl rfl rfl rfl rfl rfl) ?_
  refine reg_cons (guard_no rfl) (op_assign rfl rfl rfl rfl) ?_
  refine reg_nil ?_
  refine post_imp (s' := ⟨6, [(2, some (.pv (.int .i64 (w_i64 (y1 + 1)))))], [], 0, [], [], 0, []⟩) (imp_sub [] rfl (by decide) rfl rfl ⟨by kernel_rfl, trivial⟩ trivial rfl rfl rfl) ?_
  refine post_next ?_
  refine aw_ret ?_
  obtain rfl := Option.some.inj hF
  exact post_ret rfl rfl (.cons _ _ _ _ _ (.tmp _ _ rfl) (.p _) .nil) (.inl rfl)
theorem place_lines_ok {a0 : List UInt8} {r : (List UInt8)} (hF : place_lines a0 = some r) : Abs.Fn Try.prog 66 [.str a0] [.p (.fn 86 [.vp (eS r)])] := by
  unfold place_lines at hF
  refine fn_of_body (n := 4) Try.func66 rfl rfl rfl ?_
  intro w O
  refine aw_seq ?_
  refine aw_region ?_
  refine reg_cons (guard_no rfl) (op_box 0 rfl rfl rfl rfl rfl rfl) ?_
  refine reg_cons (guard_no rfl) (op_assign rfl rfl rfl rfl) ?_
  refine reg_nil ?_
  refine post_imp (s' := ⟨4, [(1, some (.lp 0 0))], [(0, some (.box 9 [.pv (.str a0)]))], 1, [], [], 0, []⟩) (imp_sub [0] rfl (by decide) rfl rfl ⟨by kernel_rfl, trivial⟩ ⟨by kernel_rfl, trivial⟩ rfl rfl rfl) ?_
  refine post_next ?_
  refine aw_seq ?_
  refine aw_region ?_
  refine reg_cons (guard_no rfl) (op_makeFunc rfl rfl rfl rfl) ?_
  refine reg_cons (guard_no rfl) (op_assign rfl rfl rfl rfl) ?_
  refine reg_nil ?_
  refine post_imp (s' := ⟨4, [(2, some (.fn 86 [.lp 0 0]))], [(0, some (.box 9 [.pv (.str a0)]))], 1, [], [], 0, []⟩) (imp_sub [0] rfl (by decide) rfl rfl ⟨by kernel_rfl, trivial⟩ ⟨by kernel_rfl, trivial⟩ rfl rfl rfl) ?_
  refine post_next ?_
  refine aw_ret ?_
  refine post_imp (imp_freeze [(0, some (.box 9 [.pv (.str a0)]))] [(2, some (.pv (.fn 86 [.vp (eS a0)])))] (FzH.spec ⟨rfl, trivial⟩) ⟨⟨_, rfl, rfl⟩, trivial⟩) ?_
  obtain rfl := Option.some.inj hF
  exact post_ret rfl rfl (.cons _ _ _ _ _ (.tmp _ _ rfl) (.p _) .nil) (.inl rfl)
theorem strings_IndexByte_ok {a0 : List UInt8} {a1 : Int} {r : Int} (hF : strings_IndexByte a0 a1 = some r) : Abs.Fn Try.prog 87 [.str a0, .int .u8 a1] [.p (.int .i64 r)] := by
  unfold strings_IndexByte at hF
  refine fn_of_body (n := 8) Try.func87 rfl rfl rfl ?_
  intro w O
  refine aw_seq ?_
  refine aw_region ?_
  refine reg_cons (guard_no rfl) (op_assign rfl rfl rfl rfl) ?_
  refine reg_nil ?_
  refine post_imp (s' := ⟨8, [(0, some (.pv (.str a0))), (1, some (.pv (.int .u8 a1)))], [], 0, [], [], 0, []⟩) (imp_sub [] rfl (by decide) rfl rfl ⟨by kernel_rfl, by kernel_rfl, trivial⟩ trivial rfl rfl rfl) ?_
  refine post_next ?_
  refine aw_seq ?_
  refine aw_region ?_
  refine reg_cons (guard_no rfl) (op_move rfl rfl rfl rfl) ?_
  refine reg_cons (guard_no rfl) (op_move rfl rfl rfl rfl) ?_
  obtain ⟨y1, h2, hF⟩ := bind_some hF
  refine reg_cons (guard_no rfl) (op_call 0 rfl (caps := []) (args := [.str a0, .int .u8 a1]) (rs := [.p (.int .i64 y1)]) rfl rfl rfl Try_cal_100 (internal_stringslite_IndexByte_ok h2) rfl rfl rfl) ?_
  refine reg_cons (guard_no rfl) (op_assign rfl rfl rfl rfl) ?_
  refine reg_nil ?_
  refine post_imp (s' := ⟨8, [(4, some (.pv (.int .i64 y1)))], [], 0, [], [], 0, []⟩) (imp_sub [] rfl (by decide) rfl rfl ⟨by kernel_rfl, trivial⟩ trivial rfl rfl rfl) ?_
  refine post_next ?_
  refine aw_ret ?_
  obtain rfl := Option.some.inj hF
  exact post_ret rfl rfl (.cons _ _ _ _ _ (.tmp _ _ rfl) (.p _) .nil) (.inl rfl)
theorem place_lines_1_it {rows : List (Gline_place)} {sp : Nat} {c0 : List UInt8} (hF : place_lines_1 rows sp c0 = some (min (sp + 1) rows.length)) : It Try.prog 86 1 [.vp (eS c0)] none [] (rows.map (fun z : Gline_place => ([.agg (eGline_place z)] : List PV))) sp := by
  unfold place_lines_1 at hF
  refine it_of_body (n := 34) Try.func86 rfl rfl rfl ?_
  intro l c hcx
  refine aw_seq ?_
  refine aw_region ?_
  refine reg_cons (guard_no rfl) (op_assign rfl rfl rfl rfl) ?_
  refine reg_nil ?_
  refine post_imp (s' := ⟨34, [(0, some (.pv (.yld l))), (1, some (.pv (.vp (eS c0)))), (3, some (.pv (.int .i64 0)))], [], 0, [], [], 0, []⟩) (imp_sub [] rfl (by decide) rfl rfl ⟨by kernel_rfl, by kernel_rfl, by kernel_rfl, trivial⟩ trivial rfl rfl rfl) ?_
  refine post_next ?_
  refine aw_seq ?_
  refine aw_region ?_
  refine reg_cons (guard_no rfl) (op_assign rfl rfl rfl rfl) ?_
  refine reg_nil ?_
  refine post_imp (s' := ⟨34, [(0, some (.pv (.yld l))), (1, some (.pv (.vp (eS c0)))), (3, some (.pv (.int .i64 0))), (4, some (.pv (.int .i64 1)))], [], 0, [], [], 0, []⟩) (imp_sub [] rfl (by decide) rfl rfl ⟨by kernel_rfl, by kernel_rfl, by kernel_rfl, by kernel_rfl, trivial⟩ trivial rfl rfl rfl) ?_
  refine post_next ?_
  obtain ⟨lr58, hF, hK59⟩ := bind_some hF
  refine aw_for (c0.length + 2) (fun _ => False) ?_ ?_
  · refine rnd_loop (α := Nat × Int × Int) (fun q => ⟨34, [(0, some (.pv (.yld l))), (1, some (.pv (.vp (eS c0)))), (3, some (.pv (.int .i64 q.2.1))), (4, some (.pv (.int .i64 q.2.2)))], [], 0, [], [], q.1, []⟩) (fun k q => place_lines_1_L1 c0 sp rows k q.1 q.2.1 q.2.2 = some lr58) (0, 0, 1) (imp_sub [] rfl (by decide) rfl rfl ⟨by kernel_rfl, by kernel_rfl, by kernel_rfl, by kernel_rfl, trivial⟩ trivial rfl rfl rfl) hF (fun q h => by cases h) ?_
    clear hF
    rintro k ⟨x17, x18, x19⟩ hF ih
    refine rnd_succ ?_
    refine aw_seq ?_
    refine aw_block ?_
    refine aw_seq ?_
    refine aw_region ?_
    refine reg_cons (guard_no rfl) (op_load_vp (p := .str c0) rfl rfl rfl Try_one_9 rfl rfl) ?_
    refine reg_cons (guard_no rfl) (op_move rfl rfl rfl rfl) ?_
    obtain ⟨y43, h44, hF⟩ := bind_some hF
    refine reg_cons (guard_no rfl) (op_slice_str (nl := (some x18)) (nh := none) rfl rfl rfl rfl Try_und_9 h44 rfl rfl) ?_
    obtain ⟨y45, h46, hF⟩ := bind_some hF
    refine reg_cons (guard_no rfl) (op_call 0 rfl (caps := []) (args := [.str y43, .int .u8 10]) (rs := [.p (.int .i64 y45)]) rfl rfl rfl Try_cal_87 (strings_IndexByte_ok h46) rfl rfl rfl) ?_
    refine reg_cons (guard_no rfl) (op_assign rfl rfl rfl rfl) ?_
    refine reg_nil ?_
    refine post_imp (s' := ⟨34, [(0, some (.pv (.yld l))), (1, some (.pv (.vp (eS c0)))), (3, some (.pv (.int .i64 x18))), (4, some (.pv (.int .i64 x19))), (5, some (.pv (.int .i64 y45)))], [], 0, [], [], x17, []⟩) (imp_sub [] rfl (by decide) rfl rfl ⟨by kernel_rfl, by kernel_rfl, by kernel_rfl, by kernel_rfl, by kernel_rfl, trivial⟩ trivial rfl rfl rfl) ?_
    refine post_next ?_
    refine aw_seq ?_
    refine aw_seq ?_
    refine aw_region ?_
    refine reg_cons (guard_no rfl) (op_move rfl rfl rfl rfl) ?_
    refine reg_cons (guard_no rfl) (op_int (k := .i64) (m := y45) (n := 0) rfl rfl rfl rfl rfl rfl) ?_
    refine reg_nil ?_
    refine post_imp (s' := ⟨34, [(0, some (.pv (.yld l))), (1, some (.pv (.vp (eS c0)))), (3, some (.pv (.int .i64 x18))), (4, some (.pv (.int .i64 x19))), (5, some (.pv (.int .i64 y45))), (13, some (.pv (.bool (decide (y45 < 0)))))], [], 0, [], [], x17, []⟩) (imp_sub [] rfl (by decide) rfl rfl ⟨by kernel_rfl, by kernel_rfl, by kernel_rfl, by kernel_rfl, by kernel_rfl, by kernel_rfl, trivial⟩ trivial rfl rfl rfl) ?_
    refine post_next ?_
    rcases ite_some hF with ⟨hb47, hF⟩ | ⟨hb47, hF⟩
    · refine aw_cond_t rfl hb47 ?_
      refine aw_seq ?_
      refine aw_region ?_
      refine reg_cons (guard_no rfl) (op_move rfl rfl rfl rfl) ?_
      refine reg_cons (guard_no rfl) (op_move rfl rfl rfl rfl) ?_
      refine reg_cons (guard_no rfl) (op_move rfl rfl rfl rfl) ?_
      refine reg_cons (guard_no rfl) (op_load_vp (p := .str c0) rfl rfl rfl Try_one_9 rfl rfl) ?_
      refine reg_cons (guard_no rfl) (op_len_str rfl rfl Try_und_9 rfl rfl) ?_
      refine reg_cons (guard_no rfl) (op_build (zs := [.int .i64 (({ fn := 0, ffrom := 0, fto := 0 } : Gline_place).fn), .int .i64 (({ fn := 0, ffrom := 0, fto := 0 } : Gline_place).ffrom), .int .i64 (({ fn := 0, ffrom := 0, fto := 0 } : Gline_place).fto)]) (r := eGline_place ({ fn := x19, ffrom := x18, fto := (c0.length : Int) } : Gline_place)) rfl Try_zer_79 (by exact ⟨rfl, rfl, rfl, trivial⟩) Try_plc_79 rfl rfl rfl rfl) ?_
      obtain ⟨u48, h49, hF⟩ := bind_some hF
      refine reg_cons (guard_no rfl) (op_yield (row := (fun z : Gline_place => ([.agg (eGline_place z)] : List PV)) ({ fn := x19, ffrom := x18, fto := (c0.length : Int) } : Gline_place)) hcx rfl rfl rfl rfl (yck_row (fun z : Gline_place => ([.agg (eGline_place z)] : List PV)) h49) (yck_spec h49).2 rfl rfl) ?_
      refine reg_nil ?_
      refine post_imp (s' := ⟨34, [], [], 0, [], [], (x17 + 1), []⟩) (imp_sub [] rfl (by decide) rfl rfl trivial trivial rfl rfl rfl) ?_
      refine post_next ?_
      refine aw_ret ?_
      refine post_then_ret ?_
      refine post_block_ret ?_
      refine post_then_ret ?_
      refine post_then_ret ?_
      refine post_lp_ret ?_
      obtain rfl := Option.some.inj hF
      have hF := elim_stop hK59
      exact post_it (it_len hF) rfl (.inl rfl)
    · refine aw_cond_f rfl hb47 ?_
      refine aw_skip ?_
      refine post_next ?_
      refine aw_seq ?_
      refine aw_seq ?_
      refine aw_region ?_
      refine reg_cons (guard_no rfl) (op_move rfl rfl rfl rfl) ?_
      refine reg_cons (guard_no rfl) (op_move rfl rfl rfl rfl) ?_
      refine reg_cons (guard_no rfl) (op_move rfl rfl rfl rfl) ?_
      refine reg_cons (guard_no rfl) (op_move rfl rfl rfl rfl) ?_
      refine reg_cons (guard_no rfl) (op_move rfl rfl rfl rfl) ?_
      refine reg_cons (guard_no rfl) (op_int (k := .i64) (m := x18) (n := y45) rfl rfl rfl rfl rfl rfl) ?_
      refine reg_cons (guard_no rfl) (op_build (zs := [.int .i64 (({ fn := 0, ffrom := 0, fto := 0 } : Gline_place).fn), .int .i64 (({ fn := 0, ffrom := 0, fto := 0 } : Gline_place).ffrom), .int .i64 (({ fn := 0, ffrom := 0, fto := 0 } : Gline_place).fto)]) (r := eGline_place ({ fn := x19, ffrom := x18, fto := w_i64 (x18 + y45) } : Gline_place)) rfl Try_zer_79 (by exact ⟨rfl, rfl, rfl, trivial⟩) Try_plc_79 rfl rfl rfl rfl) ?_
      obtain ⟨u52, h53, hF⟩ := bind_some hF
      refine reg_cons (guard_no rfl) (op_yield (row := (fun z : Gline_place => ([.agg (eGline_place z)] : List PV)) ({ fn := x19, ffrom := x18, fto := w_i64 (x18 + y45) } : Gline_place)) hcx rfl rfl rfl rfl (yck_row (fun z : Gline_place => ([.agg (eGline_place z)] : List PV)) h53) (yck_spec h53).2 rfl rfl) ?_
      refine reg_cons (guard_no rfl) (op_not rfl rfl rfl rfl) ?_
      refine reg_nil ?_
      refine post_imp (s' := ⟨34, [(0, some (.pv (.yld l))), (1, some (.pv (.vp (eS c0)))), (3, some (.pv (.int .i64 x18))), (4, some (.pv (.int .i64 x19))), (5, some (.pv (.int .i64 y45))), (29, some (.pv (.bool (!(!(x17 == sp))))))], [], 0, [], [], (x17 + 1), []⟩) (imp_sub [] rfl (by decide) rfl rfl ⟨by kernel_rfl, by kernel_rfl, by kernel_rfl, by kernel_rfl, by kernel_rfl, by kernel_rfl, trivial⟩ trivial rfl rfl rfl) ?_
      refine post_next ?_
      rcases ite_some hF with ⟨hb54, hF⟩ | ⟨hb54, hF⟩
      · refine aw_cond_t rfl hb54 ?_
        refine aw_ret ?_
        refine post_then_ret ?_
        refine post_block_ret ?_
        refine post_then_ret ?_
        refine post_then_ret ?_
        refine post_lp_ret ?_
        obtain rfl := Option.some.inj hF
        have hF := elim_stop hK59
        exact post_it (it_len hF) rfl (.inl rfl)
      · refine aw_cond_f rfl hb54 ?_
        refine aw_skip ?_
        refine post_next ?_
        refine aw_region ?_
        refine reg_cons (guard_no rfl) (op_move rfl rfl rfl rfl) ?_
        refine reg_cons (guard_no rfl) (op_move rfl rfl rfl rfl) ?_
        refine reg_cons (guard_no rfl) (op_int (k := .i64) (m := y45) (n := 1) rfl rfl rfl rfl rfl rfl) ?_
        refine reg_cons (guard_no rfl) (op_int (k := .i64) (m := x18) (n := w_i64 (y45 + 1)) rfl rfl rfl rfl rfl rfl) ?_
        refine reg_cons (guard_no rfl) (op_assign rfl rfl rfl rfl) ?_
        refine reg_nil ?_
        refine post_imp (s' := ⟨34, [(0, some (.pv (.yld l))), (1, some (.pv (.vp (eS c0)))), (3, some (.pv (.int .i64 (w_i64 (x18 + (w_i64 (y45 + 1))))))), (4, some (.pv (.int .i64 x19)))], [], 0, [], [], (x17 + 1), []⟩) (imp_sub [] rfl (by decide) rfl rfl ⟨by kernel_rfl, by kernel_rfl, by kernel_rfl, by kernel_rfl, trivial⟩ trivial rfl rfl rfl) ?_
        refine post_block_normal ?_
        refine post_next ?_
        refine aw_region ?_
        refine reg_cons (guard_no rfl) (op_move rfl rfl rfl rfl) ?_
        refine reg_cons (guard_no rfl) (op_int (k := .i64) (m := x19) (n := 1) rfl rfl rfl rfl rfl rfl) ?_
        refine reg_cons (guard_no rfl) (op_assign rfl rfl rfl rfl) ?_
        refine reg_nil ?_
        refine post_round ?_
        exact rnd_back (ih ((x17 + 1), w_i64 (x18 + (w_i64 (y45 + 1))), w_i64 (x19 + 1)) hF) (imp_sub [] rfl (by decide) rfl rfl ⟨by kernel_rfl, by kernel_rfl, by kernel_rfl, by kernel_rfl, trivial⟩ trivial rfl rfl rfl)
  · intro _ h
    exact h.elim

theorem place_find_ok {a0 : List UInt8} {a1 : Int} {r : Gline_place × Bool} (hF : place_find a0 a1 = some r) : Abs.Fn Try.prog 39 [.str a0, .int .i64 a1] [.p (.agg (eGline_place r.1)), .p (.bool r.2)] := by
  unfold place_find at hF
  refine fn_of_body (n := 16) Try.func39 rfl rfl rfl ?_
  intro w O
  refine aw_seq ?_
  refine aw_region ?_
  refine reg_cons (guard_no rfl) (op_box 0 rfl rfl rfl rfl rfl rfl) ?_
  refine reg_cons (guard_no rfl) (op_alloc 1 rfl (ps := [.int .i64 (({ fn := 0, ffrom := 0, fto := 0 } : Gline_place).fn), .int .i64 (({ fn := 0, ffrom := 0, fto := 0 } : Gline_place).ffrom), .int .i64 (({ fn := 0, ffrom := 0, fto := 0 } : Gline_place).fto)]) rfl Try_zer_79 (by exact ⟨rfl, rfl, rfl, trivial⟩) rfl rfl) ?_
  refine reg_cons (guard_no rfl) (op_alloc 2 rfl (ps := [.bool false]) rfl Try_zer_4 (by exact ⟨rfl, trivial⟩) rfl rfl) ?_
  refine reg_nil ?_
  refine post_imp (s' := ⟨16, [(0, some (.pv (.str a0))), (3, some (.lp 0 0)), (4, some (.lp 1 0)), (5, some (.lp 2 0))], [(0, some (.box 3 [.pv (.int .i64 a1)])), (1, some (.box 79 [.pv (.int .i64 (({ fn := 0, ffrom := 0, fto := 0 } : Gline_place).fn)), .pv (.int .i64 (({ fn := 0, ffrom := 0, fto := 0 } : Gline_place).ffrom)), .pv (.int .i64 (({ fn := 0, ffrom := 0, fto := 0 } : Gline_place).fto))])), (2, some (.box 4 [.pv (.bool false)]))], 3, [], [], 0, []⟩) (imp_sub [0, 1, 2] rfl (by decide) rfl rfl ⟨by kernel_rfl, by kernel_rfl, by kernel_rfl, by kernel_rfl, trivial⟩ ⟨by kernel_rfl, by kernel_rfl, by kernel_rfl, trivial⟩ rfl rfl rfl) ?_
  refine post_next ?_
  refine aw_seq ?_
  refine aw_seq ?_
  refine aw_region ?_
  refine reg_cons (guard_no rfl) (op_move rfl rfl rfl rfl) ?_
  obtain ⟨y3, h4, hF⟩ := bind_some hF
  refine reg_cons (guard_no rfl) (op_call 3 rfl (caps := []) (args := [.str a0]) (rs := [.p (.fn 86 [.vp (eS y3)])]) rfl rfl rfl Try_cal_66 (place_lines_ok h4) rfl rfl rfl) ?_
  refine reg_nil ?_
  refine post_imp (s' := ⟨16, [(3, some (.lp 0 0)), (4, some (.lp 1 0)), (5, some (.lp 2 0)), (8, some (.pv (.fn 86 [.vp (eS y3)])))], [(0, some (.box 3 [.pv (.int .i64 a1)])), (1, some (.box 79 [.pv (.int .i64 (({ fn := 0, ffrom := 0, fto := 0 } : Gline_place).fn)), .pv (.int .i64 (({ fn := 0, ffrom := 0, fto := 0 } : Gline_place).ffrom)), .pv (.int .i64 (({ fn := 0, ffrom := 0, fto := 0 } : Gline_place).fto))])), (2, some (.box 4 [.pv (.bool false)]))], 3, [], [], 0, []⟩) (imp_sub [0, 1, 2] rfl (by decide) rfl rfl ⟨by kernel_rfl, by kernel_rfl, by kernel_rfl, by kernel_rfl, trivial⟩ ⟨by kernel_rfl, by kernel_rfl, by kernel_rfl, trivial⟩ rfl rfl rfl) ?_
  refine post_next ?_
  refine aw_block ?_
  refine aw_imp (s' := ⟨16, [(3, some (.lp 0 0)), (4, some (.lp 1 0)), (5, some (.lp 2 0)), (8, some (.pv (.fn 86 [.vp (eS y3)])))], [(0, some (.box 3 [.pv (.int .i64 a1)])), (1, some (.box 79 [.pv (.int .i64 (({ fn := 0, ffrom := 0, fto := 0 } : Gline_place).fn)), .pv (.int .i64 (({ fn := 0, ffrom := 0, fto := 0 } : Gline_place).ffrom)), .pv (.int .i64 (({ fn := 0, ffrom := 0, fto := 0 } : Gline_place).fto))])), (2, some (.box 4 [.pv (.bool false)]))], 3, [], [], 0, []⟩) (imp_sub [0, 1, 2] rfl (by decide) rfl rfl ⟨by kernel_rfl, by kernel_rfl, by kernel_rfl, by kernel_rfl, trivial⟩ ⟨by kernel_rfl, by kernel_rfl, by kernel_rfl, trivial⟩ rfl rfl rfl) ?_
  obtain ⟨rows12, hR13, hF⟩ := bind_some hF
  obtain ⟨lr14, hL15, hF⟩ := bind_some hF
  refine aw_rangeFunc (X := Gline_place) (Q := Unit) (E := Gline_place) (pre := [.vp (eS y3)]) (bx := none) (post := []) (kt := [3, 4, 5]) (psl := [9]) none (fun z : Gline_place => ([.agg (eGline_place z)] : List PV)) rows12 (place_find_B1 a1) () lr14 hL15 (fun q => ⟨16, [(3, some (.lp 0 0)), (4, some (.lp 1 0)), (5, some (.lp 2 0))], [(0, some (.box 3 [.pv (.int .i64 a1)])), (1, some (.box 79 [.pv (.int .i64 (({ fn := 0, ffrom := 0, fto := 0 } : Gline_place).fn)), .pv (.int .i64 (({ fn := 0, ffrom := 0, fto := 0 } : Gline_place).ffrom)), .pv (.int .i64 (({ fn := 0, ffrom := 0, fto := 0 } : Gline_place).fto))])), (2, some (.box 4 [.pv (.bool false)]))], 3, [], [], 0, []⟩) (fun z => (.ret, ⟨16, [(4, some (.lp 0 0)), (5, some (.lp 1 0))], [(0, some (.box 79 [.pv (.int .i64 z.fn), .pv (.int .i64 z.ffrom), .pv (.int .i64 z.fto)])), (1, some (.box 4 [.pv (.bool true)]))], 2, [], [], 0, []⟩)) ⟨rfl, rfl⟩ Try_cal_86 (fun sp => place_lines_1_it (itR_lines_ok hR13 sp)) (fun _ => rfl) rfl rfl (by decide) rfl (fun x q => ⟨16, [(3, some (.lp 0 0)), (4, some (.lp 1 0)), (5, some (.lp 2 0)), (6, some (.lp 3 0)), (9, some (.pv (.agg (eGline_place x))))], [(0, some (.box 3 [.pv (.int .i64 a1)])), (1, some (.box 79 [.pv (.int .i64 (({ fn := 0, ffrom := 0, fto := 0 } : Gline_place).fn)), .pv (.int .i64 (({ fn := 0, ffrom := 0, fto := 0 } : Gline_place).ffrom)), .pv (.int .i64 (({ fn := 0, ffrom := 0, fto := 0 } : Gline_place).fto))])), (2, some (.box 4 [.pv (.bool false)])), (3, some (.box 79 [.pv (.int .i64 x.fn), .pv (.int .i64 x.ffrom), .pv (.int .i64 x.fto)]))], 4, [], [], 0, [3, 4, 5]⟩) (fun q => ⟨rfl, rfl, rfl, rfl⟩) (fun z => ⟨rfl, rfl, rfl, rfl⟩) (fun z => rfl) rfl rfl ⟨rfl, rfl, rfl, trivial⟩ ⟨⟨rfl, rfl, rfl⟩, ⟨rfl, rfl, rfl⟩, ⟨rfl, rfl, rfl⟩, trivial⟩ ?_ ?_ ?_ ?_
  · rintro l16 c17 x9 ⟨⟩ hc18
    refine aw_region ?_
    refine reg_cons (guard_no rfl) (op_alloc 3 rfl (ps := [.int .i64 (({ fn := 0, ffrom := 0, fto := 0 } : Gline_place).fn), .int .i64 (({ fn := 0, ffrom := 0, fto := 0 } : Gline_place).ffrom), .int .i64 (({ fn := 0, ffrom := 0, fto := 0 } : Gline_place).fto)]) rfl Try_zer_79 (by exact ⟨rfl, rfl, rfl, trivial⟩) rfl rfl) ?_
    refine reg_cons (guard_no rfl) (op_store_lp (n := 3) rfl rfl rfl rfl rfl (or_agg Try_agg_79) (by rw [Try_non_79]; rfl) rfl rfl rfl) ?_
    refine reg_nil ?_
    exact post_cut1 (imp_sub [0, 1, 2, 3] rfl (by decide) rfl rfl ⟨by kernel_rfl, by kernel_rfl, by kernel_rfl, by kernel_rfl, by kernel_rfl, trivial⟩ ⟨by kernel_rfl, by kernel_rfl, by kernel_rfl, by kernel_rfl, trivial⟩ rfl rfl rfl)
  · rintro l16 c17 x9 ⟨⟩ r19 hc18 hF
    refine aw_block ?_
    refine aw_seq ?_
    refine aw_region ?_
    refine reg_cons (guard_no rfl) (op_field_lp rfl rfl Try_fld_79_0 rfl rfl) ?_
    refine reg_cons (guard_no rfl) (op_load_lp (v := .pv (.int .i64 x9.fn)) rfl rfl rfl rfl Try_one_3 rfl rfl) ?_
    refine reg_cons (guard_no rfl) (op_load_lp (v := .pv (.int .i64 a1)) rfl rfl rfl rfl Try_one_3 rfl rfl) ?_
    refine reg_cons (guard_no rfl) (op_int (k := .i64) (m := x9.fn) (n := a1) rfl rfl rfl rfl rfl rfl) ?_
    refine reg_nil ?_
    refine post_imp (s' := ⟨16, [(3, some (.lp 0 0)), (4, some (.lp 1 0)), (5, some (.lp 2 0)), (6, some (.lp 3 0)), (13, some (.pv (.bool (x9.fn == a1))))], [(0, some (.box 3 [.pv (.int .i64 a1)])), (1, some (.box 79 [.pv (.int .i64 (({ fn := 0, ffrom := 0, fto := 0 } : Gline_place).fn)), .pv (.int .i64 (({ fn := 0, ffrom := 0, fto := 0 } : Gline_place).ffrom)), .pv (.int .i64 (({ fn := 0, ffrom := 0, fto := 0 } : Gline_place).fto))])), (2, some (.box 4 [.pv (.bool false)])), (3, some (.box 79 [.pv (.int .i64 x9.fn), .pv (.int .i64 x9.ffrom), .pv (.int .i64 x9.fto)]))], 4, [], [], 0, [3, 4, 5]⟩) (imp_sub [0, 1, 2, 3] rfl (by decide) rfl rfl ⟨by kernel_rfl, by kernel_rfl, by kernel_rfl, by kernel_rfl, by kernel_rfl, trivial⟩ ⟨by kernel_rfl, by kernel_rfl, by kernel_rfl, by kernel_rfl, trivial⟩ rfl rfl rfl) ?_
    refine post_next ?_
    rcases ite_some hF with ⟨hb10, hF⟩ | ⟨hb10, hF⟩
    · refine aw_cond_t rfl hb10 ?_
      refine aw_seq ?_
      refine aw_region ?_
      refine reg_cons (guard_no rfl) (op_load_lp_agg (ps := eGline_place x9) rfl rfl rfl rfl rfl rfl Try_agg_79 rfl rfl) ?_
      refine reg_cons (guard_no rfl) (op_store_lp (n := 3) rfl rfl rfl rfl rfl (or_agg Try_agg_79) (by rw [Try_non_79]; rfl) rfl rfl rfl) ?_
      refine reg_cons (guard_no rfl) (op_store_lp (n := 1) rfl rfl rfl rfl rfl (or_one Try_one_4) (by rw [Try_one_4]; rfl) rfl rfl rfl) ?_
      refine reg_nil ?_
      refine post_imp (s' := ⟨16, [(4, some (.lp 0 0)), (5, some (.lp 1 0))], [(0, some (.box 79 [.pv (.int .i64 x9.fn), .pv (.int .i64 x9.ffrom), .pv (.int .i64 x9.fto)])), (1, some (.box 4 [.pv (.bool true)]))], 2, [], [], 0, [3, 4, 5]⟩) (imp_sub [1, 2] rfl (by decide) rfl rfl ⟨by kernel_rfl, by kernel_rfl, trivial⟩ ⟨by kernel_rfl, by kernel_rfl, trivial⟩ rfl rfl rfl) ?_
      refine post_next ?_
      refine aw_ret ?_
      refine post_block_ret ?_
      obtain rfl := Option.some.inj hF
      exact post_rnd_ret x9 rfl rfl (imp_sub [0, 1] rfl (by decide) rfl rfl ⟨by kernel_rfl, by kernel_rfl, trivial⟩ ⟨by kernel_rfl, by kernel_rfl, trivial⟩ rfl rfl rfl)
    · refine aw_cond_f rfl hb10 ?_
      refine aw_skip ?_
      refine post_block_normal ?_
      obtain rfl := Option.some.inj hF
      exact post_rnd () rfl (imp_sub [0, 1, 2] rfl (by decide) rfl rfl ⟨by kernel_rfl, by kernel_rfl, by kernel_rfl, trivial⟩ ⟨by kernel_rfl, by kernel_rfl, by kernel_rfl, trivial⟩ rfl rfl rfl)
  · rintro ⟨⟩ rfl
    have hF := elim_next hF
    refine post_block_normal ?_
    refine post_next ?_
    refine aw_seq ?_
    refine aw_region ?_
    refine reg_cons (guard_no rfl) (op_build (zs := [.int .i64 (({ fn := 0, ffrom := 0, fto := 0 } : Gline_place).fn), .int .i64 (({ fn := 0, ffrom := 0, fto := 0 } : Gline_place).ffrom), .int .i64 (({ fn := 0, ffrom := 0, fto := 0 } : Gline_place).fto)]) (r := eGline_place ({ fn := 0, ffrom := 0, fto := 0 } : Gline_place)) rfl Try_zer_79 (by exact ⟨rfl, rfl, rfl, trivial⟩) Try_plc_79 rfl rfl rfl rfl) ?_
    refine reg_cons (guard_no rfl) (op_store_lp (n := 3) rfl rfl rfl rfl rfl (or_agg Try_agg_79) (by rw [Try_non_79]; rfl) rfl rfl rfl) ?_
    refine reg_cons (guard_no rfl) (op_store_lp (n := 1) rfl rfl rfl rfl rfl (or_one Try_one_4) (by rw [Try_one_4]; rfl) rfl rfl rfl) ?_
    refine reg_nil ?_
    refine post_imp (s' := ⟨16, [(4, some (.lp 0 0)), (5, some (.lp 1 0))], [(0, some (.box 79 [.pv (.int .i64 (({ fn := 0, ffrom := 0, fto := 0 } : Gline_place).fn)), .pv (.int .i64 (({ fn := 0, ffrom := 0, fto := 0 } : Gline_place).ffrom)), .pv (.int .i64 (({ fn := 0, ffrom := 0, fto := 0 } : Gline_place).fto))])), (1, some (.box 4 [.pv (.bool false)]))], 2, [], [], 0, []⟩) (imp_sub [1, 2] rfl (by decide) rfl rfl ⟨by kernel_rfl, by kernel_rfl, trivial⟩ ⟨by kernel_rfl, by kernel_rfl, trivial⟩ rfl rfl rfl) ?_
    refine post_next ?_
    refine aw_ret ?_
    obtain rfl := Option.some.inj hF
    exact post_ret rfl rfl (.cons _ _ _ _ _ (.agg _ _ _ _ _ 3 _ _ rfl rfl Try_agg_79 rfl rfl rfl) (.p _) (.cons _ _ _ _ _ (.one _ _ _ _ _ _ _ rfl rfl Try_one_4 rfl) (.p _) .nil)) (.inl rfl)
  · rintro x11 rfl
    have hF := elim_stop hF
    show Post _ _ .ret _
    refine post_block_ret ?_
    refine post_then_ret ?_
    obtain rfl := Option.some.inj hF
    exact post_ret rfl rfl (.cons _ _ _ _ _ (.agg _ _ _ _ _ 3 _ _ rfl rfl Try_agg_79 rfl rfl rfl) (.p _) (.cons _ _ _ _ _ (.one _ _ _ _ _ _ _ rfl rfl Try_one_4 rfl) (.p _) .nil)) (.inl rfl)
theorem place_Line_ok {a0 : List UInt8} {a1 : Int} {r : (List UInt8) × Bool} (hF : place_Line a0 a1 = some r) : Abs.Fn Try.prog 12 [.str a0, .int .i64 a1] [.p (.str r.1), .p (.bool r.2)] := by
  unfold place_Line at hF
  refine fn_of_body (n := 21) Try.func12 rfl rfl rfl ?_
  intro w O
  refine aw_seq ?_
  refine aw_region ?_
  refine reg_cons (guard_no rfl) (op_assign rfl rfl rfl rfl) ?_
  refine reg_cons (guard_no rfl) (op_assign rfl rfl rfl rfl) ?_
  refine reg_nil ?_
  refine post_imp (s' := ⟨21, [(0, some (.pv (.str a0))), (1, some (.pv (.int .i64 a1)))], [], 0, [], [], 0, []⟩) (imp_sub [] rfl (by decide) rfl rfl ⟨by kernel_rfl, by kernel_rfl, trivial⟩ trivial rfl rfl rfl) ?_
  refine post_next ?_
  refine aw_seq ?_
  refine aw_region ?_
  refine reg_cons (guard_no rfl) (op_move rfl rfl rfl rfl) ?_
  refine reg_cons (guard_no rfl) (op_move rfl rfl rfl rfl) ?_
  obtain ⟨y3, h4, hF⟩ := bind_some hF
  refine reg_cons (guard_no rfl) (op_call 0 rfl (caps := []) (args := [.str a0, .int .i64 a1]) (rs := [.p (.agg (eGline_place y3.1)), .p (.bool y3.2)]) rfl rfl rfl Try_cal_39 (place_find_ok h4) rfl rfl rfl) ?_
  refine reg_cons (guard_no rfl) (op_move rfl rfl rfl rfl) ?_
  refine reg_cons (guard_no rfl) (op_extract rfl rfl rfl rfl rfl) ?_
  refine reg_cons (guard_no rfl) (op_extract rfl rfl rfl rfl rfl) ?_
  refine reg_cons (guard_no rfl) (op_alloc 0 rfl (ps := [.int .i64 (({ fn := 0, ffrom := 0, fto := 0 } : Gline_place).fn), .int .i64 (({ fn := 0, ffrom := 0, fto := 0 } : Gline_place).ffrom), .int .i64 (({ fn := 0, ffrom := 0, fto := 0 } : Gline_place).fto)]) rfl Try_zer_79 (by exact ⟨rfl, rfl, rfl, trivial⟩) rfl rfl) ?_
  refine reg_cons (guard_no rfl) (op_store_lp (n := 3) rfl rfl rfl rfl rfl (or_agg Try_agg_79) (by rw [Try_non_79]; rfl) rfl rfl rfl) ?_
  refine reg_cons (guard_no rfl) (op_assign rfl rfl rfl rfl) ?_
  refine reg_nil ?_
  refine post_imp (s' := ⟨21, [(0, some (.pv (.str a0))), (6, some (.lp 0 0)), (7, some (.pv (.bool y3.2)))], [(0, some (.box 79 [.pv (.int .i64 y3.1.fn), .pv (.int .i64 y3.1.ffrom), .pv (.int .i64 y3.1.fto)]))], 1, [], [], 0, []⟩) (imp_sub [0] rfl (by decide) rfl rfl ⟨by kernel_rfl, by kernel_rfl, by kernel_rfl, trivial⟩ ⟨by kernel_rfl, trivial⟩ rfl rfl rfl) ?_
  refine post_next ?_
  refine aw_seq ?_
  refine aw_region ?_
  refine reg_cons (guard_no rfl) (op_move rfl rfl rfl rfl) ?_
  refine reg_cons (guard_no rfl) (op_field_lp rfl rfl Try_fld_79_1 rfl rfl) ?_
  refine reg_cons (guard_no rfl) (op_load_lp (v := .pv (.int .i64 y3.1.ffrom)) rfl rfl rfl rfl Try_one_3 rfl rfl) ?_
  refine reg_cons (guard_no rfl) (op_field_lp rfl rfl Try_fld_79_2 rfl rfl) ?_
  refine reg_cons (guard_no rfl) (op_load_lp (v := .pv (.int .i64 y3.1.fto)) rfl rfl rfl rfl Try_one_3 rfl rfl) ?_
  obtain ⟨y5, h6, hF⟩ := bind_some hF
  refine reg_cons (guard_no rfl) (op_slice_str (nl := (some y3.1.ffrom)) (nh := (some y3.1.fto)) rfl rfl rfl rfl Try_und_9 h6 rfl rfl) ?_
  refine reg_cons (guard_no rfl) (op_move rfl rfl rfl rfl) ?_
  refine reg_cons (guard_no rfl) (op_assign rfl rfl rfl rfl) ?_
  refine reg_cons (guard_no rfl) (op_assign rfl rfl rfl rfl) ?_
  refine reg_nil ?_
  refine post_imp (s' := ⟨21, [(4, some (.pv (.str y5))), (5, some (.pv (.bool y3.2)))], [], 0, [], [], 0, []⟩) (imp_sub [] rfl (by decide) rfl rfl ⟨by kernel_rfl, by kernel_rfl, trivial⟩ trivial rfl rfl rfl) ?_
  refine post_next ?_
  refine aw_ret ?_
  obtain rfl := Option.some.inj hF
  exact post_ret rfl rfl (.cons _ _ _ _ _ (.tmp _ _ rfl) (.p _) (.cons _ _ _ _ _ (.tmp _ _ rfl) (.p _) .nil)) (.inl rfl)
theorem law01_PlaceLines_ok {a0 : List UInt8} {a1 : Int} {r : Bool} (hF : law01_PlaceLines a0 a1 = some r) : Abs.Fn Try.prog 3 [.str a0, .int .i64 a1] [.p (.bool r)] := by
  unfold law01_PlaceLines at hF
  refine fn_of_body (n := 83) Try.func3 rfl rfl rfl ?_
  intro w O
  refine aw_seq ?_
  refine aw_region ?_
  refine reg_cons (guard_no rfl) (op_assign rfl rfl rfl rfl) ?_
  refine reg_nil ?_
  refine post_imp (s' := ⟨83, [(0, some (.pv (.str a0))), (1, some (.pv (.int .i64 a1)))], [], 0, [], [], 0, []⟩) (imp_sub [] rfl (by decide) rfl rfl ⟨by kernel_rfl, by kernel_rfl, trivial⟩ trivial rfl rfl rfl) ?_
  refine post_next ?_
  refine aw_seq ?_
  refine aw_seq ?_
  refine aw_region ?_
  refine reg_cons (guard_no rfl) (op_move rfl rfl rfl rfl) ?_
  refine reg_cons (guard_no rfl) (op_len_str rfl rfl Try_und_9 rfl rfl) ?_
  refine reg_cons (guard_no rfl) (op_int (k := .i64) (m := (a0.length : Int)) (n := 1000) rfl rfl rfl rfl rfl rfl) ?_
  refine reg_nil ?_
  refine post_imp (s' := ⟨83, [(0, some (.pv (.str a0))), (1, some (.pv (.int .i64 a1))), (15, some (.pv (.bool (decide ((a0.length : Int) > 1000)))))], [], 0, [], [], 0, []⟩) (imp_sub [] rfl (by decide) rfl rfl ⟨by kernel_rfl, by kernel_rfl, by kernel_rfl, trivial⟩ trivial rfl rfl rfl) ?_
  refine post_next ?_
  rcases ite_some hF with ⟨hb1, hF⟩ | ⟨hb1, hF⟩
  · refine aw_cond_t rfl hb1 ?_
    refine aw_seq ?_
    refine aw_region ?_
    obtain ⟨y2, h3, hF⟩ := bind_some hF
    refine reg_cons (guard_no rfl) (op_call 0 rfl (caps := []) (args := []) (rs := [.p (.bool y2)]) rfl rfl rfl Try_cal_10 (law01_awake_ok h3) rfl rfl rfl) ?_
    refine reg_cons (guard_no rfl) (op_assign rfl rfl rfl rfl) ?_
    refine reg_nil ?_
    refine post_imp (s' := ⟨83, [(4, some (.pv (.bool y2)))], [], 0, [], [], 0, []⟩) (imp_sub [] rfl (by decide) rfl rfl ⟨by kernel_rfl, trivial⟩ trivial rfl rfl rfl) ?_
    refine post_next ?_
    refine aw_ret ?_
    refine post_then_ret ?_
    obtain rfl := Option.some.inj hF
    exact post_ret rfl rfl (.cons _ _ _ _ _ (.tmp _ _ rfl) (.p _) .nil) (.inl rfl)
  · refine aw_cond_f rfl hb1 ?_
    refine aw_skip ?_
    refine post_next ?_
    refine aw_seq ?_
    refine aw_region ?_
    refine reg_cons (guard_no rfl) (op_move rfl rfl rfl rfl) ?_
    obtain ⟨y6, h7, hF⟩ := bind_some hF
    refine reg_cons (guard_no rfl) (op_call 0 rfl (caps := []) (args := [.str a0]) (rs := [.p (.int .i64 y6)]) rfl rfl rfl Try_cal_11 (place_Lines_ok h7) rfl rfl rfl) ?_
    refine reg_cons (guard_no rfl) (op_assign rfl rfl rfl rfl) ?_
    refine reg_nil ?_
    refine post_imp (s' := ⟨83, [(0, some (.pv (.str a0))), (1, some (.pv (.int .i64 a1))), (5, some (.pv (.int .i64 y6)))], [], 0, [], [], 0, []⟩) (imp_sub [] rfl (by decide) rfl rfl ⟨by kernel_rfl, by kernel_rfl, by kernel_rfl, trivial⟩ trivial rfl rfl rfl) ?_
    refine post_next ?_
    refine aw_seq ?_
    refine aw_region ?_
    refine reg_cons (guard_no rfl) (op_assign rfl rfl rfl rfl) ?_
    refine reg_nil ?_
    refine post_imp (s' := ⟨83, [(0, some (.pv (.str a0))), (1, some (.pv (.int .i64 a1))), (5, some (.pv (.int .i64 y6))), (6, some (.pv (.str [])))], [], 0, [], [], 0, []⟩) (imp_sub [] rfl (by decide) rfl rfl ⟨by kernel_rfl, by kernel_rfl, by kernel_rfl, by kernel_rfl, trivial⟩ trivial rfl rfl rfl) ?_
    refine post_next ?_
    refine aw_seq ?_
    refine aw_seq ?_
    refine aw_region ?_
    refine reg_cons (guard_no rfl) (op_assign rfl rfl rfl rfl) ?_
    refine reg_nil ?_
    refine post_imp (s' := ⟨83, [(0, some (.pv (.str a0))), (1, some (.pv (.int .i64 a1))), (5, some (.pv (.int .i64 y6))), (6, some (.pv (.str []))), (7, some (.pv (.int .i64 1)))], [], 0, [], [], 0, []⟩) (imp_sub [] rfl (by decide) rfl rfl ⟨by kernel_rfl, by kernel_rfl, by kernel_rfl, by kernel_rfl, by kernel_rfl, trivial⟩ trivial rfl rfl rfl) ?_
    refine post_next ?_
    obtain ⟨lr144, hF, hK145⟩ := bind_some hF
    refine aw_for 1003 (fun s1 => ∃ q, lr144 = .next q ∧ s1 = ⟨83, [(0, some (.pv (.str a0))), (1, some (.pv (.int .i64 a1))), (5, some (.pv (.int .i64 y6))), (6, some (.pv (.str q)))], [], 0, [], [], 0, []⟩) ?_ ?_
    · refine rnd_loop (α := (List UInt8) × Int) (fun q => ⟨83, [(0, some (.pv (.str a0))), (1, some (.pv (.int .i64 a1))), (5, some (.pv (.int .i64 y6))), (6, some (.pv (.str q.1))), (7, some (.pv (.int .i64 q.2)))], [], 0, [], [], 0, []⟩) (fun k q => law01_PlaceLines_L1 a0 y6 k q.1 q.2 = some lr144) ([], 1) (imp_sub [] rfl (by decide) rfl rfl ⟨by kernel_rfl, by kernel_rfl, by kernel_rfl, by kernel_rfl, by kernel_rfl, trivial⟩ trivial rfl rfl rfl) hF (fun q h => by cases h) ?_
      clear hF
      rintro k ⟨x51, x52⟩ hF ih
      refine rnd_succ ?_
      refine aw_seq ?_
      refine aw_seq ?_
      obtain ⟨x99, hF, hK101⟩ := bind_some hF
      refine aw_cut (fun s1 => s1 = ⟨83, [(0, some (.pv (.str a0))), (1, some (.pv (.int .i64 a1))), (5, some (.pv (.int .i64 y6))), (6, some (.pv (.str x51))), (7, some (.pv (.int .i64 x52))), (25, some (.pv (.bool x99)))], [], 0, [], [], 0, []⟩) ?_ ?_
      · refine aw_region ?_
        refine reg_cons (guard_no rfl) (op_move rfl rfl rfl rfl) ?_
        refine reg_cons (guard_no rfl) (op_move rfl rfl rfl rfl) ?_
        refine reg_cons (guard_no rfl) (op_int (k := .i64) (m := x52) (n := y6) rfl rfl rfl rfl rfl rfl) ?_
        refine reg_cons (guard_no rfl) (op_move rfl rfl rfl rfl) ?_
        rcases ite_some hF with ⟨hb98, hF⟩ | ⟨hb98, hF⟩
        · refine reg_cons (guard_on rfl rfl rfl rfl hb98) (op_move rfl rfl rfl rfl) ?_
          refine reg_cons (guard_on rfl rfl rfl rfl hb98) (op_int (k := .i64) (m := x52) (n := 1001) rfl rfl rfl rfl rfl rfl) ?_
          refine reg_cons (guard_no rfl) (op_pick_t rfl rfl hb98 rfl rfl rfl) ?_
          refine reg_nil ?_
          cases hF
          exact post_cut _ rfl (imp_sub [] rfl (by decide) rfl rfl ⟨by kernel_rfl, by kernel_rfl, by kernel_rfl, by kernel_rfl, by kernel_rfl, by kernel_rfl, trivial⟩ trivial rfl rfl rfl)
        · refine reg_off (guard_off rfl rfl rfl rfl hb98) rfl rfl ?_
          refine reg_off (guard_off rfl rfl rfl rfl hb98) rfl rfl ?_
          refine reg_cons (guard_no rfl) (op_pick_f rfl rfl hb98 rfl rfl rfl) ?_
          refine reg_nil ?_
          cases hF
          exact post_cut _ rfl (imp_sub [] rfl (by decide) rfl rfl ⟨by kernel_rfl, by kernel_rfl, by kernel_rfl, by kernel_rfl, by kernel_rfl, by kernel_rfl, trivial⟩ trivial rfl rfl rfl)
      · rintro _ rfl
        have hF := hK101
        clear hK101
        refine post_next ?_
        rcases ite_some hF with ⟨hb102, hF⟩ | ⟨hb102, hF⟩
        · refine aw_cond_t rfl hb102 ?_
          refine aw_skip ?_
          refine post_next ?_
          refine aw_seq ?_
          refine aw_block ?_
          refine aw_seq ?_
          refine aw_region ?_
          refine reg_cons (guard_no rfl) (op_move rfl rfl rfl rfl) ?_
          refine reg_cons (guard_no rfl) (op_move rfl rfl rfl rfl) ?_
          obtain ⟨y105, h106, hF⟩ := bind_some hF
          refine reg_cons (guard_no rfl) (op_call 0 rfl (caps := []) (args := [.str a0, .int .i64 x52]) (rs := [.p (.str y105.1), .p (.bool y105.2)]) rfl rfl rfl Try_cal_12 (place_Line_ok h106) rfl rfl rfl) ?_
          refine reg_cons (guard_no rfl) (op_move rfl rfl rfl rfl) ?_
          refine reg_cons (guard_no rfl) (op_extract rfl rfl rfl rfl rfl) ?_
          refine reg_cons (guard_no rfl) (op_extract rfl rfl rfl rfl rfl) ?_
          refine reg_cons (guard_no rfl) (op_assign rfl rfl rfl rfl) ?_
          refine reg_cons (guard_no rfl) (op_assign rfl rfl rfl rfl) ?_
          refine reg_nil ?_
          refine post_imp (s' := ⟨83, [(0, some (.pv (.str a0))), (1, some (.pv (.int .i64 a1))), (5, some (.pv (.int .i64 y6))), (6, some (.pv (.str x51))), (7, some (.pv (.int .i64 x52))), (8, some (.pv (.str y105.1))), (9, some (.pv (.bool y105.2)))], [], 0, [], [], 0, []⟩) (imp_sub [] rfl (by decide) rfl rfl ⟨by kernel_rfl, by kernel_rfl, by kernel_rfl, by kernel_rfl, by kernel_rfl, by kernel_rfl, by kernel_rfl, trivial⟩ trivial rfl rfl rfl) ?_
          refine post_next ?_
          refine aw_seq ?_
          refine aw_seq ?_
          refine aw_region ?_
          refine reg_cons (guard_no rfl) (op_move rfl rfl rfl rfl) ?_
          refine reg_cons (guard_no rfl) (op_not rfl rfl rfl rfl) ?_
          refine reg_nil ?_
          refine post_imp (s' := ⟨83, [(0, some (.pv (.str a0))), (1, some (.pv (.int .i64 a1))), (5, some (.pv (.int .i64 y6))), (6, some (.pv (.str x51))), (7, some (.pv (.int .i64 x52))), (8, some (.pv (.str y105.1))), (35, some (.pv (.bool (!y105.2))))], [], 0, [], [], 0, []⟩) (imp_sub [] rfl (by decide) rfl rfl ⟨by kernel_rfl, by kernel_rfl, by kernel_rfl, by kernel_rfl, by kernel_rfl, by kernel_rfl, by kernel_rfl, trivial⟩ trivial rfl rfl rfl) ?_
          refine post_next ?_
          rcases ite_some hF with ⟨hb107, hF⟩ | ⟨hb107, hF⟩
          · refine aw_cond_t rfl hb107 ?_
            refine aw_seq ?_
            refine aw_region ?_
            refine reg_cons (guard_no rfl) (op_assign rfl rfl rfl rfl) ?_
            refine reg_nil ?_
            refine post_imp (s' := ⟨83, [(4, some (.pv (.bool false)))], [], 0, [], [], 0, []⟩) (imp_sub [] rfl (by decide) rfl rfl ⟨by kernel_rfl, trivial⟩ trivial rfl rfl rfl) ?_
            refine post_next ?_
            refine aw_ret ?_
            refine post_then_ret ?_
            refine post_block_ret ?_
            refine post_then_ret ?_
            refine post_then_ret ?_
            refine post_lp_ret ?_
            obtain rfl := Option.some.inj hF
            have hF := elim_stop hK145
            refine post_then_ret ?_
            obtain rfl := Option.some.inj hF
            exact post_ret rfl rfl (.cons _ _ _ _ _ (.tmp _ _ rfl) (.p _) .nil) (.inl rfl)
          · refine aw_cond_f rfl hb107 ?_
            refine aw_skip ?_
            refine post_next ?_
            refine aw_seq ?_
            refine aw_seq ?_
            refine aw_region ?_
            refine reg_cons (guard_no rfl) (op_assign rfl rfl rfl rfl) ?_
            refine reg_nil ?_
            refine post_imp (s' := ⟨83, [(0, some (.pv (.str a0))), (1, some (.pv (.int .i64 a1))), (5, some (.pv (.int .i64 y6))), (6, some (.pv (.str x51))), (7, some (.pv (.int .i64 x52))), (8, some (.pv (.str y105.1))), (10, some (.pv (.int .i64 0)))], [], 0, [], [], 0, []⟩) (imp_sub [] rfl (by decide) rfl rfl ⟨by kernel_rfl, by kernel_rfl, by kernel_rfl, by kernel_rfl, by kernel_rfl, by kernel_rfl, by kernel_rfl, trivial⟩ trivial rfl rfl rfl) ?_
            refine post_next ?_
            obtain ⟨lr129, hF, hK130⟩ := bind_some hF
            refine aw_for ((((y105.1.length : Int) : Int) - (0)).toNat + 1) (fun s1 => ∃ q, lr129 = .next q ∧ s1 = ⟨83, [(0, some (.pv (.str a0))), (1, some (.pv (.int .i64 a1))), (5, some (.pv (.int .i64 y6))), (6, some (.pv (.str x51))), (7, some (.pv (.int .i64 x52))), (8, some (.pv (.str y105.1)))], [], 0, [], [], 0, []⟩) ?_ ?_
            · refine rnd_loop (α := Int) (fun q => ⟨83, [(0, some (.pv (.str a0))), (1, some (.pv (.int .i64 a1))), (5, some (.pv (.int .i64 y6))), (6, some (.pv (.str x51))), (7, some (.pv (.int .i64 x52))), (8, some (.pv (.str y105.1))), (10, some (.pv (.int .i64 q)))], [], 0, [], [], 0, []⟩) (fun k q => law01_PlaceLines_L2 y105 k q = some lr129) 0 (imp_sub [] rfl (by decide) rfl rfl ⟨by kernel_rfl, by kernel_rfl, by kernel_rfl, by kernel_rfl, by kernel_rfl, by kernel_rfl, by kernel_rfl, trivial⟩ trivial rfl rfl rfl) hF (fun q h => by cases h) ?_
              clear hF
              rintro k x114 hF ih
              refine rnd_succ ?_
              refine aw_seq ?_
              refine aw_seq ?_
              refine aw_region ?_
              refine reg_cons (guard_no rfl) (op_move rfl rfl rfl rfl) ?_
              refine reg_cons (guard_no rfl) (op_move rfl rfl rfl rfl) ?_
              refine reg_cons (guard_no rfl) (op_len_str rfl rfl Try_und_9 rfl rfl) ?_
              refine reg_cons (guard_no rfl) (op_int (k := .i64) (m := x114) (n := (y105.1.length : Int)) rfl rfl rfl rfl rfl rfl) ?_
              refine reg_nil ?_
              refine post_imp (s' := ⟨83, [(0, some (.pv (.str a0))), (1, some (.pv (.int .i64 a1))), (5, some (.pv (.int .i64 y6))), (6, some (.pv (.str x51))), (7, some (.pv (.int .i64 x52))), (8, some (.pv (.str y105.1))), (10, some (.pv (.int .i64 x114))), (39, some (.pv (.bool (decide (x114 < (y105.1.length : Int))))))], [], 0, [], [], 0, []⟩) (imp_sub [] rfl (by decide) rfl rfl ⟨by kernel_rfl, by kernel_rfl, by kernel_rfl, by kernel_rfl, by kernel_rfl, by kernel_rfl, by kernel_rfl, by kernel_rfl, trivial⟩ trivial rfl rfl rfl) ?_
              refine post_next ?_
              rcases ite_some hF with ⟨hb122, hF⟩ | ⟨hb122, hF⟩
              · refine aw_cond_t rfl hb122 ?_
                refine aw_skip ?_
                refine post_next ?_
                refine aw_seq ?_
                refine aw_block ?_
                refine aw_seq ?_
                refine aw_region ?_
                refine reg_cons (guard_no rfl) (op_move rfl rfl rfl rfl) ?_
                refine reg_cons (guard_no rfl) (op_move rfl rfl rfl rfl) ?_
                obtain ⟨y125, h126, hF⟩ := bind_some hF
                refine reg_cons (guard_no rfl) (op_index_str (k := .i64) rfl rfl rfl h126 Try_und_9 rfl rfl) ?_
                refine reg_cons (guard_no rfl) (op_int (k := .u8) (m := (y125.toNat : Int)) (n := 10) rfl rfl rfl rfl rfl rfl) ?_
                refine reg_nil ?_
                refine post_imp (s' := ⟨83, [(0, some (.pv (.str a0))), (1, some (.pv (.int .i64 a1))), (5, some (.pv (.int .i64 y6))), (6, some (.pv (.str x51))), (7, some (.pv (.int .i64 x52))), (8, some (.pv (.str y105.1))), (10, some (.pv (.int .i64 x114))), (45, some (.pv (.bool ((y125.toNat : Int) == 10))))], [], 0, [], [], 0, []⟩) (imp_sub [] rfl (by decide) rfl rfl ⟨by kernel_rfl, by kernel_rfl, by kernel_rfl, by kernel_rfl, by kernel_rfl, by kernel_rfl, by kernel_rfl, by kernel_rfl, trivial⟩ trivial rfl rfl rfl) ?_
                refine post_next ?_
                rcases ite_some hF with ⟨hb127, hF⟩ | ⟨hb127, hF⟩
                · refine aw_cond_t rfl hb127 ?_
                  refine aw_seq ?_
                  refine aw_region ?_
                  refine reg_cons (guard_no rfl) (op_assign rfl rfl rfl rfl) ?_
                  refine reg_nil ?_
                  refine post_imp (s' := ⟨83, [(4, some (.pv (.bool false)))], [], 0, [], [], 0, []⟩) (imp_sub [] rfl (by decide) rfl rfl ⟨by kernel_rfl, trivial⟩ trivial rfl rfl rfl) ?_
                  refine post_next ?_
                  refine aw_ret ?_
                  refine post_block_ret ?_
                  refine post_then_ret ?_
                  refine post_then_ret ?_
                  refine post_lp_ret ?_
                  obtain rfl := Option.some.inj hF
                  have hF := elim_stop hK130
                  refine post_then_ret ?_
                  refine post_block_ret ?_
                  refine post_then_ret ?_
                  refine post_then_ret ?_
                  refine post_lp_ret ?_
                  obtain rfl := Option.some.inj hF
                  have hF := elim_stop hK145
                  refine post_then_ret ?_
                  obtain rfl := Option.some.inj hF
                  exact post_ret rfl rfl (.cons _ _ _ _ _ (.tmp _ _ rfl) (.p _) .nil) (.inl rfl)
                · refine aw_cond_f rfl hb127 ?_
                  refine aw_skip ?_
                  refine post_block_normal ?_
                  refine post_next ?_
                  refine aw_region ?_
                  refine reg_cons (guard_no rfl) (op_move rfl rfl rfl rfl) ?_
                  refine reg_cons (guard_no rfl) (op_int (k := .i64) (m := x114) (n := 1) rfl rfl rfl rfl rfl rfl) ?_
                  refine reg_cons (guard_no rfl) (op_assign rfl rfl rfl rfl) ?_
                  refine reg_nil ?_
                  refine post_round ?_
                  exact rnd_back (ih (w_i64 (x114 + 1)) hF) (imp_sub [] rfl (by decide) rfl rfl ⟨by kernel_rfl, by kernel_rfl, by kernel_rfl, by kernel_rfl, by kernel_rfl, by kernel_rfl, by kernel_rfl, trivial⟩ trivial rfl rfl rfl)
              · refine aw_cond_f rfl hb122 ?_
                refine aw_exit ?_
                refine post_then_exit ?_
                refine post_then_exit ?_
                obtain rfl := Option.some.inj hF
                exact post_lp_break _ ⟨_, rfl, rfl⟩ (imp_sub [] rfl (by decide) rfl rfl ⟨by kernel_rfl, by kernel_rfl, by kernel_rfl, by kernel_rfl, by kernel_rfl, by kernel_rfl, trivial⟩ trivial rfl rfl rfl)
            · rintro _ ⟨⟨⟩, rfl, rfl⟩
              have hF := elim_next hK130
              clear hK130
              refine post_next ?_
              refine aw_seq ?_
              obtain ⟨x134, hF, hK136⟩ := bind_some hF
              refine aw_cut (fun s1 => s1 = ⟨83, [(0, some (.pv (.str a0))), (1, some (.pv (.int .i64 a1))), (5, some (.pv (.int .i64 y6))), (6, some (.pv (.str x134))), (7, some (.pv (.int .i64 x52))), (8, some (.pv (.str y105.1)))], [], 0, [], [], 0, []⟩) ?_ ?_
              · refine aw_seq ?_
                refine aw_region ?_
                refine reg_cons (guard_no rfl) (op_move rfl rfl rfl rfl) ?_
                refine reg_cons (guard_no rfl) (op_int (k := .i64) (m := x52) (n := 1) rfl rfl rfl rfl rfl rfl) ?_
                refine reg_nil ?_
                refine post_imp (s' := ⟨83, [(0, some (.pv (.str a0))), (1, some (.pv (.int .i64 a1))), (5, some (.pv (.int .i64 y6))), (6, some (.pv (.str x51))), (7, some (.pv (.int .i64 x52))), (8, some (.pv (.str y105.1))), (47, some (.pv (.bool (decide (x52 > 1)))))], [], 0, [], [], 0, []⟩) (imp_sub [] rfl (by decide) rfl rfl ⟨by kernel_rfl, by kernel_rfl, by kernel_rfl, by kernel_rfl, by kernel_rfl, by kernel_rfl, by kernel_rfl, trivial⟩ trivial rfl rfl rfl) ?_
                refine post_next ?_
                rcases ite_some hF with ⟨hb131, hF⟩ | ⟨hb131, hF⟩
                · refine aw_cond_t rfl hb131 ?_
                  refine aw_region ?_
                  refine reg_cons (guard_no rfl) (op_move rfl rfl rfl rfl) ?_
                  obtain ⟨u132, h133, hF⟩ := bind_some hF
                  refine reg_cons (guard_no rfl) (op_concat rfl rfl rfl (room_str h133) rfl rfl) ?_
                  refine reg_cons (guard_no rfl) (op_assign rfl rfl rfl rfl) ?_
                  refine reg_nil ?_
                  cases hF
                  exact post_cut _ rfl (imp_sub [] rfl (by decide) rfl rfl ⟨by kernel_rfl, by kernel_rfl, by kernel_rfl, by kernel_rfl, by kernel_rfl, by kernel_rfl, trivial⟩ trivial rfl rfl rfl)
                · refine aw_cond_f rfl hb131 ?_
                  refine aw_skip ?_
                  cases hF
                  exact post_cut _ rfl (imp_sub [] rfl (by decide) rfl rfl ⟨by kernel_rfl, by kernel_rfl, by kernel_rfl, by kernel_rfl, by kernel_rfl, by kernel_rfl, trivial⟩ trivial rfl rfl rfl)
              · rintro _ rfl
                have hF := hK136
                clear hK136
                refine post_next ?_
                refine aw_region ?_
                refine reg_cons (guard_no rfl) (op_move rfl rfl rfl rfl) ?_
                refine reg_cons (guard_no rfl) (op_move rfl rfl rfl rfl) ?_
                obtain ⟨u139, h140, hF⟩ := bind_some hF
                refine reg_cons (guard_no rfl) (op_concat rfl rfl rfl (room_str h140) rfl rfl) ?_
                refine reg_cons (guard_no rfl) (op_assign rfl rfl rfl rfl) ?_
                refine reg_nil ?_
                refine post_imp (s' := ⟨83, [(0, some (.pv (.str a0))), (1, some (.pv (.int .i64 a1))), (5, some (.pv (.int .i64 y6))), (6, some (.pv (.str (x134 ++ y105.1)))), (7, some (.pv (.int .i64 x52)))], [], 0, [], [], 0, []⟩) (imp_sub [] rfl (by decide) rfl rfl ⟨by kernel_rfl, by kernel_rfl, by kernel_rfl, by kernel_rfl, by kernel_rfl, trivial⟩ trivial rfl rfl rfl) ?_
                refine post_block_normal ?_
                refine post_next ?_
                refine aw_region ?_
                refine reg_cons (guard_no rfl) (op_move rfl rfl rfl rfl) ?_
                refine reg_cons (guard_no rfl) (op_int (k := .i64) (m := x52) (n := 1) rfl rfl rfl rfl rfl rfl) ?_
                refine reg_cons (guard_no rfl) (op_assign rfl rfl rfl rfl) ?_
                refine reg_nil ?_
                refine post_round ?_
                exact rnd_back (ih ((x134 ++ y105.1), w_i64 (x52 + 1)) hF) (imp_sub [] rfl (by decide) rfl rfl ⟨by kernel_rfl, by kernel_rfl, by kernel_rfl, by kernel_rfl, by kernel_rfl, trivial⟩ trivial rfl rfl rfl)
        · refine aw_cond_f rfl hb102 ?_
          refine aw_exit ?_
          refine post_then_exit ?_
          refine post_then_exit ?_
          obtain rfl := Option.some.inj hF
          exact post_lp_break _ ⟨_, rfl, rfl⟩ (imp_sub [] rfl (by decide) rfl rfl ⟨by kernel_rfl, by kernel_rfl, by kernel_rfl, by kernel_rfl, trivial⟩ trivial rfl rfl rfl)
    · rintro _ ⟨x143, rfl, rfl⟩
      have hF := elim_next hK145
      clear hK145
      refine post_next ?_
      refine aw_seq ?_
      refine aw_region ?_
      refine reg_cons (guard_no rfl) (op_move rfl rfl rfl rfl) ?_
      refine reg_cons (guard_no rfl) (op_move rfl rfl rfl rfl) ?_
      obtain ⟨y148, h149, hF⟩ := bind_some hF
      refine reg_cons (guard_no rfl) (op_call 0 rfl (caps := []) (args := [.str a0, .int .i64 a1]) (rs := [.p (.str y148.1), .p (.bool y148.2)]) rfl rfl rfl Try_cal_12 (place_Line_ok h149) rfl rfl rfl) ?_
      refine reg_cons (guard_no rfl) (op_move rfl rfl rfl rfl) ?_
      refine reg_cons (guard_no rfl) (op_extract rfl rfl rfl rfl rfl) ?_
      refine reg_cons (guard_no rfl) (op_extract rfl rfl rfl rfl rfl) ?_
      refine reg_cons (guard_no rfl) (op_assign rfl rfl rfl rfl) ?_
      refine reg_cons (guard_no rfl) (op_assign rfl rfl rfl rfl) ?_
      refine reg_nil ?_
      refine post_imp (s' := ⟨83, [(0, some (.pv (.str a0))), (1, some (.pv (.int .i64 a1))), (5, some (.pv (.int .i64 y6))), (6, some (.pv (.str x143))), (11, some (.pv (.str y148.1))), (12, some (.pv (.bool y148.2)))], [], 0, [], [], 0, []⟩) (imp_sub [] rfl (by decide) rfl rfl ⟨by kernel_rfl, by kernel_rfl, by kernel_rfl, by kernel_rfl, by kernel_rfl, by kernel_rfl, trivial⟩ trivial rfl rfl rfl) ?_
      refine post_next ?_
      refine aw_seq ?_
      refine aw_region ?_
      refine reg_cons (guard_no rfl) (op_move rfl rfl rfl rfl) ?_
      refine reg_cons (guard_no rfl) (op_move rfl rfl rfl rfl) ?_
      refine reg_cons (guard_no rfl) (op_str rfl rfl rfl rfl rfl rfl) ?_
      refine reg_cons (guard_no rfl) (op_move rfl rfl rfl rfl) ?_
      rcases ite_some hF with ⟨hb150, hF⟩ | ⟨hb150, hF⟩
      · refine reg_cons (guard_on rfl rfl rfl rfl hb150) (op_move rfl rfl rfl rfl) ?_
        refine reg_cons (guard_on rfl rfl rfl rfl hb150) (op_move rfl rfl rfl rfl) ?_
        refine reg_cons (guard_on rfl rfl rfl rfl hb150) (op_int (k := .i64) (m := a1) (n := 1) rfl rfl rfl rfl rfl rfl) ?_
        refine reg_cons (guard_on rfl rfl rfl rfl hb150) (op_move rfl rfl rfl rfl) ?_
        rcases ite_some hF with ⟨hb151, hF⟩ | ⟨hb151, hF⟩
        · refine reg_cons (guard_on rfl rfl rfl rfl hb151) (op_move rfl rfl rfl rfl) ?_
          refine reg_cons (guard_on rfl rfl rfl rfl hb151) (op_move rfl rfl rfl rfl) ?_
          refine reg_cons (guard_on rfl rfl rfl rfl hb151) (op_int (k := .i64) (m := a1) (n := y6) rfl rfl rfl rfl rfl rfl) ?_
          refine reg_cons (guard_on rfl rfl rfl rfl hb150) (op_pick_t rfl rfl hb151 rfl rfl rfl) ?_
          refine reg_cons (guard_on rfl rfl rfl rfl hb150) (op_eqBool_eql rfl rfl rfl Try_und_4 rfl rfl) ?_
          refine reg_cons (guard_no rfl) (op_pick_t rfl rfl hb150 rfl rfl rfl) ?_
          refine reg_cons (guard_no rfl) (op_move rfl rfl rfl rfl) ?_
          rcases ite_some hF with ⟨hb152, hF⟩ | ⟨hb152, hF⟩
          · refine reg_cons (guard_on rfl rfl rfl rfl hb152) (op_move rfl rfl rfl rfl) ?_
            refine reg_cons (guard_on rfl rfl rfl rfl hb152) (op_move rfl rfl rfl rfl) ?_
            rcases ite_some hF with ⟨hb153, hF⟩ | ⟨hb153, hF⟩
            · refine reg_off (guard_off rfl rfl rfl rfl hb153) rfl rfl ?_
              refine reg_off (guard_off rfl rfl rfl rfl hb153) rfl rfl ?_
              refine reg_cons (guard_on rfl rfl rfl rfl hb152) (op_pick_t rfl rfl hb153 rfl rfl rfl) ?_
              refine reg_cons (guard_no rfl) (op_pick_t rfl rfl hb152 rfl rfl rfl) ?_
              refine reg_cons (guard_no rfl) (op_move rfl rfl rfl rfl) ?_
              obtain ⟨y154, h155, hF⟩ := bind_some hF
              refine reg_cons (guard_on rfl rfl rfl rfl rfl) (op_call 0 rfl (caps := []) (args := []) (rs := [.p (.bool y154)]) rfl rfl rfl Try_cal_10 (law01_awake_ok h155) rfl rfl rfl) ?_
              refine reg_cons (guard_no rfl) (op_pick_t rfl rfl rfl rfl rfl rfl) ?_
              refine reg_cons (guard_no rfl) (op_assign rfl rfl rfl rfl) ?_
              refine reg_nil ?_
              refine post_imp (s' := ⟨83, [(4, some (.pv (.bool y154)))], [], 0, [], [], 0, []⟩) (imp_sub [] rfl (by decide) rfl rfl ⟨by kernel_rfl, trivial⟩ trivial rfl rfl rfl) ?_
              refine post_next ?_
              refine aw_ret ?_
              obtain rfl := Option.some.inj hF
              exact post_ret rfl rfl (.cons _ _ _ _ _ (.tmp _ _ rfl) (.p _) .nil) (.inl rfl)
            · refine reg_cons (guard_on rfl rfl rfl rfl hb153) (op_move rfl rfl rfl rfl) ?_
              refine reg_cons (guard_on rfl rfl rfl rfl hb153) (op_str rfl rfl rfl rfl rfl rfl) ?_
              refine reg_cons (guard_on rfl rfl rfl rfl hb152) (op_pick_f rfl rfl hb153 rfl rfl rfl) ?_
              refine reg_cons (guard_no rfl) (op_pick_t rfl rfl hb152 rfl rfl rfl) ?_
              refine reg_cons (guard_no rfl) (op_move rfl rfl rfl rfl) ?_
              rcases ite_some hF with ⟨hb156, hF⟩ | ⟨hb156, hF⟩
              · obtain ⟨y157, h158, hF⟩ := bind_some hF
                refine reg_cons (guard_on rfl rfl rfl rfl hb156) (op_call 0 rfl (caps := []) (args := []) (rs := [.p (.bool y157)]) rfl rfl rfl Try_cal_10 (law01_awake_ok h158) rfl rfl rfl) ?_
                refine reg_cons (guard_no rfl) (op_pick_t rfl rfl hb156 rfl rfl rfl) ?_
                refine reg_cons (guard_no rfl) (op_assign rfl rfl rfl rfl) ?_
                refine reg_nil ?_
                refine post_imp (s' := ⟨83, [(4, some (.pv (.bool y157)))], [], 0, [], [], 0, []⟩) (imp_sub [] rfl (by decide) rfl rfl ⟨by kernel_rfl, trivial⟩ trivial rfl rfl rfl) ?_
                refine post_next ?_
                refine aw_ret ?_
                obtain rfl := Option.some.inj hF
                exact post_ret rfl rfl (.cons _ _ _ _ _ (.tmp _ _ rfl) (.p _) .nil) (.inl rfl)
              · refine reg_off (guard_off rfl rfl rfl rfl hb156) rfl rfl ?_
                refine reg_cons (guard_no rfl) (op_pick_f rfl rfl hb156 rfl rfl rfl) ?_
                refine reg_cons (guard_no rfl) (op_assign rfl rfl rfl rfl) ?_
                refine reg_nil ?_
                refine post_imp (s' := ⟨83, [(4, some (.pv (.bool false)))], [], 0, [], [], 0, []⟩) (imp_sub [] rfl (by decide) rfl rfl ⟨by kernel_rfl, trivial⟩ trivial rfl rfl rfl) ?_
                refine post_next ?_
                refine aw_ret ?_
                obtain rfl := Option.some.inj hF
                exact post_ret rfl rfl (.cons _ _ _ _ _ (.tmp _ _ rfl) (.p _) .nil) (.inl rfl)
          · refine reg_off (guard_off rfl rfl rfl rfl hb152) rfl rfl ?_
            refine reg_off (guard_off rfl rfl rfl rfl hb152) rfl rfl ?_
            refine reg_off (guard_undef rfl rfl rfl rfl) rfl rfl ?_
            refine reg_off (guard_undef rfl rfl rfl rfl) rfl rfl ?_
            refine reg_off (guard_off rfl rfl rfl rfl hb152) rfl rfl ?_
            refine reg_cons (guard_no rfl) (op_pick_f rfl rfl hb152 rfl rfl rfl) ?_
            refine reg_cons (guard_no rfl) (op_move rfl rfl rfl rfl) ?_
            refine reg_off (guard_off rfl rfl rfl rfl rfl) rfl rfl ?_
            refine reg_cons (guard_no rfl) (op_pick_f rfl rfl rfl rfl rfl rfl) ?_
            refine reg_cons (guard_no rfl) (op_assign rfl rfl rfl rfl) ?_
            refine reg_nil ?_
            refine post_imp (s' := ⟨83, [(4, some (.pv (.bool false)))], [], 0, [], [], 0, []⟩) (imp_sub [] rfl (by decide) rfl rfl ⟨by kernel_rfl, trivial⟩ trivial rfl rfl rfl) ?_
            refine post_next ?_
            refine aw_ret ?_
            obtain rfl := Option.some.inj hF
            exact post_ret rfl rfl (.cons _ _ _ _ _ (.tmp _ _ rfl) (.p _) .nil) (.inl rfl)
        · refine reg_off (guard_off rfl rfl rfl rfl hb151) rfl rfl ?_
          refine reg_off (guard_off rfl rfl rfl rfl hb151) rfl rfl ?_
          refine reg_off (guard_off rfl rfl rfl rfl hb151) rfl rfl ?_
          refine reg_cons (guard_on rfl rfl rfl rfl hb150) (op_pick_f rfl rfl hb151 rfl rfl rfl) ?_
          refine reg_cons (guard_on rfl rfl rfl rfl hb150) (op_eqBool_eql rfl rfl rfl Try_und_4 rfl rfl) ?_
          refine reg_cons (guard_no rfl) (op_pick_t rfl rfl hb150 rfl rfl rfl) ?_
          refine reg_cons (guard_no rfl) (op_move rfl rfl rfl rfl) ?_
          rcases ite_some hF with ⟨hb159, hF⟩ | ⟨hb159, hF⟩
          · refine reg_cons (guard_on rfl rfl rfl rfl hb159) (op_move rfl rfl rfl rfl) ?_
            refine reg_cons (guard_on rfl rfl rfl rfl hb159) (op_move rfl rfl rfl rfl) ?_
            rcases ite_some hF with ⟨hb160, hF⟩ | ⟨hb160, hF⟩
            · refine reg_off (guard_off rfl rfl rfl rfl hb160) rfl rfl ?_
              refine reg_off (guard_off rfl rfl rfl rfl hb160) rfl rfl ?_
              refine reg_cons (guard_on rfl rfl rfl rfl hb159) (op_pick_t rfl rfl hb160 rfl rfl rfl) ?_
              refine reg_cons (guard_no rfl) (op_pick_t rfl rfl hb159 rfl rfl rfl) ?_
              refine reg_cons (guard_no rfl) (op_move rfl rfl rfl rfl) ?_
              obtain ⟨y161, h162, hF⟩ := bind_some hF
              refine reg_cons (guard_on rfl rfl rfl rfl rfl) (op_call 0 rfl (caps := []) (args := []) (rs := [.p (.bool y161)]) rfl rfl rfl Try_cal_10 (law01_awake_ok h162) rfl rfl rfl) ?_
              refine reg_cons (guard_no rfl) (op_pick_t rfl rfl rfl rfl rfl rfl) ?_
              refine reg_cons (guard_no rfl) (op_assign rfl rfl rfl rfl) ?_
              refine reg_nil ?_
              refine post_imp (s' := ⟨83, [(4, some (.pv (.bool y161)))], [], 0, [], [], 0, []⟩) (imp_sub [] rfl (by decide) rfl rfl ⟨by kernel_rfl, trivial⟩ trivial rfl rfl rfl) ?_
              refine post_next ?_
              refine aw_ret ?_
              obtain rfl := Option.some.inj hF
              exact post_ret rfl rfl (.cons _ _ _ _ _ (.tmp _ _ rfl) (.p _) .nil) (.inl rfl)
            · refine reg_cons (guard_on rfl rfl rfl rfl hb160) (op_move rfl rfl rfl rfl) ?_
              refine reg_cons (guard_on rfl rfl rfl rfl hb160) (op_str rfl rfl rfl rfl rfl rfl) ?_
              refine reg_cons (guard_on rfl rfl rfl rfl hb159) (op_pick_f rfl rfl hb160 rfl rfl rfl) ?_
              refine reg_cons (guard_no rfl) (op_pick_t rfl rfl hb159 rfl rfl rfl) ?_
              refine reg_cons (guard_no rfl) (op_move rfl rfl rfl rfl) ?_
              rcases ite_some hF with ⟨hb163, hF⟩ | ⟨hb163, hF⟩
              · obtain ⟨y164, h165, hF⟩ := bind_some hF
                refine reg_cons (guard_on rfl rfl rfl rfl hb163) (op_call 0 rfl (caps := []) (args := []) (rs := [.p (.bool y164)]) rfl rfl rfl Try_cal_10 (law01_awake_ok h165) rfl rfl rfl) ?_
                refine reg_cons (guard_no rfl) (op_pick_t rfl rfl hb163 rfl rfl rfl) ?_
                refine reg_cons (guard_no rfl) (op_assign rfl rfl rfl rfl) ?_
                refine reg_nil ?_
                refine post_imp (s' := ⟨83, [(4, some (.pv (.bool y164)))], [], 0, [], [], 0, []⟩) (imp_sub [] rfl (by decide) rfl rfl ⟨by kernel_rfl, trivial⟩ trivial rfl rfl rfl) ?_
                refine post_next ?_
                refine aw_ret ?_
                obtain rfl := Option.some.inj hF
                exact post_ret rfl rfl (.cons _ _ _ _ _ (.tmp _ _ rfl) (.p _) .nil) (.inl rfl)
              · refine reg_off (guard_off rfl rfl rfl rfl hb163) rfl rfl ?_
                refine reg_cons (guard_no rfl) (op_pick_f rfl rfl hb163 rfl rfl rfl) ?_
                refine reg_cons (guard_no rfl) (op_assign rfl rfl rfl rfl) ?_
                refine reg_nil ?_
                refine post_imp (s' := ⟨83, [(4, some (.pv (.bool false)))], [], 0, [], [], 0, []⟩) (imp_sub [] rfl (by decide) rfl rfl ⟨by kernel_rfl, trivial⟩ trivial rfl rfl rfl) ?_
                refine post_next ?_
                refine aw_ret ?_
                obtain rfl := Option.some.inj hF
                exact post_ret rfl rfl (.cons _ _ _ _ _ (.tmp _ _ rfl) (.p _) .nil) (.inl rfl)
          · refine reg_off (guard_off rfl rfl rfl rfl hb159) rfl rfl ?_
            refine reg_off (guard_off rfl rfl rfl rfl hb159) rfl rfl ?_
            refine reg_off (guard_undef rfl rfl rfl rfl) rfl rfl ?_
            refine reg_off (guard_undef rfl rfl rfl rfl) rfl rfl ?_
            refine reg_off (guard_off rfl rfl rfl rfl hb159) rfl rfl ?_
            refine reg_cons (guard_no rfl) (op_pick_f rfl rfl hb159 rfl rfl rfl) ?_
            refine reg_cons (guard_no rfl) (op_move rfl rfl rfl rfl) ?_
            refine reg_off (guard_off rfl rfl rfl rfl rfl) rfl rfl ?_
            refine reg_cons (guard_no rfl) (op_pick_f rfl rfl rfl rfl rfl rfl) ?_
            refine reg_cons (guard_no rfl) (op_assign rfl rfl rfl rfl) ?_
            refine reg_nil ?_
            refine post_imp (s' := ⟨83, [(4, some (.pv (.bool false)))], [], 0, [], [], 0, []⟩) (imp_sub [] rfl (by decide) rfl rfl ⟨by kernel_rfl, trivial⟩ trivial rfl rfl rfl) ?_
            refine post_next ?_
            refine aw_ret ?_
            obtain rfl := Option.some.inj hF
            exact post_ret rfl rfl (.cons _ _ _ _ _ (.tmp _ _ rfl) (.p _) .nil) (.inl rfl)
      · refine reg_off (guard_off rfl rfl rfl rfl hb150) rfl rfl ?_
        refine reg_off (guard_off rfl rfl rfl rfl hb150) rfl rfl ?_
        refine reg_off (guard_off rfl rfl rfl rfl hb150) rfl rfl ?_
        refine reg_off (guard_off rfl rfl rfl rfl hb150) rfl rfl ?_
        refine reg_off (guard_undef rfl rfl rfl rfl) rfl rfl ?_
        refine reg_off (guard_undef rfl rfl rfl rfl) rfl rfl ?_
        refine reg_off (guard_undef rfl rfl rfl rfl) rfl rfl ?_
        refine reg_off (guard_off rfl rfl rfl rfl hb150) rfl rfl ?_
        refine reg_off (guard_off rfl rfl rfl rfl hb150) rfl rfl ?_
        refine reg_cons (guard_no rfl) (op_pick_f rfl rfl hb150 rfl rfl rfl) ?_
        refine reg_cons (guard_no rfl) (op_move rfl rfl rfl rfl) ?_
        refine reg_off (guard_off rfl rfl rfl rfl rfl) rfl rfl ?_
        refine reg_off (guard_off rfl rfl rfl rfl rfl) rfl rfl ?_
        refine reg_off (guard_undef rfl rfl rfl rfl) rfl rfl ?_
        refine reg_off (guard_undef rfl rfl rfl rfl) rfl rfl ?_
        refine reg_off (guard_off rfl rfl rfl rfl rfl) rfl rfl ?_
        refine reg_cons (guard_no rfl) (op_pick_f rfl rfl rfl rfl rfl rfl) ?_
        refine reg_cons (guard_no rfl) (op_move rfl rfl rfl rfl) ?_
        refine reg_off (guard_off rfl rfl rfl rfl rfl) rfl rfl ?_
        refine reg_cons (guard_no rfl) (op_pick_f rfl rfl rfl rfl rfl rfl) ?_
        refine reg_cons (guard_no rfl) (op_assign rfl rfl rfl rfl) ?_
        refine reg_nil ?_
        refine post_imp (s' := ⟨83, [(4, some (.pv (.bool false)))], [], 0, [], [], 0, []⟩) (imp_sub [] rfl (by decide) rfl rfl ⟨by kernel_rfl, trivial⟩ trivial rfl rfl rfl) ?_
        refine post_next ?_
        refine aw_ret ?_
        obtain rfl := Option.some.inj hF
        exact post_ret rfl rfl (.cons _ _ _ _ _ (.tmp _ _ rfl) (.p _) .nil) (.inl rfl)
end Go.Proofs.Ytcdgamjijdneeaa
