/- A part of the proof that the law PlaceOf gives true for every input. -/
import Derived.Test.YtcdgamjijdneeaaPlaceOfT
import Derived.Test.YtcdgamjijdneeaaPlaceOfX
import Derived.Test.YtcdgamjijdneeaaPlaceOfI
/- Each Go function computes its plain function. -/
namespace Go.Proofs.Ytcdgamjijdneeaa
open Go.RowKit Go.Abs
set_option maxRecDepth 100000
theorem internal_stringslite_IndexByte_ok {a0 : List UInt8} {a1 : Int} {r : Int} (hF : internal_stringslite_IndexByte a0 a1 = some r) : Abs.Fn Try.prog 100 [.str a0, .int .u8 a1] [.p (.int .i64 r)] := by
  unfold internal_stringslite_IndexByte at hF
  refine fn_of_body (n := 8) Try.func100 rfl rfl rfl ?_
  intro w O
  refine aw_seq ?_
  refine aw_region ?_
  refine reg_cons (guard_no rfl) (op_assign rfl rfl rfl rfl) ?_
  refine reg_nil ?_
  refine post_imp (s' := ⟨8, [(0, some (.pv (.str a0))), (1, some (.pv (.int .u8 a1)))], [], 0, [], [], 0, []⟩) (imp_sub [] rfl (by decide) rfl rfl ⟨by kernel_rfl, by kernel_rfl, trivial⟩ trivial rfl rfl rfl) ?_
  refine post_next ?_
  refine aw_seq ?_
  refine aw_region ?_
  refine reg_cons (guard_no rfl) (op_move rfl rfl rfl rfl) ?_
  refine reg_cons (guard_no rfl) (op_move rfl rfl rfl rfl) ?_
  refine reg_cons (guard_no rfl) (op_extSB rfl rfl rfl rfl Try_ext_114 rfl rfl) ?_
  refine reg_cons (guard_no rfl) (op_assign rfl rfl rfl rfl) ?_
  refine reg_nil ?_
  refine post_imp (s' := ⟨8, [(4, some (.pv (.int .i64 (idxB a0 a1))))], [], 0, [], [], 0, []⟩) (imp_sub [] rfl (by decide) rfl rfl ⟨by kernel_rfl, trivial⟩ trivial rfl rfl rfl) ?_
  refine post_next ?_
  refine aw_ret ?_
  obtain rfl := Option.some.inj hF
  exact post_ret rfl rfl (.cons _ _ _ _ _ (.tmp _ _ rfl) (.p _) .nil) (.inl rfl)
theorem strings_Count_ok {a0 : List UInt8} {a1 : List UInt8} {r : Int} (hF : strings_Count a0 a1 = some r) : Abs.Fn Try.prog 38 [.str a0, .str a1] [.p (.int .i64 r)] := by
  unfold strings_Count at hF
  refine fn_of_body (n := 34) Try.func38 rfl rfl rfl ?_
  intro w O
  refine aw_seq ?_
  refine aw_region ?_
  refine reg_cons (guard_no rfl) (op_assign rfl rfl rfl rfl) ?_
  refine reg_nil ?_
  refine post_imp (s' := ⟨34, [(0, some (.pv (.str a0))), (1, some (.pv (.str a1)))], [], 0, [], [], 0, []⟩) (imp_sub [] rfl (by decide) rfl rfl ⟨by kernel_rfl, by kernel_rfl, trivial⟩ trivial rfl rfl rfl) ?_
  refine post_next ?_
  refine aw_seq ?_
  refine aw_seq ?_
  refine aw_region ?_
  refine reg_cons (guard_no rfl) (op_move rfl rfl rfl rfl) ?_
  refine reg_cons (guard_no rfl) (op_len_str rfl rfl Try_und_9 rfl rfl) ?_
  refine reg_cons (guard_no rfl) (op_int (k := .i64) (m := (a1.length : Int)) (n := 0) rfl rfl rfl rfl rfl rfl) ?_
  refine reg_nil ?_
  refine post_imp (s' := ⟨34, [(0, some (.pv (.str a0))), (1, some (.pv (.str a1))), (9, some (.pv (.bool ((a1.length : Int) == 0))))], [], 0, [], [], 0, []⟩) (imp_sub [] rfl (by decide) rfl rfl ⟨by kernel_rfl, by kernel_rfl, by kernel_rfl, trivial⟩ trivial rfl rfl rfl) ?_
  refine post_next ?_
  rcases ite_some hF with ⟨hb1, hF⟩ | ⟨hb1, hF⟩
  · cases hF
  · refine aw_cond_f rfl hb1 ?_
    refine aw_skip ?_
    refine post_next ?_
    refine aw_seq ?_
    refine aw_seq ?_
    refine aw_region ?_
    refine reg_cons (guard_no rfl) (op_move rfl rfl rfl rfl) ?_
    refine reg_cons (guard_no rfl) (op_len_str rfl rfl Try_und_9 rfl rfl) ?_
    refine reg_cons (guard_no rfl) (op_int (k := .i64) (m := (a1.length : Int)) (n := 1) rfl rfl rfl rfl rfl rfl) ?_
    refine reg_nil ?_
    refine post_imp (s' := ⟨34, [(0, some (.pv (.str a0))), (1, some (.pv (.str a1))), (15, some (.pv (.bool ((a1.length : Int) == 1))))], [], 0, [], [], 0, []⟩) (imp_sub [] rfl (by decide) rfl rfl ⟨by kernel_rfl, by kernel_rfl, by kernel_rfl, trivial⟩ trivial rfl rfl rfl) ?_
    refine post_next ?_
    rcases ite_some hF with ⟨hb2, hF⟩ | ⟨hb2, hF⟩
    · refine aw_cond_t rfl hb2 ?_
      refine aw_seq ?_
      refine aw_region ?_
      refine reg_cons (guard_no rfl) (op_move rfl rfl rfl rfl) ?_
      refine reg_cons (guard_no rfl) (op_move rfl rfl rfl rfl) ?_
      obtain ⟨y3, h4, hF⟩ := bind_some hF
      refine reg_cons (guard_no rfl) (op_index_str (k := .i64) rfl rfl rfl h4 Try_und_9 rfl rfl) ?_
      refine reg_cons (guard_no rfl) (op_extSB rfl rfl rfl rfl Try_ext_64 rfl rfl) ?_
      refine reg_cons (guard_no rfl) (op_assign rfl rfl rfl rfl) ?_
      refine reg_nil ?_
      refine post_imp (s' := ⟨34, [(4, some (.pv (.int .i64 (cntB a0 (y3.toNat : Int)))))], [], 0, [], [], 0, []⟩) (imp_sub [] rfl (by decide) rfl rfl ⟨by kernel_rfl, trivial⟩ trivial rfl rfl rfl) ?_
      refine post_next ?_
      refine aw_ret ?_
      refine post_then_ret ?_
      obtain rfl := Option.some.inj hF
      exact post_ret rfl rfl (.cons _ _ _ _ _ (.tmp _ _ rfl) (.p _) .nil) (.inl rfl)
    · cases hF
theorem internal_bytealg_LastIndexByteString_ok {a0 : List UInt8} {a1 : Int} {r : Int} (hF : internal_bytealg_LastIndexByteString a0 a1 = some r) : Abs.Fn Try.prog 67 [.str a0, .int .u8 a1] [.p (.int .i64 r)] := by
  unfold internal_bytealg_LastIndexByteString at hF
  refine fn_of_body (n := 19) Try.func67 rfl rfl rfl ?_
  intro w O
  refine aw_seq ?_
  refine aw_region ?_
  refine reg_cons (guard_no rfl) (op_assign rfl rfl rfl rfl) ?_
  refine reg_nil ?_
  refine post_imp (s' := ⟨19, [(0, some (.pv (.str a0))), (1, some (.pv (.int .u8 a1)))], [], 0, [], [], 0, []⟩) (imp_sub [] rfl (by decide) rfl rfl ⟨by kernel_rfl, by kernel_rfl, trivial⟩ trivial rfl rfl rfl) ?_
  refine post_next ?_
  refine aw_seq ?_
  refine aw_seq ?_
  refine aw_region ?_
  refine reg_cons (guard_no rfl) (op_move rfl rfl rfl rfl) ?_
  refine reg_cons (guard_no rfl) (op_len_str rfl rfl Try_und_9 rfl rfl) ?_
  refine reg_cons (guard_no rfl) (op_int (k := .i64) (m := (a0.length : Int)) (n := 1) rfl rfl rfl rfl rfl rfl) ?_
  refine reg_cons (guard_no rfl) (op_assign rfl rfl rfl rfl) ?_
  refine reg_nil ?_
  refine post_imp (s' := ⟨19, [(0, some (.pv (.str a0))), (1, some (.pv (.int .u8 a1))), (5, some (.pv (.int .i64 (w_i64 ((a0.length : Int) - 1)))))], [], 0, [], [], 0, []⟩) (imp_sub [] rfl (by decide) rfl rfl ⟨by kernel_rfl, by kernel_rfl, by kernel_rfl, trivial⟩ trivial rfl rfl rfl) ?_
  refine post_next ?_
  obtain ⟨lr22, hF, hK23⟩ := bind_some hF
  refine aw_for ((((w_i64 ((a0.length : Int) - 1)) : Int) - (0)).toNat + 2) (fun s1 => ∃ q, lr22 = .next q ∧ s1 = ⟨19, [], [], 0, [], [], 0, []⟩) ?_ ?_
  · refine rnd_loop (α := Int) (fun q => ⟨19, [(0, some (.pv (.str a0))), (1, some (.pv (.int .u8 a1))), (5, some (.pv (.int .i64 q)))], [], 0, [], [], 0, []⟩) (fun k q => internal_bytealg_LastIndexByteString_L1 a0 a1 k q = some lr22) (w_i64 ((a0.length : Int) - 1)) (imp_sub [] rfl (by decide) rfl rfl ⟨by kernel_rfl, by kernel_rfl, by kernel_rfl, trivial⟩ trivial rfl rfl rfl) hF (fun q h => by cases h) ?_
    clear hF
    rintro k x7 hF ih
    refine rnd_succ ?_
    refine aw_seq ?_
    refine aw_seq ?_
    refine aw_region ?_
    refine reg_cons (guard_no rfl) (op_move rfl rfl rfl rfl) ?_
    refine reg_cons (guard_no rfl) (op_int (k := .i64) (m := x7) (n := 0) rfl rfl rfl rfl rfl rfl) ?_
    refine reg_nil ?_
    refine post_imp (s' := ⟨19, [(0, some (.pv (.str a0))), (1, some (.pv (.int .u8 a1))), (5, some (.pv (.int .i64 x7))), (10, some (.pv (.bool (decide (x7 ≥ 0)))))], [], 0, [], [], 0, []⟩) (imp_sub [] rfl (by decide) rfl rfl ⟨by kernel_rfl, by kernel_rfl, by kernel_rfl, by kernel_rfl, trivial⟩ trivial rfl rfl rfl) ?_
    refine post_next ?_
    rcases ite_some hF with ⟨hb15, hF⟩ | ⟨hb15, hF⟩
    · refine aw_cond_t rfl hb15 ?_
      refine aw_skip ?_
      refine post_next ?_
      refine aw_seq ?_
      refine aw_block ?_
      refine aw_seq ?_
      refine aw_region ?_
      refine reg_cons (guard_no rfl) (op_move rfl rfl rfl rfl) ?_
      refine reg_cons (guard_no rfl) (op_move rfl rfl rfl rfl) ?_
      obtain ⟨y18, h19, hF⟩ := bind_some hF
      refine reg_cons (guard_no rfl) (op_index_str (k := .i64) rfl rfl rfl h19 Try_und_9 rfl rfl) ?_
      refine reg_cons (guard_no rfl) (op_move rfl rfl rfl rfl) ?_
      refine reg_cons (guard_no rfl) (op_int (k := .u8) (m := (y18.toNat : Int)) (n := a1) rfl rfl rfl rfl rfl rfl) ?_
      refine reg_nil ?_
      refine post_imp (s' := ⟨19, [(0, some (.pv (.str a0))), (1, some (.pv (.int .u8 a1))), (5, some (.pv (.int .i64 x7))), (17, some (.pv (.bool ((y18.toNat : Int) == a1))))], [], 0, [], [], 0, []⟩) (imp_sub [] rfl (by decide) rfl rfl ⟨by kernel_rfl, by kernel_rfl, by kernel_rfl, by kernel_rfl, trivial⟩ trivial rfl rfl rfl) ?_
      refine post_next ?_
      rcases ite_some hF with ⟨hb20, hF⟩ | ⟨hb20, hF⟩
      · refine aw_cond_t rfl hb20 ?_
        refine aw_seq ?_
        refine aw_region ?_
        refine reg_cons (guard_no rfl) (op_move rfl rfl rfl rfl) ?_
        refine reg_cons (guard_no rfl) (op_assign rfl rfl rfl rfl) ?_
        refine reg_nil ?_
        refine post_imp (s' := ⟨19, [(4, some (.pv (.int .i64 x7)))], [], 0, [], [], 0, []⟩) (imp_sub [] rfl (by decide) rfl rfl ⟨by kernel_rfl, trivial⟩ trivial rfl rfl rfl) ?_
        refine post_next ?_
        refine aw_ret ?_
        refine post_block_ret ?_
        refine post_then_ret ?_
        refine post_then_ret ?_
        refine post_lp_ret ?_
        obtain rfl := Option.some.inj hF
        have hF := elim_stop hK23
        refine post_then_ret ?_
        obtain rfl := Option.some.inj hF
        exact post_ret rfl rfl (.cons _ _ _ _ _ (.tmp _ _ rfl) (.p _) .nil) (.inl rfl)
      · refine aw_cond_f rfl hb20 ?_
        refine aw_skip ?_
        refine post_block_normal ?_
        refine post_next ?_
        refine aw_region ?_
        refine reg_cons (guard_no rfl) (op_move rfl rfl rfl rfl) ?_
        refine reg_cons (guard_no rfl) (op_int (k := .i64) (m := x7) (n := 1) rfl rfl rfl rfl rfl rfl) ?_
        refine reg_cons (guard_no rfl) (op_assign rfl rfl rfl rfl) ?_
        refine reg_nil ?_
        refine post_round ?_
        exact rnd_back (ih (w_i64 (x7 - 1)) hF) (imp_sub [] rfl (by decide) rfl rfl ⟨by kernel_rfl, by kernel_rfl, by kernel_rfl, trivial⟩ trivial rfl rfl rfl)
    · refine aw_cond_f rfl hb15 ?_
      refine aw_exit ?_
      refine post_then_exit ?_
      refine post_then_exit ?_
      obtain rfl := Option.some.inj hF
      exact post_lp_break _ ⟨_, rfl, rfl⟩ (imp_sub [] rfl (by decide) rfl rfl trivial trivial rfl rfl rfl)
  · rintro _ ⟨⟨⟩, rfl, rfl⟩
    have hF := elim_next hK23
    clear hK23
    refine post_next ?_
    refine aw_seq ?_
    refine aw_region ?_
    refine reg_cons (guard_no rfl) (op_assign rfl rfl rfl rfl) ?_
    refine reg_nil ?_
    refine post_imp (s' := ⟨19, [(4, some (.pv (.int .i64 (-1))))], [], 0, [], [], 0, []⟩) (imp_sub [] rfl (by decide) rfl rfl ⟨by kernel_rfl, trivial⟩ trivial rfl rfl rfl) ?_
    refine post_next ?_
    refine aw_ret ?_
    obtain rfl := Option.some.inj hF
    exact post_ret rfl rfl (.cons _ _ _ _ _ (.tmp _ _ rfl) (.p _) .nil) (.inl rfl)
theorem strings_LastIndexByte_ok {a0 : List UInt8} {a1 : Int} {r : Int} (hF : strings_LastIndexByte a0 a1 = some r) : Abs.Fn Try.prog 40 [.str a0, .int .u8 a1] [.p (.int .i64 r)] := by
  unfold strings_LastIndexByte at hF
  refine fn_of_body (n := 8) Try.func40 rfl rfl rfl ?_
  intro w O
  refine aw_seq ?_
  refine aw_region ?_
  refine reg_cons (guard_no rfl) (op_assign rfl rfl rfl rfl) ?_
  refine reg_nil ?_
  refine post_imp (s' := ⟨8, [(0, some (.pv (.str a0))), (1, some (.pv (.int .u8 a1)))], [], 0, [], [], 0, []⟩) (imp_sub [] rfl (by decide) rfl rfl ⟨by kernel_rfl, by kernel_rfl, trivial⟩ trivial rfl rfl rfl) ?_
  refine post_next ?_
  refine aw_seq ?_
  refine aw_region ?_
  refine reg_cons (guard_no rfl) (op_move rfl rfl rfl rfl) ?_
  refine reg_cons (guard_no rfl) (op_move rfl rfl rfl rfl) ?_
  obtain ⟨y1, h2, hF⟩ := bind_some hF
  refine reg_cons (guard_no rfl) (op_call 0 rfl (caps := []) (args := [.str a0, .int .u8 a1]) (rs := [.p (.int .i64 y1)]) rfl rfl rfl Try_cal_67 (internal_bytealg_LastIndexByteString_ok h2) rfl rfl rfl) ?_
  refine reg_cons (guard_no rfl) (op_assign rfl rfl rfl rfl) ?_
  refine reg_nil ?_
  refine post_imp (s' := ⟨8, [(4, some (.pv (.int .i64 y1)))], [], 0, [], [], 0, []⟩) (imp_sub [] rfl (by decide) rfl rfl ⟨by kernel_rfl, trivial⟩ trivial rfl rfl rfl) ?_
  refine post_next ?_
  refine aw_ret ?_
  obtain rfl := Option.some.inj hF
  exact post_ret rfl rfl (.cons _ _ _ _ _ (.tmp _ _ rfl) (.p _) .nil) (.inl rfl)
theorem place_Of_ok {a0 : List UInt8} {a1 : Int} {r : Int × Int} (hF : place_Of a0 a1 = some r) : Abs.Fn Try.prog 13 [.str a0, .int .i64 a1] [.p (.int .i64 r.1), .p (.int .i64 r.2)] := by
  unfold place_Of at hF
  refine fn_of_body (n := 22) Try.func13 rfl rfl rfl ?_
  intro w O
  refine aw_seq ?_
  refine aw_region ?_
  refine reg_cons (guard_no rfl) (op_assign rfl rfl rfl rfl) ?_
  refine reg_cons (guard_no rfl) (op_assign rfl rfl rfl rfl) ?_
  refine reg_nil ?_
  refine post_imp (s' := ⟨22, [(0, some (.pv (.str a0))), (1, some (.pv (.int .i64 a1)))], [], 0, [], [], 0, []⟩) (imp_sub [] rfl (by decide) rfl rfl ⟨by kernel_rfl, by kernel_rfl, trivial⟩ trivial rfl rfl rfl) ?_
  refine post_next ?_
  refine aw_seq ?_
  refine aw_region ?_
  refine reg_cons (guard_no rfl) (op_move rfl rfl rfl rfl) ?_
  refine reg_cons (guard_no rfl) (op_move rfl rfl rfl rfl) ?_
  refine reg_cons (guard_no rfl) (op_len_str rfl rfl Try_und_9 rfl rfl) ?_
  refine reg_cons (guard_no rfl) (op_min2 rfl rfl rfl rfl rfl) ?_
  refine reg_cons (guard_no rfl) (op_max2 rfl rfl rfl rfl rfl) ?_
  refine reg_cons (guard_no rfl) (op_assign rfl rfl rfl rfl) ?_
  refine reg_nil ?_
  refine post_imp (s' := ⟨22, [(0, some (.pv (.str a0))), (1, some (.pv (.int .i64 (if (if (a0.length : Int) < a1 then (a0.length : Int) else a1) > 0 then (if (a0.length : Int) < a1 then (a0.length : Int) else a1) else 0))))], [], 0, [], [], 0, []⟩) (imp_sub [] rfl (by decide) rfl rfl ⟨by kernel_rfl, by kernel_rfl, trivial⟩ trivial rfl rfl rfl) ?_
  refine post_next ?_
  refine aw_seq ?_
  refine aw_region ?_
  refine reg_cons (guard_no rfl) (op_move rfl rfl rfl rfl) ?_
  refine reg_cons (guard_no rfl) (op_move rfl rfl rfl rfl) ?_
  obtain ⟨y3, h4, hF⟩ := bind_some hF
  refine reg_cons (guard_no rfl) (op_slice_str (nl := none) (nh := (some (if (if (a0.length : Int) < a1 then (a0.length : Int) else a1) > 0 then (if (a0.length : Int) < a1 then (a0.length : Int) else a1) else 0))) rfl rfl rfl rfl Try_und_9 h4 rfl rfl) ?_
  refine reg_cons (guard_no rfl) (op_assign rfl rfl rfl rfl) ?_
  refine reg_nil ?_
  refine post_imp (s' := ⟨22, [(1, some (.pv (.int .i64 (if (if (a0.length : Int) < a1 then (a0.length : Int) else a1) > 0 then (if (a0.length : Int) < a1 then (a0.length : Int) else a1) else 0)))), (6, some (.pv (.str y3)))], [], 0, [], [], 0, []⟩) (imp_sub [] rfl (by decide) rfl rfl ⟨by kernel_rfl, by kernel_rfl, trivial⟩ trivial rfl rfl rfl) ?_
  refine post_next ?_
  refine aw_seq ?_
  refine aw_region ?_
  refine reg_cons (guard_no rfl) (op_move rfl rfl rfl rfl) ?_
  obtain ⟨y5, h6, hF⟩ := bind_some hF
  refine reg_cons (guard_no rfl) (op_call 0 rfl (caps := []) (args := [.str y3, .str [10]]) (rs := [.p (.int .i64 y5)]) rfl rfl rfl Try_cal_38 (strings_Count_ok h6) rfl rfl rfl) ?_
  refine reg_cons (guard_no rfl) (op_int (k := .i64) (m := y5) (n := 1) rfl rfl rfl rfl rfl rfl) ?_
  refine reg_cons (guard_no rfl) (op_move rfl rfl rfl rfl) ?_
  refine reg_cons (guard_no rfl) (op_move rfl rfl rfl rfl) ?_
  obtain ⟨y7, h8, hF⟩ := bind_some hF
  refine reg_cons (guard_no rfl) (op_call 0 rfl (caps := []) (args := [.str y3, .int .u8 10]) (rs := [.p (.int .i64 y7)]) rfl rfl rfl Try_cal_40 (strings_LastIndexByte_ok h8) rfl rfl rfl) ?_
  refine reg_cons (guard_no rfl) (op_int (k := .i64) (m := (if (if (a0.length : Int) < a1 then (a0.length : Int) else a1) > 0 then (if (a0.length : Int) < a1 then (a0.length : Int) else a1) else 0)) (n := y7) rfl rfl rfl rfl rfl rfl) ?_
  refine reg_cons (guard_no rfl) (op_assign rfl rfl rfl rfl) ?_
  refine reg_cons (guard_no rfl) (op_assign rfl rfl rfl rfl) ?_
  refine reg_nil ?_
  refine post_imp (s' := ⟨22, [(4, some (.pv (.int .i64 (w_i64 (y5 + 1))))), (5, some (.pv (.int .i64 (w_i64 ((if (if (a0.length : Int) < a1 then (a0.length : Int) else a1) > 0 then (if (a0.length : Int) < a1 then (a0.length : Int) else a1) else 0) - y7)))))], [], 0, [], [], 0, []⟩) (imp_sub [] rfl (by decide) rfl rfl ⟨by kernel_rfl, by kernel_rfl, trivial⟩ trivial rfl rfl rfl) ?_
  refine post_next ?_
  refine aw_ret ?_
  obtain rfl := Option.some.inj hF
  exact post_ret rfl rfl (.cons _ _ _ _ _ (.tmp _ _ rfl) (.p _) (.cons _ _ _ _ _ (.tmp _ _ rfl) (.p _) .nil)) (.inl rfl)
theorem law01_awake_ok  {r : Bool} (hF : law01_awake = some r) : Abs.Fn Try.prog 10 [] [.p (.bool r)] := by
  unfold law01_awake at hF
  refine fn_of_body (n := 27) Try.func10 rfl rfl rfl ?_
  intro w O
  refine aw_seq ?_
  refine aw_region ?_
  refine reg_cons (guard_no rfl) (op_assign rfl rfl rfl rfl) ?_
  refine reg_nil ?_
  refine post_imp (s' := ⟨27, [], [], 0, [], [], 0, []⟩) (imp_sub [] rfl (by decide) rfl rfl trivial trivial rfl rfl rfl) ?_
  refine post_next ?_
  refine aw_seq ?_
  refine aw_region ?_
  obtain ⟨y3, h4, hF⟩ := bind_some hF
  refine reg_cons (guard_no rfl) (op_call 0 rfl (caps := []) (args := [.str [97, 98, 10, 99], .int .i64 3]) (rs := [.p (.int .i64 y3.1), .p (.int .i64 y3.2)]) rfl rfl rfl Try_cal_13 (place_Of_ok h4) rfl rfl rfl) ?_
  refine reg_cons (guard_no rfl) (op_move rfl rfl rfl rfl) ?_
  refine reg_cons (guard_no rfl) (op_extract rfl rfl rfl rfl rfl) ?_
  refine reg_cons (guard_no rfl) (op_extract rfl rfl rfl rfl rfl) ?_
  refine reg_cons (guard_no rfl) (op_assign rfl rfl rfl rfl) ?_
  refine reg_cons (guard_no rfl) (op_assign rfl rfl rfl rfl) ?_
  refine reg_nil ?_
  refine post_imp (s' := ⟨27, [(1, some (.pv (.int .i64 y3.1))), (2, some (.pv (.int .i64 y3.2)))], [], 0, [], [], 0, []⟩) (imp_sub [] rfl (by decide) rfl rfl ⟨by kernel_rfl, by kernel_rfl, trivial⟩ trivial rfl rfl rfl) ?_
  refine post_next ?_
  refine aw_seq ?_
  refine aw_region ?_
  obtain ⟨y7, h8, hF⟩ := bind_some hF
  refine reg_cons (guard_no rfl) (op_call 0 rfl (caps := []) (args := [.str [97, 98, 10, 99], .int .i64 2]) (rs := [.p (.int .i64 y7.1), .p (.int .i64 y7.2)]) rfl rfl rfl Try_cal_13 (place_Of_ok h8) rfl rfl rfl) ?_
  refine reg_cons (guard_no rfl) (op_move rfl rfl rfl rfl) ?_
  refine reg_cons (guard_no rfl) (op_extract rfl rfl rfl rfl rfl) ?_
  refine reg_cons (guard_no rfl) (op_extract rfl rfl rfl rfl rfl) ?_
  refine reg_cons (guard_no rfl) (op_assign rfl rfl rfl rfl) ?_
  refine reg_cons (guard_no rfl) (op_assign rfl rfl rfl rfl) ?_
  refine reg_nil ?_
  refine post_imp (s' := ⟨27, [(1, some (.pv (.int .i64 y3.1))), (2, some (.pv (.int .i64 y3.2))), (3, some (.pv (.int .i64 y7.1))), (4, some (.pv (.int .i64 y7.2)))], [], 0, [], [], 0, []⟩) (imp_sub [] rfl (by decide) rfl rfl ⟨by kernel_rfl, by kernel_rfl, by kernel_rfl, by kernel_rfl, trivial⟩ trivial rfl rfl rfl) ?_
  refine post_next ?_
  refine aw_seq ?_
  refine aw_region ?_
  refine reg_cons (guard_no rfl) (op_move rfl rfl rfl rfl) ?_
  refine reg_cons (guard_no rfl) (op_int (k := .i64) (m := y3.1) (n := 2) rfl rfl rfl rfl rfl rfl) ?_
  refine reg_cons (guard_no rfl) (op_move rfl rfl rfl rfl) ?_
  rcases ite_some hF with ⟨hb9, hF⟩ | ⟨hb9, hF⟩
  · refine reg_cons (guard_on rfl rfl rfl rfl hb9) (op_move rfl rfl rfl rfl) ?_
    refine reg_cons (guard_on rfl rfl rfl rfl hb9) (op_int (k := .i64) (m := y3.2) (n := 1) rfl rfl rfl rfl rfl rfl) ?_
    refine reg_cons (guard_no rfl) (op_pick_t rfl rfl hb9 rfl rfl rfl) ?_
    refine reg_cons (guard_no rfl) (op_move rfl rfl rfl rfl) ?_
    rcases ite_some hF with ⟨hb10, hF⟩ | ⟨hb10, hF⟩
    · refine reg_cons (guard_on rfl rfl rfl rfl hb10) (op_move rfl rfl rfl rfl) ?_
      refine reg_cons (guard_on rfl rfl rfl rfl hb10) (op_int (k := .i64) (m := y7.1) (n := 1) rfl rfl rfl rfl rfl rfl) ?_
      refine reg_cons (guard_no rfl) (op_pick_t rfl rfl hb10 rfl rfl rfl) ?_
      refine reg_cons (guard_no rfl) (op_move rfl rfl rfl rfl) ?_
      rcases ite_some hF with ⟨hb11, hF⟩ | ⟨hb11, hF⟩
      · refine reg_cons (guard_on rfl rfl rfl rfl hb11) (op_move rfl rfl rfl rfl) ?_
        refine reg_cons (guard_on rfl rfl rfl rfl hb11) (op_int (k := .i64) (m := y7.2) (n := 3) rfl rfl rfl rfl rfl rfl) ?_
        refine reg_cons (guard_no rfl) (op_pick_t rfl rfl hb11 rfl rfl rfl) ?_
        refine reg_cons (guard_no rfl) (op_assign rfl rfl rfl rfl) ?_
        refine reg_nil ?_
        refine post_imp (s' := ⟨27, [(0, some (.pv (.bool (y7.2 == 3))))], [], 0, [], [], 0, []⟩) (imp_sub [] rfl (by decide) rfl rfl ⟨by kernel_rfl, trivial⟩ trivial rfl rfl rfl) ?_
        refine post_next ?_
        refine aw_ret ?_
        obtain rfl := Option.some.inj hF
        exact post_ret rfl rfl (.cons _ _ _ _ _ (.tmp _ _ rfl) (.p _) .nil) (.inl rfl)
      · refine reg_off (guard_off rfl rfl rfl rfl hb11) rfl rfl ?_
        refine reg_off (guard_off rfl rfl rfl rfl hb11) rfl rfl ?_
        refine reg_cons (guard_no rfl) (op_pick_f rfl rfl hb11 rfl rfl rfl) ?_
        refine reg_cons (guard_no rfl) (op_assign rfl rfl rfl rfl) ?_
        refine reg_nil ?_
        refine post_imp (s' := ⟨27, [(0, some (.pv (.bool false)))], [], 0, [], [], 0, []⟩) (imp_sub [] rfl (by decide) rfl rfl ⟨by kernel_rfl, trivial⟩ trivial rfl rfl rfl) ?_
        refine post_next ?_
        refine aw_ret ?_
        obtain rfl := Option.some.inj hF
        exact post_ret rfl rfl (.cons _ _ _ _ _ (.tmp _ _ rfl) (.p _) .nil) (.inl rfl)
    · refine reg_off (guard_off rfl rfl rfl rfl hb10) rfl rfl ?_
      refine reg_off (guard_off rfl rfl rfl rfl hb10) rfl rfl ?_
      refine reg_cons (guard_no rfl) (op_pick_f rfl rfl hb10 rfl rfl rfl) ?_
      refine reg_cons (guard_no rfl) (op_move rfl rfl rfl rfl) ?_
      refine reg_off (guard_off rfl rfl rfl rfl rfl) rfl rfl ?_
      refine reg_off (guard_off rfl rfl rfl rfl rfl) rfl rfl ?_
      refine reg_cons (guard_no rfl) (op_pick_f rfl rfl rfl rfl rfl rfl) ?_
      refine reg_cons (guard_no rfl) (op_assign rfl rfl rfl rfl) ?_
      refine reg_nil ?_
      refine post_imp (s' := ⟨27, [(0, some (.pv (.bool false)))], [], 0, [], [], 0, []⟩) (imp_sub [] rfl (by decide) rfl rfl ⟨by kernel_rfl, trivial⟩ trivial rfl rfl rfl) ?_
      refine post_next ?_
      refine aw_ret ?_
      obtain rfl := Option.some.inj hF
      exact post_ret rfl rfl (.cons _ _ _ _ _ (.tmp _ _ rfl) (.p _) .nil) (.inl rfl)
  · refine reg_off (guard_off rfl rfl rfl rfl hb9) rfl rfl ?_
    refine reg_off (guard_off rfl rfl rfl rfl hb9) rfl rfl ?_
    refine reg_cons (guard_no rfl) (op_pick_f rfl rfl hb9 rfl rfl rfl) ?_
    refine reg_cons (guard_no rfl) (op_move rfl rfl rfl rfl) ?_
    refine reg_off (guard_off rfl rfl rfl rfl rfl) rfl rfl ?_
    refine reg_off (guard_off rfl rfl rfl rfl rfl) rfl rfl ?_
    refine reg_cons (guard_no rfl) (op_pick_f rfl rfl rfl rfl rfl rfl) ?_
    refine reg_cons (guard_no rfl) (op_move rfl rfl rfl rfl) ?_
    refine reg_off (guard_off rfl rfl rfl rfl rfl) rfl rfl ?_
    refine reg_off (guard_off rfl rfl rfl rfl rfl) rfl rfl ?_
    refine reg_cons (guard_no rfl) (op_pick_f rfl rfl rfl rfl rfl rfl) ?_
    refine reg_cons (guard_no rfl) (op_assign rfl rfl rfl rfl) ?_
    refine reg_nil ?_
    refine post_imp (s' := ⟨27, [(0, some (.pv (.bool false)))], [], 0, [], [], 0, []⟩) (imp_sub [] rfl (by decide) rfl rfl ⟨by kernel_rfl, trivial⟩ trivial rfl rfl rfl) ?_
    refine post_next ?_
    refine aw_ret ?_
    obtain rfl := Option.some.inj hF
    exact post_ret rfl rfl (.cons _ _ _ _ _ (.tmp _ _ rfl) (.p _) .nil) (.inl rfl)
theorem ref01_Of_ok {a0 : List UInt8} {a1 : Int} {r : Int × Int} (hF : ref01_Of a0 a1 = some r) : Abs.Fn Try.prog 14 [.str a0, .int .i64 a1] [.p (.int .i64 r.1), .p (.int .i64 r.2)] := by
  unfold ref01_Of at hF
  refine fn_of_body (n := 30) Try.func14 rfl rfl rfl ?_
  intro w O
  refine aw_seq ?_
  refine aw_region ?_
  refine reg_cons (guard_no rfl) (op_assign rfl rfl rfl rfl) ?_
  refine reg_cons (guard_no rfl) (op_assign rfl rfl rfl rfl) ?_
  refine reg_nil ?_
  refine post_imp (s' := ⟨30, [(0, some (.pv (.str a0))), (1, some (.pv (.int .i64 a1)))], [], 0, [], [], 0, []⟩) (imp_sub [] rfl (by decide) rfl rfl ⟨by kernel_rfl, by kernel_rfl, trivial⟩ trivial rfl rfl rfl) ?_
  refine post_next ?_
  refine aw_seq ?_
  refine aw_region ?_
  refine reg_cons (guard_no rfl) (op_assign rfl rfl rfl rfl) ?_
  refine reg_cons (guard_no rfl) (op_assign rfl rfl rfl rfl) ?_
  refine reg_nil ?_
  refine post_imp (s' := ⟨30, [(0, some (.pv (.str a0))), (1, some (.pv (.int .i64 a1))), (6, some (.pv (.int .i64 1))), (7, some (.pv (.int .i64 1)))], [], 0, [], [], 0, []⟩) (imp_sub [] rfl (by decide) rfl rfl ⟨by kernel_rfl, by kernel_rfl, by kernel_rfl, by kernel_rfl, trivial⟩ trivial rfl rfl rfl) ?_
  refine post_next ?_
  refine aw_seq ?_
  refine aw_seq ?_
  refine aw_region ?_
  refine reg_cons (guard_no rfl) (op_assign rfl rfl rfl rfl) ?_
  refine reg_nil ?_
  refine post_imp (s' := ⟨30, [(0, some (.pv (.str a0))), (1, some (.pv (.int .i64 a1))), (6, some (.pv (.int .i64 1))), (7, some (.pv (.int .i64 1))), (8, some (.pv (.int .i64 0)))], [], 0, [], [], 0, []⟩) (imp_sub [] rfl (by decide) rfl rfl ⟨by kernel_rfl, by kernel_rfl, by kernel_rfl, by kernel_rfl, by kernel_rfl, trivial⟩ trivial rfl rfl rfl) ?_
  refine post_next ?_
  obtain ⟨lr54, hF, hK55⟩ := bind_some hF
  refine aw_for (a0.length + 1) (fun s1 => s1 = ⟨30, [(6, some (.pv (.int .i64 lr54.1))), (7, some (.pv (.int .i64 lr54.2)))], [], 0, [], [], 0, []⟩) ?_ ?_
  · refine rnd_loop (α := Int × Int × Int) (fun q => ⟨30, [(0, some (.pv (.str a0))), (1, some (.pv (.int .i64 a1))), (6, some (.pv (.int .i64 q.1))), (7, some (.pv (.int .i64 q.2.1))), (8, some (.pv (.int .i64 q.2.2)))], [], 0, [], [], 0, []⟩) (fun k q => ref01_Of_L1 a0 a1 k q.1 q.2.1 q.2.2 = some lr54) (1, 1, 0) (imp_sub [] rfl (by decide) rfl rfl ⟨by kernel_rfl, by kernel_rfl, by kernel_rfl, by kernel_rfl, by kernel_rfl, trivial⟩ trivial rfl rfl rfl) hF (fun q h => by cases h) ?_
    clear hF
    rintro k ⟨x15, x16, x17⟩ hF ih
    refine rnd_succ ?_
    refine aw_seq ?_
    refine aw_seq ?_
    obtain ⟨x36, hF, hK38⟩ := bind_some hF
    refine aw_cut (fun s1 => s1 = ⟨30, [(0, some (.pv (.str a0))), (1, some (.pv (.int .i64 a1))), (6, some (.pv (.int .i64 x15))), (7, some (.pv (.int .i64 x16))), (8, some (.pv (.int .i64 x17))), (17, some (.pv (.bool x36)))], [], 0, [], [], 0, []⟩) ?_ ?_
    · refine aw_region ?_
      refine reg_cons (guard_no rfl) (op_move rfl rfl rfl rfl) ?_
      refine reg_cons (guard_no rfl) (op_move rfl rfl rfl rfl) ?_
      refine reg_cons (guard_no rfl) (op_len_str rfl rfl Try_und_9 rfl rfl) ?_
      refine reg_cons (guard_no rfl) (op_int (k := .i64) (m := x17) (n := (a0.length : Int)) rfl rfl rfl rfl rfl rfl) ?_
      refine reg_cons (guard_no rfl) (op_move rfl rfl rfl rfl) ?_
      rcases ite_some hF with ⟨hb35, hF⟩ | ⟨hb35, hF⟩
      · refine reg_cons (guard_on rfl rfl rfl rfl hb35) (op_move rfl rfl rfl rfl) ?_
        refine reg_cons (guard_on rfl rfl rfl rfl hb35) (op_move rfl rfl rfl rfl) ?_
        refine reg_cons (guard_on rfl rfl rfl rfl hb35) (op_int (k := .i64) (m := x17) (n := a1) rfl rfl rfl rfl rfl rfl) ?_
        refine reg_cons (guard_no rfl) (op_pick_t rfl rfl hb35 rfl rfl rfl) ?_
        refine reg_nil ?_
        cases hF
        exact post_cut _ rfl (imp_sub [] rfl (by decide) rfl rfl ⟨by kernel_rfl, by kernel_rfl, by kernel_rfl, by kernel_rfl, by kernel_rfl, by kernel_rfl, trivial⟩ trivial rfl rfl rfl)
      · refine reg_off (guard_off rfl rfl rfl rfl hb35) rfl rfl ?_
        refine reg_off (guard_off rfl rfl rfl rfl hb35) rfl rfl ?_
        refine reg_off (guard_off rfl rfl rfl rfl hb35) rfl rfl ?_
        refine reg_cons (guard_no rfl) (op_pick_f rfl rfl hb35 rfl rfl rfl) ?_
        refine reg_nil ?_
        cases hF
        exact post_cut _ rfl (imp_sub [] rfl (by decide) rfl rfl ⟨by kernel_rfl, by kernel_rfl, by kernel_rfl, by kernel_rfl, by kernel_rfl, by kernel_rfl, trivial⟩ trivial rfl rfl rfl)
    · rintro _ rfl
      have hF := hK38
      clear hK38
      refine post_next ?_
      rcases ite_some hF with ⟨hb39, hF⟩ | ⟨hb39, hF⟩
      · refine aw_cond_t rfl hb39 ?_
        refine aw_skip ?_
        refine post_next ?_
        refine aw_seq ?_
        obtain ⟨p47, hF, hK48⟩ := bind_some hF
        obtain ⟨x45, x46⟩ := p47
        refine aw_cut (fun s1 => s1 = ⟨30, [(0, some (.pv (.str a0))), (1, some (.pv (.int .i64 a1))), (6, some (.pv (.int .i64 x45))), (7, some (.pv (.int .i64 x46))), (8, some (.pv (.int .i64 x17)))], [], 0, [], [], 0, []⟩) ?_ ?_
        · refine aw_block ?_
          refine aw_seq ?_
          refine aw_region ?_
          refine reg_cons (guard_no rfl) (op_move rfl rfl rfl rfl) ?_
          refine reg_cons (guard_no rfl) (op_int (k := .i64) (m := x16) (n := 1) rfl rfl rfl rfl rfl rfl) ?_
          refine reg_cons (guard_no rfl) (op_assign rfl rfl rfl rfl) ?_
          refine reg_nil ?_
          refine post_imp (s' := ⟨30, [(0, some (.pv (.str a0))), (1, some (.pv (.int .i64 a1))), (6, some (.pv (.int .i64 x15))), (7, some (.pv (.int .i64 (w_i64 (x16 + 1))))), (8, some (.pv (.int .i64 x17)))], [], 0, [], [], 0, []⟩) (imp_sub [] rfl (by decide) rfl rfl ⟨by kernel_rfl, by kernel_rfl, by kernel_rfl, by kernel_rfl, by kernel_rfl, trivial⟩ trivial rfl rfl rfl) ?_
          refine post_next ?_
          refine aw_seq ?_
          refine aw_region ?_
          refine reg_cons (guard_no rfl) (op_move rfl rfl rfl rfl) ?_
          refine reg_cons (guard_no rfl) (op_move rfl rfl rfl rfl) ?_
          obtain ⟨y42, h43, hF⟩ := bind_some hF
          refine reg_cons (guard_no rfl) (op_index_str (k := .i64) rfl rfl rfl h43 Try_und_9 rfl rfl) ?_
          refine reg_cons (guard_no rfl) (op_int (k := .u8) (m := (y42.toNat : Int)) (n := 10) rfl rfl rfl rfl rfl rfl) ?_
          refine reg_nil ?_
          refine post_imp (s' := ⟨30, [(0, some (.pv (.str a0))), (1, some (.pv (.int .i64 a1))), (6, some (.pv (.int .i64 x15))), (7, some (.pv (.int .i64 (w_i64 (x16 + 1))))), (8, some (.pv (.int .i64 x17))), (25, some (.pv (.bool ((y42.toNat : Int) == 10))))], [], 0, [], [], 0, []⟩) (imp_sub [] rfl (by decide) rfl rfl ⟨by kernel_rfl, by kernel_rfl, by kernel_rfl, by kernel_rfl, by kernel_rfl, by kernel_rfl, trivial⟩ trivial rfl rfl rfl) ?_
          refine post_next ?_
          rcases ite_some hF with ⟨hb44, hF⟩ | ⟨hb44, hF⟩
          · refine aw_cond_t rfl hb44 ?_
            refine aw_seq ?_
            refine aw_region ?_
            refine reg_cons (guard_no rfl) (op_move rfl rfl rfl rfl) ?_
            refine reg_cons (guard_no rfl) (op_int (k := .i64) (m := x15) (n := 1) rfl rfl rfl rfl rfl rfl) ?_
            refine reg_cons (guard_no rfl) (op_assign rfl rfl rfl rfl) ?_
            refine reg_nil ?_
            refine post_imp (s' := ⟨30, [(0, some (.pv (.str a0))), (1, some (.pv (.int .i64 a1))), (6, some (.pv (.int .i64 (w_i64 (x15 + 1))))), (8, some (.pv (.int .i64 x17)))], [], 0, [], [], 0, []⟩) (imp_sub [] rfl (by decide) rfl rfl ⟨by kernel_rfl, by kernel_rfl, by kernel_rfl, by kernel_rfl, trivial⟩ trivial rfl rfl rfl) ?_
            refine post_next ?_
            refine aw_region ?_
            refine reg_cons (guard_no rfl) (op_assign rfl rfl rfl rfl) ?_
            refine reg_nil ?_
            refine post_imp (s' := ⟨30, [(0, some (.pv (.str a0))), (1, some (.pv (.int .i64 a1))), (6, some (.pv (.int .i64 (w_i64 (x15 + 1))))), (7, some (.pv (.int .i64 1))), (8, some (.pv (.int .i64 x17)))], [], 0, [], [], 0, []⟩) (imp_sub [] rfl (by decide) rfl rfl ⟨by kernel_rfl, by kernel_rfl, by kernel_rfl, by kernel_rfl, by kernel_rfl, trivial⟩ trivial rfl rfl rfl) ?_
            refine post_block_normal ?_
            cases hF
            exact post_cut _ rfl (imp_sub [] rfl (by decide) rfl rfl ⟨by kernel_rfl, by kernel_rfl, by kernel_rfl, by kernel_rfl, by kernel_rfl, trivial⟩ trivial rfl rfl rfl)
          · refine aw_cond_f rfl hb44 ?_
            refine aw_skip ?_
            refine post_block_normal ?_
            cases hF
            exact post_cut _ rfl (imp_sub [] rfl (by decide) rfl rfl ⟨by kernel_rfl, by kernel_rfl, by kernel_rfl, by kernel_rfl, by kernel_rfl, trivial⟩ trivial rfl rfl rfl)
        · rintro _ rfl
          have hF := hK48
          clear hK48
          refine post_next ?_
          refine aw_region ?_
          refine reg_cons (guard_no rfl) (op_move rfl rfl rfl rfl) ?_
          refine reg_cons (guard_no rfl) (op_int (k := .i64) (m := x17) (n := 1) rfl rfl rfl rfl rfl rfl) ?_
          refine reg_cons (guard_no rfl) (op_assign rfl rfl rfl rfl) ?_
          refine reg_nil ?_
          refine post_round ?_
          exact rnd_back (ih (x45, x46, w_i64 (x17 + 1)) hF) (imp_sub [] rfl (by decide) rfl rfl ⟨by kernel_rfl, by kernel_rfl, by kernel_rfl, by kernel_rfl, by kernel_rfl, trivial⟩ trivial rfl rfl rfl)
      · refine aw_cond_f rfl hb39 ?_
        refine aw_exit ?_
        refine post_then_exit ?_
        refine post_then_exit ?_
        obtain rfl := Option.some.inj hF
        exact post_lp_break _ rfl (imp_sub [] rfl (by decide) rfl rfl ⟨by kernel_rfl, by kernel_rfl, trivial⟩ trivial rfl rfl rfl)
  · rintro _ rfl
    have hF := hK55
    clear hK55
    obtain ⟨x52, x53⟩ := lr54
    refine post_next ?_
    refine aw_seq ?_
    refine aw_region ?_
    refine reg_cons (guard_no rfl) (op_move rfl rfl rfl rfl) ?_
    refine reg_cons (guard_no rfl) (op_move rfl rfl rfl rfl) ?_
    refine reg_cons (guard_no rfl) (op_assign rfl rfl rfl rfl) ?_
    refine reg_cons (guard_no rfl) (op_assign rfl rfl rfl rfl) ?_
    refine reg_nil ?_
    refine post_imp (s' := ⟨30, [(4, some (.pv (.int .i64 x52))), (5, some (.pv (.int .i64 x53)))], [], 0, [], [], 0, []⟩) (imp_sub [] rfl (by decide) rfl rfl ⟨by kernel_rfl, by kernel_rfl, trivial⟩ trivial rfl rfl rfl) ?_
    refine post_next ?_
    refine aw_ret ?_
    obtain rfl := Option.some.inj hF
    exact post_ret rfl rfl (.cons _ _ _ _ _ (.tmp _ _ rfl) (.p _) (.cons _ _ _ _ _ (.tmp _ _ rfl) (.p _) .nil)) (.inl rfl)
theorem place_lines_ok {a0 : List UInt8} {r : (List UInt8)} (hF : place_lines a0 = some r) : Abs.Fn Try.prog 66 [.str a0] [.p (.fn 86 [.vp (eS r)])] := by
  unfold place_lines at hF
  refine fn_of_body (n := 4) Try.func66 rfl rfl rfl ?_
  intro w O
  refine aw_seq ?_
  refine aw_region ?_
  refine reg_cons (guard_no rfl) (op_box 0 rfl rfl rfl rfl rfl rfl) ?_
  refine reg_cons (guard_no rfl) (op_assign rfl rfl rfl rfl) ?_
  refine reg_nil ?_
  refine post_imp (s' := ⟨4, [(1, some (.lp 0 0))], [(0, some (.box 9 [.pv (.str a0)]))], 1, [], [], 0, []⟩) (imp_sub [0] rfl (by decide) rfl rfl ⟨by kernel_rfl, trivial⟩ ⟨by kernel_rfl, trivial⟩ rfl rfl rfl) ?_
  refine post_next ?_
  refine aw_seq ?_
  refine aw_region ?_
  refine reg_cons (guard_no rfl) (op_makeFunc rfl rfl rfl rfl) ?_
  refine reg_cons (guard_no rfl) (op_assign rfl rfl rfl rfl) ?_
  refine reg_nil ?_
  refine post_imp (s' := ⟨4, [(2, some (.fn 86 [.lp 0 0]))], [(0, some (.box 9 [.pv (.str a0)]))], 1, [], [], 0, []⟩) (imp_sub [0] rfl (by decide) rfl rfl ⟨by kernel_rfl, trivial⟩ ⟨by kernel_rfl, trivial⟩ rfl rfl rfl) ?_
  refine post_next ?_
  refine aw_ret ?_
  refine post_imp (imp_freeze [(0, some (.box 9 [.pv (.str a0)]))] [(2, some (.pv (.fn 86 [.vp (eS a0)])))] (FzH.spec ⟨rfl, trivial⟩) ⟨⟨_, rfl, rfl⟩, trivial⟩) ?_
  obtain rfl := Option.some.inj hF
  exact post_ret rfl rfl (.cons _ _ _ _ _ (.tmp _ _ rfl) (.p _) .nil) (.inl rfl)
theorem strings_IndexByte_ok {a0 : List UInt8} {a1 : Int} {r : Int} (hF : strings_IndexByte a0 a1 = some r) : Abs.Fn Try.prog 87 [.str a0, .int .u8 a1] [.p (.int .i64 r)] := by
  unfold strings_IndexByte at hF
  refine fn_of_body (n := 8) Try.func87 rfl rfl rfl ?_
  intro w O
  refine aw_seq ?_
  refine aw_region ?_
  refine reg_cons (guard_no rfl) (op_assign rfl rfl rfl rfl) ?_
  refine reg_nil ?_
  refine post_imp (s' := ⟨8, [(0, some (.pv (.str a0))), (1, some (.pv (.int .u8 a1)))], [], 0, [], [], 0, []⟩) (imp_sub [] rfl (by decide) rfl rfl ⟨by kernel_rfl, by kernel_rfl, trivial⟩ trivial rfl rfl rfl) ?_
  refine post_next ?_
  refine aw_seq ?_
  refine aw_region ?_
  refine reg_cons (guard_no rfl) (op_move rfl rfl rfl rfl) ?_
  refine reg_cons (guard_no rfl) (op_move rfl rfl rfl rfl) ?_
  obtain ⟨y1, h2, hF⟩ := bind_some hF
  refine reg_cons (guard_no rfl) (op_call 0 rfl (caps := []) (args := [.str a0, .int .u8 a1]) (rs := [.p (.int .i64 y1)]) rfl rfl rfl Try_cal_100 (internal_stringslite_IndexByte_ok h2) rfl rfl rfl) ?_
  refine reg_cons (guard_no rfl) (op_assign rfl rfl rfl rfl) ?_
  refine reg_nil ?_
  refine post_imp (s' := ⟨8, [(4, some (.pv (.int .i64 y1)))], [], 0, [], [], 0, []⟩) (imp_sub [] rfl (by decide) rfl rfl ⟨by kernel_rfl, trivial⟩ trivial rfl rfl rfl) ?_
  refine post_next ?_
  refine aw_ret ?_
  obtain rfl := Option.some.inj hF
  exact post_ret rfl rfl (.cons _ _ _ _ _ (.tmp _ _ rfl) (.p _) .nil) (.inl rfl)
theorem place_lines_1_it {rows : List (Gline_place)} {sp : Nat} {c0 : List UInt8} (hF : place_lines_1 rows sp c0 = some (min (sp + 1) rows.length)) : It Try.prog 86 1 [.vp (eS c0)] none [] (rows.map (fun z : Gline_place => ([.agg (eGline_place z)] : List PV))) sp := by
  unfold place_lines_1 at hF
  refine it_of_body (n := 34) Try.func86 rfl rfl rfl ?_
  intro l c hcx
  refine aw_seq ?_
  refine aw_region ?_
  refine reg_cons (guard_no rfl) (op_assign rfl rfl rfl rfl) ?_
  refine reg_nil ?_
  refine post_imp (s' := ⟨34, [(0, some (.pv (.yld l))), (1, some (.pv (.vp (eS c0)))), (3, some (.pv (.int .i64 0)))], [], 0, [], [], 0, []⟩) (imp_sub [] rfl (by decide) rfl rfl ⟨by kernel_rfl, by kernel_rfl, by kernel_rfl, trivial⟩ trivial rfl rfl rfl) ?_
  refine post_next ?_
  refine aw_seq ?_
  refine aw_region ?_
  refine reg_cons (guard_no rfl) (op_assign rfl rfl rfl rfl) ?_
  refine reg_nil ?_
  refine post_imp (s' := ⟨34, [(0, some (.pv (.yld l))), (1, some (.pv (.vp (eS c0)))), (3, some (.pv (.int .i64 0))), (4, some (.pv (.int .i64 1)))], [], 0, [], [], 0, []⟩) (imp_sub [] rfl (by decide) rfl rfl ⟨by kernel_rfl, by kernel_rfl, by kernel_rfl, by kernel_rfl, trivial⟩ trivial rfl rfl rfl) ?_
  refine post_next ?_
  obtain ⟨lr58, hF, hK59⟩ := bind_some hF
  refine aw_for (c0.length + 2) (fun _ => False) ?_ ?_
  · refine rnd_loop (α := Nat × Int × Int) (fun q => ⟨34, [(0, some (.pv (.yld l))), (1, some (.pv (.vp (eS c0)))), (3, some (.pv (.int .i64 q.2.1))), (4, some (.pv (.int .i64 q.2.2)))], [], 0, [], [], q.1, []⟩) (fun k q => place_lines_1_L1 c0 sp rows k q.1 q.2.1 q.2.2 = some lr58) (0, 0, 1) (imp_sub [] rfl (by decide) rfl rfl ⟨by kernel_rfl, by kernel_rfl, by kernel_rfl, by kernel_rfl, trivial⟩ trivial rfl rfl rfl) hF (fun q h => by cases h) ?_
    clear hF
    rintro k ⟨x17, x18, x19⟩ hF ih
    refine rnd_succ ?_
    refine aw_seq ?_
    refine aw_block ?_
    refine aw_seq ?_
    refine aw_region ?_
    refine reg_cons (guard_no rfl) (op_load_vp (p := .str c0) rfl rfl rfl Try_one_9 rfl rfl) ?_
    refine reg_cons (guard_no rfl) (op_move rfl rfl rfl rfl) ?_
    obtain ⟨y43, h44, hF⟩ := bind_some hF
    refine reg_cons (guard_no rfl) (op_slice_str (nl := (some x18)) (nh := none) rfl rfl rfl rfl Try_und_9 h44 rfl rfl) ?_
    obtain ⟨y45, h46, hF⟩ := bind_some hF
    refine reg_cons (guard_no rfl) (op_call 0 rfl (caps := []) (args := [.str y43, .int .u8 10]) (rs := [.p (.int .i64 y45)]) rfl rfl rfl Try_cal_87 (strings_IndexByte_ok h46) rfl rfl rfl) ?_
    refine reg_cons (guard_no rfl) (op_assign rfl rfl rfl rfl) ?_
    refine reg_nil ?_
    refine post_imp (s' := ⟨34, [(0, some (.pv (.yld l))), (1, some (.pv (.vp (eS c0)))), (3, some (.pv (.int .i64 x18))), (4, some (.pv (.int .i64 x19))), (5, some (.pv (.int .i64 y45)))], [], 0, [], [], x17, []⟩) (imp_sub [] rfl (by decide) rfl rfl ⟨by kernel_rfl, by kernel_rfl, by kernel_rfl, by kernel_rfl, by kernel_rfl, trivial⟩ trivial rfl rfl rfl) ?_
    refine post_next ?_
    refine aw_seq ?_
    refine aw_seq ?_
    refine aw_region ?_
    refine reg_cons (guard_no rfl) (op_move rfl rfl rfl rfl) ?_
    refine reg_cons (guard_no rfl) (op_int (k := .i64) (m := y45) (n := 0) rfl rfl rfl rfl rfl rfl) ?_
    refine reg_nil ?_
    refine post_imp (s' := ⟨34, [(0, some (.pv (.yld l))), (1, some (.pv (.vp (eS c0)))), (3, some (.pv (.int .i64 x18))), (4, some (.pv (.int .i64 x19))), (5, some (.pv (.int .i64 y45))), (13, some (.pv (.bool (decide (y45 < 0)))))], [], 0, [], [], x17, []⟩) (imp_sub [] rfl (by decide) rfl rfl ⟨by kernel_rfl, by kernel_rfl, by kernel_rfl, by kernel_rfl, by kernel_rfl, by kernel_rfl, trivial⟩ trivial rfl rfl rfl) ?_
    refine post_next ?_
    rcases ite_some hF with ⟨hb47, hF⟩ | ⟨hb47, hF⟩
    · refine aw_cond_t rfl hb47 ?_
      refine aw_seq ?_
      refine aw_region ?_
      refine reg_cons (guard_no rfl) (op_move rfl rfl rfl rfl) ?_
      refine reg_cons (guard_no rfl) (op_move rfl rfl rfl rfl) ?_
      refine reg_cons (guard_no rfl) (op_move rfl rfl rfl rfl) ?_
      refine reg_cons (guard_no rfl) (op_load_vp (p := .str c0) rfl rfl rfl Try_one_9 rfl rfl) ?_
      refine reg_cons (guard_no rfl) (op_len_str rfl rfl Try_und_9 rfl rfl) ?_
      refine reg_cons (guard_no rfl) (op_build (zs := [.int .i64 (({ fn := 0, ffrom := 0, fto := 0 } : Gline_place).fn), .int .i64 (({ fn := 0, ffrom := 0, fto := 0 } : Gline_place).ffrom), .int .i64 (({ fn := 0, ffrom := 0, fto := 0 } : Gline_place).fto)]) (r := eGline_place ({ fn := x19, ffrom := x18, fto := (c0.length : Int) } : Gline_place)) rfl Try_zer_79 (by exact ⟨rfl, rfl, rfl, trivial⟩) Try_plc_79 rfl rfl rfl rfl) ?_
      obtain ⟨u48, h49, hF⟩ := bind_some hF
      refine reg_cons (guard_no rfl) (op_yield (row := (fun z : Gline_place => ([.agg (eGline_place z)] : List PV)) ({ fn := x19, ffrom := x18, fto := (c0.length : Int) } : Gline_place)) hcx rfl rfl rfl rfl (yck_row (fun z : Gline_place => ([.agg (eGline_place z)] : List PV)) h49) (yck_spec h49).2 rfl rfl) ?_
      refine reg_nil ?_
      refine post_imp (s' := ⟨34, [], [], 0, [], [], (x17 + 1), []⟩) (imp_sub [] rfl (by decide) rfl rfl trivial trivial rfl rfl rfl) ?_
      refine post_next ?_
      refine aw_ret ?_
      refine post_then_ret ?_
      refine post_block_ret ?_
      refine post_then_ret ?_
      refine post_then_ret ?_
      refine post_lp_ret ?_
      obtain rfl := Option.some.inj hF
      have hF := elim_stop hK59
      exact post_it (it_len hF) rfl (.inl rfl)
    · refine aw_cond_f rfl hb47 ?_
      refine aw_skip ?_
      refine post_next ?_
      refine aw_seq ?_
      refine aw_seq ?_
      refine aw_region ?_
      refine reg_cons (guard_no rfl) (op_move rfl rfl rfl rfl) ?_
      refine reg_cons (guard_no rfl) (op_move rfl rfl rfl rfl) ?_
      refine reg_cons (guard_no rfl) (op_move rfl rfl rfl rfl) ?_
      refine reg_cons (guard_no rfl) (op_move rfl rfl rfl rfl) ?_
      refine reg_cons (guard_no rfl) (op_move rfl rfl rfl rfl) ?_
      refine reg_cons (guard_no rfl) (op_int (k := .i64) (m := x18) (n := y45) rfl rfl rfl rfl rfl rfl) ?_
      refine reg_cons (guard_no rfl) (op_build (zs := [.int .i64 (({ fn := 0, ffrom := 0, fto := 0 } : Gline_place).fn), .int .i64 (({ fn := 0, ffrom := 0, fto := 0 } : Gline_place).ffrom), .int .i64 (({ fn := 0, ffrom := 0, fto := 0 } : Gline_place).fto)]) (r := eGline_place ({ fn := x19, ffrom := x18, fto := w_i64 (x18 + y45) } : Gline_place)) rfl Try_zer_79 (by exact ⟨rfl, rfl, rfl, trivial⟩) Try_plc_79 rfl rfl rfl rfl) ?_
      obtain ⟨u52, h53, hF⟩ := bind_some hF
      refine reg_cons (guard_no rfl) (op_yield (row := (fun z : Gline_place => ([.agg (eGline_place z)] : List PV)) ({ fn := x19, ffrom := x18, fto := w_i64 (x18 + y45) } : Gline_place)) hcx rfl rfl rfl rfl (yck_row (fun z : Gline_place => ([.agg (eGline_place z)] : List PV)) h53) (yck_spec h53).2 rfl rfl) ?_
      refine reg_cons (guard_no rfl) (op_not rfl rfl rfl rfl) ?_
      refine reg_nil ?_
      refine post_imp (s' := ⟨34, [(0, some (.pv (.yld l))), (1, some (.pv (.vp (eS c0)))), (3, some (.pv (.int .i64 x18))), (4, some (.pv (.int .i64 x19))), (5, some (.pv (.int .i64 y45))), (29, some (.pv (.bool (!(!(x17 == sp))))))], [], 0, [], [], (x17 + 1), []⟩) (imp_sub [] rfl (by decide) rfl rfl ⟨by kernel_rfl, by kernel_rfl, by kernel_rfl, by kernel_rfl, by kernel_rfl, by kernel_rfl, trivial⟩ trivial rfl rfl rfl) ?_
      refine post_next ?_
      rcases ite_some hF with ⟨hb54, hF⟩ | ⟨hb54, hF⟩
      · refine aw_cond_t rfl hb54 ?_
        refine aw_ret ?_
        refine post_then_ret ?_
        refine post_block_ret ?_
        refine post_then_ret ?_
        refine post_then_ret ?_
        refine post_lp_ret ?_
        obtain rfl := Option.some.inj hF
        have hF := elim_stop hK59
        exact post_it (it_len hF) rfl (.inl rfl)
      · refine aw_cond_f rfl hb54 ?_
        refine aw_skip ?_
        refine post_next ?_
        refine aw_region ?_
        refine reg_cons (guard_no rfl) (op_move rfl rfl rfl rfl) ?_
        refine reg_cons (guard_no rfl) (op_move rfl rfl rfl rfl) ?_
        refine reg_cons (guard_no rfl) (op_int (k := .i64) (m := y45) (n := 1) rfl rfl rfl rfl rfl rfl) ?_
        refine reg_cons (guard_no rfl) (op_int (k := .i64) (m := x18) (n := w_i64 (y45 + 1)) rfl rfl rfl rfl rfl rfl) ?_
        refine reg_cons (guard_no rfl) (op_assign rfl rfl rfl rfl) ?_
        refine reg_nil ?_
        refine post_imp (s' := ⟨34, [(0, some (.pv (.yld l))), (1, some (.pv (.vp (eS c0)))), (3, some (.pv (.int .i64 (w_i64 (x18 + (w_i64 (y45 + 1))))))), (4, some (.pv (.int .i64 x19)))], [], 0, [], [], (x17 + 1), []⟩) (imp_sub [] rfl (by decide) rfl rfl ⟨by kernel_rfl, by kernel_rfl, by kernel_rfl, by kernel_rfl, trivial⟩ trivial rfl rfl rfl) ?_
        refine post_block_normal ?_
        refine post_next ?_
        refine aw_region ?_
        refine reg_cons (guard_no rfl) (op_move rfl rfl rfl rfl) ?_
        refine reg_cons (guard_no rfl) (op_int (k := .i64) (m := x19) (n := 1) rfl rfl rfl rfl rfl rfl) ?_
        refine reg_cons (guard_no rfl) (op_assign rfl rfl rfl rfl) ?_
        refine reg_nil ?_
        refine post_round ?_
        exact rnd_back (ih ((x17 + 1), w_i64 (x18 + (w_i64 (y45 + 1))), w_i64 (x19 + 1)) hF) (imp_sub [] rfl (by decide) rfl rfl ⟨by kernel_rfl, by kernel_rfl, by kernel_rfl, by kernel_rfl, trivial⟩ trivial rfl rfl rfl)
  · intro _ h
    exact h.elim

theorem place_find_ok {a0 : List UInt8} {a1 : Int} {r : Gline_place × Bool} (hF : place_find a0 a1 = some r) : Abs.Fn Try.prog 39 [.str a0, .int .i64 a1] [.p (.agg (eGline_place r.1)), .p (.bool r.2)] := by
  unfold place_find at hF
  refine fn_of_body (n := 16) Try.func39 rfl rfl rfl ?_
  intro w O
  refine aw_seq ?_
  refine aw_region ?_
  refine reg_cons (guard_no rfl) (op_box 0 rfl rfl rfl rfl rfl rfl) ?_
  refine reg_cons (guard_no rfl) (op_alloc 1 rfl (ps := [.int .i64 (({ fn := 0, ffrom := 0, fto := 0 } : Gline_place).fn), .int .i64 (({ fn := 0, ffrom := 0, fto := 0 } : Gline_place).ffrom), .int .i64 (({ fn := 0, ffrom := 0, fto := 0 } : Gline_place).fto)]) rfl Try_zer_79 (by exact ⟨rfl, rfl, rfl, trivial⟩) rfl rfl) ?_
  refine reg_cons (guard_no rfl) (op_alloc 2 rfl (ps := [.bool false]) rfl Try_zer_4 (by exact ⟨rfl, trivial⟩) rfl rfl) ?_
  refine reg_nil ?_
  refine post_imp (s' := ⟨16, [(0, some (.pv (.str a0))), (3, some (.lp 0 0)), (4, some (.lp 1 0)), (5, some (.lp 2 0))], [(0, some (.box 3 [.pv (.int .i64 a1)])), (1, some (.box 79 [.pv (.int .i64 (({ fn := 0, ffrom := 0, fto := 0 } : Gline_place).fn)), .pv (.int .i64 (({ fn := 0, ffrom := 0, fto := 0 } : Gline_place).ffrom)), .pv (.int .i64 (({ fn := 0, ffrom := 0, fto := 0 } : Gline_place).fto))])), (2, some (.box 4 [.pv (.bool false)]))], 3, [], [], 0, []⟩) (imp_sub [0, 1, 2] rfl (by decide) rfl rfl ⟨by kernel_rfl, by kernel_rfl, by kernel_rfl, by kernel_rfl, trivial⟩ ⟨by kernel_rfl, by kernel_rfl, by kernel_rfl, trivial⟩ rfl rfl rfl) ?_
  refine post_next ?_
  refine aw_seq ?_
  refine aw_seq ?_
  refine aw_region ?_
  refine reg_cons (guard_no rfl) (op_move rfl rfl rfl rfl) ?_
  obtain ⟨y3, h4, hF⟩ := bind_some hF
  refine reg_cons (guard_no rfl) (op_call 3 rfl (caps := []) (args := [.str a0]) (rs := [.p (.fn 86 [.vp (eS y3)])]) rfl rfl rfl Try_cal_66 (place_lines_ok h4) rfl rfl rfl) ?_
  refine reg_nil ?_
  refine post_imp (s' := ⟨16, [(3, some (.lp 0 0)), (4, some (.lp 1 0)), (5, some (.lp 2 0)), (8, some (.pv (.fn 86 [.vp (eS y3)])))], [(0, some (.box 3 [.pv (.int .i64 a1)])), (1, some (.box 79 [.pv (.int .i64 (({ fn := 0, ffrom := 0, fto := 0 } : Gline_place).fn)), .pv (.int .i64 (({ fn := 0, ffrom := 0, fto := 0 } : Gline_place).ffrom)), .pv (.int .i64 (({ fn := 0, ffrom := 0, fto := 0 } : Gline_place).fto))])), (2, some (.box 4 [.pv (.bool false)]))], 3, [], [], 0, []⟩) (imp_sub [0, 1, 2] rfl (by decide) rfl rfl ⟨by kernel_rfl, by kernel_rfl, by kernel_rfl, by kernel_rfl, trivial⟩ ⟨by kernel_rfl, by kernel_rfl, by kernel_rfl, trivial⟩ rfl rfl rfl) ?_
  refine post_next ?_
  refine aw_block ?_
  refine aw_imp (s' := ⟨16, [(3, some (.lp 0 0)), (4, some (.lp 1 0)), (5, some (.lp 2 0)), (8, some (.pv (.fn 86 [.vp (eS y3)])))], [(0, some (.box 3 [.pv (.int .i64 a1)])), (1, some (.box 79 [.pv (.int .i64 (({ fn := 0, ffrom := 0, fto := 0 } : Gline_place).fn)), .pv (.int .i64 (({ fn := 0, ffrom := 0, fto := 0 } : Gline_place).ffrom)), .pv (.int .i64 (({ fn := 0, ffrom := 0, fto := 0 } : Gline_place).fto))])), (2, some (.box 4 [.pv (.bool false)]))], 3, [], [], 0, []⟩) (imp_sub [0, 1, 2] rfl (by decide) rfl rfl ⟨by kernel_rfl, by kernel_rfl, by kernel_rfl, by kernel_rfl, trivial⟩ ⟨by kernel_rfl, by kernel_rfl, by kernel_rfl, trivial⟩ rfl rfl rfl) ?_
  obtain ⟨rows12, hR13, hF⟩ := bind_some hF
  obtain ⟨lr14, hL15, hF⟩ := bind_some hF
  refine aw_rangeFunc (X := Gline_place) (Q := Unit) (E := Gline_place) (pre := [.vp (eS y3)]) (bx := none) (post := []) (kt := [3, 4, 5]) (psl := [9]) none (fun z : Gline_place => ([.agg (eGline_place z)] : List PV)) rows12 (place_find_B1 a1) () lr14 hL15 (fun q => ⟨16, [(3, some (.lp 0 0)), (4, some (.lp 1 0)), (5, some (.lp 2 0))], [(0, some (.box 3 [.pv (.int .i64 a1)])), (1, some (.box 79 [.pv (.int .i64 (({ fn := 0, ffrom := 0, fto := 0 } : Gline_place).fn)), .pv (.int .i64 (({ fn := 0, ffrom := 0, fto := 0 } : Gline_place).ffrom)), .pv (.int .i64 (({ fn := 0, ffrom := 0, fto := 0 } : Gline_place).fto))])), (2, some (.box 4 [.pv (.bool false)]))], 3, [], [], 0, []⟩) (fun z => (.ret, ⟨16, [(4, some (.lp 0 0)), (5, some (.lp 1 0))], [(0, some (.box 79 [.pv (.int .i64 z.fn), .pv (.int .i64 z.ffrom), .pv (.int .i64 z.fto)])), (1, some (.box 4 [.pv (.bool true)]))], 2, [], [], 0, []⟩)) ⟨rfl, rfl⟩ Try_cal_86 (fun sp => place_lines_1_it (itR_lines_ok hR13 sp)) (fun _ => rfl) rfl rfl (by decide) rfl (fun x q => ⟨16, [(3, some (.lp 0 0)), (4, some (.lp 1 0)), (5, some (.lp 2 0)), (6, some (.lp 3 0)), (9, some (.pv (.agg (eGline_place x))))], [(0, some (.box 3 [.pv (.int .i64 a1)])), (1, some (.box 79 [.pv (.int .i64 (({ fn := 0, ffrom := 0, fto := 0 } : Gline_place).fn)), .pv (.int .i64 (({ fn := 0, ffrom := 0, fto := 0 } : Gline_place).ffrom)), .pv (.int .i64 (({ fn := 0, ffrom := 0, fto := 0 } : Gline_place).fto))])), (2, some (.box 4 [.pv (.bool false)])), (3, some (.box 79 [.pv (.int .i64 x.fn), .pv (.int .i64 x.ffrom), .pv (.int .i64 x.fto)]))], 4, [], [], 0, [3, 4, 5]⟩) (fun q => ⟨rfl, rfl, rfl, rfl⟩) (fun z => ⟨rfl, rfl, rfl, rfl⟩) (fun z => rfl) rfl rfl ⟨rfl, rfl, rfl, trivial⟩ ⟨⟨rfl, rfl, rfl⟩, ⟨rfl, rfl, rfl⟩, ⟨rfl, rfl, rfl⟩, trivial⟩ ?_ ?_ ?_ ?_
  · rintro l16 c17 x9 ⟨⟩ hc18
    refine aw_region ?_
    refine reg_cons (guard_no rfl) (op_alloc 3 rfl (ps := [.int .i64 (({ fn := 0, ffrom := 0, fto := 0 } : Gline_place).fn), .int .i64 (({ fn := 0, ffrom := 0, fto := 0 } : Gline_place).ffrom), .int .i64 (({ fn := 0, ffrom := 0, fto := 0 } : Gline_place).fto)]) rfl Try_zer_79 (by exact ⟨rfl, rfl, rfl, trivial⟩) rfl rfl) ?_
    refine reg_cons (guard_no rfl) (op_store_lp (n := 3) rfl rfl rfl rfl rfl (or_agg Try_agg_79) (by rw [Try_non_79]; rfl) rfl rfl rfl) ?_
    refine reg_nil ?_
    exact post_cut1 (imp_sub [0, 1, 2, 3] rfl (by decide) rfl rfl ⟨by kernel_rfl, by kernel_rfl, by kernel_rfl, by kernel_rfl, by kernel_rfl, trivial⟩ ⟨by kernel_rfl, by kernel_rfl, by kernel_rfl, by kernel_rfl, trivial⟩ rfl rfl rfl)
  · rintro l16 c17 x9 ⟨⟩ r19 hc18 hF
    refine aw_block ?_
    refine aw_seq ?_
    refine aw_region ?_
    refine reg_cons (guard_no rfl) (op_field_lp rfl rfl Try_fld_79_0 rfl rfl) ?_
    refine reg_cons (guard_no rfl) (op_load_lp (v := .pv (.int .i64 x9.fn)) rfl rfl rfl rfl Try_one_3 rfl rfl) ?_
    refine reg_cons (guard_no rfl) (op_load_lp (v := .pv (.int .i64 a1)) rfl rfl rfl rfl Try_one_3 rfl rfl) ?_
    refine reg_cons (guard_no rfl) (op_int (k := .i64) (m := x9.fn) (n := a1) rfl rfl rfl rfl rfl rfl) ?_
    refine reg_nil ?_
    refine post_imp (s' := ⟨16, [(3, some (.lp 0 0)), (4, some (.lp 1 0)), (5, some (.lp 2 0)), (6, some (.lp 3 0)), (13, some (.pv (.bool (x9.fn == a1))))], [(0, some (.box 3 [.pv (.int .i64 a1)])), (1, some (.box 79 [.pv (.int .i64 (({ fn := 0, ffrom := 0, fto := 0 } : Gline_place).fn)), .pv (.int .i64 (({ fn := 0, ffrom := 0, fto := 0 } : Gline_place).ffrom)), .pv (.int .i64 (({ fn := 0, ffrom := 0, fto := 0 } : Gline_place).fto))])), (2, some (.box 4 [.pv (.bool false)])), (3, some (.box 79 [.pv (.int .i64 x9.fn), .pv (.int .i64 x9.ffrom), .pv (.int .i64 x9.fto)]))], 4, [], [], 0, [3, 4, 5]⟩) (imp_sub [0, 1, 2, 3] rfl (by decide) rfl rfl ⟨by kernel_rfl, by kernel_rfl, by kernel_rfl, by kernel_rfl, by kernel_rfl, trivial⟩ ⟨by kernel_rfl, by kernel_rfl, by kernel_rfl, by kernel_rfl, trivial⟩ rfl rfl rfl) ?_
    refine post_next ?_
    rcases ite_some hF with ⟨hb10, hF⟩ | ⟨hb10, hF⟩
    · refine aw_cond_t rfl hb10 ?_
      refine aw_seq ?_
      refine aw_region ?_
      refine reg_cons (guard_no rfl) (op_load_lp_agg (ps := eGline_place x9) rfl rfl rfl rfl rfl rfl Try_agg_79 rfl rfl) ?_
      refine reg_cons (guard_no rfl) (op_store_lp (n := 3) rfl rfl rfl rfl rfl (or_agg Try_agg_79) (by rw [Try_non_79]; rfl) rfl rfl rfl) ?_
      refine reg_cons (guard_no rfl) (op_store_lp (n := 1) rfl rfl rfl rfl rfl (or_one Try_one_4) (by rw [Try_one_4]; rfl) rfl rfl rfl) ?_
      refine reg_nil ?_
      refine post_imp (s' := ⟨16, [(4, some (.lp 0 0)), (5, some (.lp 1 0))], [(0, some (.box 79 [.pv (.int .i64 x9.fn), .pv (.int .i64 x9.ffrom), .pv (.int .i64 x9.fto)])), (1, some (.box 4 [.pv (.bool true)]))], 2, [], [], 0, [3, 4, 5]⟩) (imp_sub [1, 2] rfl (by decide) rfl rfl ⟨by kernel_rfl, by kernel_rfl, trivial⟩ ⟨by kernel_rfl, by kernel_rfl, trivial⟩ rfl rfl rfl) ?_
      refine post_next ?_
      refine aw_ret ?_
      refine post_block_ret ?_
      obtain rfl := Option.some.inj hF
      exact post_rnd_ret x9 rfl rfl (imp_sub [0, 1] rfl (by decide) rfl rfl ⟨by kernel_rfl, by kernel_rfl, trivial⟩ ⟨by kernel_rfl, by kernel_rfl, trivial⟩ rfl rfl rfl)
    · refine aw_cond_f rfl hb10 ?_
      refine aw_skip ?_
      refine post_block_normal ?_
      obtain rfl := Option.some.inj hF
      exact post_rnd () rfl (imp_sub [0, 1, 2] rfl (by decide) rfl rfl ⟨by kernel_rfl, by kernel_rfl, by kernel_rfl, trivial⟩ ⟨by kernel_rfl, by kernel_rfl, by kernel_rfl, trivial⟩ rfl rfl rfl)
  · rintro ⟨⟩ rfl
    have hF := elim_next hF
    refine post_block_normal ?_
    refine post_next ?_
    refine aw_seq ?_
    refine aw_region ?_
    refine reg_cons (guard_no rfl) (op_build (zs := [.int .i64 (({ fn := 0, ffrom := 0, fto := 0 } : Gline_place).fn), .int .i64 (({ fn := 0, ffrom := 0, fto := 0 } : Gline_place).ffrom), .int .i64 (({ fn := 0, ffrom := 0, fto := 0 } : Gline_place).fto)]) (r := eGline_place ({ fn := 0, ffrom := 0, fto := 0 } : Gline_place)) rfl Try_zer_79 (by exact ⟨rfl, rfl, rfl, trivial⟩) Try_plc_79 rfl rfl rfl rfl) ?_
    refine reg_cons (guard_no rfl) (op_store_lp (n := 3) rfl rfl rfl rfl rfl (or_agg Try_agg_79) (by rw [Try_non_79]; rfl) rfl rfl rfl) ?_
    refine reg_cons (guard_no rfl) (op_store_lp (n := 1) rfl rfl rfl rfl rfl (or_one Try_one_4) (by rw [Try_one_4]; rfl) rfl rfl rfl) ?_
    refine reg_nil ?_
    refine post_imp (s' := ⟨16, [(4, some (.lp 0 0)), (5, some (.lp 1 0))], [(0, some (.box 79 [.pv (.int .i64 (({ fn := 0, ffrom := 0, fto := 0 } : Gline_place).fn)), .pv (.int .i64 (({ fn := 0, ffrom := 0, fto := 0 } : Gline_place).ffrom)), .pv (.int .i64 (({ fn := 0, ffrom := 0, fto := 0 } : Gline_place).fto))])), (1, some (.box 4 [.pv (.bool false)]))], 2, [], [], 0, []⟩) (imp_sub [1, 2] rfl (by decide) rfl rfl ⟨by kernel_rfl, by kernel_rfl, trivial⟩ ⟨by kernel_rfl, by kernel_rfl, trivial⟩ rfl rfl rfl) ?_
    refine post_next ?_
    refine aw_ret ?_
    obtain rfl := Option.some.inj hF
    exact post_ret rfl rfl (.cons _ _ _ _ _ (.agg _ _ _ _ _ 3 _ _ rfl rfl Try_agg_79 rfl rfl rfl) (.p _) (.cons _ _ _ _ _ (.one _ _ _ _ _ _ _ rfl rfl Try_one_4 rfl) (.p _) .nil)) (.inl rfl)
  · rintro x11 rfl
    have hF := elim_stop hF
    show Post _ _ .ret _
    refine post_block_ret ?_
    refine post_then_ret ?_
    obtain rfl := Option.some.inj hF
    exact post_ret rfl rfl (.cons _ _ _ _ _ (.agg _ _ _ _ _ 3 _ _ rfl rfl Try_agg_79 rfl rfl rfl) (.p _) (.cons _ _ _ _ _ (.one _ _ _ _ _ _ _ rfl rfl Try_one_4 rfl) (.p _) .nil)) (.inl rfl)
theorem place_Back_ok {a0 : List UInt8} {a1 : Int} {a2 : Int} {r : Int × Bool} (hF : place_Back a0 a1 a2 = some r) : Abs.Fn Try.prog 15 [.str a0, .int .i64 a1, .int .i64 a2] [.p (.int .i64 r.1), .p (.bool r.2)] := by
  unfold place_Back at hF
  refine fn_of_body (n := 37) Try.func15 rfl rfl rfl ?_
  intro w O
  refine aw_seq ?_
  refine aw_region ?_
  refine reg_cons (guard_no rfl) (op_assign rfl rfl rfl rfl) ?_
  refine reg_cons (guard_no rfl) (op_assign rfl rfl rfl rfl) ?_
  refine reg_nil ?_
  refine post_imp (s' := ⟨37, [(0, some (.pv (.str a0))), (1, some (.pv (.int .i64 a1))), (2, some (.pv (.int .i64 a2)))], [], 0, [], [], 0, []⟩) (imp_sub [] rfl (by decide) rfl rfl ⟨by kernel_rfl, by kernel_rfl, by kernel_rfl, trivial⟩ trivial rfl rfl rfl) ?_
  refine post_next ?_
  refine aw_seq ?_
  refine aw_region ?_
  refine reg_cons (guard_no rfl) (op_move rfl rfl rfl rfl) ?_
  refine reg_cons (guard_no rfl) (op_move rfl rfl rfl rfl) ?_
  obtain ⟨y3, h4, hF⟩ := bind_some hF
  refine reg_cons (guard_no rfl) (op_call 0 rfl (caps := []) (args := [.str a0, .int .i64 a1]) (rs := [.p (.agg (eGline_place y3.1)), .p (.bool y3.2)]) rfl rfl rfl Try_cal_39 (place_find_ok h4) rfl rfl rfl) ?_
  refine reg_cons (guard_no rfl) (op_move rfl rfl rfl rfl) ?_
  refine reg_cons (guard_no rfl) (op_extract rfl rfl rfl rfl rfl) ?_
  refine reg_cons (guard_no rfl) (op_extract rfl rfl rfl rfl rfl) ?_
  refine reg_cons (guard_no rfl) (op_alloc 0 rfl (ps := [.int .i64 (({ fn := 0, ffrom := 0, fto := 0 } : Gline_place).fn), .int .i64 (({ fn := 0, ffrom := 0, fto := 0 } : Gline_place).ffrom), .int .i64 (({ fn := 0, ffrom := 0, fto := 0 } : Gline_place).fto)]) rfl Try_zer_79 (by exact ⟨rfl, rfl, rfl, trivial⟩) rfl rfl) ?_
  refine reg_cons (guard_no rfl) (op_store_lp (n := 3) rfl rfl rfl rfl rfl (or_agg Try_agg_79) (by rw [Try_non_79]; rfl) rfl rfl rfl) ?_
  refine reg_cons (guard_no rfl) (op_assign rfl rfl rfl rfl) ?_
  refine reg_nil ?_
  refine post_imp (s' := ⟨37, [(2, some (.pv (.int .i64 a2))), (8, some (.lp 0 0)), (9, some (.pv (.bool y3.2)))], [(0, some (.box 79 [.pv (.int .i64 y3.1.fn), .pv (.int .i64 y3.1.ffrom), .pv (.int .i64 y3.1.fto)]))], 1, [], [], 0, []⟩) (imp_sub [0] rfl (by decide) rfl rfl ⟨by kernel_rfl, by kernel_rfl, by kernel_rfl, trivial⟩ ⟨by kernel_rfl, trivial⟩ rfl rfl rfl) ?_
  refine post_next ?_
  refine aw_seq ?_
  refine aw_seq ?_
  obtain ⟨x7, hF, hK9⟩ := bind_some hF
  refine aw_cut (fun s1 => s1 = ⟨37, [(2, some (.pv (.int .i64 a2))), (8, some (.lp 0 0)), (31, some (.pv (.bool x7)))], [(0, some (.box 79 [.pv (.int .i64 y3.1.fn), .pv (.int .i64 y3.1.ffrom), .pv (.int .i64 y3.1.fto)]))], 1, [], [], 0, []⟩) ?_ ?_
  · refine aw_region ?_
    refine reg_cons (guard_no rfl) (op_move rfl rfl rfl rfl) ?_
    refine reg_cons (guard_no rfl) (op_not rfl rfl rfl rfl) ?_
    refine reg_cons (guard_no rfl) (op_move rfl rfl rfl rfl) ?_
    rcases ite_some hF with ⟨hb5, hF⟩ | ⟨hb5, hF⟩
    · refine reg_off (guard_off rfl rfl rfl rfl hb5) rfl rfl ?_
      refine reg_off (guard_off rfl rfl rfl rfl hb5) rfl rfl ?_
      refine reg_cons (guard_no rfl) (op_pick_t rfl rfl hb5 rfl rfl rfl) ?_
      refine reg_cons (guard_no rfl) (op_move rfl rfl rfl rfl) ?_
      refine reg_off (guard_off rfl rfl rfl rfl rfl) rfl rfl ?_
      refine reg_off (guard_off rfl rfl rfl rfl rfl) rfl rfl ?_
      refine reg_off (guard_off rfl rfl rfl rfl rfl) rfl rfl ?_
      refine reg_off (guard_off rfl rfl rfl rfl rfl) rfl rfl ?_
      refine reg_off (guard_off rfl rfl rfl rfl rfl) rfl rfl ?_
      refine reg_off (guard_off rfl rfl rfl rfl rfl) rfl rfl ?_
      refine reg_off (guard_off rfl rfl rfl rfl rfl) rfl rfl ?_
      refine reg_off (guard_off rfl rfl rfl rfl rfl) rfl rfl ?_
      refine reg_cons (guard_no rfl) (op_pick_t rfl rfl rfl rfl rfl rfl) ?_
      refine reg_nil ?_
      cases hF
      exact post_cut _ rfl (imp_sub [0] rfl (by decide) rfl rfl ⟨by kernel_rfl, by kernel_rfl, by kernel_rfl, trivial⟩ ⟨by kernel_rfl, trivial⟩ rfl rfl rfl)
    · refine reg_cons (guard_on rfl rfl rfl rfl hb5) (op_move rfl rfl rfl rfl) ?_
      refine reg_cons (guard_on rfl rfl rfl rfl hb5) (op_int (k := .i64) (m := a2) (n := 1) rfl rfl rfl rfl rfl rfl) ?_
      refine reg_cons (guard_no rfl) (op_pick_f rfl rfl hb5 rfl rfl rfl) ?_
      refine reg_cons (guard_no rfl) (op_move rfl rfl rfl rfl) ?_
      rcases ite_some hF with ⟨hb6, hF⟩ | ⟨hb6, hF⟩
      · refine reg_off (guard_off rfl rfl rfl rfl hb6) rfl rfl ?_
        refine reg_off (guard_off rfl rfl rfl rfl hb6) rfl rfl ?_
        refine reg_off (guard_off rfl rfl rfl rfl hb6) rfl rfl ?_
        refine reg_off (guard_off rfl rfl rfl rfl hb6) rfl rfl ?_
        refine reg_off (guard_off rfl rfl rfl rfl hb6) rfl rfl ?_
        refine reg_off (guard_off rfl rfl rfl rfl hb6) rfl rfl ?_
        refine reg_off (guard_off rfl rfl rfl rfl hb6) rfl rfl ?_
        refine reg_off (guard_off rfl rfl rfl rfl hb6) rfl rfl ?_
        refine reg_cons (guard_no rfl) (op_pick_t rfl rfl hb6 rfl rfl rfl) ?_
        refine reg_nil ?_
        cases hF
        exact post_cut _ rfl (imp_sub [0] rfl (by decide) rfl rfl ⟨by kernel_rfl, by kernel_rfl, by kernel_rfl, trivial⟩ ⟨by kernel_rfl, trivial⟩ rfl rfl rfl)
      · refine reg_cons (guard_on rfl rfl rfl rfl hb6) (op_move rfl rfl rfl rfl) ?_
        refine reg_cons (guard_on rfl rfl rfl rfl hb6) (op_int (k := .i64) (m := a2) (n := 1) rfl rfl rfl rfl rfl rfl) ?_
        refine reg_cons (guard_on rfl rfl rfl rfl hb6) (op_field_lp rfl rfl Try_fld_79_2 rfl rfl) ?_
        refine reg_cons (guard_on rfl rfl rfl rfl hb6) (op_load_lp (v := .pv (.int .i64 y3.1.fto)) rfl rfl rfl rfl Try_one_3 rfl rfl) ?_
        refine reg_cons (guard_on rfl rfl rfl rfl hb6) (op_field_lp rfl rfl Try_fld_79_1 rfl rfl) ?_
        refine reg_cons (guard_on rfl rfl rfl rfl hb6) (op_load_lp (v := .pv (.int .i64 y3.1.ffrom)) rfl rfl rfl rfl Try_one_3 rfl rfl) ?_
        refine reg_cons (guard_on rfl rfl rfl rfl hb6) (op_int (k := .i64) (m := y3.1.fto) (n := y3.1.ffrom) rfl rfl rfl rfl rfl rfl) ?_
        refine reg_cons (guard_on rfl rfl rfl rfl hb6) (op_int (k := .i64) (m := w_i64 (a2 - 1)) (n := w_i64 (y3.1.fto - y3.1.ffrom)) rfl rfl rfl rfl rfl rfl) ?_
        refine reg_cons (guard_no rfl) (op_pick_f rfl rfl hb6 rfl rfl rfl) ?_
        refine reg_nil ?_
        cases hF
        exact post_cut _ rfl (imp_sub [0] rfl (by decide) rfl rfl ⟨by kernel_rfl, by kernel_rfl, by kernel_rfl, trivial⟩ ⟨by kernel_rfl, trivial⟩ rfl rfl rfl)
  · rintro _ rfl
    have hF := hK9
    clear hK9
    refine post_next ?_
    rcases ite_some hF with ⟨hb10, hF⟩ | ⟨hb10, hF⟩
    · refine aw_cond_t rfl hb10 ?_
      refine aw_seq ?_
      refine aw_region ?_
      refine reg_cons (guard_no rfl) (op_assign rfl rfl rfl rfl) ?_
      refine reg_cons (guard_no rfl) (op_assign rfl rfl rfl rfl) ?_
      refine reg_nil ?_
      refine post_imp (s' := ⟨37, [(6, some (.pv (.int .i64 0))), (7, some (.pv (.bool false)))], [], 0, [], [], 0, []⟩) (imp_sub [] rfl (by decide) rfl rfl ⟨by kernel_rfl, by kernel_rfl, trivial⟩ trivial rfl rfl rfl) ?_
      refine post_next ?_
      refine aw_ret ?_
      refine post_then_ret ?_
      obtain rfl := Option.some.inj hF
      exact post_ret rfl rfl (.cons _ _ _ _ _ (.tmp _ _ rfl) (.p _) (.cons _ _ _ _ _ (.tmp _ _ rfl) (.p _) .nil)) (.inl rfl)
    · refine aw_cond_f rfl hb10 ?_
      refine aw_skip ?_
      refine post_next ?_
      refine aw_seq ?_
      refine aw_region ?_
      refine reg_cons (guard_no rfl) (op_field_lp rfl rfl Try_fld_79_1 rfl rfl) ?_
      refine reg_cons (guard_no rfl) (op_load_lp (v := .pv (.int .i64 y3.1.ffrom)) rfl rfl rfl rfl Try_one_3 rfl rfl) ?_
      refine reg_cons (guard_no rfl) (op_move rfl rfl rfl rfl) ?_
      refine reg_cons (guard_no rfl) (op_int (k := .i64) (m := y3.1.ffrom) (n := a2) rfl rfl rfl rfl rfl rfl) ?_
      refine reg_cons (guard_no rfl) (op_int (k := .i64) (m := w_i64 (y3.1.ffrom + a2)) (n := 1) rfl rfl rfl rfl rfl rfl) ?_
      refine reg_cons (guard_no rfl) (op_assign rfl rfl rfl rfl) ?_
      refine reg_cons (guard_no rfl) (op_assign rfl rfl rfl rfl) ?_
      refine reg_nil ?_
      refine post_imp (s' := ⟨37, [(6, some (.pv (.int .i64 (w_i64 ((w_i64 (y3.1.ffrom + a2)) - 1))))), (7, some (.pv (.bool true)))], [], 0, [], [], 0, []⟩) (imp_sub [] rfl (by decide) rfl rfl ⟨by kernel_rfl, by kernel_rfl, trivial⟩ trivial rfl rfl rfl) ?_
      refine post_next ?_
      refine aw_ret ?_
      obtain rfl := Option.some.inj hF
      exact post_ret rfl rfl (.cons _ _ _ _ _ (.tmp _ _ rfl) (.p _) (.cons _ _ _ _ _ (.tmp _ _ rfl) (.p _) .nil)) (.inl rfl)
theorem ref01_Back_ok {a0 : List UInt8} {a1 : Int} {a2 : Int} {r : Int × Bool} (hF : ref01_Back a0 a1 a2 = some r) : Abs.Fn Try.prog 16 [.str a0, .int .i64 a1, .int .i64 a2] [.p (.int .i64 r.1), .p (.bool r.2)] := by
  unfold ref01_Back at hF
  refine fn_of_body (n := 32) Try.func16 rfl rfl rfl ?_
  intro w O
  refine aw_seq ?_
  refine aw_region ?_
  refine reg_cons (guard_no rfl) (op_assign rfl rfl rfl rfl) ?_
  refine reg_cons (guard_no rfl) (op_assign rfl rfl rfl rfl) ?_
  refine reg_nil ?_
  refine post_imp (s' := ⟨32, [(0, some (.pv (.str a0))), (1, some (.pv (.int .i64 a1))), (2, some (.pv (.int .i64 a2)))], [], 0, [], [], 0, []⟩) (imp_sub [] rfl (by decide) rfl rfl ⟨by kernel_rfl, by kernel_rfl, by kernel_rfl, trivial⟩ trivial rfl rfl rfl) ?_
  refine post_next ?_
  refine aw_seq ?_
  refine aw_seq ?_
  refine aw_region ?_
  refine reg_cons (guard_no rfl) (op_assign rfl rfl rfl rfl) ?_
  refine reg_nil ?_
  refine post_imp (s' := ⟨32, [(0, some (.pv (.str a0))), (1, some (.pv (.int .i64 a1))), (2, some (.pv (.int .i64 a2))), (8, some (.pv (.int .i64 0)))], [], 0, [], [], 0, []⟩) (imp_sub [] rfl (by decide) rfl rfl ⟨by kernel_rfl, by kernel_rfl, by kernel_rfl, by kernel_rfl, trivial⟩ trivial rfl rfl rfl) ?_
  refine post_next ?_
  obtain ⟨lr34, hF, hK35⟩ := bind_some hF
  refine aw_for (a0.length + 2) (fun s1 => ∃ q, lr34 = .next q ∧ s1 = ⟨32, [], [], 0, [], [], 0, []⟩) ?_ ?_
  · refine rnd_loop (α := Int) (fun q => ⟨32, [(0, some (.pv (.str a0))), (1, some (.pv (.int .i64 a1))), (2, some (.pv (.int .i64 a2))), (8, some (.pv (.int .i64 q)))], [], 0, [], [], 0, []⟩) (fun k q => ref01_Back_L1 a0 a1 a2 k q = some lr34) 0 (imp_sub [] rfl (by decide) rfl rfl ⟨by kernel_rfl, by kernel_rfl, by kernel_rfl, by kernel_rfl, trivial⟩ trivial rfl rfl rfl) hF (fun q h => by cases h) ?_
    clear hF
    rintro k x11 hF ih
    refine rnd_succ ?_
    refine aw_seq ?_
    refine aw_seq ?_
    refine aw_region ?_
    refine reg_cons (guard_no rfl) (op_move rfl rfl rfl rfl) ?_
    refine reg_cons (guard_no rfl) (op_move rfl rfl rfl rfl) ?_
    refine reg_cons (guard_no rfl) (op_len_str rfl rfl Try_und_9 rfl rfl) ?_
    refine reg_cons (guard_no rfl) (op_int (k := .i64) (m := x11) (n := (a0.length : Int)) rfl rfl rfl rfl rfl rfl) ?_
    refine reg_nil ?_
    refine post_imp (s' := ⟨32, [(0, some (.pv (.str a0))), (1, some (.pv (.int .i64 a1))), (2, some (.pv (.int .i64 a2))), (8, some (.pv (.int .i64 x11))), (14, some (.pv (.bool (decide (x11 ≤ (a0.length : Int))))))], [], 0, [], [], 0, []⟩) (imp_sub [] rfl (by decide) rfl rfl ⟨by kernel_rfl, by kernel_rfl, by kernel_rfl, by kernel_rfl, by kernel_rfl, trivial⟩ trivial rfl rfl rfl) ?_
    refine post_next ?_
    rcases ite_some hF with ⟨hb23, hF⟩ | ⟨hb23, hF⟩
    · refine aw_cond_t rfl hb23 ?_
      refine aw_skip ?_
      refine post_next ?_
      refine aw_seq ?_
      refine aw_block ?_
      refine aw_seq ?_
      refine aw_region ?_
      refine reg_cons (guard_no rfl) (op_move rfl rfl rfl rfl) ?_
      refine reg_cons (guard_no rfl) (op_move rfl rfl rfl rfl) ?_
      obtain ⟨y26, h27, hF⟩ := bind_some hF
      refine reg_cons (guard_no rfl) (op_call 0 rfl (caps := []) (args := [.str a0, .int .i64 x11]) (rs := [.p (.int .i64 y26.1), .p (.int .i64 y26.2)]) rfl rfl rfl Try_cal_14 (ref01_Of_ok h27) rfl rfl rfl) ?_
      refine reg_cons (guard_no rfl) (op_move rfl rfl rfl rfl) ?_
      refine reg_cons (guard_no rfl) (op_extract rfl rfl rfl rfl rfl) ?_
      refine reg_cons (guard_no rfl) (op_extract rfl rfl rfl rfl rfl) ?_
      refine reg_cons (guard_no rfl) (op_assign rfl rfl rfl rfl) ?_
      refine reg_cons (guard_no rfl) (op_assign rfl rfl rfl rfl) ?_
      refine reg_nil ?_
      refine post_imp (s' := ⟨32, [(0, some (.pv (.str a0))), (1, some (.pv (.int .i64 a1))), (2, some (.pv (.int .i64 a2))), (8, some (.pv (.int .i64 x11))), (9, some (.pv (.int .i64 y26.1))), (10, some (.pv (.int .i64 y26.2)))], [], 0, [], [], 0, []⟩) (imp_sub [] rfl (by decide) rfl rfl ⟨by kernel_rfl, by kernel_rfl, by kernel_rfl, by kernel_rfl, by kernel_rfl, by kernel_rfl, trivial⟩ trivial rfl rfl rfl) ?_
      refine post_next ?_
      refine aw_seq ?_
      obtain ⟨x29, hF, hK31⟩ := bind_some hF
      refine aw_cut (fun s1 => s1 = ⟨32, [(0, some (.pv (.str a0))), (1, some (.pv (.int .i64 a1))), (2, some (.pv (.int .i64 a2))), (8, some (.pv (.int .i64 x11))), (30, some (.pv (.bool x29)))], [], 0, [], [], 0, []⟩) ?_ ?_
      · refine aw_region ?_
        refine reg_cons (guard_no rfl) (op_move rfl rfl rfl rfl) ?_
        refine reg_cons (guard_no rfl) (op_move rfl rfl rfl rfl) ?_
        refine reg_cons (guard_no rfl) (op_int (k := .i64) (m := y26.1) (n := a1) rfl rfl rfl rfl rfl rfl) ?_
        refine reg_cons (guard_no rfl) (op_move rfl rfl rfl rfl) ?_
        rcases ite_some hF with ⟨hb28, hF⟩ | ⟨hb28, hF⟩
        · refine reg_cons (guard_on rfl rfl rfl rfl hb28) (op_move rfl rfl rfl rfl) ?_
          refine reg_cons (guard_on rfl rfl rfl rfl hb28) (op_move rfl rfl rfl rfl) ?_
          refine reg_cons (guard_on rfl rfl rfl rfl hb28) (op_int (k := .i64) (m := y26.2) (n := a2) rfl rfl rfl rfl rfl rfl) ?_
          refine reg_cons (guard_no rfl) (op_pick_t rfl rfl hb28 rfl rfl rfl) ?_
          refine reg_nil ?_
          cases hF
          exact post_cut _ rfl (imp_sub [] rfl (by decide) rfl rfl ⟨by kernel_rfl, by kernel_rfl, by kernel_rfl, by kernel_rfl, by kernel_rfl, trivial⟩ trivial rfl rfl rfl)
        · refine reg_off (guard_off rfl rfl rfl rfl hb28) rfl rfl ?_
          refine reg_off (guard_off rfl rfl rfl rfl hb28) rfl rfl ?_
          refine reg_off (guard_off rfl rfl rfl rfl hb28) rfl rfl ?_
          refine reg_cons (guard_no rfl) (op_pick_f rfl rfl hb28 rfl rfl rfl) ?_
          refine reg_nil ?_
          cases hF
          exact post_cut _ rfl (imp_sub [] rfl (by decide) rfl rfl ⟨by kernel_rfl, by kernel_rfl, by kernel_rfl, by kernel_rfl, by kernel_rfl, trivial⟩ trivial rfl rfl rfl)
      · rintro _ rfl
        have hF := hK31
        clear hK31
        refine post_next ?_
        rcases ite_some hF with ⟨hb32, hF⟩ | ⟨hb32, hF⟩
        · refine aw_cond_t rfl hb32 ?_
          refine aw_seq ?_
          refine aw_region ?_
          refine reg_cons (guard_no rfl) (op_move rfl rfl rfl rfl) ?_
          refine reg_cons (guard_no rfl) (op_assign rfl rfl rfl rfl) ?_
          refine reg_cons (guard_no rfl) (op_assign rfl rfl rfl rfl) ?_
          refine reg_nil ?_
          refine post_imp (s' := ⟨32, [(6, some (.pv (.int .i64 x11))), (7, some (.pv (.bool true)))], [], 0, [], [], 0, []⟩) (imp_sub [] rfl (by decide) rfl rfl ⟨by kernel_rfl, by kernel_rfl, trivial⟩ trivial rfl rfl rfl) ?_
          refine post_next ?_
          refine aw_ret ?_
          refine post_block_ret ?_
          refine post_then_ret ?_
          refine post_then_ret ?_
          refine post_lp_ret ?_
          obtain rfl := Option.some.inj hF
          have hF := elim_stop hK35
          refine post_then_ret ?_
          obtain rfl := Option.some.inj hF
          exact post_ret rfl rfl (.cons _ _ _ _ _ (.tmp _ _ rfl) (.p _) (.cons _ _ _ _ _ (.tmp _ _ rfl) (.p _) .nil)) (.inl rfl)
        · refine aw_cond_f rfl hb32 ?_
          refine aw_skip ?_
          refine post_block_normal ?_
          refine post_next ?_
          refine aw_region ?_
          refine reg_cons (guard_no rfl) (op_move rfl rfl rfl rfl) ?_
          refine reg_cons (guard_no rfl) (op_int (k := .i64) (m := x11) (n := 1) rfl rfl rfl rfl rfl rfl) ?_
          refine reg_cons (guard_no rfl) (op_assign rfl rfl rfl rfl) ?_
          refine reg_nil ?_
          refine post_round ?_
          exact rnd_back (ih (w_i64 (x11 + 1)) hF) (imp_sub [] rfl (by decide) rfl rfl ⟨by kernel_rfl, by kernel_rfl, by kernel_rfl, by kernel_rfl, trivial⟩ trivial rfl rfl rfl)
    · refine aw_cond_f rfl hb23 ?_
      refine aw_exit ?_
      refine post_then_exit ?_
      refine post_then_exit ?_
      obtain rfl := Option.some.inj hF
      exact post_lp_break _ ⟨_, rfl, rfl⟩ (imp_sub [] rfl (by decide) rfl rfl trivial trivial rfl rfl rfl)
  · rintro _ ⟨⟨⟩, rfl, rfl⟩
    have hF := elim_next hK35
    clear hK35
    refine post_next ?_
    refine aw_seq ?_
    refine aw_region ?_
    refine reg_cons (guard_no rfl) (op_assign rfl rfl rfl rfl) ?_
    refine reg_cons (guard_no rfl) (op_assign rfl rfl rfl rfl) ?_
    refine reg_nil ?_
    refine post_imp (s' := ⟨32, [(6, some (.pv (.int .i64 0))), (7, some (.pv (.bool false)))], [], 0, [], [], 0, []⟩) (imp_sub [] rfl (by decide) rfl rfl ⟨by kernel_rfl, by kernel_rfl, trivial⟩ trivial rfl rfl rfl) ?_
    refine post_next ?_
    refine aw_ret ?_
    obtain rfl := Option.some.inj hF
    exact post_ret rfl rfl (.cons _ _ _ _ _ (.tmp _ _ rfl) (.p _) (.cons _ _ _ _ _ (.tmp _ _ rfl) (.p _) .nil)) (.inl rfl)
theorem law01_PlaceOf_ok {a0 : List UInt8} {a1 : Int} {a2 : A2 Int} {r : Bool} (hF : law01_PlaceOf a0 a1 a2 = some r) : Abs.Fn Try.prog 4 [.str a0, .int .i64 a1, .agg ((eA2 eI) a2)] [.p (.bool r)] := by
  unfold law01_PlaceOf at hF
  refine fn_of_body (n := 70) Try.func4 rfl rfl rfl ?_
  intro w O
  refine aw_seq ?_
  refine aw_region ?_
  refine reg_cons (guard_no rfl) (op_box 0 rfl rfl rfl rfl rfl rfl) ?_
  refine reg_cons (guard_no rfl) (op_assign rfl rfl rfl rfl) ?_
  refine reg_nil ?_
  refine post_imp (s' := ⟨70, [(0, some (.pv (.str a0))), (1, some (.pv (.int .i64 a1))), (5, some (.lp 0 0))], [(0, some (.box 27 [.pv (.int .i64 a2.a0), .pv (.int .i64 a2.a1)]))], 1, [], [], 0, []⟩) (imp_sub [0] rfl (by decide) rfl rfl ⟨by kernel_rfl, by kernel_rfl, by kernel_rfl, trivial⟩ ⟨by kernel_rfl, trivial⟩ rfl rfl rfl) ?_
  refine post_next ?_
  refine aw_seq ?_
  refine aw_seq ?_
  refine aw_region ?_
  refine reg_cons (guard_no rfl) (op_move rfl rfl rfl rfl) ?_
  refine reg_cons (guard_no rfl) (op_len_str rfl rfl Try_und_9 rfl rfl) ?_
  refine reg_cons (guard_no rfl) (op_int (k := .i64) (m := (a0.length : Int)) (n := 300) rfl rfl rfl rfl rfl rfl) ?_
  refine reg_nil ?_
  refine post_imp (s' := ⟨70, [(0, some (.pv (.str a0))), (1, some (.pv (.int .i64 a1))), (5, some (.lp 0 0)), (17, some (.pv (.bool (decide ((a0.length : Int) > 300)))))], [(0, some (.box 27 [.pv (.int .i64 a2.a0), .pv (.int .i64 a2.a1)]))], 1, [], [], 0, []⟩) (imp_sub [0] rfl (by decide) rfl rfl ⟨by kernel_rfl, by kernel_rfl, by kernel_rfl, by kernel_rfl, trivial⟩ ⟨by kernel_rfl, trivial⟩ rfl rfl rfl) ?_
  refine post_next ?_
  rcases ite_some hF with ⟨hb1, hF⟩ | ⟨hb1, hF⟩
  · refine aw_cond_t rfl hb1 ?_
    refine aw_seq ?_
    refine aw_region ?_
    obtain ⟨y2, h3, hF⟩ := bind_some hF
    refine reg_cons (guard_no rfl) (op_call 1 rfl (caps := []) (args := []) (rs := [.p (.bool y2)]) rfl rfl rfl Try_cal_10 (law01_awake_ok h3) rfl rfl rfl) ?_
    refine reg_cons (guard_no rfl) (op_assign rfl rfl rfl rfl) ?_
    refine reg_nil ?_
    refine post_imp (s' := ⟨70, [(6, some (.pv (.bool y2)))], [], 0, [], [], 0, []⟩) (imp_sub [] rfl (by decide) rfl rfl ⟨by kernel_rfl, trivial⟩ trivial rfl rfl rfl) ?_
    refine post_next ?_
    refine aw_ret ?_
    refine post_then_ret ?_
    obtain rfl := Option.some.inj hF
    exact post_ret rfl rfl (.cons _ _ _ _ _ (.tmp _ _ rfl) (.p _) .nil) (.inl rfl)
  · refine aw_cond_f rfl hb1 ?_
    refine aw_skip ?_
    refine post_next ?_
    refine aw_seq ?_
    refine aw_region ?_
    refine reg_cons (guard_no rfl) (op_move rfl rfl rfl rfl) ?_
    refine reg_cons (guard_no rfl) (op_move rfl rfl rfl rfl) ?_
    obtain ⟨y6, h7, hF⟩ := bind_some hF
    refine reg_cons (guard_no rfl) (op_call 1 rfl (caps := []) (args := [.str a0, .int .i64 a1]) (rs := [.p (.int .i64 y6.1), .p (.int .i64 y6.2)]) rfl rfl rfl Try_cal_13 (place_Of_ok h7) rfl rfl rfl) ?_
    refine reg_cons (guard_no rfl) (op_move rfl rfl rfl rfl) ?_
    refine reg_cons (guard_no rfl) (op_extract rfl rfl rfl rfl rfl) ?_
    refine reg_cons (guard_no rfl) (op_extract rfl rfl rfl rfl rfl) ?_
    refine reg_cons (guard_no rfl) (op_assign rfl rfl rfl rfl) ?_
    refine reg_cons (guard_no rfl) (op_assign rfl rfl rfl rfl) ?_
    refine reg_nil ?_
    refine post_imp (s' := ⟨70, [(0, some (.pv (.str a0))), (1, some (.pv (.int .i64 a1))), (5, some (.lp 0 0)), (7, some (.pv (.int .i64 y6.1))), (8, some (.pv (.int .i64 y6.2)))], [(0, some (.box 27 [.pv (.int .i64 a2.a0), .pv (.int .i64 a2.a1)]))], 1, [], [], 0, []⟩) (imp_sub [0] rfl (by decide) rfl rfl ⟨by kernel_rfl, by kernel_rfl, by kernel_rfl, by kernel_rfl, by kernel_rfl, trivial⟩ ⟨by kernel_rfl, trivial⟩ rfl rfl rfl) ?_
    refine post_next ?_
    refine aw_seq ?_
    refine aw_region ?_
    refine reg_cons (guard_no rfl) (op_move rfl rfl rfl rfl) ?_
    refine reg_cons (guard_no rfl) (op_move rfl rfl rfl rfl) ?_
    obtain ⟨y10, h11, hF⟩ := bind_some hF
    refine reg_cons (guard_no rfl) (op_call 1 rfl (caps := []) (args := [.str a0, .int .i64 a1]) (rs := [.p (.int .i64 y10.1), .p (.int .i64 y10.2)]) rfl rfl rfl Try_cal_14 (ref01_Of_ok h11) rfl rfl rfl) ?_
    refine reg_cons (guard_no rfl) (op_move rfl rfl rfl rfl) ?_
    refine reg_cons (guard_no rfl) (op_extract rfl rfl rfl rfl rfl) ?_
    refine reg_cons (guard_no rfl) (op_extract rfl rfl rfl rfl rfl) ?_
    refine reg_cons (guard_no rfl) (op_assign rfl rfl rfl rfl) ?_
    refine reg_cons (guard_no rfl) (op_assign rfl rfl rfl rfl) ?_
    refine reg_nil ?_
    refine post_imp (s' := ⟨70, [(0, some (.pv (.str a0))), (5, some (.lp 0 0)), (7, some (.pv (.int .i64 y6.1))), (8, some (.pv (.int .i64 y6.2))), (9, some (.pv (.int .i64 y10.1))), (10, some (.pv (.int .i64 y10.2)))], [(0, some (.box 27 [.pv (.int .i64 a2.a0), .pv (.int .i64 a2.a1)]))], 1, [], [], 0, []⟩) (imp_sub [0] rfl (by decide) rfl rfl ⟨by kernel_rfl, by kernel_rfl, by kernel_rfl, by kernel_rfl, by kernel_rfl, by kernel_rfl, trivial⟩ ⟨by kernel_rfl, trivial⟩ rfl rfl rfl) ?_
    refine post_next ?_
    refine aw_seq ?_
    refine aw_region ?_
    refine reg_cons (guard_no rfl) (op_move rfl rfl rfl rfl) ?_
    refine reg_cons (guard_no rfl) (op_arr_lp (k := .i64) (m := 0) (n := 2) rfl rfl rfl Try_arr_27 rfl rfl rfl rfl) ?_
    refine reg_cons (guard_no rfl) (op_load_lp (v := .pv (.int .i64 a2.a0)) rfl rfl rfl rfl Try_one_3 rfl rfl) ?_
    refine reg_cons (guard_no rfl) (op_arr_lp (k := .i64) (m := 1) (n := 2) rfl rfl rfl Try_arr_27 rfl rfl rfl rfl) ?_
    refine reg_cons (guard_no rfl) (op_load_lp (v := .pv (.int .i64 a2.a1)) rfl rfl rfl rfl Try_one_3 rfl rfl) ?_
    obtain ⟨y14, h15, hF⟩ := bind_some hF
    refine reg_cons (guard_no rfl) (op_call 1 rfl (caps := []) (args := [.str a0, .int .i64 a2.a0, .int .i64 a2.a1]) (rs := [.p (.int .i64 y14.1), .p (.bool y14.2)]) rfl rfl rfl Try_cal_15 (place_Back_ok h15) rfl rfl rfl) ?_
    refine reg_cons (guard_no rfl) (op_move rfl rfl rfl rfl) ?_
    refine reg_cons (guard_no rfl) (op_extract rfl rfl rfl rfl rfl) ?_
    refine reg_cons (guard_no rfl) (op_extract rfl rfl rfl rfl rfl) ?_
    refine reg_cons (guard_no rfl) (op_assign rfl rfl rfl rfl) ?_
    refine reg_cons (guard_no rfl) (op_assign rfl rfl rfl rfl) ?_
    refine reg_nil ?_
    refine post_imp (s' := ⟨70, [(0, some (.pv (.str a0))), (5, some (.lp 0 0)), (7, some (.pv (.int .i64 y6.1))), (8, some (.pv (.int .i64 y6.2))), (9, some (.pv (.int .i64 y10.1))), (10, some (.pv (.int .i64 y10.2))), (11, some (.pv (.int .i64 y14.1))), (12, some (.pv (.bool y14.2)))], [(0, some (.box 27 [.pv (.int .i64 a2.a0), .pv (.int .i64 a2.a1)]))], 1, [], [], 0, []⟩) (imp_sub [0] rfl (by decide) rfl rfl ⟨by kernel_rfl, by kernel_rfl, by kernel_rfl, by kernel_rfl, by kernel_rfl, by kernel_rfl, by kernel_rfl, by kernel_rfl, trivial⟩ ⟨by kernel_rfl, trivial⟩ rfl rfl rfl) ?_
    refine post_next ?_
    refine aw_seq ?_
    refine aw_region ?_
    refine reg_cons (guard_no rfl) (op_move rfl rfl rfl rfl) ?_
    refine reg_cons (guard_no rfl) (op_arr_lp (k := .i64) (m := 0) (n := 2) rfl rfl rfl Try_arr_27 rfl rfl rfl rfl) ?_
    refine reg_cons (guard_no rfl) (op_load_lp (v := .pv (.int .i64 a2.a0)) rfl rfl rfl rfl Try_one_3 rfl rfl) ?_
    refine reg_cons (guard_no rfl) (op_arr_lp (k := .i64) (m := 1) (n := 2) rfl rfl rfl Try_arr_27 rfl rfl rfl rfl) ?_
    refine reg_cons (guard_no rfl) (op_load_lp (v := .pv (.int .i64 a2.a1)) rfl rfl rfl rfl Try_one_3 rfl rfl) ?_
    obtain ⟨y18, h19, hF⟩ := bind_some hF
    refine reg_cons (guard_no rfl) (op_call 1 rfl (caps := []) (args := [.str a0, .int .i64 a2.a0, .int .i64 a2.a1]) (rs := [.p (.int .i64 y18.1), .p (.bool y18.2)]) rfl rfl rfl Try_cal_16 (ref01_Back_ok h19) rfl rfl rfl) ?_
    refine reg_cons (guard_no rfl) (op_move rfl rfl rfl rfl) ?_
    refine reg_cons (guard_no rfl) (op_extract rfl rfl rfl rfl rfl) ?_
    refine reg_cons (guard_no rfl) (op_extract rfl rfl rfl rfl rfl) ?_
    refine reg_cons (guard_no rfl) (op_assign rfl rfl rfl rfl) ?_
    refine reg_cons (guard_no rfl) (op_assign rfl rfl rfl rfl) ?_
    refine reg_nil ?_
    refine post_imp (s' := ⟨70, [(7, some (.pv (.int .i64 y6.1))), (8, some (.pv (.int .i64 y6.2))), (9, some (.pv (.int .i64 y10.1))), (10, some (.pv (.int .i64 y10.2))), (11, some (.pv (.int .i64 y14.1))), (12, some (.pv (.bool y14.2))), (13, some (.pv (.int .i64 y18.1))), (14, some (.pv (.bool y18.2)))], [], 0, [], [], 0, []⟩) (imp_sub [] rfl (by decide) rfl rfl ⟨by kernel_rfl, by kernel_rfl, by kernel_rfl, by kernel_rfl, by kernel_rfl, by kernel_rfl, by kernel_rfl, by kernel_rfl, trivial⟩ trivial rfl rfl rfl) ?_
    refine post_next ?_
    refine aw_seq ?_
    refine aw_region ?_
    refine reg_cons (guard_no rfl) (op_move rfl rfl rfl rfl) ?_
    refine reg_cons (guard_no rfl) (op_move rfl rfl rfl rfl) ?_
    refine reg_cons (guard_no rfl) (op_int (k := .i64) (m := y6.1) (n := y10.1) rfl rfl rfl rfl rfl rfl) ?_
    refine reg_cons (guard_no rfl) (op_move rfl rfl rfl rfl) ?_
    rcases ite_some hF with ⟨hb20, hF⟩ | ⟨hb20, hF⟩
    · refine reg_cons (guard_on rfl rfl rfl rfl hb20) (op_move rfl rfl rfl rfl) ?_
      refine reg_cons (guard_on rfl rfl rfl rfl hb20) (op_move rfl rfl rfl rfl) ?_
      refine reg_cons (guard_on rfl rfl rfl rfl hb20) (op_int (k := .i64) (m := y6.2) (n := y10.2) rfl rfl rfl rfl rfl rfl) ?_
      refine reg_cons (guard_no rfl) (op_pick_t rfl rfl hb20 rfl rfl rfl) ?_
      refine reg_cons (guard_no rfl) (op_move rfl rfl rfl rfl) ?_
      rcases ite_some hF with ⟨hb21, hF⟩ | ⟨hb21, hF⟩
      · refine reg_cons (guard_on rfl rfl rfl rfl hb21) (op_move rfl rfl rfl rfl) ?_
        refine reg_cons (guard_on rfl rfl rfl rfl hb21) (op_move rfl rfl rfl rfl) ?_
        refine reg_cons (guard_on rfl rfl rfl rfl hb21) (op_int (k := .i64) (m := y14.1) (n := y18.1) rfl rfl rfl rfl rfl rfl) ?_
        refine reg_cons (guard_no rfl) (op_pick_t rfl rfl hb21 rfl rfl rfl) ?_
        refine reg_cons (guard_no rfl) (op_move rfl rfl rfl rfl) ?_
        rcases ite_some hF with ⟨hb22, hF⟩ | ⟨hb22, hF⟩
        · refine reg_cons (guard_on rfl rfl rfl rfl hb22) (op_move rfl rfl rfl rfl) ?_
          refine reg_cons (guard_on rfl rfl rfl rfl hb22) (op_move rfl rfl rfl rfl) ?_
          refine reg_cons (guard_on rfl rfl rfl rfl hb22) (op_eqBool_eql rfl rfl rfl Try_und_4 rfl rfl) ?_
          refine reg_cons (guard_no rfl) (op_pick_t rfl rfl hb22 rfl rfl rfl) ?_
          refine reg_cons (guard_no rfl) (op_move rfl rfl rfl rfl) ?_
          rcases ite_some hF with ⟨hb23, hF⟩ | ⟨hb23, hF⟩
          · obtain ⟨y24, h25, hF⟩ := bind_some hF
            refine reg_cons (guard_on rfl rfl rfl rfl hb23) (op_call 0 rfl (caps := []) (args := []) (rs := [.p (.bool y24)]) rfl rfl rfl Try_cal_10 (law01_awake_ok h25) rfl rfl rfl) ?_
            refine reg_cons (guard_no rfl) (op_pick_t rfl rfl hb23 rfl rfl rfl) ?_
            refine reg_cons (guard_no rfl) (op_assign rfl rfl rfl rfl) ?_
            refine reg_nil ?_
            refine post_imp (s' := ⟨70, [(6, some (.pv (.bool y24)))], [], 0, [], [], 0, []⟩) (imp_sub [] rfl (by decide) rfl rfl ⟨by kernel_rfl, trivial⟩ trivial rfl rfl rfl) ?_
            refine post_next ?_
            refine aw_ret ?_
            obtain rfl := Option.some.inj hF
            exact post_ret rfl rfl (.cons _ _ _ _ _ (.tmp _ _ rfl) (.p _) .nil) (.inl rfl)
          · refine reg_off (guard_off rfl rfl rfl rfl hb23) rfl rfl ?_
            refine reg_cons (guard_no rfl) (op_pick_f rfl rfl hb23 rfl rfl rfl) ?_
            refine reg_cons (guard_no rfl) (op_assign rfl rfl rfl rfl) ?_
            refine reg_nil ?_
            refine post_imp (s' := ⟨70, [(6, some (.pv (.bool false)))], [], 0, [], [], 0, []⟩) (imp_sub [] rfl (by decide) rfl rfl ⟨by kernel_rfl, trivial⟩ trivial rfl rfl rfl) ?_
            refine post_next ?_
            refine aw_ret ?_
            obtain rfl := Option.some.inj hF
            exact post_ret rfl rfl (.cons _ _ _ _ _ (.tmp _ _ rfl) (.p _) .nil) (.inl rfl)
        · refine reg_off (guard_off rfl rfl rfl rfl hb22) rfl rfl ?_
          refine reg_off (guard_off rfl rfl rfl rfl hb22) rfl rfl ?_
          refine reg_off (guard_off rfl rfl rfl rfl hb22) rfl rfl ?_
          refine reg_cons (guard_no rfl) (op_pick_f rfl rfl hb22 rfl rfl rfl) ?_
          refine reg_cons (guard_no rfl) (op_move rfl rfl rfl rfl) ?_
          refine reg_off (guard_off rfl rfl rfl rfl rfl) rfl rfl ?_
          refine reg_cons (guard_no rfl) (op_pick_f rfl rfl rfl rfl rfl rfl) ?_
          refine reg_cons (guard_no rfl) (op_assign rfl rfl rfl rfl) ?_
          refine reg_nil ?_
          refine post_imp (s' := ⟨70, [(6, some (.pv (.bool false)))], [], 0, [], [], 0, []⟩) (imp_sub [] rfl (by decide) rfl rfl ⟨by kernel_rfl, trivial⟩ trivial rfl rfl rfl) ?_
          refine post_next ?_
          refine aw_ret ?_
          obtain rfl := Option.some.inj hF
          exact post_ret rfl rfl (.cons _ _ _ _ _ (.tmp _ _ rfl) (.p _) .nil) (.inl rfl)
      · refine reg_off (guard_off rfl rfl rfl rfl hb21) rfl rfl ?_
        refine reg_off (guard_off rfl rfl rfl rfl hb21) rfl rfl ?_
        refine reg_off (guard_off rfl rfl rfl rfl hb21) rfl rfl ?_
        refine reg_cons (guard_no rfl) (op_pick_f rfl rfl hb21 rfl rfl rfl) ?_
        refine reg_cons (guard_no rfl) (op_move rfl rfl rfl rfl) ?_
        refine reg_off (guard_off rfl rfl rfl rfl rfl) rfl rfl ?_
        refine reg_off (guard_off rfl rfl rfl rfl rfl) rfl rfl ?_
        refine reg_off (guard_off rfl rfl rfl rfl rfl) rfl rfl ?_
        refine reg_cons (guard_no rfl) (op_pick_f rfl rfl rfl rfl rfl rfl) ?_
        refine reg_cons (guard_no rfl) (op_move rfl rfl rfl rfl) ?_
        refine reg_off (guard_off rfl rfl rfl rfl rfl) rfl rfl ?_
        refine reg_cons (guard_no rfl) (op_pick_f rfl rfl rfl rfl rfl rfl) ?_
        refine reg_cons (guard_no rfl) (op_assign rfl rfl rfl rfl) ?_
        refine reg_nil ?_
        refine post_imp (s' := ⟨70, [(6, some (.pv (.bool false)))], [], 0, [], [], 0, []⟩) (imp_sub [] rfl (by decide) rfl rfl ⟨by kernel_rfl, trivial⟩ trivial rfl rfl rfl) ?_
        refine post_next ?_
        refine aw_ret ?_
        obtain rfl := Option.some.inj hF
        exact post_ret rfl rfl (.cons _ _ _ _ _ (.tmp _ _ rfl) (.p _) .nil) (.inl rfl)
    · refine reg_off (guard_off rfl rfl rfl rfl hb20) rfl rfl ?_
      refine reg_off (guard_off rfl rfl rfl rfl hb20) rfl rfl ?_
      refine reg_off (guard_off rfl rfl rfl rfl hb20) rfl rfl ?_
      refine reg_cons (guard_no rfl) (op_pick_f rfl rfl hb20 rfl rfl rfl) ?_
      refine reg_cons (guard_no rfl) (op_move rfl rfl rfl rfl) ?_
      refine reg_off (guard_off rfl rfl rfl rfl rfl) rfl rfl ?_
      refine reg_off (guard_off rfl rfl rfl rfl rfl) rfl rfl ?_
      refine reg_off (guard_off rfl rfl rfl rfl rfl) rfl rfl ?_
      refine reg_cons (guard_no rfl) (op_pick_f rfl rfl rfl rfl rfl rfl) ?_
      refine reg_cons (guard_no rfl) (op_move rfl rfl rfl rfl) ?_
      refine reg_off (guard_off rfl rfl rfl rfl rfl) rfl rfl ?_
      refine reg_off (guard_off rfl rfl rfl rfl rfl) rfl rfl ?_
      refine reg_off (guard_off rfl rfl rfl rfl rfl) rfl rfl ?_
      refine reg_cons (guard_no rfl) (op_pick_f rfl rfl rfl rfl rfl rfl) ?_
      refine reg_cons (guard_no rfl) (op_move rfl rfl rfl rfl) ?_
      refine reg_off (guard_off rfl rfl rfl rfl rfl) rfl rfl ?_
      refine reg_cons (guard_no rfl) (op_pick_f rfl rfl rfl rfl rfl rfl) ?_
      refine reg_cons (guard_no rfl) (op_assign rfl rfl rfl rfl) ?_
      refine reg_nil ?_
      refine post_imp (s' := ⟨70, [(6, some (.pv (.bool false)))], [], 0, [], [], 0, []⟩) (imp_sub [] rfl (by decide) rfl rfl ⟨by kernel_rfl, trivial⟩ trivial rfl rfl rfl) ?_
      refine post_next ?_
      refine aw_ret ?_
      obtain rfl := Option.some.inj hF
      exact post_ret rfl rfl (.cons _ _ _ _ _ (.tmp _ _ rfl) (.p _) .nil) (.inl rfl)
end Go.Proofs.Ytcdgamjijdneeaa
