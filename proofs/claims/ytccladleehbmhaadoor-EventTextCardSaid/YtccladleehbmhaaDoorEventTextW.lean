/- A part of the proof that the law EventText gives true for every input. -/
import Derived.Test.YtccladleehbmhaaDoorEventTextT
import Derived.Test.YtccladleehbmhaaDoorEventTextB
import Derived.Test.YtccladleehbmhaaDoorEventTextS
import Derived.Test.YtccladleehbmhaaDoorEventTextX
import Derived.Test.YtccladleehbmhaaDoorEventTextW0
/- Each Go function computes its plain function. -/
namespace Go.Proofs.YtccladleehbmhaaDoor
open Go.RowKit Go.Abs
set_option maxRecDepth 100000
set_option maxHeartbeats 4000000
theorem event_spell_ok {a0 : GEvent} {a1 : List UInt8} {r : (List UInt8)} (hF : event_spell a0 a1 = some r) : Abs.Fn globs_Tryd Tryd.prog 49 [.agg (eGEvent a0), .str a1] [.p (.str r)] := by
  unfold event_spell at hF
  refine fn_of_body (n := 34) Tryd.func49 rfl rfl rfl ?_
  intro w O
  refine aw_seq ?_
  refine aw_region ?_
  refine rgp (op_box 0 rfl rfl rfl rfl rfl rfl) ?_
  refine ras ?_
  refine reg_nil ?_
  refine post_imp (s' := ⟨34, [(1, some (.pv (.str a1))), (2, some (.lp 0 0))], [(0, some (.box 27 (bxv (eGEvent a0))))], 1, [], [], 0, []⟩) (imps [0] ⟨by kernel_rfl, by kernel_rfl, trivial⟩ ⟨by kernel_rfl, trivial⟩) ?_
  refine post_next ?_
  iterate 2 (refine aw_seq ?_)
  refine aw_region ?_
  refine rmv ?_
  obtain ⟨y3, h4, hF⟩ := bind_some hF
  refine rgp (op_index_str (k := .i64) rfl rfl rfl h4 Tryd_und_9 rfl rfl) ?_
  refine reg_nil ?_
  refine post_imp (s' := ⟨34, [(1, some (.pv (.str a1))), (2, some (.lp 0 0)), (6, some (.pv (.int .u8 (y3.toNat : Int))))], [(0, some (.box 27 (bxv (eGEvent a0))))], 1, [], [], 0, []⟩) (imps [0] ⟨by kernel_rfl, by kernel_rfl, by kernel_rfl, trivial⟩ ⟨by kernel_rfl, trivial⟩) ?_
  refine post_next ?_
  refine aw_block ?_
  refine aw_seq ?_
  refine aw_region ?_
  refine rgp (op_int (k := .u8) (m := (y3.toNat : Int)) (n := 35) rfl rfl rfl rfl rfl rfl) ?_
  refine ras ?_
  refine reg_nil ?_
  refine post_imp (s' := ⟨34, [(1, some (.pv (.str a1))), (2, some (.lp 0 0)), (6, some (.pv (.int .u8 (y3.toNat : Int)))), (7, some (.pv (.bool ((y3.toNat : Int) == 35))))], [(0, some (.box 27 (bxv (eGEvent a0))))], 1, [], [], 0, []⟩) (imps [0] ⟨by kernel_rfl, by kernel_rfl, by kernel_rfl, by kernel_rfl, trivial⟩ ⟨by kernel_rfl, trivial⟩) ?_
  refine post_next ?_
  rcases ite_some hF with ⟨hb5, hF⟩ | ⟨hb5, hF⟩
  · refine aw_cond_t rfl hb5 ?_
    refine aw_seq ?_
    refine aw_region ?_
    refine rmv ?_
    obtain ⟨y6, h7, hF⟩ := bind_some hF
    refine rgp (op_index_str (k := .i64) rfl rfl rfl h7 Tryd_und_9 rfl rfl) ?_
    obtain ⟨y8, h9, hF⟩ := bind_some hF
    refine rgp (op_callP (args := [.lp 0 0, .pv (.int .u8 (y6.toNat : Int))]) (id := 0) (T := 27) (cells := eGEvent a0) rfl rfl rfl rfl rfl Tryd_cal_26 (event_slot_w_ok h9) rfl rfl rfl) ?_
    refine rgp (op_nilCheck rfl rfl rfl rfl rfl) ?_
    obtain ⟨y11, h10, hF⟩ := bind_some hF
    refine rgp (op_load_lp (v := .pv (.int .i64 y11)) rfl rfl rfl (getc_27_ok h10) Tryd_one_3 rfl rfl) ?_
    obtain ⟨y12, h13, hF⟩ := bind_some hF
    refine rgp (op_call 1 rfl (caps := []) (args := [.int .i64 y11]) (rs := [.p (.str y12)]) rfl rfl rfl Tryd_cal_61 (word_Digits_ok h13) rfl rfl rfl) ?_
    refine ras ?_
    refine reg_nil ?_
    refine post_imp (s' := ⟨34, [(4, some (.pv (.str y12)))], [], 0, [], [], 0, []⟩) (imps [] ⟨by kernel_rfl, trivial⟩ trivial) ?_
    refine post_next ?_
    refine aw_ret ?_
    refine post_block_ret ?_
    refine post_then_ret ?_
    obtain rfl := Option.some.inj hF
    exact prt
  refine aw_cond_f rfl hb5 ?_
  refine aw_seq ?_
  refine aw_region ?_
  refine rgp (op_int (k := .u8) (m := (y3.toNat : Int)) (n := 36) rfl rfl rfl rfl rfl rfl) ?_
  refine ras ?_
  refine reg_nil ?_
  refine post_imp (s' := ⟨34, [(1, some (.pv (.str a1))), (2, some (.lp 0 0)), (6, some (.pv (.int .u8 (y3.toNat : Int)))), (15, some (.pv (.bool ((y3.toNat : Int) == 36))))], [(0, some (.box 27 (bxv (eGEvent a0))))], 1, [], [], 0, []⟩) (imps [0] ⟨by kernel_rfl, by kernel_rfl, by kernel_rfl, by kernel_rfl, trivial⟩ ⟨by kernel_rfl, trivial⟩) ?_
  refine post_next ?_
  rcases ite_some hF with ⟨hb14, hF⟩ | ⟨hb14, hF⟩
  · refine aw_cond_t rfl hb14 ?_
    refine aw_seq ?_
    refine aw_region ?_
    refine rgp (op_field_lp rfl rfl Tryd_fld_27_3 rfl rfl) ?_
    refine rgp (op_load_lp (v := .pv (.str a0.fName)) rfl rfl rfl rfl Tryd_one_9 rfl rfl) ?_
    refine ras ?_
    refine reg_nil ?_
    refine post_imp (s' := ⟨34, [(4, some (.pv (.str a0.fName)))], [], 0, [], [], 0, []⟩) (imps [] ⟨by kernel_rfl, trivial⟩ trivial) ?_
    refine post_next ?_
    refine aw_ret ?_
    refine post_block_ret ?_
    refine post_then_ret ?_
    obtain rfl := Option.some.inj hF
    exact prt
  refine aw_cond_f rfl hb14 ?_
  refine aw_seq ?_
  refine aw_region ?_
  refine rgp (op_int (k := .u8) (m := (y3.toNat : Int)) (n := 64) rfl rfl rfl rfl rfl rfl) ?_
  refine ras ?_
  refine reg_nil ?_
  refine post_imp (s' := ⟨34, [(1, some (.pv (.str a1))), (2, some (.lp 0 0)), (19, some (.pv (.bool ((y3.toNat : Int) == 64))))], [(0, some (.box 27 (bxv (eGEvent a0))))], 1, [], [], 0, []⟩) (imps [0] ⟨by kernel_rfl, by kernel_rfl, by kernel_rfl, trivial⟩ ⟨by kernel_rfl, trivial⟩) ?_
  refine post_next ?_
  rcases ite_some hF with ⟨hb15, hF⟩ | ⟨hb15, hF⟩
  · refine aw_cond_t rfl hb15 ?_
    iterate 2 (refine aw_seq ?_)
    refine aw_region ?_
    refine rgp (op_field_lp rfl rfl Tryd_fld_27_4 rfl rfl) ?_
    refine rgp (op_field_lp rfl rfl Tryd_fld_24_0 rfl rfl) ?_
    refine rgp (op_load_lp (v := .pv (.bool a0.fV.fRef)) rfl rfl rfl rfl Tryd_one_4 rfl rfl) ?_
    refine reg_nil ?_
    refine post_imp (s' := ⟨34, [(2, some (.lp 0 0)), (23, some (.pv (.bool a0.fV.fRef)))], [(0, some (.box 27 (bxv (eGEvent a0))))], 1, [], [], 0, []⟩) (imps [0] ⟨by kernel_rfl, by kernel_rfl, trivial⟩ ⟨by kernel_rfl, trivial⟩) ?_
    refine post_next ?_
    rcases ite_some hF with ⟨hb16, hF⟩ | ⟨hb16, hF⟩
    · refine aw_cond_t rfl hb16 ?_
      refine aw_seq ?_
      refine aw_region ?_
      refine rgp (op_field_lp rfl rfl Tryd_fld_27_4 rfl rfl) ?_
      refine rgp (op_field_lp rfl rfl Tryd_fld_24_1 rfl rfl) ?_
      refine rgp (op_load_lp (v := .pv (.int .i64 a0.fV.fN)) rfl rfl rfl rfl Tryd_one_3 rfl rfl) ?_
      obtain ⟨y17, h18, hF⟩ := bind_some hF
      refine rgp (op_call 1 rfl (caps := []) (args := [.int .i64 a0.fV.fN]) (rs := [.p (.str y17)]) rfl rfl rfl Tryd_cal_61 (word_Digits_ok h18) rfl rfl rfl) ?_
      obtain ⟨u19, h20, hF⟩ := bind_some hF
      refine rgp (op_concat rfl rfl rfl (room_str h20) rfl rfl) ?_
      refine ras ?_
      refine reg_nil ?_
      refine post_imp (s' := ⟨34, [(4, some (.pv (.str ([64] ++ y17))))], [], 0, [], [], 0, []⟩) (imps [] ⟨by kernel_rfl, trivial⟩ trivial) ?_
      refine post_next ?_
      refine aw_ret ?_
      refine post_then_ret ?_
      refine post_block_ret ?_
      refine post_then_ret ?_
      obtain rfl := Option.some.inj hF
      exact prt
    refine aw_cond_f rfl hb16 ?_
    refine aw_skip ?_
    refine post_next ?_
    refine aw_seq ?_
    refine aw_region ?_
    refine rgp (op_field_lp rfl rfl Tryd_fld_27_4 rfl rfl) ?_
    refine rgp (op_field_lp rfl rfl Tryd_fld_24_1 rfl rfl) ?_
    refine rgp (op_load_lp (v := .pv (.int .i64 a0.fV.fN)) rfl rfl rfl rfl Tryd_one_3 rfl rfl) ?_
    obtain ⟨y21, h22, hF⟩ := bind_some hF
    refine rgp (op_call 1 rfl (caps := []) (args := [.int .i64 a0.fV.fN]) (rs := [.p (.str y21)]) rfl rfl rfl Tryd_cal_61 (word_Digits_ok h22) rfl rfl rfl) ?_
    refine ras ?_
    refine reg_nil ?_
    refine post_imp (s' := ⟨34, [(4, some (.pv (.str y21)))], [], 0, [], [], 0, []⟩) (imps [] ⟨by kernel_rfl, trivial⟩ trivial) ?_
    refine post_next ?_
    refine aw_ret ?_
    refine post_block_ret ?_
    refine post_then_ret ?_
    obtain rfl := Option.some.inj hF
    exact prt
  refine aw_cond_f rfl hb15 ?_
  refine aw_skip ?_
  refine post_block_normal ?_
  refine post_next ?_
  refine aw_seq ?_
  refine aw_region ?_
  refine rmv ?_
  refine ras ?_
  refine reg_nil ?_
  refine post_imp (s' := ⟨34, [(4, some (.pv (.str a1)))], [], 0, [], [], 0, []⟩) (imps [] ⟨by kernel_rfl, trivial⟩ trivial) ?_
  refine post_next ?_
  refine aw_ret ?_
  obtain rfl := Option.some.inj hF
  exact prt
theorem strings_Join_ok {a0 : List (List UInt8)} {a1 r : List UInt8} (hF : strings_Join a0 a1 = some r) : Abs.Fn globs_Tryd Tryd.prog 62 [.vs 1 (List.map eS a0), .str a1] [.p (.str r)] := fn_join Tryd.strings_Join_none Tryd.strings_Join hF
theorem event_line_ok {a0 : List (List UInt8)} {r : (List UInt8)} (hF : event_line a0 = some r) : Abs.Fn globs_Tryd Tryd.prog 50 [.vs 1 (List.map eS a0)] [.p (.str r)] := by
  unfold event_line at hF
  refine fn_of_body (n := 5) Tryd.func50 rfl rfl rfl ?_
  intro w O
  refine aw_seq ?_
  refine aw_region ?_
  refine ras ?_
  refine reg_nil ?_
  refine post_imp (s' := ⟨5, [(0, some (.pv (.vs 1 (List.map eS a0))))], [], 0, [], [], 0, []⟩) (imps [] ⟨by kernel_rfl, trivial⟩ trivial) ?_
  refine post_next ?_
  refine aw_seq ?_
  refine aw_region ?_
  refine rmv ?_
  obtain ⟨y1, h2, hF⟩ := bind_some hF
  refine rgp (op_call 0 rfl (caps := []) (args := [.vs 1 (List.map eS a0), .str [32]]) (rs := [.p (.str y1)]) rfl rfl rfl Tryd_cal_62 (strings_Join_ok h2) rfl rfl rfl) ?_
  refine ras ?_
  refine reg_nil ?_
  refine post_imp (s' := ⟨5, [(2, some (.pv (.str y1)))], [], 0, [], [], 0, []⟩) (imps [] ⟨by kernel_rfl, trivial⟩ trivial) ?_
  refine post_next ?_
  refine aw_ret ?_
  obtain rfl := Option.some.inj hF
  exact prt
theorem event_write_ok {a0 : GEvent} {r : (List UInt8)} (hF : event_write a0 = some r) : Abs.Fn globs_Tryd Tryd.prog 30 [.agg (eGEvent a0)] [.p (.str r)] := by
  unfold event_write at hF
  refine fn_of_body (n := 24) Tryd.func30 rfl rfl rfl ?_
  intro w O
  refine aw_seq ?_
  refine aw_region ?_
  refine rgp (op_box 0 rfl rfl rfl rfl rfl rfl) ?_
  refine ras ?_
  refine reg_nil ?_
  refine post_imp (s' := ⟨24, [(1, some (.lp 0 0))], [(0, some (.box 27 (bxv (eGEvent a0))))], 1, [], [], 0, []⟩) (imps [0] ⟨by kernel_rfl, trivial⟩ ⟨by kernel_rfl, trivial⟩) ?_
  refine post_next ?_
  refine aw_seq ?_
  refine aw_region ?_
  refine ras ?_
  refine reg_imp (imp_nil_own 3 9 1 1 rfl rfl) ?_
  refine reg_nil ?_
  refine post_imp (s' := ⟨24, [(1, some (.lp 0 0)), (3, some (.ls 1))], [(0, some (.box 27 (bxv (eGEvent a0)))), (1, some (.row 9 1 (List.map eS [])))], 2, [], [], 0, []⟩) (imps [0, 1] ⟨by kernel_rfl, by kernel_rfl, trivial⟩ ⟨by kernel_rfl, by kernel_rfl, trivial⟩) ?_
  refine post_next ?_
  iterate 2 (refine aw_seq ?_)
  refine aw_region ?_
  refine rgp (op_field_lp rfl rfl Tryd_fld_27_0 rfl rfl) ?_
  refine rgp (op_load_lp (v := .pv (.int .i64 a0.fKind)) rfl rfl rfl rfl Tryd_one_3 rfl rfl) ?_
  obtain ⟨y5, h6, hF⟩ := bind_some hF
  refine rgp (op_call 2 rfl (caps := []) (args := [.int .i64 a0.fKind]) (rs := [.p (.str y5)]) rfl rfl rfl Tryd_cal_24 (event_pattern_ok h6) rfl rfl rfl) ?_
  obtain ⟨y7, h8, hF⟩ := bind_some hF
  refine rgp (op_call 2 rfl (caps := []) (args := [.str y5]) (rs := [.p (.vs 1 (List.map eS y7))]) rfl rfl rfl Tryd_cal_25 (Fn.frozen (strings_Fields_ok h8)) rfl rfl rfl) ?_
  refine rgp (op_len_vs (n := y7.length) rfl rfl (List.length_map ..) Tryd_slc_41 rfl rfl) ?_
  refine rmv ?_
  refine reg_nil ?_
  refine post_imp (s' := ⟨24, [(1, some (.lp 0 0)), (3, some (.ls 1)), (9, some (.pv (.vs 1 (List.map eS y7)))), (10, some (.pv (.int .i64 (y7.length : Int)))), (11, some (.pv (.int .i64 0)))], [(0, some (.box 27 (bxv (eGEvent a0)))), (1, some (.row 9 1 (List.map eS [])))], 2, [], [], 0, []⟩) (imps [0, 1] ⟨by kernel_rfl, by kernel_rfl, by kernel_rfl, by kernel_rfl, by kernel_rfl, trivial⟩ ⟨by kernel_rfl, by kernel_rfl, trivial⟩) ?_
  refine post_next ?_
  obtain ⟨x54, hF, hK55⟩ := bind_some hF
  refine aw_for ((((y7.length : Int) : Int) - (0)).toNat + 1) (fun s1 => s1 = ⟨24, [(3, some (.ls 0))], [(0, some (.row 9 1 (List.map eS x54)))], 1, [], [], 0, []⟩) ?_ ?_
  · refine rnd_loop (α := (List (List UInt8)) × Int) (fun q => ⟨24, [(1, some (.lp 0 0)), (3, some (.ls 1)), (9, some (.pv (.vs 1 (List.map eS y7)))), (10, some (.pv (.int .i64 (y7.length : Int)))), (11, some (.pv (.int .i64 q.2)))], [(0, some (.box 27 (bxv (eGEvent a0)))), (1, some (.row 9 1 (List.map eS q.1)))], 2, [], [], 0, []⟩) (fun k q => event_write_L1 a0 y7 k q.1 q.2 = some x54) ([], 0) (imps [0, 1] ⟨by kernel_rfl, by kernel_rfl, by kernel_rfl, by kernel_rfl, by kernel_rfl, trivial⟩ ⟨by kernel_rfl, by kernel_rfl, trivial⟩) hF (fun q h => by cases h) ?_
    clear hF
    rintro k ⟨x22, x23⟩ hF ih
    refine rnd_succ ?_
    refine aw_seq ?_
    refine aw_region ?_
    refine rgp (op_int (k := .i64) (m := x23) (n := (y7.length : Int)) rfl rfl rfl rfl rfl rfl) ?_
    refine reg_nil ?_
    refine post_imp (s' := ⟨24, [(1, some (.lp 0 0)), (3, some (.ls 1)), (9, some (.pv (.vs 1 (List.map eS y7)))), (10, some (.pv (.int .i64 (y7.length : Int)))), (11, some (.pv (.int .i64 x23))), (12, some (.pv (.bool (decide (x23 < (y7.length : Int))))))], [(0, some (.box 27 (bxv (eGEvent a0)))), (1, some (.row 9 1 (List.map eS x22)))], 2, [], [], 0, []⟩) (imps [0, 1] ⟨by kernel_rfl, by kernel_rfl, by kernel_rfl, by kernel_rfl, by kernel_rfl, by kernel_rfl, trivial⟩ ⟨by kernel_rfl, by kernel_rfl, trivial⟩) ?_
    refine post_next ?_
    refine aw_seq ?_
    rcases ite_some hF with ⟨hb39, hF⟩ | ⟨hb39, hF⟩
    · refine aw_cond_t rfl hb39 ?_
      refine aw_skip ?_
      refine post_next ?_
      refine aw_seq ?_
      refine aw_block ?_
      refine aw_seq ?_
      refine aw_region ?_
      obtain ⟨y42, h43, hF⟩ := bind_some hF
      refine rgp (op_index_vs (k := .i64) rfl rfl rfl (idx_map eS h43) Tryd_slc_41 rfl rfl) ?_
      refine rgp (op_load_vp (p := .str y42) rfl rfl rfl Tryd_one_9 rfl rfl) ?_
      refine ras ?_
      refine reg_nil ?_
      refine post_imp (s' := ⟨24, [(1, some (.lp 0 0)), (3, some (.ls 1)), (5, some (.pv (.str y42))), (9, some (.pv (.vs 1 (List.map eS y7)))), (10, some (.pv (.int .i64 (y7.length : Int)))), (11, some (.pv (.int .i64 x23)))], [(0, some (.box 27 (bxv (eGEvent a0)))), (1, some (.row 9 1 (List.map eS x22)))], 2, [], [], 0, []⟩) (imps [0, 1] ⟨by kernel_rfl, by kernel_rfl, by kernel_rfl, by kernel_rfl, by kernel_rfl, by kernel_rfl, trivial⟩ ⟨by kernel_rfl, by kernel_rfl, trivial⟩) ?_
      refine post_next ?_
      refine aw_region ?_
      refine rmv ?_
      refine rgp (op_load_lp_agg (ps := eGEvent a0) rfl rfl rfl rfl rfl rfl Tryd_agg_27 rfl rfl) ?_
      refine rmv ?_
      obtain ⟨y48, h49, hF⟩ := bind_some hF
      refine rgp (op_call 2 rfl (caps := []) (args := [.agg (eGEvent a0), .str y42]) (rs := [.p (.str y48)]) rfl rfl rfl Tryd_cal_49 (event_spell_ok h49) rfl rfl rfl) ?_
      refine rgp (op_lit (rows := List.map eS ([y48] : List (List UInt8))) (zs := [.str []]) rfl rfl Tryd_slc_41 Tryd_zer_9 (by exact ⟨rfl, trivial⟩) rfl rfl rfl rfl rfl rfl rfl rfl) ?_
      obtain ⟨u50, h51, hF⟩ := bind_some hF
      refine rgp (op_append 2 rfl rfl rfl rfl rfl Tryd_slc_41 Tryd_elm_9 Tryd_zer_9 rfl rfl rfl (room_map (f := eS) (g := eS) h51) (List.map_append (f := eS) (l₁ := x22) (l₂ := [y48])).symm rfl rfl) ?_
      refine ras ?_
      refine reg_nil ?_
      refine post_imp (s' := ⟨24, [(1, some (.lp 0 0)), (3, some (.ls 1)), (9, some (.pv (.vs 1 (List.map eS y7)))), (10, some (.pv (.int .i64 (y7.length : Int)))), (11, some (.pv (.int .i64 x23)))], [(0, some (.box 27 (bxv (eGEvent a0)))), (1, some (.row 9 1 (List.map eS (x22 ++ [y48]))))], 2, [], [], 0, []⟩) (imps [0, 2] ⟨by kernel_rfl, by kernel_rfl, by kernel_rfl, by kernel_rfl, by kernel_rfl, trivial⟩ ⟨by kernel_rfl, by kernel_rfl, trivial⟩) ?_
      refine post_block_normal ?_
      refine post_next ?_
      refine aw_region ?_
      refine rgp (op_int (k := .i64) (m := x23) (n := 1) rfl rfl rfl rfl rfl rfl) ?_
      refine rmv ?_
      refine reg_nil ?_
      refine post_round ?_
      exact rnd_back (ih ((x22 ++ [y48]), w_i64 (x23 + 1)) hF) (imps [0, 1] ⟨by kernel_rfl, by kernel_rfl, by kernel_rfl, by kernel_rfl, by kernel_rfl, trivial⟩ ⟨by kernel_rfl, by kernel_rfl, trivial⟩)
    refine aw_cond_f rfl hb39 ?_
    refine aw_exit ?_
    iterate 2 (refine post_then_exit ?_)
    obtain rfl := Option.some.inj hF
    exact post_lp_break _ rfl (imps [1] ⟨by kernel_rfl, trivial⟩ ⟨by kernel_rfl, trivial⟩)
  rintro _ rfl
  have hF := hK55
  clear hK55
  refine post_next ?_
  refine aw_seq ?_
  refine aw_region ?_
  refine rmv ?_
  obtain ⟨y56, h57, hF⟩ := bind_some hF
  refine rgp (op_callB 1 rfl (caps := []) (args := [.vs 1 (List.map eS x54)]) [(0, some (.row 9 1 (List.map eS x54)))] rfl rfl rfl (FzH.spec ⟨rfl, trivial⟩) rfl rfl Tryd_cal_50 (event_line_ok h57) rfl rfl rfl) ?_
  refine ras ?_
  refine reg_nil ?_
  refine post_imp (s' := ⟨24, [(2, some (.pv (.str y56)))], [], 0, [], [], 0, []⟩) (imps [] ⟨by kernel_rfl, trivial⟩ trivial) ?_
  refine post_next ?_
  refine aw_ret ?_
  obtain rfl := Option.some.inj hF
  exact prt
theorem event_Text_ok {a0 : GEvent} {r : (List UInt8)} (hF : event_Text a0 = some r) : Abs.Fn globs_Tryd Tryd.prog 14 [.agg (eGEvent a0)] [.p (.str r)] := by
  unfold event_Text at hF
  refine fn_of_body (n := 8) Tryd.func14 rfl rfl rfl ?_
  intro w O
  refine aw_seq ?_
  refine aw_region ?_
  refine rgp (op_box 0 rfl rfl rfl rfl rfl rfl) ?_
  refine ras ?_
  refine reg_nil ?_
  refine post_imp (s' := ⟨8, [(1, some (.lp 0 0))], [(0, some (.box 27 (bxv (eGEvent a0))))], 1, [], [], 0, []⟩) (imps [0] ⟨by kernel_rfl, trivial⟩ ⟨by kernel_rfl, trivial⟩) ?_
  refine post_next ?_
  iterate 2 (refine aw_seq ?_)
  refine aw_region ?_
  refine rgp (op_load_lp_agg (ps := eGEvent a0) rfl rfl rfl rfl rfl rfl Tryd_agg_27 rfl rfl) ?_
  obtain ⟨y3, h4, hF⟩ := bind_some hF
  refine rgp (op_call 1 rfl (caps := []) (args := [.agg (eGEvent a0)]) (rs := [.p (.bool y3)]) rfl rfl rfl Tryd_cal_12 (event_Right_ok h4) rfl rfl rfl) ?_
  refine rgp (op_not rfl rfl rfl rfl) ?_
  refine reg_nil ?_
  refine post_imp (s' := ⟨8, [(1, some (.lp 0 0)), (5, some (.pv (.bool (!y3))))], [(0, some (.box 27 (bxv (eGEvent a0))))], 1, [], [], 0, []⟩) (imps [0] ⟨by kernel_rfl, by kernel_rfl, trivial⟩ ⟨by kernel_rfl, trivial⟩) ?_
  refine post_next ?_
  rcases ite_some hF with ⟨hb5, hF⟩ | ⟨hb5, hF⟩
  · refine aw_cond_t rfl hb5 ?_
    refine aw_seq ?_
    refine aw_region ?_
    refine ras ?_
    refine reg_nil ?_
    refine post_imp (s' := ⟨8, [(2, some (.pv (.str [])))], [], 0, [], [], 0, []⟩) (imps [] ⟨by kernel_rfl, trivial⟩ trivial) ?_
    refine post_next ?_
    refine aw_ret ?_
    refine post_then_ret ?_
    obtain rfl := Option.some.inj hF
    exact prt
  refine aw_cond_f rfl hb5 ?_
  refine aw_skip ?_
  refine post_next ?_
  refine aw_seq ?_
  refine aw_region ?_
  refine rgp (op_load_lp_agg (ps := eGEvent a0) rfl rfl rfl rfl rfl rfl Tryd_agg_27 rfl rfl) ?_
  obtain ⟨y6, h7, hF⟩ := bind_some hF
  refine rgp (op_call 1 rfl (caps := []) (args := [.agg (eGEvent a0)]) (rs := [.p (.str y6)]) rfl rfl rfl Tryd_cal_30 (event_write_ok h7) rfl rfl rfl) ?_
  refine ras ?_
  refine reg_nil ?_
  refine post_imp (s' := ⟨8, [(2, some (.pv (.str y6)))], [], 0, [], [], 0, []⟩) (imps [] ⟨by kernel_rfl, trivial⟩ trivial) ?_
  refine post_next ?_
  refine aw_ret ?_
  obtain rfl := Option.some.inj hF
  exact prt
theorem ref02_Digits_ok {a0 : Int} {r : (List UInt8)} (hF : ref02_Digits a0 = some r) : Abs.Fn globs_Tryd Tryd.prog 51 [.int .i64 a0] [.p (.str r)] := by
  unfold ref02_Digits at hF
  refine fn_of_body (n := 30) Tryd.func51 rfl rfl rfl ?_
  intro w O
  refine aw_seq ?_
  refine aw_region ?_
  refine ras ?_
  refine reg_nil ?_
  refine post_imp (s' := ⟨30, [(0, some (.pv (.int .i64 a0)))], [], 0, [], [], 0, []⟩) (imps [] ⟨by kernel_rfl, trivial⟩ trivial) ?_
  refine post_next ?_
  refine aw_seq ?_
  refine aw_region ?_
  refine ras ?_
  refine reg_nil ?_
  refine post_imp (s' := ⟨30, [(0, some (.pv (.int .i64 a0))), (3, some (.pv (.str [])))], [], 0, [], [], 0, []⟩) (imps [] ⟨by kernel_rfl, by kernel_rfl, trivial⟩ trivial) ?_
  refine post_next ?_
  refine aw_seq ?_
  obtain ⟨p4, hF, hK5⟩ := bind_some hF
  obtain ⟨x2, x3⟩ := p4
  refine aw_cut (fun s1 => s1 = ⟨30, [(0, some (.pv (.int .i64 x2))), (3, some (.pv (.str x3)))], [], 0, [], [], 0, []⟩) ?_ ?_
  · refine aw_seq ?_
    refine aw_region ?_
    refine rmv ?_
    refine rgp (op_int (k := .i64) (m := a0) (n := 0) rfl rfl rfl rfl rfl rfl) ?_
    refine reg_nil ?_
    refine post_imp (s' := ⟨30, [(0, some (.pv (.int .i64 a0))), (3, some (.pv (.str []))), (6, some (.pv (.bool (decide (a0 < 0)))))], [], 0, [], [], 0, []⟩) (imps [] ⟨by kernel_rfl, by kernel_rfl, by kernel_rfl, trivial⟩ trivial) ?_
    refine post_next ?_
    rcases ite_some hF with ⟨hb1, hF⟩ | ⟨hb1, hF⟩
    · refine aw_cond_t rfl hb1 ?_
      refine aw_region ?_
      refine ras ?_
      refine reg_nil ?_
      cases hF
      exact post_cut _ rfl (imps [] ⟨by kernel_rfl, by kernel_rfl, trivial⟩ trivial)
    refine aw_cond_f rfl hb1 ?_
    refine aw_region ?_
    refine rmv ?_
    refine rgp (op_neg rfl rfl rfl rfl) ?_
    refine ras ?_
    refine reg_nil ?_
    cases hF
    exact post_cut _ rfl (imps [] ⟨by kernel_rfl, by kernel_rfl, trivial⟩ trivial)
  rintro _ rfl
  have hF := hK5
  clear hK5
  refine post_next ?_
  refine aw_seq ?_
  refine aw_region ?_
  refine rmv ?_
  refine rgp (op_int2 (k := .i64) (m := x2) (n := 10) rfl rfl rfl (rem_op (by decide)) rfl rfl) ?_
  refine rgp (op_int (k := .i64) (m := 48) (n := Int.tmod x2 10) rfl rfl rfl rfl rfl rfl) ?_
  refine rgp (op_convInt rfl rfl Tryd_und_3 Tryd_und_5 rfl rfl) ?_
  refine rgp (op_lit (rows := List.map eI_u8 ([w_u8 (w_i64 (48 - (Int.tmod x2 10)))] : List Int)) (zs := [.int .u8 0]) rfl rfl Tryd_slc_55 Tryd_zer_5 (by exact ⟨rfl, trivial⟩) rfl rfl rfl rfl rfl rfl rfl rfl) ?_
  refine rgp (op_bytesStr (E := eI_u8) rfl rfl rfl Tryd_und_55 Tryd_und_5 Tryd_und_9 rfl rfl) ?_
  refine ras ?_
  refine reg_nil ?_
  refine post_imp (s' := ⟨30, [(0, some (.pv (.int .i64 x2))), (3, some (.pv (.str x3))), (4, some (.pv (.str (strL [w_u8 (w_i64 (48 - (Int.tmod x2 10)))]))))], [], 0, [], [], 0, []⟩) (imps [] ⟨by kernel_rfl, by kernel_rfl, by kernel_rfl, trivial⟩ trivial) ?_
  refine post_next ?_
  refine aw_seq ?_
  obtain ⟨x21, hF, hK22⟩ := bind_some hF
  refine aw_for 21 (fun s1 => s1 = ⟨30, [(3, some (.pv (.str x3))), (4, some (.pv (.str x21)))], [], 0, [], [], 0, []⟩) ?_ ?_
  · refine rnd_loop (α := Int × (List UInt8)) (fun q => ⟨30, [(0, some (.pv (.int .i64 q.1))), (3, some (.pv (.str x3))), (4, some (.pv (.str q.2)))], [], 0, [], [], 0, []⟩) (fun k q => ref02_Digits_L1 k q.1 q.2 = some x21) (x2, strL [w_u8 (w_i64 (48 - (Int.tmod x2 10)))]) (imps [] ⟨by kernel_rfl, by kernel_rfl, by kernel_rfl, trivial⟩ trivial) hF (fun q h => by cases h) ?_
    clear hF
    rintro k ⟨x9, x10⟩ hF ih
    refine rnd_succ ?_
    iterate 2 (refine aw_seq ?_)
    refine aw_region ?_
    refine rmv ?_
    refine rgp (op_int (k := .i64) (m := x9) (n := (-10)) rfl rfl rfl rfl rfl rfl) ?_
    refine reg_nil ?_
    refine post_imp (s' := ⟨30, [(0, some (.pv (.int .i64 x9))), (3, some (.pv (.str x3))), (4, some (.pv (.str x10))), (16, some (.pv (.bool (decide (x9 ≤ (-10))))))], [], 0, [], [], 0, []⟩) (imps [] ⟨by kernel_rfl, by kernel_rfl, by kernel_rfl, by kernel_rfl, trivial⟩ trivial) ?_
    refine post_next ?_
    rcases ite_some hF with ⟨hb16, hF⟩ | ⟨hb16, hF⟩
    · refine aw_cond_t rfl hb16 ?_
      refine aw_skip ?_
      refine post_next ?_
      refine aw_block ?_
      refine aw_seq ?_
      refine aw_region ?_
      refine rmv ?_
      refine rgp (op_int2 (k := .i64) (m := x9) (n := 10) rfl rfl rfl (quo_op (by decide)) rfl rfl) ?_
      refine ras ?_
      refine reg_nil ?_
      refine post_imp (s' := ⟨30, [(0, some (.pv (.int .i64 (w_i64 (Int.tdiv x9 10))))), (3, some (.pv (.str x3))), (4, some (.pv (.str x10)))], [], 0, [], [], 0, []⟩) (imps [] ⟨by kernel_rfl, by kernel_rfl, by kernel_rfl, trivial⟩ trivial) ?_
      refine post_next ?_
      refine aw_region ?_
      refine rmv ?_
      refine rgp (op_int2 (k := .i64) (m := w_i64 (Int.tdiv x9 10)) (n := 10) rfl rfl rfl (rem_op (by decide)) rfl rfl) ?_
      refine rgp (op_int (k := .i64) (m := 48) (n := Int.tmod (w_i64 (Int.tdiv x9 10)) 10) rfl rfl rfl rfl rfl rfl) ?_
      refine rgp (op_convInt rfl rfl Tryd_und_3 Tryd_und_5 rfl rfl) ?_
      refine rgp (op_lit (rows := List.map eI_u8 ([w_u8 (w_i64 (48 - (Int.tmod (w_i64 (Int.tdiv x9 10)) 10)))] : List Int)) (zs := [.int .u8 0]) rfl rfl Tryd_slc_55 Tryd_zer_5 (by exact ⟨rfl, trivial⟩) rfl rfl rfl rfl rfl rfl rfl rfl) ?_
      refine rgp (op_bytesStr (E := eI_u8) rfl rfl rfl Tryd_und_55 Tryd_und_5 Tryd_und_9 rfl rfl) ?_
      refine rmv ?_
      obtain ⟨u17, h18, hF⟩ := bind_some hF
      refine rgp (op_concat rfl rfl rfl (room_str h18) rfl rfl) ?_
      refine ras ?_
      refine reg_nil ?_
      refine post_imp (s' := ⟨30, [(0, some (.pv (.int .i64 (w_i64 (Int.tdiv x9 10))))), (3, some (.pv (.str x3))), (4, some (.pv (.str (strL [w_u8 (w_i64 (48 - (Int.tmod (w_i64 (Int.tdiv x9 10)) 10)))] ++ x10))))], [], 0, [], [], 0, []⟩) (imps [] ⟨by kernel_rfl, by kernel_rfl, by kernel_rfl, trivial⟩ trivial) ?_
      refine post_block_normal ?_
      refine post_round ?_
      exact rnd_back (ih (w_i64 (Int.tdiv x9 10), (strL [w_u8 (w_i64 (48 - (Int.tmod (w_i64 (Int.tdiv x9 10)) 10)))] ++ x10)) hF) (imps [] ⟨by kernel_rfl, by kernel_rfl, by kernel_rfl, trivial⟩ trivial)
    refine aw_cond_f rfl hb16 ?_
    refine aw_exit ?_
    iterate 2 (refine post_then_exit ?_)
    obtain rfl := Option.some.inj hF
    exact post_lp_break _ rfl (imps [] ⟨by kernel_rfl, by kernel_rfl, trivial⟩ trivial)
  rintro _ rfl
  have hF := hK22
  clear hK22
  refine post_next ?_
  refine aw_seq ?_
  refine aw_region ?_
  iterate 2 (refine rmv ?_)
  obtain ⟨u23, h24, hF⟩ := bind_some hF
  refine rgp (op_concat rfl rfl rfl (room_str h24) rfl rfl) ?_
  refine ras ?_
  refine reg_nil ?_
  refine post_imp (s' := ⟨30, [(2, some (.pv (.str (x3 ++ x21))))], [], 0, [], [], 0, []⟩) (imps [] ⟨by kernel_rfl, trivial⟩ trivial) ?_
  refine post_next ?_
  refine aw_ret ?_
  obtain rfl := Option.some.inj hF
  exact prt
theorem ref42_d_ok {a0 : Int} {r : (List UInt8)} (hF : ref42_d a0 = some r) : Abs.Fn globs_Tryd Tryd.prog 31 [.int .i64 a0] [.p (.str r)] := by
  unfold ref42_d at hF
  refine fn_of_body (n := 5) Tryd.func31 rfl rfl rfl ?_
  intro w O
  refine aw_seq ?_
  refine aw_region ?_
  refine ras ?_
  refine reg_nil ?_
  refine post_imp (s' := ⟨5, [(0, some (.pv (.int .i64 a0)))], [], 0, [], [], 0, []⟩) (imps [] ⟨by kernel_rfl, trivial⟩ trivial) ?_
  refine post_next ?_
  refine aw_seq ?_
  refine aw_region ?_
  refine rmv ?_
  obtain ⟨y1, h2, hF⟩ := bind_some hF
  refine rgp (op_call 0 rfl (caps := []) (args := [.int .i64 a0]) (rs := [.p (.str y1)]) rfl rfl rfl Tryd_cal_51 (ref02_Digits_ok h2) rfl rfl rfl) ?_
  refine ras ?_
  refine reg_nil ?_
  refine post_imp (s' := ⟨5, [(2, some (.pv (.str y1)))], [], 0, [], [], 0, []⟩) (imps [] ⟨by kernel_rfl, trivial⟩ trivial) ?_
  refine post_next ?_
  refine aw_ret ?_
  obtain rfl := Option.some.inj hF
  exact prt
theorem ref42_value_ok {a0 : GVal} {r : (List UInt8)} (hF : ref42_value a0 = some r) : Abs.Fn globs_Tryd Tryd.prog 32 [.agg (eGVal a0)] [.p (.str r)] := by
  unfold ref42_value at hF
  refine fn_of_body (n := 12) Tryd.func32 rfl rfl rfl ?_
  intro w O
  refine aw_seq ?_
  refine aw_region ?_
  refine rgp (op_box 0 rfl rfl rfl rfl rfl rfl) ?_
  refine ras ?_
  refine reg_nil ?_
  refine post_imp (s' := ⟨12, [(1, some (.lp 0 0))], [(0, some (.box 24 (bxv (eGVal a0))))], 1, [], [], 0, []⟩) (imps [0] ⟨by kernel_rfl, trivial⟩ ⟨by kernel_rfl, trivial⟩) ?_
  refine post_next ?_
  iterate 2 (refine aw_seq ?_)
  refine aw_region ?_
  refine rgp (op_field_lp rfl rfl Tryd_fld_24_0 rfl rfl) ?_
  refine rgp (op_load_lp (v := .pv (.bool a0.fRef)) rfl rfl rfl rfl Tryd_one_4 rfl rfl) ?_
  refine reg_nil ?_
  refine post_imp (s' := ⟨12, [(1, some (.lp 0 0)), (4, some (.pv (.bool a0.fRef)))], [(0, some (.box 24 (bxv (eGVal a0))))], 1, [], [], 0, []⟩) (imps [0] ⟨by kernel_rfl, by kernel_rfl, trivial⟩ ⟨by kernel_rfl, trivial⟩) ?_
  refine post_next ?_
  rcases ite_some hF with ⟨hb1, hF⟩ | ⟨hb1, hF⟩
  · refine aw_cond_t rfl hb1 ?_
    refine aw_seq ?_
    refine aw_region ?_
    refine rgp (op_field_lp rfl rfl Tryd_fld_24_1 rfl rfl) ?_
    refine rgp (op_load_lp (v := .pv (.int .i64 a0.fN)) rfl rfl rfl rfl Tryd_one_3 rfl rfl) ?_
    obtain ⟨y2, h3, hF⟩ := bind_some hF
    refine rgp (op_call 1 rfl (caps := []) (args := [.int .i64 a0.fN]) (rs := [.p (.str y2)]) rfl rfl rfl Tryd_cal_31 (ref42_d_ok h3) rfl rfl rfl) ?_
    obtain ⟨u4, h5, hF⟩ := bind_some hF
    refine rgp (op_concat rfl rfl rfl (room_str h5) rfl rfl) ?_
    refine ras ?_
    refine reg_nil ?_
    refine post_imp (s' := ⟨12, [(2, some (.pv (.str ([64] ++ y2))))], [], 0, [], [], 0, []⟩) (imps [] ⟨by kernel_rfl, trivial⟩ trivial) ?_
    refine post_next ?_
    refine aw_ret ?_
    refine post_then_ret ?_
    obtain rfl := Option.some.inj hF
    exact prt
  refine aw_cond_f rfl hb1 ?_
  refine aw_skip ?_
  refine post_next ?_
  refine aw_seq ?_
  refine aw_region ?_
  refine rgp (op_field_lp rfl rfl Tryd_fld_24_1 rfl rfl) ?_
  refine rgp (op_load_lp (v := .pv (.int .i64 a0.fN)) rfl rfl rfl rfl Tryd_one_3 rfl rfl) ?_
  obtain ⟨y6, h7, hF⟩ := bind_some hF
  refine rgp (op_call 1 rfl (caps := []) (args := [.int .i64 a0.fN]) (rs := [.p (.str y6)]) rfl rfl rfl Tryd_cal_31 (ref42_d_ok h7) rfl rfl rfl) ?_
  refine ras ?_
  refine reg_nil ?_
  refine post_imp (s' := ⟨12, [(2, some (.pv (.str y6)))], [], 0, [], [], 0, []⟩) (imps [] ⟨by kernel_rfl, trivial⟩ trivial) ?_
  refine post_next ?_
  refine aw_ret ?_
  obtain rfl := Option.some.inj hF
  exact prt
theorem ref42_Text_ok {a0 : GEvent} {r : (List UInt8)} (hF : ref42_Text a0 = some r) : Abs.Fn globs_Tryd Tryd.prog 15 [.agg (eGEvent a0)] [.p (.str r)] := by
  unfold ref42_Text at hF
  refine fn_of_body (n := 114) Tryd.func15 rfl rfl rfl ?_
  intro w O
  refine aw_seq ?_
  refine aw_region ?_
  refine rgp (op_box 0 rfl rfl rfl rfl rfl rfl) ?_
  refine ras ?_
  refine reg_nil ?_
  refine post_imp (s' := ⟨114, [(1, some (.lp 0 0))], [(0, some (.box 27 (bxv (eGEvent a0))))], 1, [], [], 0, []⟩) (imps [0] ⟨by kernel_rfl, trivial⟩ ⟨by kernel_rfl, trivial⟩) ?_
  refine post_next ?_
  iterate 2 (refine aw_seq ?_)
  refine aw_region ?_
  refine rgp (op_load_lp_agg (ps := eGEvent a0) rfl rfl rfl rfl rfl rfl Tryd_agg_27 rfl rfl) ?_
  obtain ⟨y3, h4, hF⟩ := bind_some hF
  refine rgp (op_call 1 rfl (caps := []) (args := [.agg (eGEvent a0)]) (rs := [.p (.bool y3)]) rfl rfl rfl Tryd_cal_13 (ref42_Right_ok h4) rfl rfl rfl) ?_
  refine rgp (op_not rfl rfl rfl rfl) ?_
  refine reg_nil ?_
  refine post_imp (s' := ⟨114, [(1, some (.lp 0 0)), (6, some (.pv (.bool (!y3))))], [(0, some (.box 27 (bxv (eGEvent a0))))], 1, [], [], 0, []⟩) (imps [0] ⟨by kernel_rfl, by kernel_rfl, trivial⟩ ⟨by kernel_rfl, trivial⟩) ?_
  refine post_next ?_
  rcases ite_some hF with ⟨hb5, hF⟩ | ⟨hb5, hF⟩
  · refine aw_cond_t rfl hb5 ?_
    refine aw_seq ?_
    refine aw_region ?_
    refine ras ?_
    refine reg_nil ?_
    refine post_imp (s' := ⟨114, [(2, some (.pv (.str [])))], [], 0, [], [], 0, []⟩) (imps [] ⟨by kernel_rfl, trivial⟩ trivial) ?_
    refine post_next ?_
    refine aw_ret ?_
    refine post_then_ret ?_
    obtain rfl := Option.some.inj hF
    exact prt
  refine aw_cond_f rfl hb5 ?_
  refine aw_skip ?_
  refine post_next ?_
  refine aw_seq ?_
  refine dr_start ⟨_, _, _⟩ rfl ?_
  refine dr_cons { need := [(1, .lp 0 0)], dst := some 7, val := some (.lp 0 2) } (fun m h => step_on (guard_no rfl) (op_field_lp rfl h.1.1 Tryd_fld_27_2 rfl rfl) rfl) ⟨⟨rfl, trivial⟩, trivial, trivial⟩ ?_
  refine dr_cons { need := [(7, .lp 0 2)], hneed := [(0, .box 27 (bxv (eGEvent a0)))], dst := some 8, val := some (.pv (.int .i64 a0.fObj)) } (fun m h => step_on (guard_no rfl) (op_load_lp (v := .pv (.int .i64 a0.fObj)) rfl h.1.1 h.2.1.1 rfl Tryd_one_3 rfl rfl) rfl) ⟨⟨rfl, trivial⟩, ⟨rfl, trivial⟩, trivial⟩ ?_
  obtain ⟨y114, h115, hF⟩ := bind_some hF
  refine dr_cons { need := [(8, .pv (.int .i64 a0.fObj))], dst := some 9, val := some (.pv (.str y114)) } (fun m h => step_on (guard_no rfl) (op_call 1 rfl (caps := []) (args := [.int .i64 a0.fObj]) (rs := [.p (.str y114)]) rfl rfl (evl_cons h.1.1 evl_nil) Tryd_cal_31 (ref42_d_ok h115) rfl rfl rfl) rfl) ⟨⟨rfl, trivial⟩, trivial, trivial⟩ ?_
  obtain ⟨u116, h117, hF⟩ := bind_some hF
  refine dr_cons { need := [(9, .pv (.str y114))], dst := some 10, val := some (.pv (.str ([110, 101, 119, 32] ++ y114))) } (fun m h => step_on (guard_no rfl) (op_concat rfl rfl h.1.1 (room_str h117) rfl rfl) rfl) ⟨⟨rfl, trivial⟩, trivial, trivial⟩ ?_
  obtain ⟨u118, h119, hF⟩ := bind_some hF
  refine dr_cons { need := [(10, .pv (.str ([110, 101, 119, 32] ++ y114)))], dst := some 11, val := some (.pv (.str (([110, 101, 119, 32] ++ y114) ++ [32]))) } (fun m h => step_on (guard_no rfl) (op_concat rfl h.1.1 rfl (room_str h119) rfl rfl) rfl) ⟨⟨rfl, trivial⟩, trivial, trivial⟩ ?_
  refine dr_cons { need := [(1, .lp 0 0)], dst := some 12, val := some (.lp 0 3) } (fun m h => step_on (guard_no rfl) (op_field_lp rfl h.1.1 Tryd_fld_27_3 rfl rfl) rfl) ⟨⟨rfl, trivial⟩, trivial, trivial⟩ ?_
  refine dr_cons { need := [(12, .lp 0 3)], hneed := [(0, .box 27 (bxv (eGEvent a0)))], dst := some 13, val := some (.pv (.str a0.fName)) } (fun m h => step_on (guard_no rfl) (op_load_lp (v := .pv (.str a0.fName)) rfl h.1.1 h.2.1.1 rfl Tryd_one_9 rfl rfl) rfl) ⟨⟨rfl, trivial⟩, ⟨rfl, trivial⟩, trivial⟩ ?_
  obtain ⟨u120, h121, hF⟩ := bind_some hF
  refine dr_cons { need := [(11, .pv (.str (([110, 101, 119, 32] ++ y114) ++ [32]))), (13, .pv (.str a0.fName))], dst := some 14, val := some (.pv (.str ((([110, 101, 119, 32] ++ y114) ++ [32]) ++ a0.fName))) } (fun m h => step_on (guard_no rfl) (op_concat rfl h.1.1 h.1.2.1 (room_str h121) rfl rfl) rfl) ⟨⟨rfl, rfl, trivial⟩, trivial, trivial⟩ ?_
  obtain ⟨u122, h123, hF⟩ := bind_some hF
  refine dr_cons { need := [(14, .pv (.str ((([110, 101, 119, 32] ++ y114) ++ [32]) ++ a0.fName)))], dst := some 15, val := some (.pv (.str (((([110, 101, 119, 32] ++ y114) ++ [32]) ++ a0.fName) ++ [32, 98, 121, 32]))) } (fun m h => step_on (guard_no rfl) (op_concat rfl h.1.1 rfl (room_str h123) rfl rfl) rfl) ⟨⟨rfl, trivial⟩, trivial, trivial⟩ ?_
  refine dr_cons { need := [(1, .lp 0 0)], dst := some 16, val := some (.lp 0 1) } (fun m h => step_on (guard_no rfl) (op_field_lp rfl h.1.1 Tryd_fld_27_1 rfl rfl) rfl) ⟨⟨rfl, trivial⟩, trivial, trivial⟩ ?_
  refine dr_cons { need := [(16, .lp 0 1)], hneed := [(0, .box 27 (bxv (eGEvent a0)))], dst := some 17, val := some (.pv (.int .i64 a0.fWho)) } (fun m h => step_on (guard_no rfl) (op_load_lp (v := .pv (.int .i64 a0.fWho)) rfl h.1.1 h.2.1.1 rfl Tryd_one_3 rfl rfl) rfl) ⟨⟨rfl, trivial⟩, ⟨rfl, trivial⟩, trivial⟩ ?_
  obtain ⟨y124, h125, hF⟩ := bind_some hF
  refine dr_cons { need := [(17, .pv (.int .i64 a0.fWho))], dst := some 18, val := some (.pv (.str y124)) } (fun m h => step_on (guard_no rfl) (op_call 1 rfl (caps := []) (args := [.int .i64 a0.fWho]) (rs := [.p (.str y124)]) rfl rfl (evl_cons h.1.1 evl_nil) Tryd_cal_31 (ref42_d_ok h125) rfl rfl rfl) rfl) ⟨⟨rfl, trivial⟩, trivial, trivial⟩ ?_
  obtain ⟨u126, h127, hF⟩ := bind_some hF
  refine dr_cons { need := [(15, .pv (.str (((([110, 101, 119, 32] ++ y114) ++ [32]) ++ a0.fName) ++ [32, 98, 121, 32]))), (18, .pv (.str y124))], dst := some 19, val := some (.pv (.str ((((([110, 101, 119, 32] ++ y114) ++ [32]) ++ a0.fName) ++ [32, 98, 121, 32]) ++ y124))) } (fun m h => step_on (guard_no rfl) (op_concat rfl h.1.1 h.1.2.1 (room_str h127) rfl rfl) rfl) ⟨⟨rfl, rfl, trivial⟩, trivial, trivial⟩ ?_
  obtain ⟨u128, h129, hF⟩ := bind_some hF
  refine dr_cons { need := [(19, .pv (.str ((((([110, 101, 119, 32] ++ y114) ++ [32]) ++ a0.fName) ++ [32, 98, 121, 32]) ++ y124)))], dst := some 20, val := some (.pv (.str (((((([110, 101, 119, 32] ++ y114) ++ [32]) ++ a0.fName) ++ [32, 98, 121, 32]) ++ y124) ++ [32, 105, 110, 32]))) } (fun m h => step_on (guard_no rfl) (op_concat rfl h.1.1 rfl (room_str h129) rfl rfl) rfl) ⟨⟨rfl, trivial⟩, trivial, trivial⟩ ?_
  refine dr_cons { need := [(1, .lp 0 0)], dst := some 21, val := some (.lp 0 6) } (fun m h => step_on (guard_no rfl) (op_field_lp rfl h.1.1 Tryd_fld_27_5 rfl rfl) rfl) ⟨⟨rfl, trivial⟩, trivial, trivial⟩ ?_
  refine dr_cons { need := [(21, .lp 0 6)], dst := some 22, val := some (.lp 0 6) } (fun m h => step_on (guard_no rfl) (op_arr_lp (k := .i64) (m := 0) (n := 4) rfl h.1.1 rfl Tryd_arr_25 rfl rfl rfl rfl) rfl) ⟨⟨rfl, trivial⟩, trivial, trivial⟩ ?_
  refine dr_cons { need := [(22, .lp 0 6)], hneed := [(0, .box 27 (bxv (eGEvent a0)))], dst := some 23, val := some (.pv (.int .i64 a0.fOwn.a0)) } (fun m h => step_on (guard_no rfl) (op_load_lp (v := .pv (.int .i64 a0.fOwn.a0)) rfl h.1.1 h.2.1.1 rfl Tryd_one_3 rfl rfl) rfl) ⟨⟨rfl, trivial⟩, ⟨rfl, trivial⟩, trivial⟩ ?_
  obtain ⟨y130, h131, hF⟩ := bind_some hF
  refine dr_cons { need := [(23, .pv (.int .i64 a0.fOwn.a0))], dst := some 24, val := some (.pv (.str y130)) } (fun m h => step_on (guard_no rfl) (op_call 1 rfl (caps := []) (args := [.int .i64 a0.fOwn.a0]) (rs := [.p (.str y130)]) rfl rfl (evl_cons h.1.1 evl_nil) Tryd_cal_31 (ref42_d_ok h131) rfl rfl rfl) rfl) ⟨⟨rfl, trivial⟩, trivial, trivial⟩ ?_
  obtain ⟨u132, h133, hF⟩ := bind_some hF
  refine dr_cons { need := [(20, .pv (.str (((((([110, 101, 119, 32] ++ y114) ++ [32]) ++ a0.fName) ++ [32, 98, 121, 32]) ++ y124) ++ [32, 105, 110, 32]))), (24, .pv (.str y130))], dst := some 25, val := some (.pv (.str ((((((([110, 101, 119, 32] ++ y114) ++ [32]) ++ a0.fName) ++ [32, 98, 121, 32]) ++ y124) ++ [32, 105, 110, 32]) ++ y130))) } (fun m h => step_on (guard_no rfl) (op_concat rfl h.1.1 h.1.2.1 (room_str h133) rfl rfl) rfl) ⟨⟨rfl, rfl, trivial⟩, trivial, trivial⟩ ?_
  obtain ⟨u134, h135, hF⟩ := bind_some hF
  refine dr_cons { need := [(25, .pv (.str ((((((([110, 101, 119, 32] ++ y114) ++ [32]) ++ a0.fName) ++ [32, 98, 121, 32]) ++ y124) ++ [32, 105, 110, 32]) ++ y130)))], dst := some 26, val := some (.pv (.str (((((((([110, 101, 119, 32] ++ y114) ++ [32]) ++ a0.fName) ++ [32, 98, 121, 32]) ++ y124) ++ [32, 105, 110, 32]) ++ y130) ++ [32]))) } (fun m h => step_on (guard_no rfl) (op_concat rfl h.1.1 rfl (room_str h135) rfl rfl) rfl) ⟨⟨rfl, trivial⟩, trivial, trivial⟩ ?_
  refine dr_cons { need := [(1, .lp 0 0)], dst := some 27, val := some (.lp 0 6) } (fun m h => step_on (guard_no rfl) (op_field_lp rfl h.1.1 Tryd_fld_27_5 rfl rfl) rfl) ⟨⟨rfl, trivial⟩, trivial, trivial⟩ ?_
  refine dr_cons { need := [(27, .lp 0 6)], dst := some 28, val := some (.lp 0 7) } (fun m h => step_on (guard_no rfl) (op_arr_lp (k := .i64) (m := 1) (n := 4) rfl h.1.1 rfl Tryd_arr_25 rfl rfl rfl rfl) rfl) ⟨⟨rfl, trivial⟩, trivial, trivial⟩ ?_
  refine dr_cons { need := [(28, .lp 0 7)], hneed := [(0, .box 27 (bxv (eGEvent a0)))], dst := some 29, val := some (.pv (.int .i64 a0.fOwn.a1)) } (fun m h => step_on (guard_no rfl) (op_load_lp (v := .pv (.int .i64 a0.fOwn.a1)) rfl h.1.1 h.2.1.1 rfl Tryd_one_3 rfl rfl) rfl) ⟨⟨rfl, trivial⟩, ⟨rfl, trivial⟩, trivial⟩ ?_
  obtain ⟨y136, h137, hF⟩ := bind_some hF
  refine dr_cons { need := [(29, .pv (.int .i64 a0.fOwn.a1))], dst := some 30, val := some (.pv (.str y136)) } (fun m h => step_on (guard_no rfl) (op_call 1 rfl (caps := []) (args := [.int .i64 a0.fOwn.a1]) (rs := [.p (.str y136)]) rfl rfl (evl_cons h.1.1 evl_nil) Tryd_cal_31 (ref42_d_ok h137) rfl rfl rfl) rfl) ⟨⟨rfl, trivial⟩, trivial, trivial⟩ ?_
  obtain ⟨u138, h139, hF⟩ := bind_some hF
  refine dr_cons { need := [(26, .pv (.str (((((((([110, 101, 119, 32] ++ y114) ++ [32]) ++ a0.fName) ++ [32, 98, 121, 32]) ++ y124) ++ [32, 105, 110, 32]) ++ y130) ++ [32]))), (30, .pv (.str y136))], dst := some 31, val := some (.pv (.str ((((((((([110, 101, 119, 32] ++ y114) ++ [32]) ++ a0.fName) ++ [32, 98, 121, 32]) ++ y124) ++ [32, 105, 110, 32]) ++ y130) ++ [32]) ++ y136))) } (fun m h => step_on (guard_no rfl) (op_concat rfl h.1.1 h.1.2.1 (room_str h139) rfl rfl) rfl) ⟨⟨rfl, rfl, trivial⟩, trivial, trivial⟩ ?_
  obtain ⟨u140, h141, hF⟩ := bind_some hF
  refine dr_cons { need := [(31, .pv (.str ((((((((([110, 101, 119, 32] ++ y114) ++ [32]) ++ a0.fName) ++ [32, 98, 121, 32]) ++ y124) ++ [32, 105, 110, 32]) ++ y130) ++ [32]) ++ y136)))], dst := some 32, val := some (.pv (.str (((((((((([110, 101, 119, 32] ++ y114) ++ [32]) ++ a0.fName) ++ [32, 98, 121, 32]) ++ y124) ++ [32, 105, 110, 32]) ++ y130) ++ [32]) ++ y136) ++ [32]))) } (fun m h => step_on (guard_no rfl) (op_concat rfl h.1.1 rfl (room_str h141) rfl rfl) rfl) ⟨⟨rfl, trivial⟩, trivial, trivial⟩ ?_
  refine dr_cons { need := [(1, .lp 0 0)], dst := some 33, val := some (.lp 0 6) } (fun m h => step_on (guard_no rfl) (op_field_lp rfl h.1.1 Tryd_fld_27_5 rfl rfl) rfl) ⟨⟨rfl, trivial⟩, trivial, trivial⟩ ?_
  refine dr_cons { need := [(33, .lp 0 6)], dst := some 34, val := some (.lp 0 8) } (fun m h => step_on (guard_no rfl) (op_arr_lp (k := .i64) (m := 2) (n := 4) rfl h.1.1 rfl Tryd_arr_25 rfl rfl rfl rfl) rfl) ⟨⟨rfl, trivial⟩, trivial, trivial⟩ ?_
  refine dr_cons { need := [(34, .lp 0 8)], hneed := [(0, .box 27 (bxv (eGEvent a0)))], dst := some 35, val := some (.pv (.int .i64 a0.fOwn.a2)) } (fun m h => step_on (guard_no rfl) (op_load_lp (v := .pv (.int .i64 a0.fOwn.a2)) rfl h.1.1 h.2.1.1 rfl Tryd_one_3 rfl rfl) rfl) ⟨⟨rfl, trivial⟩, ⟨rfl, trivial⟩, trivial⟩ ?_
  obtain ⟨y142, h143, hF⟩ := bind_some hF
  refine dr_cons { need := [(35, .pv (.int .i64 a0.fOwn.a2))], dst := some 36, val := some (.pv (.str y142)) } (fun m h => step_on (guard_no rfl) (op_call 1 rfl (caps := []) (args := [.int .i64 a0.fOwn.a2]) (rs := [.p (.str y142)]) rfl rfl (evl_cons h.1.1 evl_nil) Tryd_cal_31 (ref42_d_ok h143) rfl rfl rfl) rfl) ⟨⟨rfl, trivial⟩, trivial, trivial⟩ ?_
  obtain ⟨u144, h145, hF⟩ := bind_some hF
  refine dr_cons { need := [(32, .pv (.str (((((((((([110, 101, 119, 32] ++ y114) ++ [32]) ++ a0.fName) ++ [32, 98, 121, 32]) ++ y124) ++ [32, 105, 110, 32]) ++ y130) ++ [32]) ++ y136) ++ [32]))), (36, .pv (.str y142))], dst := some 37, val := some (.pv (.str ((((((((((([110, 101, 119, 32] ++ y114) ++ [32]) ++ a0.fName) ++ [32, 98, 121, 32]) ++ y124) ++ [32, 105, 110, 32]) ++ y130) ++ [32]) ++ y136) ++ [32]) ++ y142))) } (fun m h => step_on (guard_no rfl) (op_concat rfl h.1.1 h.1.2.1 (room_str h145) rfl rfl) rfl) ⟨⟨rfl, rfl, trivial⟩, trivial, trivial⟩ ?_
  obtain ⟨u146, h147, hF⟩ := bind_some hF
  refine dr_cons { need := [(37, .pv (.str ((((((((((([110, 101, 119, 32] ++ y114) ++ [32]) ++ a0.fName) ++ [32, 98, 121, 32]) ++ y124) ++ [32, 105, 110, 32]) ++ y130) ++ [32]) ++ y136) ++ [32]) ++ y142)))], dst := some 38, val := some (.pv (.str (((((((((((([110, 101, 119, 32] ++ y114) ++ [32]) ++ a0.fName) ++ [32, 98, 121, 32]) ++ y124) ++ [32, 105, 110, 32]) ++ y130) ++ [32]) ++ y136) ++ [32]) ++ y142) ++ [32]))) } (fun m h => step_on (guard_no rfl) (op_concat rfl h.1.1 rfl (room_str h147) rfl rfl) rfl) ⟨⟨rfl, trivial⟩, trivial, trivial⟩ ?_
  refine dr_cons { need := [(1, .lp 0 0)], dst := some 39, val := some (.lp 0 6) } (fun m h => step_on (guard_no rfl) (op_field_lp rfl h.1.1 Tryd_fld_27_5 rfl rfl) rfl) ⟨⟨rfl, trivial⟩, trivial, trivial⟩ ?_
  refine dr_cons { need := [(39, .lp 0 6)], dst := some 40, val := some (.lp 0 9) } (fun m h => step_on (guard_no rfl) (op_arr_lp (k := .i64) (m := 3) (n := 4) rfl h.1.1 rfl Tryd_arr_25 rfl rfl rfl rfl) rfl) ⟨⟨rfl, trivial⟩, trivial, trivial⟩ ?_
  refine dr_cons { need := [(40, .lp 0 9)], hneed := [(0, .box 27 (bxv (eGEvent a0)))], dst := some 41, val := some (.pv (.int .i64 a0.fOwn.a3)) } (fun m h => step_on (guard_no rfl) (op_load_lp (v := .pv (.int .i64 a0.fOwn.a3)) rfl h.1.1 h.2.1.1 rfl Tryd_one_3 rfl rfl) rfl) ⟨⟨rfl, trivial⟩, ⟨rfl, trivial⟩, trivial⟩ ?_
  obtain ⟨y148, h149, hF⟩ := bind_some hF
  refine dr_cons { need := [(41, .pv (.int .i64 a0.fOwn.a3))], dst := some 42, val := some (.pv (.str y148)) } (fun m h => step_on (guard_no rfl) (op_call 1 rfl (caps := []) (args := [.int .i64 a0.fOwn.a3]) (rs := [.p (.str y148)]) rfl rfl (evl_cons h.1.1 evl_nil) Tryd_cal_31 (ref42_d_ok h149) rfl rfl rfl) rfl) ⟨⟨rfl, trivial⟩, trivial, trivial⟩ ?_
  obtain ⟨u150, h151, hF⟩ := bind_some hF
  refine dr_cons { need := [(38, .pv (.str (((((((((((([110, 101, 119, 32] ++ y114) ++ [32]) ++ a0.fName) ++ [32, 98, 121, 32]) ++ y124) ++ [32, 105, 110, 32]) ++ y130) ++ [32]) ++ y136) ++ [32]) ++ y142) ++ [32]))), (42, .pv (.str y148))], dst := some 43, val := some (.pv (.str ((((((((((((([110, 101, 119, 32] ++ y114) ++ [32]) ++ a0.fName) ++ [32, 98, 121, 32]) ++ y124) ++ [32, 105, 110, 32]) ++ y130) ++ [32]) ++ y136) ++ [32]) ++ y142) ++ [32]) ++ y148))) } (fun m h => step_on (guard_no rfl) (op_concat rfl h.1.1 h.1.2.1 (room_str h151) rfl rfl) rfl) ⟨⟨rfl, rfl, trivial⟩, trivial, trivial⟩ ?_
  refine dr_cons { need := [(1, .lp 0 0)], dst := some 44, val := some (.lp 0 2) } (fun m h => step_on (guard_no rfl) (op_field_lp rfl h.1.1 Tryd_fld_27_2 rfl rfl) rfl) ⟨⟨rfl, trivial⟩, trivial, trivial⟩ ?_
  refine dr_cons { need := [(44, .lp 0 2)], hneed := [(0, .box 27 (bxv (eGEvent a0)))], dst := some 45, val := some (.pv (.int .i64 a0.fObj)) } (fun m h => step_on (guard_no rfl) (op_load_lp (v := .pv (.int .i64 a0.fObj)) rfl h.1.1 h.2.1.1 rfl Tryd_one_3 rfl rfl) rfl) ⟨⟨rfl, trivial⟩, ⟨rfl, trivial⟩, trivial⟩ ?_
  obtain ⟨y152, h153, hF⟩ := bind_some hF
  refine dr_cons { need := [(45, .pv (.int .i64 a0.fObj))], dst := some 46, val := some (.pv (.str y152)) } (fun m h => step_on (guard_no rfl) (op_call 1 rfl (caps := []) (args := [.int .i64 a0.fObj]) (rs := [.p (.str y152)]) rfl rfl (evl_cons h.1.1 evl_nil) Tryd_cal_31 (ref42_d_ok h153) rfl rfl rfl) rfl) ⟨⟨rfl, trivial⟩, trivial, trivial⟩ ?_
  obtain ⟨u154, h155, hF⟩ := bind_some hF
  refine dr_cons { need := [(46, .pv (.str y152))], dst := some 47, val := some (.pv (.str ([112, 117, 116, 32] ++ y152))) } (fun m h => step_on (guard_no rfl) (op_concat rfl rfl h.1.1 (room_str h155) rfl rfl) rfl) ⟨⟨rfl, trivial⟩, trivial, trivial⟩ ?_
  obtain ⟨u156, h157, hF⟩ := bind_some hF
  refine dr_cons { need := [(47, .pv (.str ([112, 117, 116, 32] ++ y152)))], dst := some 48, val := some (.pv (.str (([112, 117, 116, 32] ++ y152) ++ [32]))) } (fun m h => step_on (guard_no rfl) (op_concat rfl h.1.1 rfl (room_str h157) rfl rfl) rfl) ⟨⟨rfl, trivial⟩, trivial, trivial⟩ ?_
  refine dr_cons { need := [(1, .lp 0 0)], dst := some 49, val := some (.lp 0 3) } (fun m h => step_on (guard_no rfl) (op_field_lp rfl h.1.1 Tryd_fld_27_3 rfl rfl) rfl) ⟨⟨rfl, trivial⟩, trivial, trivial⟩ ?_
  refine dr_cons { need := [(49, .lp 0 3)], hneed := [(0, .box 27 (bxv (eGEvent a0)))], dst := some 50, val := some (.pv (.str a0.fName)) } (fun m h => step_on (guard_no rfl) (op_load_lp (v := .pv (.str a0.fName)) rfl h.1.1 h.2.1.1 rfl Tryd_one_9 rfl rfl) rfl) ⟨⟨rfl, trivial⟩, ⟨rfl, trivial⟩, trivial⟩ ?_
  obtain ⟨u158, h159, hF⟩ := bind_some hF
  refine dr_cons { need := [(48, .pv (.str (([112, 117, 116, 32] ++ y152) ++ [32]))), (50, .pv (.str a0.fName))], dst := some 51, val := some (.pv (.str ((([112, 117, 116, 32] ++ y152) ++ [32]) ++ a0.fName))) } (fun m h => step_on (guard_no rfl) (op_concat rfl h.1.1 h.1.2.1 (room_str h159) rfl rfl) rfl) ⟨⟨rfl, rfl, trivial⟩, trivial, trivial⟩ ?_
  obtain ⟨u160, h161, hF⟩ := bind_some hF
  refine dr_cons { need := [(51, .pv (.str ((([112, 117, 116, 32] ++ y152) ++ [32]) ++ a0.fName)))], dst := some 52, val := some (.pv (.str (((([112, 117, 116, 32] ++ y152) ++ [32]) ++ a0.fName) ++ [32, 98, 121, 32]))) } (fun m h => step_on (guard_no rfl) (op_concat rfl h.1.1 rfl (room_str h161) rfl rfl) rfl) ⟨⟨rfl, trivial⟩, trivial, trivial⟩ ?_
  refine dr_cons { need := [(1, .lp 0 0)], dst := some 53, val := some (.lp 0 1) } (fun m h => step_on (guard_no rfl) (op_field_lp rfl h.1.1 Tryd_fld_27_1 rfl rfl) rfl) ⟨⟨rfl, trivial⟩, trivial, trivial⟩ ?_
  refine dr_cons { need := [(53, .lp 0 1)], hneed := [(0, .box 27 (bxv (eGEvent a0)))], dst := some 54, val := some (.pv (.int .i64 a0.fWho)) } (fun m h => step_on (guard_no rfl) (op_load_lp (v := .pv (.int .i64 a0.fWho)) rfl h.1.1 h.2.1.1 rfl Tryd_one_3 rfl rfl) rfl) ⟨⟨rfl, trivial⟩, ⟨rfl, trivial⟩, trivial⟩ ?_
  obtain ⟨y162, h163, hF⟩ := bind_some hF
  refine dr_cons { need := [(54, .pv (.int .i64 a0.fWho))], dst := some 55, val := some (.pv (.str y162)) } (fun m h => step_on (guard_no rfl) (op_call 1 rfl (caps := []) (args := [.int .i64 a0.fWho]) (rs := [.p (.str y162)]) rfl rfl (evl_cons h.1.1 evl_nil) Tryd_cal_31 (ref42_d_ok h163) rfl rfl rfl) rfl) ⟨⟨rfl, trivial⟩, trivial, trivial⟩ ?_
  obtain ⟨u164, h165, hF⟩ := bind_some hF
  refine dr_cons { need := [(52, .pv (.str (((([112, 117, 116, 32] ++ y152) ++ [32]) ++ a0.fName) ++ [32, 98, 121, 32]))), (55, .pv (.str y162))], dst := some 56, val := some (.pv (.str ((((([112, 117, 116, 32] ++ y152) ++ [32]) ++ a0.fName) ++ [32, 98, 121, 32]) ++ y162))) } (fun m h => step_on (guard_no rfl) (op_concat rfl h.1.1 h.1.2.1 (room_str h165) rfl rfl) rfl) ⟨⟨rfl, rfl, trivial⟩, trivial, trivial⟩ ?_
  obtain ⟨u166, h167, hF⟩ := bind_some hF
  refine dr_cons { need := [(56, .pv (.str ((((([112, 117, 116, 32] ++ y152) ++ [32]) ++ a0.fName) ++ [32, 98, 121, 32]) ++ y162)))], dst := some 57, val := some (.pv (.str (((((([112, 117, 116, 32] ++ y152) ++ [32]) ++ a0.fName) ++ [32, 98, 121, 32]) ++ y162) ++ [32]))) } (fun m h => step_on (guard_no rfl) (op_concat rfl h.1.1 rfl (room_str h167) rfl rfl) rfl) ⟨⟨rfl, trivial⟩, trivial, trivial⟩ ?_
  refine dr_cons { need := [(1, .lp 0 0)], dst := some 58, val := some (.lp 0 4) } (fun m h => step_on (guard_no rfl) (op_field_lp rfl h.1.1 Tryd_fld_27_4 rfl rfl) rfl) ⟨⟨rfl, trivial⟩, trivial, trivial⟩ ?_
  refine dr_cons { need := [(58, .lp 0 4)], hneed := [(0, .box 27 (bxv (eGEvent a0)))], dst := some 59, val := some (.pv (.agg (eGVal a0.fV))) } (fun m h => step_on (guard_no rfl) (op_load_lp_agg (ps := eGVal a0.fV) rfl h.1.1 h.2.1.1 rfl rfl rfl Tryd_agg_24 rfl rfl) rfl) ⟨⟨rfl, trivial⟩, ⟨rfl, trivial⟩, trivial⟩ ?_
  obtain ⟨y168, h169, hF⟩ := bind_some hF
  refine dr_cons { need := [(59, .pv (.agg (eGVal a0.fV)))], dst := some 60, val := some (.pv (.str y168)) } (fun m h => step_on (guard_no rfl) (op_call 1 rfl (caps := []) (args := [.agg (eGVal a0.fV)]) (rs := [.p (.str y168)]) rfl rfl (evl_cons h.1.1 evl_nil) Tryd_cal_32 (ref42_value_ok h169) rfl rfl rfl) rfl) ⟨⟨rfl, trivial⟩, trivial, trivial⟩ ?_
  obtain ⟨u170, h171, hF⟩ := bind_some hF
  refine dr_cons { need := [(57, .pv (.str (((((([112, 117, 116, 32] ++ y152) ++ [32]) ++ a0.fName) ++ [32, 98, 121, 32]) ++ y162) ++ [32]))), (60, .pv (.str y168))], dst := some 61, val := some (.pv (.str ((((((([112, 117, 116, 32] ++ y152) ++ [32]) ++ a0.fName) ++ [32, 98, 121, 32]) ++ y162) ++ [32]) ++ y168))) } (fun m h => step_on (guard_no rfl) (op_concat rfl h.1.1 h.1.2.1 (room_str h171) rfl rfl) rfl) ⟨⟨rfl, rfl, trivial⟩, trivial, trivial⟩ ?_
  refine dr_cons { need := [(1, .lp 0 0)], dst := some 62, val := some (.lp 0 2) } (fun m h => step_on (guard_no rfl) (op_field_lp rfl h.1.1 Tryd_fld_27_2 rfl rfl) rfl) ⟨⟨rfl, trivial⟩, trivial, trivial⟩ ?_
  refine dr_cons { need := [(62, .lp 0 2)], hneed := [(0, .box 27 (bxv (eGEvent a0)))], dst := some 63, val := some (.pv (.int .i64 a0.fObj)) } (fun m h => step_on (guard_no rfl) (op_load_lp (v := .pv (.int .i64 a0.fObj)) rfl h.1.1 h.2.1.1 rfl Tryd_one_3 rfl rfl) rfl) ⟨⟨rfl, trivial⟩, ⟨rfl, trivial⟩, trivial⟩ ?_
  obtain ⟨y172, h173, hF⟩ := bind_some hF
  refine dr_cons { need := [(63, .pv (.int .i64 a0.fObj))], dst := some 64, val := some (.pv (.str y172)) } (fun m h => step_on (guard_no rfl) (op_call 1 rfl (caps := []) (args := [.int .i64 a0.fObj]) (rs := [.p (.str y172)]) rfl rfl (evl_cons h.1.1 evl_nil) Tryd_cal_31 (ref42_d_ok h173) rfl rfl rfl) rfl) ⟨⟨rfl, trivial⟩, trivial, trivial⟩ ?_
  obtain ⟨u174, h175, hF⟩ := bind_some hF
  refine dr_cons { need := [(64, .pv (.str y172))], dst := some 65, val := some (.pv (.str ([99, 97, 108, 108, 32] ++ y172))) } (fun m h => step_on (guard_no rfl) (op_concat rfl rfl h.1.1 (room_str h175) rfl rfl) rfl) ⟨⟨rfl, trivial⟩, trivial, trivial⟩ ?_
  obtain ⟨u176, h177, hF⟩ := bind_some hF
  refine dr_cons { need := [(65, .pv (.str ([99, 97, 108, 108, 32] ++ y172)))], dst := some 66, val := some (.pv (.str (([99, 97, 108, 108, 32] ++ y172) ++ [32]))) } (fun m h => step_on (guard_no rfl) (op_concat rfl h.1.1 rfl (room_str h177) rfl rfl) rfl) ⟨⟨rfl, trivial⟩, trivial, trivial⟩ ?_
  refine dr_cons { need := [(1, .lp 0 0)], dst := some 67, val := some (.lp 0 3) } (fun m h => step_on (guard_no rfl) (op_field_lp rfl h.1.1 Tryd_fld_27_3 rfl rfl) rfl) ⟨⟨rfl, trivial⟩, trivial, trivial⟩ ?_
  refine dr_cons { need := [(67, .lp 0 3)], hneed := [(0, .box 27 (bxv (eGEvent a0)))], dst := some 68, val := some (.pv (.str a0.fName)) } (fun m h => step_on (guard_no rfl) (op_load_lp (v := .pv (.str a0.fName)) rfl h.1.1 h.2.1.1 rfl Tryd_one_9 rfl rfl) rfl) ⟨⟨rfl, trivial⟩, ⟨rfl, trivial⟩, trivial⟩ ?_
  obtain ⟨u178, h179, hF⟩ := bind_some hF
  refine dr_cons { need := [(66, .pv (.str (([99, 97, 108, 108, 32] ++ y172) ++ [32]))), (68, .pv (.str a0.fName))], dst := some 69, val := some (.pv (.str ((([99, 97, 108, 108, 32] ++ y172) ++ [32]) ++ a0.fName))) } (fun m h => step_on (guard_no rfl) (op_concat rfl h.1.1 h.1.2.1 (room_str h179) rfl rfl) rfl) ⟨⟨rfl, rfl, trivial⟩, trivial, trivial⟩ ?_
  obtain ⟨u180, h181, hF⟩ := bind_some hF
  refine dr_cons { need := [(69, .pv (.str ((([99, 97, 108, 108, 32] ++ y172) ++ [32]) ++ a0.fName)))], dst := some 70, val := some (.pv (.str (((([99, 97, 108, 108, 32] ++ y172) ++ [32]) ++ a0.fName) ++ [32, 98, 121, 32]))) } (fun m h => step_on (guard_no rfl) (op_concat rfl h.1.1 rfl (room_str h181) rfl rfl) rfl) ⟨⟨rfl, trivial⟩, trivial, trivial⟩ ?_
  refine dr_cons { need := [(1, .lp 0 0)], dst := some 71, val := some (.lp 0 1) } (fun m h => step_on (guard_no rfl) (op_field_lp rfl h.1.1 Tryd_fld_27_1 rfl rfl) rfl) ⟨⟨rfl, trivial⟩, trivial, trivial⟩ ?_
  refine dr_cons { need := [(71, .lp 0 1)], hneed := [(0, .box 27 (bxv (eGEvent a0)))], dst := some 72, val := some (.pv (.int .i64 a0.fWho)) } (fun m h => step_on (guard_no rfl) (op_load_lp (v := .pv (.int .i64 a0.fWho)) rfl h.1.1 h.2.1.1 rfl Tryd_one_3 rfl rfl) rfl) ⟨⟨rfl, trivial⟩, ⟨rfl, trivial⟩, trivial⟩ ?_
  obtain ⟨y182, h183, hF⟩ := bind_some hF
  refine dr_cons { need := [(72, .pv (.int .i64 a0.fWho))], dst := some 73, val := some (.pv (.str y182)) } (fun m h => step_on (guard_no rfl) (op_call 1 rfl (caps := []) (args := [.int .i64 a0.fWho]) (rs := [.p (.str y182)]) rfl rfl (evl_cons h.1.1 evl_nil) Tryd_cal_31 (ref42_d_ok h183) rfl rfl rfl) rfl) ⟨⟨rfl, trivial⟩, trivial, trivial⟩ ?_
  obtain ⟨u184, h185, hF⟩ := bind_some hF
  refine dr_cons { need := [(70, .pv (.str (((([99, 97, 108, 108, 32] ++ y172) ++ [32]) ++ a0.fName) ++ [32, 98, 121, 32]))), (73, .pv (.str y182))], dst := some 74, val := some (.pv (.str ((((([99, 97, 108, 108, 32] ++ y172) ++ [32]) ++ a0.fName) ++ [32, 98, 121, 32]) ++ y182))) } (fun m h => step_on (guard_no rfl) (op_concat rfl h.1.1 h.1.2.1 (room_str h185) rfl rfl) rfl) ⟨⟨rfl, rfl, trivial⟩, trivial, trivial⟩ ?_
  refine dr_cons { need := [(1, .lp 0 0)], dst := some 75, val := some (.lp 0 1) } (fun m h => step_on (guard_no rfl) (op_field_lp rfl h.1.1 Tryd_fld_27_1 rfl rfl) rfl) ⟨⟨rfl, trivial⟩, trivial, trivial⟩ ?_
  refine dr_cons { need := [(75, .lp 0 1)], hneed := [(0, .box 27 (bxv (eGEvent a0)))], dst := some 76, val := some (.pv (.int .i64 a0.fWho)) } (fun m h => step_on (guard_no rfl) (op_load_lp (v := .pv (.int .i64 a0.fWho)) rfl h.1.1 h.2.1.1 rfl Tryd_one_3 rfl rfl) rfl) ⟨⟨rfl, trivial⟩, ⟨rfl, trivial⟩, trivial⟩ ?_
  obtain ⟨y186, h187, hF⟩ := bind_some hF
  refine dr_cons { need := [(76, .pv (.int .i64 a0.fWho))], dst := some 77, val := some (.pv (.str y186)) } (fun m h => step_on (guard_no rfl) (op_call 1 rfl (caps := []) (args := [.int .i64 a0.fWho]) (rs := [.p (.str y186)]) rfl rfl (evl_cons h.1.1 evl_nil) Tryd_cal_31 (ref42_d_ok h187) rfl rfl rfl) rfl) ⟨⟨rfl, trivial⟩, trivial, trivial⟩ ?_
  obtain ⟨u188, h189, hF⟩ := bind_some hF
  refine dr_cons { need := [(77, .pv (.str y186))], dst := some 78, val := some (.pv (.str ([98, 97, 99, 107, 32] ++ y186))) } (fun m h => step_on (guard_no rfl) (op_concat rfl rfl h.1.1 (room_str h189) rfl rfl) rfl) ⟨⟨rfl, trivial⟩, trivial, trivial⟩ ?_
  obtain ⟨u190, h191, hF⟩ := bind_some hF
  refine dr_cons { need := [(78, .pv (.str ([98, 97, 99, 107, 32] ++ y186)))], dst := some 79, val := some (.pv (.str (([98, 97, 99, 107, 32] ++ y186) ++ [32]))) } (fun m h => step_on (guard_no rfl) (op_concat rfl h.1.1 rfl (room_str h191) rfl rfl) rfl) ⟨⟨rfl, trivial⟩, trivial, trivial⟩ ?_
  refine dr_cons { need := [(1, .lp 0 0)], dst := some 80, val := some (.lp 0 4) } (fun m h => step_on (guard_no rfl) (op_field_lp rfl h.1.1 Tryd_fld_27_4 rfl rfl) rfl) ⟨⟨rfl, trivial⟩, trivial, trivial⟩ ?_
  refine dr_cons { need := [(80, .lp 0 4)], hneed := [(0, .box 27 (bxv (eGEvent a0)))], dst := some 81, val := some (.pv (.agg (eGVal a0.fV))) } (fun m h => step_on (guard_no rfl) (op_load_lp_agg (ps := eGVal a0.fV) rfl h.1.1 h.2.1.1 rfl rfl rfl Tryd_agg_24 rfl rfl) rfl) ⟨⟨rfl, trivial⟩, ⟨rfl, trivial⟩, trivial⟩ ?_
  obtain ⟨y192, h193, hF⟩ := bind_some hF
  refine dr_cons { need := [(81, .pv (.agg (eGVal a0.fV)))], dst := some 82, val := some (.pv (.str y192)) } (fun m h => step_on (guard_no rfl) (op_call 1 rfl (caps := []) (args := [.agg (eGVal a0.fV)]) (rs := [.p (.str y192)]) rfl rfl (evl_cons h.1.1 evl_nil) Tryd_cal_32 (ref42_value_ok h193) rfl rfl rfl) rfl) ⟨⟨rfl, trivial⟩, trivial, trivial⟩ ?_
  obtain ⟨u194, h195, hF⟩ := bind_some hF
  refine dr_cons { need := [(79, .pv (.str (([98, 97, 99, 107, 32] ++ y186) ++ [32]))), (82, .pv (.str y192))], dst := some 83, val := some (.pv (.str ((([98, 97, 99, 107, 32] ++ y186) ++ [32]) ++ y192))) } (fun m h => step_on (guard_no rfl) (op_concat rfl h.1.1 h.1.2.1 (room_str h195) rfl rfl) rfl) ⟨⟨rfl, rfl, trivial⟩, trivial, trivial⟩ ?_
  refine dr_cons { need := [(1, .lp 0 0)], dst := some 84, val := some (.lp 0 2) } (fun m h => step_on (guard_no rfl) (op_field_lp rfl h.1.1 Tryd_fld_27_2 rfl rfl) rfl) ⟨⟨rfl, trivial⟩, trivial, trivial⟩ ?_
  refine dr_cons { need := [(84, .lp 0 2)], hneed := [(0, .box 27 (bxv (eGEvent a0)))], dst := some 85, val := some (.pv (.int .i64 a0.fObj)) } (fun m h => step_on (guard_no rfl) (op_load_lp (v := .pv (.int .i64 a0.fObj)) rfl h.1.1 h.2.1.1 rfl Tryd_one_3 rfl rfl) rfl) ⟨⟨rfl, trivial⟩, ⟨rfl, trivial⟩, trivial⟩ ?_
  obtain ⟨y196, h197, hF⟩ := bind_some hF
  refine dr_cons { need := [(85, .pv (.int .i64 a0.fObj))], dst := some 86, val := some (.pv (.str y196)) } (fun m h => step_on (guard_no rfl) (op_call 1 rfl (caps := []) (args := [.int .i64 a0.fObj]) (rs := [.p (.str y196)]) rfl rfl (evl_cons h.1.1 evl_nil) Tryd_cal_31 (ref42_d_ok h197) rfl rfl rfl) rfl) ⟨⟨rfl, trivial⟩, trivial, trivial⟩ ?_
  obtain ⟨u198, h199, hF⟩ := bind_some hF
  refine dr_cons { need := [(86, .pv (.str y196))], dst := some 87, val := some (.pv (.str ([109, 111, 118, 101, 32] ++ y196))) } (fun m h => step_on (guard_no rfl) (op_concat rfl rfl h.1.1 (room_str h199) rfl rfl) rfl) ⟨⟨rfl, trivial⟩, trivial, trivial⟩ ?_
  obtain ⟨u200, h201, hF⟩ := bind_some hF
  refine dr_cons { need := [(87, .pv (.str ([109, 111, 118, 101, 32] ++ y196)))], dst := some 88, val := some (.pv (.str (([109, 111, 118, 101, 32] ++ y196) ++ [32, 116, 111, 32]))) } (fun m h => step_on (guard_no rfl) (op_concat rfl h.1.1 rfl (room_str h201) rfl rfl) rfl) ⟨⟨rfl, trivial⟩, trivial, trivial⟩ ?_
  refine dr_cons { need := [(1, .lp 0 0)], dst := some 89, val := some (.lp 0 6) } (fun m h => step_on (guard_no rfl) (op_field_lp rfl h.1.1 Tryd_fld_27_5 rfl rfl) rfl) ⟨⟨rfl, trivial⟩, trivial, trivial⟩ ?_
  refine dr_cons { need := [(89, .lp 0 6)], dst := some 90, val := some (.lp 0 6) } (fun m h => step_on (guard_no rfl) (op_arr_lp (k := .i64) (m := 0) (n := 4) rfl h.1.1 rfl Tryd_arr_25 rfl rfl rfl rfl) rfl) ⟨⟨rfl, trivial⟩, trivial, trivial⟩ ?_
  refine dr_cons { need := [(90, .lp 0 6)], hneed := [(0, .box 27 (bxv (eGEvent a0)))], dst := some 91, val := some (.pv (.int .i64 a0.fOwn.a0)) } (fun m h => step_on (guard_no rfl) (op_load_lp (v := .pv (.int .i64 a0.fOwn.a0)) rfl h.1.1 h.2.1.1 rfl Tryd_one_3 rfl rfl) rfl) ⟨⟨rfl, trivial⟩, ⟨rfl, trivial⟩, trivial⟩ ?_
  obtain ⟨y202, h203, hF⟩ := bind_some hF
  refine dr_cons { need := [(91, .pv (.int .i64 a0.fOwn.a0))], dst := some 92, val := some (.pv (.str y202)) } (fun m h => step_on (guard_no rfl) (op_call 1 rfl (caps := []) (args := [.int .i64 a0.fOwn.a0]) (rs := [.p (.str y202)]) rfl rfl (evl_cons h.1.1 evl_nil) Tryd_cal_31 (ref42_d_ok h203) rfl rfl rfl) rfl) ⟨⟨rfl, trivial⟩, trivial, trivial⟩ ?_
  obtain ⟨u204, h205, hF⟩ := bind_some hF
  refine dr_cons { need := [(88, .pv (.str (([109, 111, 118, 101, 32] ++ y196) ++ [32, 116, 111, 32]))), (92, .pv (.str y202))], dst := some 93, val := some (.pv (.str ((([109, 111, 118, 101, 32] ++ y196) ++ [32, 116, 111, 32]) ++ y202))) } (fun m h => step_on (guard_no rfl) (op_concat rfl h.1.1 h.1.2.1 (room_str h205) rfl rfl) rfl) ⟨⟨rfl, rfl, trivial⟩, trivial, trivial⟩ ?_
  obtain ⟨u206, h207, hF⟩ := bind_some hF
  refine dr_cons { need := [(93, .pv (.str ((([109, 111, 118, 101, 32] ++ y196) ++ [32, 116, 111, 32]) ++ y202)))], dst := some 94, val := some (.pv (.str (((([109, 111, 118, 101, 32] ++ y196) ++ [32, 116, 111, 32]) ++ y202) ++ [32, 98, 121, 32]))) } (fun m h => step_on (guard_no rfl) (op_concat rfl h.1.1 rfl (room_str h207) rfl rfl) rfl) ⟨⟨rfl, trivial⟩, trivial, trivial⟩ ?_
  refine dr_cons { need := [(1, .lp 0 0)], dst := some 95, val := some (.lp 0 1) } (fun m h => step_on (guard_no rfl) (op_field_lp rfl h.1.1 Tryd_fld_27_1 rfl rfl) rfl) ⟨⟨rfl, trivial⟩, trivial, trivial⟩ ?_
  refine dr_cons { need := [(95, .lp 0 1)], hneed := [(0, .box 27 (bxv (eGEvent a0)))], dst := some 96, val := some (.pv (.int .i64 a0.fWho)) } (fun m h => step_on (guard_no rfl) (op_load_lp (v := .pv (.int .i64 a0.fWho)) rfl h.1.1 h.2.1.1 rfl Tryd_one_3 rfl rfl) rfl) ⟨⟨rfl, trivial⟩, ⟨rfl, trivial⟩, trivial⟩ ?_
  obtain ⟨y208, h209, hF⟩ := bind_some hF
  refine dr_cons { need := [(96, .pv (.int .i64 a0.fWho))], dst := some 97, val := some (.pv (.str y208)) } (fun m h => step_on (guard_no rfl) (op_call 1 rfl (caps := []) (args := [.int .i64 a0.fWho]) (rs := [.p (.str y208)]) rfl rfl (evl_cons h.1.1 evl_nil) Tryd_cal_31 (ref42_d_ok h209) rfl rfl rfl) rfl) ⟨⟨rfl, trivial⟩, trivial, trivial⟩ ?_
  obtain ⟨u210, h211, hF⟩ := bind_some hF
  refine dr_cons { need := [(94, .pv (.str (((([109, 111, 118, 101, 32] ++ y196) ++ [32, 116, 111, 32]) ++ y202) ++ [32, 98, 121, 32]))), (97, .pv (.str y208))], dst := some 98, val := some (.pv (.str ((((([109, 111, 118, 101, 32] ++ y196) ++ [32, 116, 111, 32]) ++ y202) ++ [32, 98, 121, 32]) ++ y208))) } (fun m h => step_on (guard_no rfl) (op_concat rfl h.1.1 h.1.2.1 (room_str h211) rfl rfl) rfl) ⟨⟨rfl, rfl, trivial⟩, trivial, trivial⟩ ?_
  refine dr_cons { need := [(1, .lp 0 0)], dst := some 99, val := some (.lp 0 2) } (fun m h => step_on (guard_no rfl) (op_field_lp rfl h.1.1 Tryd_fld_27_2 rfl rfl) rfl) ⟨⟨rfl, trivial⟩, trivial, trivial⟩ ?_
  refine dr_cons { need := [(99, .lp 0 2)], hneed := [(0, .box 27 (bxv (eGEvent a0)))], dst := some 100, val := some (.pv (.int .i64 a0.fObj)) } (fun m h => step_on (guard_no rfl) (op_load_lp (v := .pv (.int .i64 a0.fObj)) rfl h.1.1 h.2.1.1 rfl Tryd_one_3 rfl rfl) rfl) ⟨⟨rfl, trivial⟩, ⟨rfl, trivial⟩, trivial⟩ ?_
  obtain ⟨y212, h213, hF⟩ := bind_some hF
  refine dr_cons { need := [(100, .pv (.int .i64 a0.fObj))], dst := some 101, val := some (.pv (.str y212)) } (fun m h => step_on (guard_no rfl) (op_call 1 rfl (caps := []) (args := [.int .i64 a0.fObj]) (rs := [.p (.str y212)]) rfl rfl (evl_cons h.1.1 evl_nil) Tryd_cal_31 (ref42_d_ok h213) rfl rfl rfl) rfl) ⟨⟨rfl, trivial⟩, trivial, trivial⟩ ?_
  obtain ⟨u214, h215, hF⟩ := bind_some hF
  refine dr_cons { need := [(101, .pv (.str y212))], dst := some 102, val := some (.pv (.str ([100, 101, 108, 101, 116, 101, 32] ++ y212))) } (fun m h => step_on (guard_no rfl) (op_concat rfl rfl h.1.1 (room_str h215) rfl rfl) rfl) ⟨⟨rfl, trivial⟩, trivial, trivial⟩ ?_
  obtain ⟨u216, h217, hF⟩ := bind_some hF
  refine dr_cons { need := [(102, .pv (.str ([100, 101, 108, 101, 116, 101, 32] ++ y212)))], dst := some 103, val := some (.pv (.str (([100, 101, 108, 101, 116, 101, 32] ++ y212) ++ [32, 98, 121, 32]))) } (fun m h => step_on (guard_no rfl) (op_concat rfl h.1.1 rfl (room_str h217) rfl rfl) rfl) ⟨⟨rfl, trivial⟩, trivial, trivial⟩ ?_
  refine dr_cons { need := [(1, .lp 0 0)], dst := some 104, val := some (.lp 0 1) } (fun m h => step_on (guard_no rfl) (op_field_lp rfl h.1.1 Tryd_fld_27_1 rfl rfl) rfl) ⟨⟨rfl, trivial⟩, trivial, trivial⟩ ?_
  refine dr_cons { need := [(104, .lp 0 1)], hneed := [(0, .box 27 (bxv (eGEvent a0)))], dst := some 105, val := some (.pv (.int .i64 a0.fWho)) } (fun m h => step_on (guard_no rfl) (op_load_lp (v := .pv (.int .i64 a0.fWho)) rfl h.1.1 h.2.1.1 rfl Tryd_one_3 rfl rfl) rfl) ⟨⟨rfl, trivial⟩, ⟨rfl, trivial⟩, trivial⟩ ?_
  obtain ⟨y218, h219, hF⟩ := bind_some hF
  refine dr_cons { need := [(105, .pv (.int .i64 a0.fWho))], dst := some 106, val := some (.pv (.str y218)) } (fun m h => step_on (guard_no rfl) (op_call 1 rfl (caps := []) (args := [.int .i64 a0.fWho]) (rs := [.p (.str y218)]) rfl rfl (evl_cons h.1.1 evl_nil) Tryd_cal_31 (ref42_d_ok h219) rfl rfl rfl) rfl) ⟨⟨rfl, trivial⟩, trivial, trivial⟩ ?_
  obtain ⟨u220, h221, hF⟩ := bind_some hF
  refine dr_cons { need := [(103, .pv (.str (([100, 101, 108, 101, 116, 101, 32] ++ y212) ++ [32, 98, 121, 32]))), (106, .pv (.str y218))], dst := some 107, val := some (.pv (.str ((([100, 101, 108, 101, 116, 101, 32] ++ y212) ++ [32, 98, 121, 32]) ++ y218))) } (fun m h => step_on (guard_no rfl) (op_concat rfl h.1.1 h.1.2.1 (room_str h221) rfl rfl) rfl) ⟨⟨rfl, rfl, trivial⟩, trivial, trivial⟩ ?_
  refine dr_cons { need := [(107, .pv (.str ((([100, 101, 108, 101, 116, 101, 32] ++ y212) ++ [32, 98, 121, 32]) ++ y218))), (98, .pv (.str ((((([109, 111, 118, 101, 32] ++ y196) ++ [32, 116, 111, 32]) ++ y202) ++ [32, 98, 121, 32]) ++ y208))), (83, .pv (.str ((([98, 97, 99, 107, 32] ++ y186) ++ [32]) ++ y192))), (74, .pv (.str ((((([99, 97, 108, 108, 32] ++ y172) ++ [32]) ++ a0.fName) ++ [32, 98, 121, 32]) ++ y182))), (61, .pv (.str ((((((([112, 117, 116, 32] ++ y152) ++ [32]) ++ a0.fName) ++ [32, 98, 121, 32]) ++ y162) ++ [32]) ++ y168))), (43, .pv (.str ((((((((((((([110, 101, 119, 32] ++ y114) ++ [32]) ++ a0.fName) ++ [32, 98, 121, 32]) ++ y124) ++ [32, 105, 110, 32]) ++ y130) ++ [32]) ++ y136) ++ [32]) ++ y142) ++ [32]) ++ y148)))], dst := some 108, val := some (.pv (.vs 1 (List.map eS [[], ((((((((((((([110, 101, 119, 32] ++ y114) ++ [32]) ++ a0.fName) ++ [32, 98, 121, 32]) ++ y124) ++ [32, 105, 110, 32]) ++ y130) ++ [32]) ++ y136) ++ [32]) ++ y142) ++ [32]) ++ y148), ((((((([112, 117, 116, 32] ++ y152) ++ [32]) ++ a0.fName) ++ [32, 98, 121, 32]) ++ y162) ++ [32]) ++ y168), ((((([99, 97, 108, 108, 32] ++ y172) ++ [32]) ++ a0.fName) ++ [32, 98, 121, 32]) ++ y182), ((([98, 97, 99, 107, 32] ++ y186) ++ [32]) ++ y192), ((((([109, 111, 118, 101, 32] ++ y196) ++ [32, 116, 111, 32]) ++ y202) ++ [32, 98, 121, 32]) ++ y208), ((([100, 101, 108, 101, 116, 101, 32] ++ y212) ++ [32, 98, 121, 32]) ++ y218)]))) } (fun m h => step_on (guard_no rfl) (op_lit (rows := List.map eS ([[], ((((((((((((([110, 101, 119, 32] ++ y114) ++ [32]) ++ a0.fName) ++ [32, 98, 121, 32]) ++ y124) ++ [32, 105, 110, 32]) ++ y130) ++ [32]) ++ y136) ++ [32]) ++ y142) ++ [32]) ++ y148), ((((((([112, 117, 116, 32] ++ y152) ++ [32]) ++ a0.fName) ++ [32, 98, 121, 32]) ++ y162) ++ [32]) ++ y168), ((((([99, 97, 108, 108, 32] ++ y172) ++ [32]) ++ a0.fName) ++ [32, 98, 121, 32]) ++ y182), ((([98, 97, 99, 107, 32] ++ y186) ++ [32]) ++ y192), ((((([109, 111, 118, 101, 32] ++ y196) ++ [32, 116, 111, 32]) ++ y202) ++ [32, 98, 121, 32]) ++ y208), ((([100, 101, 108, 101, 116, 101, 32] ++ y212) ++ [32, 98, 121, 32]) ++ y218)] : List (List UInt8))) (zs := [.str []]) rfl rfl Tryd_slc_41 Tryd_zer_9 (by exact ⟨rfl, trivial⟩) rfl rfl rfl (evs_cons rfl (evs_cons h.1.2.2.2.2.2.1 (evs_cons h.1.2.2.2.2.1 (evs_cons h.1.2.2.2.1 (evs_cons h.1.2.2.1 (evs_cons h.1.2.1 (evs_cons h.1.1 evs_nil))))))) rfl rfl rfl rfl) rfl) ⟨⟨rfl, rfl, rfl, rfl, rfl, rfl, trivial⟩, trivial, trivial⟩ ?_
  refine dr_cons { need := [(108, .pv (.vs 1 (List.map eS [[], ((((((((((((([110, 101, 119, 32] ++ y114) ++ [32]) ++ a0.fName) ++ [32, 98, 121, 32]) ++ y124) ++ [32, 105, 110, 32]) ++ y130) ++ [32]) ++ y136) ++ [32]) ++ y142) ++ [32]) ++ y148), ((((((([112, 117, 116, 32] ++ y152) ++ [32]) ++ a0.fName) ++ [32, 98, 121, 32]) ++ y162) ++ [32]) ++ y168), ((((([99, 97, 108, 108, 32] ++ y172) ++ [32]) ++ a0.fName) ++ [32, 98, 121, 32]) ++ y182), ((([98, 97, 99, 107, 32] ++ y186) ++ [32]) ++ y192), ((((([109, 111, 118, 101, 32] ++ y196) ++ [32, 116, 111, 32]) ++ y202) ++ [32, 98, 121, 32]) ++ y208), ((([100, 101, 108, 101, 116, 101, 32] ++ y212) ++ [32, 98, 121, 32]) ++ y218)])))], dst := some 3, val := some (.pv (.vs 1 (List.map eS [[], ((((((((((((([110, 101, 119, 32] ++ y114) ++ [32]) ++ a0.fName) ++ [32, 98, 121, 32]) ++ y124) ++ [32, 105, 110, 32]) ++ y130) ++ [32]) ++ y136) ++ [32]) ++ y142) ++ [32]) ++ y148), ((((((([112, 117, 116, 32] ++ y152) ++ [32]) ++ a0.fName) ++ [32, 98, 121, 32]) ++ y162) ++ [32]) ++ y168), ((((([99, 97, 108, 108, 32] ++ y172) ++ [32]) ++ a0.fName) ++ [32, 98, 121, 32]) ++ y182), ((([98, 97, 99, 107, 32] ++ y186) ++ [32]) ++ y192), ((((([109, 111, 118, 101, 32] ++ y196) ++ [32, 116, 111, 32]) ++ y202) ++ [32, 98, 121, 32]) ++ y208), ((([100, 101, 108, 101, 116, 101, 32] ++ y212) ++ [32, 98, 121, 32]) ++ y218)]))) } (fun m h => step_on (guard_no rfl) (op_assign rfl h.1.1 rfl rfl) rfl) ⟨⟨rfl, trivial⟩, trivial, trivial⟩ ?_
  refine dr_nil Tryd_mixed rfl (by kernel_rfl) ?_
  refine post_imp (s' := ⟨114, [(1, some (.lp 0 0)), (3, some (.pv (.vs 1 (List.map eS [[], ((((((((((((([110, 101, 119, 32] ++ y114) ++ [32]) ++ a0.fName) ++ [32, 98, 121, 32]) ++ y124) ++ [32, 105, 110, 32]) ++ y130) ++ [32]) ++ y136) ++ [32]) ++ y142) ++ [32]) ++ y148), ((((((([112, 117, 116, 32] ++ y152) ++ [32]) ++ a0.fName) ++ [32, 98, 121, 32]) ++ y162) ++ [32]) ++ y168), ((((([99, 97, 108, 108, 32] ++ y172) ++ [32]) ++ a0.fName) ++ [32, 98, 121, 32]) ++ y182), ((([98, 97, 99, 107, 32] ++ y186) ++ [32]) ++ y192), ((((([109, 111, 118, 101, 32] ++ y196) ++ [32, 116, 111, 32]) ++ y202) ++ [32, 98, 121, 32]) ++ y208), ((([100, 101, 108, 101, 116, 101, 32] ++ y212) ++ [32, 98, 121, 32]) ++ y218)]))))], [(0, some (.box 27 (bxv (eGEvent a0))))], 1, [], [], 0, []⟩) (imps [0] ⟨by kernel_rfl, by kernel_rfl, trivial⟩ ⟨by kernel_rfl, trivial⟩) ?_
  refine post_next ?_
  refine aw_seq ?_
  refine aw_region ?_
  refine rmv ?_
  refine rgp (op_field_lp rfl rfl Tryd_fld_27_0 rfl rfl) ?_
  refine rgp (op_load_lp (v := .pv (.int .i64 a0.fKind)) rfl rfl rfl rfl Tryd_one_3 rfl rfl) ?_
  obtain ⟨y222, h223, hF⟩ := bind_some hF
  refine rgp (op_index_vs (k := .i64) rfl rfl rfl (idx_map eS h223) Tryd_slc_41 rfl rfl) ?_
  refine rgp (op_load_vp (p := .str y222) rfl rfl rfl Tryd_one_9 rfl rfl) ?_
  refine ras ?_
  refine reg_nil ?_
  refine post_imp (s' := ⟨114, [(2, some (.pv (.str y222)))], [], 0, [], [], 0, []⟩) (imps [] ⟨by kernel_rfl, trivial⟩ trivial) ?_
  refine post_next ?_
  refine aw_ret ?_
  obtain rfl := Option.some.inj hF
  exact prt
theorem event_All_ok {a0 : List GEvent} {r : (List UInt8)} (hF : event_All a0 = some r) : Abs.Fn globs_Tryd Tryd.prog 16 [.vs 10 (List.map eGEvent a0)] [.p (.str r)] := by
  unfold event_All at hF
  refine fn_of_body (n := 20) Tryd.func16 rfl rfl rfl ?_
  intro w O
  refine aw_seq ?_
  refine aw_region ?_
  refine ras ?_
  refine reg_nil ?_
  refine post_imp (s' := ⟨20, [(0, some (.pv (.vs 10 (List.map eGEvent a0))))], [], 0, [], [], 0, []⟩) (imps [] ⟨by kernel_rfl, trivial⟩ trivial) ?_
  refine post_next ?_
  refine aw_seq ?_
  refine aw_region ?_
  refine rgp (op_alloc 0 rfl (ps := [.nilp, .nils]) rfl Tryd_zer_57 (by exact ⟨rfl, rfl, trivial⟩) rfl rfl) ?_
  refine reg_imp (imp_nil_box 0 1 57 5 1 1 rfl rfl rfl) ?_
  refine reg_imp (imp_bp 0 rfl) ?_
  refine reg_nil ?_
  refine post_imp (s' := ⟨20, [(0, some (.pv (.vs 10 (List.map eGEvent a0)))), (3, some (.lp 0 0))], [(0, some (.box 57 [.bp 0, .ls 1])), (1, some (.row 5 1 (List.map eI_u8 [])))], 2, [], [], 0, []⟩) (imps [0, 1] ⟨by kernel_rfl, by kernel_rfl, trivial⟩ ⟨by kernel_rfl, by kernel_rfl, trivial⟩) ?_
  refine post_next ?_
  iterate 2 (refine aw_seq ?_)
  refine aw_region ?_
  refine rmv ?_
  refine rgp (op_len_vs (n := a0.length) rfl rfl (List.length_map ..) Tryd_slc_30 rfl rfl) ?_
  refine rmv ?_
  refine reg_nil ?_
  refine post_imp (s' := ⟨20, [(3, some (.lp 0 0)), (6, some (.pv (.vs 10 (List.map eGEvent a0)))), (7, some (.pv (.int .i64 (a0.length : Int)))), (8, some (.pv (.int .i64 0)))], [(0, some (.box 57 [.bp 0, .ls 1])), (1, some (.row 5 1 (List.map eI_u8 [])))], 2, [], [], 0, []⟩) (imps [0, 1] ⟨by kernel_rfl, by kernel_rfl, by kernel_rfl, by kernel_rfl, trivial⟩ ⟨by kernel_rfl, by kernel_rfl, trivial⟩) ?_
  refine post_next ?_
  obtain ⟨x76, hF, hK77⟩ := bind_some hF
  refine aw_for ((((a0.length : Int) : Int) - (0)).toNat + 1) (fun s1 => s1 = ⟨20, [(3, some (.lp 0 0))], [(0, some (.box 57 [.bp 0, .ls 1])), (1, some (.row 5 1 (List.map eI_u8 x76)))], 2, [], [], 0, []⟩) ?_ ?_
  · refine rnd_loop (α := (List Int) × Int) (fun q => ⟨20, [(3, some (.lp 0 0)), (6, some (.pv (.vs 10 (List.map eGEvent a0)))), (7, some (.pv (.int .i64 (a0.length : Int)))), (8, some (.pv (.int .i64 q.2)))], [(0, some (.box 57 [.bp 0, .ls 1])), (1, some (.row 5 1 (List.map eI_u8 q.1)))], 2, [], [], 0, []⟩) (fun k q => event_All_L1 a0 k q.1 q.2 = some x76) ([], 0) (imps [0, 1] ⟨by kernel_rfl, by kernel_rfl, by kernel_rfl, by kernel_rfl, trivial⟩ ⟨by kernel_rfl, by kernel_rfl, trivial⟩) hF (fun q h => by cases h) ?_
    clear hF
    rintro k ⟨x24, x25⟩ hF ih
    refine rnd_succ ?_
    refine aw_seq ?_
    refine aw_region ?_
    refine rgp (op_int (k := .i64) (m := x25) (n := (a0.length : Int)) rfl rfl rfl rfl rfl rfl) ?_
    refine reg_nil ?_
    refine post_imp (s' := ⟨20, [(3, some (.lp 0 0)), (6, some (.pv (.vs 10 (List.map eGEvent a0)))), (7, some (.pv (.int .i64 (a0.length : Int)))), (8, some (.pv (.int .i64 x25))), (9, some (.pv (.bool (decide (x25 < (a0.length : Int))))))], [(0, some (.box 57 [.bp 0, .ls 1])), (1, some (.row 5 1 (List.map eI_u8 x24)))], 2, [], [], 0, []⟩) (imps [0, 1] ⟨by kernel_rfl, by kernel_rfl, by kernel_rfl, by kernel_rfl, by kernel_rfl, trivial⟩ ⟨by kernel_rfl, by kernel_rfl, trivial⟩) ?_
    refine post_next ?_
    refine aw_seq ?_
    rcases ite_some hF with ⟨hb51, hF⟩ | ⟨hb51, hF⟩
    · refine aw_cond_t rfl hb51 ?_
      refine aw_skip ?_
      refine post_next ?_
      refine aw_seq ?_
      obtain ⟨x71, hF, hK73⟩ := bind_some hF
      refine aw_cut (fun s1 => s1 = ⟨20, [(3, some (.lp 0 0)), (6, some (.pv (.vs 10 (List.map eGEvent a0)))), (7, some (.pv (.int .i64 (a0.length : Int)))), (8, some (.pv (.int .i64 x25)))], [(0, some (.box 57 [.bp 0, .ls 1])), (1, some (.row 5 1 (List.map eI_u8 x71)))], 2, [], [], 0, []⟩) ?_ ?_
      · refine aw_block ?_
        refine aw_seq ?_
        refine aw_region ?_
        obtain ⟨y54, h55, hF⟩ := bind_some hF
        refine rgp (op_index_vs (k := .i64) rfl rfl rfl (idx_map eGEvent h55) Tryd_slc_30 rfl rfl) ?_
        refine rgp (op_load_vp_agg (ps := eGEvent y54) rfl rfl rfl rfl Tryd_agg_27 rfl rfl) ?_
        refine rgp (op_alloc 2 rfl (ps := (eGEvent zGEvent)) rfl Tryd_zer_27 (by exact ⟨rfl, rfl, rfl, rfl, rfl, rfl, rfl, rfl, rfl, rfl, trivial⟩) rfl rfl) ?_
        refine rgp (op_store_lp (n := 10) rfl rfl rfl rfl rfl (or_agg Tryd_agg_27) (by rw [Tryd_non_27]; rfl) rfl rfl rfl) ?_
        refine reg_nil ?_
        refine post_imp (s' := ⟨20, [(3, some (.lp 0 0)), (5, some (.lp 2 0)), (6, some (.pv (.vs 10 (List.map eGEvent a0)))), (7, some (.pv (.int .i64 (a0.length : Int)))), (8, some (.pv (.int .i64 x25)))], [(0, some (.box 57 [.bp 0, .ls 1])), (1, some (.row 5 1 (List.map eI_u8 x24))), (2, some (.box 27 (bxv (eGEvent y54))))], 3, [], [], 0, []⟩) (imps [0, 1, 2] ⟨by kernel_rfl, by kernel_rfl, by kernel_rfl, by kernel_rfl, by kernel_rfl, trivial⟩ ⟨by kernel_rfl, by kernel_rfl, by kernel_rfl, trivial⟩) ?_
        refine post_next ?_
        refine aw_seq ?_
        refine aw_region ?_
        refine rgp (op_load_lp_agg (ps := eGEvent y54) rfl rfl rfl rfl rfl rfl Tryd_agg_27 rfl rfl) ?_
        obtain ⟨y58, h59, hF⟩ := bind_some hF
        refine rgp (op_call 3 rfl (caps := []) (args := [.agg (eGEvent y54)]) (rs := [.p (.bool y58)]) rfl rfl rfl Tryd_cal_12 (event_Right_ok h59) rfl rfl rfl) ?_
        refine reg_nil ?_
        refine post_imp (s' := ⟨20, [(3, some (.lp 0 0)), (5, some (.lp 2 0)), (6, some (.pv (.vs 10 (List.map eGEvent a0)))), (7, some (.pv (.int .i64 (a0.length : Int)))), (8, some (.pv (.int .i64 x25))), (13, some (.pv (.bool y58)))], [(0, some (.box 57 [.bp 0, .ls 1])), (1, some (.row 5 1 (List.map eI_u8 x24))), (2, some (.box 27 (bxv (eGEvent y54))))], 3, [], [], 0, []⟩) (imps [0, 1, 2] ⟨by kernel_rfl, by kernel_rfl, by kernel_rfl, by kernel_rfl, by kernel_rfl, by kernel_rfl, trivial⟩ ⟨by kernel_rfl, by kernel_rfl, by kernel_rfl, trivial⟩) ?_
        refine post_next ?_
        rcases ite_some hF with ⟨hb60, hF⟩ | ⟨hb60, hF⟩
        · refine aw_cond_t rfl hb60 ?_
          refine aw_seq ?_
          refine aw_region ?_
          refine rgp (op_load_lp_agg (ps := eGEvent y54) rfl rfl rfl rfl rfl rfl Tryd_agg_27 rfl rfl) ?_
          obtain ⟨y65, h66, hF⟩ := bind_some hF
          refine rgp (op_call 3 rfl (caps := []) (args := [.agg (eGEvent y54)]) (rs := [.p (.str y65)]) rfl rfl rfl Tryd_cal_30 (event_write_ok h66) rfl rfl rfl) ?_
          obtain ⟨u67, h68, hF⟩ := bind_some hF
          refine rgp (op_callW (args := [.lp 0 0, .pv (.str y65)]) [0, 1] [0, 3] [1] 4 rfl rfl rfl rfl rfl Tryd_cal_33 (bldW_ok h68) rfl (by decide) ⟨rfl, rfl, trivial⟩ rfl (by decide) ⟨.inl rfl, .inr rfl, trivial⟩ (by kernel_rfl) (by kernel_rfl) rfl rfl rfl rfl) ?_
          refine reg_nil ?_
          refine post_imp (s' := ⟨20, [(3, some (.lp 0 0)), (6, some (.pv (.vs 10 (List.map eGEvent a0)))), (7, some (.pv (.int .i64 (a0.length : Int)))), (8, some (.pv (.int .i64 x25)))], [(0, some (.box 57 [.bp 0, .ls 1])), (1, some (.row 5 1 (List.map eI_u8 (x24 ++ bytesL y65))))], 2, [], [], 0, []⟩) (imps [0, 3] ⟨by kernel_rfl, by kernel_rfl, by kernel_rfl, by kernel_rfl, trivial⟩ ⟨by kernel_rfl, by kernel_rfl, trivial⟩) ?_
          refine post_next ?_
          refine aw_region ?_
          obtain ⟨u69, h70, hF⟩ := bind_some hF
          refine rgp (op_callW (args := [.lp 0 0, .pv (.int .u8 10)]) [0, 1] [0, 2] [1] 3 rfl rfl rfl rfl rfl Tryd_cal_34 (bldB_ok (c := 10) h70) rfl (by decide) ⟨rfl, rfl, trivial⟩ rfl (by decide) ⟨.inl rfl, .inr rfl, trivial⟩ (by kernel_rfl) (by kernel_rfl) rfl rfl rfl rfl) ?_
          refine reg_nil ?_
          refine post_imp (s' := ⟨20, [(3, some (.lp 0 0)), (6, some (.pv (.vs 10 (List.map eGEvent a0)))), (7, some (.pv (.int .i64 (a0.length : Int)))), (8, some (.pv (.int .i64 x25)))], [(0, some (.box 57 [.bp 0, .ls 1])), (1, some (.row 5 1 (List.map eI_u8 ((x24 ++ bytesL y65) ++ [10]))))], 2, [], [], 0, []⟩) (imps [0, 2] ⟨by kernel_rfl, by kernel_rfl, by kernel_rfl, by kernel_rfl, trivial⟩ ⟨by kernel_rfl, by kernel_rfl, trivial⟩) ?_
          refine post_block_normal ?_
          cases hF
          exact post_cut _ rfl (imps [0, 1] ⟨by kernel_rfl, by kernel_rfl, by kernel_rfl, by kernel_rfl, trivial⟩ ⟨by kernel_rfl, by kernel_rfl, trivial⟩)
        refine aw_cond_f rfl hb60 ?_
        refine aw_skip ?_
        refine post_block_normal ?_
        cases hF
        exact post_cut _ rfl (imps [0, 1] ⟨by kernel_rfl, by kernel_rfl, by kernel_rfl, by kernel_rfl, trivial⟩ ⟨by kernel_rfl, by kernel_rfl, trivial⟩)
      rintro _ rfl
      have hF := hK73
      clear hK73
      refine post_next ?_
      refine aw_region ?_
      refine rgp (op_int (k := .i64) (m := x25) (n := 1) rfl rfl rfl rfl rfl rfl) ?_
      refine rmv ?_
      refine reg_nil ?_
      refine post_round ?_
      exact rnd_back (ih (x71, w_i64 (x25 + 1)) hF) (imps [0, 1] ⟨by kernel_rfl, by kernel_rfl, by kernel_rfl, by kernel_rfl, trivial⟩ ⟨by kernel_rfl, by kernel_rfl, trivial⟩)
    refine aw_cond_f rfl hb51 ?_
    refine aw_exit ?_
    iterate 2 (refine post_then_exit ?_)
    obtain rfl := Option.some.inj hF
    exact post_lp_break _ rfl (imps [0, 1] ⟨by kernel_rfl, trivial⟩ ⟨by kernel_rfl, by kernel_rfl, trivial⟩)
  rintro _ rfl
  have hF := hK77
  clear hK77
  refine post_next ?_
  refine aw_seq ?_
  refine aw_region ?_
  obtain ⟨y78, h79, hF⟩ := bind_some hF
  refine rgp (op_callW (args := [.lp 0 0]) [0, 1] [] [0, 1] 2 rfl rfl rfl rfl rfl Tryd_cal_35 (bldS_ok h79) rfl (by decide) ⟨rfl, rfl, trivial⟩ rfl (by decide) trivial (by kernel_rfl) (by kernel_rfl) rfl rfl rfl rfl) ?_
  refine ras ?_
  refine reg_nil ?_
  refine post_imp (s' := ⟨20, [(2, some (.pv (.str y78)))], [], 0, [], [], 0, []⟩) (imps [] ⟨by kernel_rfl, trivial⟩ trivial) ?_
  refine post_next ?_
  refine aw_ret ?_
  obtain rfl := Option.some.inj hF
  exact prt
theorem ref42_All_ok {a0 : List GEvent} {r : (List UInt8)} (hF : ref42_All a0 = some r) : Abs.Fn globs_Tryd Tryd.prog 17 [.vs 10 (List.map eGEvent a0)] [.p (.str r)] := by
  unfold ref42_All at hF
  refine fn_of_body (n := 25) Tryd.func17 rfl rfl rfl ?_
  intro w O
  refine aw_seq ?_
  refine aw_region ?_
  refine ras ?_
  refine reg_nil ?_
  refine post_imp (s' := ⟨25, [(0, some (.pv (.vs 10 (List.map eGEvent a0))))], [], 0, [], [], 0, []⟩) (imps [] ⟨by kernel_rfl, trivial⟩ trivial) ?_
  refine post_next ?_
  refine aw_seq ?_
  refine aw_region ?_
  refine ras ?_
  refine reg_nil ?_
  refine post_imp (s' := ⟨25, [(0, some (.pv (.vs 10 (List.map eGEvent a0)))), (3, some (.pv (.str [])))], [], 0, [], [], 0, []⟩) (imps [] ⟨by kernel_rfl, by kernel_rfl, trivial⟩ trivial) ?_
  refine post_next ?_
  iterate 2 (refine aw_seq ?_)
  refine aw_region ?_
  refine ras ?_
  refine reg_nil ?_
  refine post_imp (s' := ⟨25, [(0, some (.pv (.vs 10 (List.map eGEvent a0)))), (3, some (.pv (.str []))), (4, some (.pv (.int .i64 0)))], [], 0, [], [], 0, []⟩) (imps [] ⟨by kernel_rfl, by kernel_rfl, by kernel_rfl, trivial⟩ trivial) ?_
  refine post_next ?_
  obtain ⟨x70, hF, hK71⟩ := bind_some hF
  refine aw_for ((((a0.length : Int) : Int) - (0)).toNat + 1) (fun s1 => s1 = ⟨25, [(3, some (.pv (.str x70)))], [], 0, [], [], 0, []⟩) ?_ ?_
  · refine rnd_loop (α := (List UInt8) × Int) (fun q => ⟨25, [(0, some (.pv (.vs 10 (List.map eGEvent a0)))), (3, some (.pv (.str q.1))), (4, some (.pv (.int .i64 q.2)))], [], 0, [], [], 0, []⟩) (fun k q => ref42_All_L1 a0 k q.1 q.2 = some x70) ([], 0) (imps [] ⟨by kernel_rfl, by kernel_rfl, by kernel_rfl, trivial⟩ trivial) hF (fun q h => by cases h) ?_
    clear hF
    rintro k ⟨x22, x23⟩ hF ih
    refine rnd_succ ?_
    iterate 2 (refine aw_seq ?_)
    refine aw_region ?_
    iterate 2 (refine rmv ?_)
    refine rgp (op_len_vs (n := a0.length) rfl rfl (List.length_map ..) Tryd_slc_30 rfl rfl) ?_
    refine rgp (op_int (k := .i64) (m := x23) (n := (a0.length : Int)) rfl rfl rfl rfl rfl rfl) ?_
    refine reg_nil ?_
    refine post_imp (s' := ⟨25, [(0, some (.pv (.vs 10 (List.map eGEvent a0)))), (3, some (.pv (.str x22))), (4, some (.pv (.int .i64 x23))), (8, some (.pv (.bool (decide (x23 < (a0.length : Int))))))], [], 0, [], [], 0, []⟩) (imps [] ⟨by kernel_rfl, by kernel_rfl, by kernel_rfl, by kernel_rfl, trivial⟩ trivial) ?_
    refine post_next ?_
    rcases ite_some hF with ⟨hb47, hF⟩ | ⟨hb47, hF⟩
    · refine aw_cond_t rfl hb47 ?_
      refine aw_skip ?_
      refine post_next ?_
      refine aw_seq ?_
      obtain ⟨x65, hF, hK67⟩ := bind_some hF
      refine aw_cut (fun s1 => s1 = ⟨25, [(0, some (.pv (.vs 10 (List.map eGEvent a0)))), (3, some (.pv (.str x65))), (4, some (.pv (.int .i64 x23)))], [], 0, [], [], 0, []⟩) ?_ ?_
      · refine aw_block ?_
        refine aw_seq ?_
        refine aw_region ?_
        iterate 2 (refine rmv ?_)
        obtain ⟨y52, h53, hF⟩ := bind_some hF
        refine rgp (op_index_vs (k := .i64) rfl rfl rfl (idx_map eGEvent h53) Tryd_slc_30 rfl rfl) ?_
        refine rgp (op_load_vp_agg (ps := eGEvent y52) rfl rfl rfl rfl Tryd_agg_27 rfl rfl) ?_
        obtain ⟨y54, h55, hF⟩ := bind_some hF
        refine rgp (op_call 0 rfl (caps := []) (args := [.agg (eGEvent y52)]) (rs := [.p (.bool y54)]) rfl rfl rfl Tryd_cal_13 (ref42_Right_ok h55) rfl rfl rfl) ?_
        refine reg_nil ?_
        refine post_imp (s' := ⟨25, [(0, some (.pv (.vs 10 (List.map eGEvent a0)))), (3, some (.pv (.str x22))), (4, some (.pv (.int .i64 x23))), (15, some (.pv (.bool y54)))], [], 0, [], [], 0, []⟩) (imps [] ⟨by kernel_rfl, by kernel_rfl, by kernel_rfl, by kernel_rfl, trivial⟩ trivial) ?_
        refine post_next ?_
        rcases ite_some hF with ⟨hb56, hF⟩ | ⟨hb56, hF⟩
        · refine aw_cond_t rfl hb56 ?_
          refine aw_region ?_
          iterate 3 (refine rmv ?_)
          obtain ⟨y57, h58, hF⟩ := bind_some hF
          refine rgp (op_index_vs (k := .i64) rfl rfl rfl (idx_map eGEvent h58) Tryd_slc_30 rfl rfl) ?_
          refine rgp (op_load_vp_agg (ps := eGEvent y57) rfl rfl rfl rfl Tryd_agg_27 rfl rfl) ?_
          obtain ⟨y59, h60, hF⟩ := bind_some hF
          refine rgp (op_call 0 rfl (caps := []) (args := [.agg (eGEvent y57)]) (rs := [.p (.str y59)]) rfl rfl rfl Tryd_cal_15 (ref42_Text_ok h60) rfl rfl rfl) ?_
          obtain ⟨u61, h62, hF⟩ := bind_some hF
          refine rgp (op_concat rfl rfl rfl (room_str h62) rfl rfl) ?_
          obtain ⟨u63, h64, hF⟩ := bind_some hF
          refine rgp (op_concat rfl rfl rfl (room_str h64) rfl rfl) ?_
          refine ras ?_
          refine reg_nil ?_
          refine post_imp (s' := ⟨25, [(0, some (.pv (.vs 10 (List.map eGEvent a0)))), (3, some (.pv (.str (x22 ++ (y59 ++ [10]))))), (4, some (.pv (.int .i64 x23)))], [], 0, [], [], 0, []⟩) (imps [] ⟨by kernel_rfl, by kernel_rfl, by kernel_rfl, trivial⟩ trivial) ?_
          refine post_block_normal ?_
          cases hF
          exact post_cut _ rfl (imps [] ⟨by kernel_rfl, by kernel_rfl, by kernel_rfl, trivial⟩ trivial)
        refine aw_cond_f rfl hb56 ?_
        refine aw_skip ?_
        refine post_block_normal ?_
        cases hF
        exact post_cut _ rfl (imps [] ⟨by kernel_rfl, by kernel_rfl, by kernel_rfl, trivial⟩ trivial)
      rintro _ rfl
      have hF := hK67
      clear hK67
      refine post_next ?_
      refine aw_region ?_
      refine rmv ?_
      refine rgp (op_int (k := .i64) (m := x23) (n := 1) rfl rfl rfl rfl rfl rfl) ?_
      refine ras ?_
      refine reg_nil ?_
      refine post_round ?_
      exact rnd_back (ih (x65, w_i64 (x23 + 1)) hF) (imps [] ⟨by kernel_rfl, by kernel_rfl, by kernel_rfl, trivial⟩ trivial)
    refine aw_cond_f rfl hb47 ?_
    refine aw_exit ?_
    iterate 2 (refine post_then_exit ?_)
    obtain rfl := Option.some.inj hF
    exact post_lp_break _ rfl (imps [] ⟨by kernel_rfl, trivial⟩ trivial)
  rintro _ rfl
  have hF := hK71
  clear hK71
  refine post_next ?_
  refine aw_seq ?_
  refine aw_region ?_
  refine rmv ?_
  refine ras ?_
  refine reg_nil ?_
  refine post_imp (s' := ⟨25, [(2, some (.pv (.str x70)))], [], 0, [], [], 0, []⟩) (imps [] ⟨by kernel_rfl, trivial⟩ trivial) ?_
  refine post_next ?_
  refine aw_ret ?_
  obtain rfl := Option.some.inj hF
  exact prt
abbrev law42_EventText_e199  : Eff := { need := [(51, .pv (.bool false))], dst := some 4, val := some (.pv (.bool false)) }
theorem law42_EventText_ok {a0 : GEvent} {a1 : List GEvent} {r : Bool} (hF : law42_EventText a0 a1 = some r) : Abs.Fn globs_Tryd Tryd.prog 4 [.agg (eGEvent a0), .vs 10 (List.map eGEvent a1)] [.p (.bool r)] := by
  unfold law42_EventText at hF
  refine fn_of_body (n := 52) Tryd.func4 rfl rfl rfl ?_
  intro w O
  refine aw_seq ?_
  refine aw_region ?_
  refine rgp (op_box 0 rfl rfl rfl rfl rfl rfl) ?_
  refine ras ?_
  refine reg_nil ?_
  refine post_imp (s' := ⟨52, [(1, some (.pv (.vs 10 (List.map eGEvent a1)))), (2, some (.lp 0 0))], [(0, some (.box 27 (bxv (eGEvent a0))))], 1, [], [], 0, []⟩) (imps [0] ⟨by kernel_rfl, by kernel_rfl, trivial⟩ ⟨by kernel_rfl, trivial⟩) ?_
  refine post_next ?_
  iterate 2 (refine aw_seq ?_)
  obtain ⟨x2, hF, hK4⟩ := bind_some hF
  refine aw_cut (fun s1 => s1 = ⟨52, [(1, some (.pv (.vs 10 (List.map eGEvent a1)))), (2, some (.lp 0 0)), (14, some (.pv (.bool x2)))], [(0, some (.box 27 (bxv (eGEvent a0))))], 1, [], [], 0, []⟩) ?_ ?_
  · refine aw_region ?_
    refine rmv ?_
    refine rgp (op_len_vs (n := a1.length) rfl rfl (List.length_map ..) Tryd_slc_30 rfl rfl) ?_
    refine rgp (op_int (k := .i64) (m := (a1.length : Int)) (n := 100) rfl rfl rfl rfl rfl rfl) ?_
    refine rmv ?_
    rcases ite_some hF with ⟨hb1, hF⟩ | ⟨hb1, hF⟩
    · refine rgo_t hb1 ?_
      iterate 3 (refine rgo_t hb1 ?_)
      refine rpt hb1 ?_
      refine reg_nil ?_
      cases hF
      exact post_cut _ rfl (imps [0] ⟨by kernel_rfl, by kernel_rfl, by kernel_rfl, trivial⟩ ⟨by kernel_rfl, trivial⟩)
    refine rgn hb1 (op_field_lp rfl rfl Tryd_fld_27_3 rfl rfl) ?_
    refine rgn hb1 (op_load_lp (v := .pv (.str a0.fName)) rfl rfl rfl rfl Tryd_one_9 rfl rfl) ?_
    refine rgn hb1 (op_len_str rfl rfl Tryd_und_9 rfl rfl) ?_
    refine rgn hb1 (op_int (k := .i64) (m := (a0.fName.length : Int)) (n := 60) rfl rfl rfl rfl rfl rfl) ?_
    refine rpf hb1 ?_
    refine reg_nil ?_
    cases hF
    exact post_cut _ rfl (imps [0] ⟨by kernel_rfl, by kernel_rfl, by kernel_rfl, trivial⟩ ⟨by kernel_rfl, trivial⟩)
  rintro _ rfl
  have hF := hK4
  clear hK4
  refine post_next ?_
  rcases ite_some hF with ⟨hb5, hF⟩ | ⟨hb5, hF⟩
  · refine aw_cond_t rfl hb5 ?_
    refine aw_seq ?_
    refine aw_region ?_
    obtain ⟨y6, h7, hF⟩ := bind_some hF
    refine rgp (op_call 1 rfl (caps := []) (args := []) (rs := [.p (.bool y6)]) rfl rfl rfl Tryd_cal_6 (law42_awake_ok h7) rfl rfl rfl) ?_
    refine ras ?_
    refine reg_nil ?_
    refine post_imp (s' := ⟨52, [(4, some (.pv (.bool y6)))], [], 0, [], [], 0, []⟩) (imps [] ⟨by kernel_rfl, trivial⟩ trivial) ?_
    refine post_next ?_
    refine aw_ret ?_
    refine post_then_ret ?_
    obtain rfl := Option.some.inj hF
    exact prt
  refine aw_cond_f rfl hb5 ?_
  refine aw_skip ?_
  refine post_next ?_
  iterate 2 (refine aw_seq ?_)
  refine aw_region ?_
  refine ras ?_
  refine reg_nil ?_
  refine post_imp (s' := ⟨52, [(1, some (.pv (.vs 10 (List.map eGEvent a1)))), (2, some (.lp 0 0)), (5, some (.pv (.int .i64 0)))], [(0, some (.box 27 (bxv (eGEvent a0))))], 1, [], [], 0, []⟩) (imps [0] ⟨by kernel_rfl, by kernel_rfl, by kernel_rfl, trivial⟩ ⟨by kernel_rfl, trivial⟩) ?_
  refine post_next ?_
  obtain ⟨lr35, hF, hK36⟩ := bind_some hF
  refine aw_for ((((a1.length : Int) : Int) - (0)).toNat + 1) (fun s1 => ∃ q, lr35 = .next q ∧ s1 = ⟨52, [(1, some (.pv (.vs 10 (List.map eGEvent a1)))), (2, some (.lp 0 0))], [(0, some (.box 27 (bxv (eGEvent a0))))], 1, [], [], 0, []⟩) ?_ ?_
  · refine rnd_loop (α := Int) (fun q => ⟨52, [(1, some (.pv (.vs 10 (List.map eGEvent a1)))), (2, some (.lp 0 0)), (5, some (.pv (.int .i64 q)))], [(0, some (.box 27 (bxv (eGEvent a0))))], 1, [], [], 0, []⟩) (fun k q => law42_EventText_L1 a1 k q = some lr35) 0 (imps [0] ⟨by kernel_rfl, by kernel_rfl, by kernel_rfl, trivial⟩ ⟨by kernel_rfl, trivial⟩) hF (fun q h => by cases h) ?_
    clear hF
    rintro k x16 hF ih
    refine rnd_succ ?_
    iterate 2 (refine aw_seq ?_)
    refine aw_region ?_
    iterate 2 (refine rmv ?_)
    refine rgp (op_len_vs (n := a1.length) rfl rfl (List.length_map ..) Tryd_slc_30 rfl rfl) ?_
    refine rgp (op_int (k := .i64) (m := x16) (n := (a1.length : Int)) rfl rfl rfl rfl rfl rfl) ?_
    refine reg_nil ?_
    refine post_imp (s' := ⟨52, [(1, some (.pv (.vs 10 (List.map eGEvent a1)))), (2, some (.lp 0 0)), (5, some (.pv (.int .i64 x16))), (19, some (.pv (.bool (decide (x16 < (a1.length : Int))))))], [(0, some (.box 27 (bxv (eGEvent a0))))], 1, [], [], 0, []⟩) (imps [0] ⟨by kernel_rfl, by kernel_rfl, by kernel_rfl, by kernel_rfl, trivial⟩ ⟨by kernel_rfl, trivial⟩) ?_
    refine post_next ?_
    rcases ite_some hF with ⟨hb26, hF⟩ | ⟨hb26, hF⟩
    · refine aw_cond_t rfl hb26 ?_
      refine aw_skip ?_
      refine post_next ?_
      refine aw_seq ?_
      refine aw_block ?_
      refine aw_seq ?_
      refine aw_region ?_
      iterate 2 (refine rmv ?_)
      obtain ⟨y29, h30, hF⟩ := bind_some hF
      refine rgp (op_index_vs (k := .i64) rfl rfl rfl (idx_map eGEvent h30) Tryd_slc_30 rfl rfl) ?_
      refine rgp (op_field_vp rfl rfl Tryd_fld_27_3 rfl rfl) ?_
      refine rgp (op_load_vp (p := .str y29.fName) rfl rfl rfl Tryd_one_9 rfl rfl) ?_
      refine rgp (op_len_str rfl rfl Tryd_und_9 rfl rfl) ?_
      refine rgp (op_int (k := .i64) (m := (y29.fName.length : Int)) (n := 60) rfl rfl rfl rfl rfl rfl) ?_
      refine reg_nil ?_
      refine post_imp (s' := ⟨52, [(1, some (.pv (.vs 10 (List.map eGEvent a1)))), (2, some (.lp 0 0)), (5, some (.pv (.int .i64 x16))), (28, some (.pv (.bool (decide ((y29.fName.length : Int) > 60)))))], [(0, some (.box 27 (bxv (eGEvent a0))))], 1, [], [], 0, []⟩) (imps [0] ⟨by kernel_rfl, by kernel_rfl, by kernel_rfl, by kernel_rfl, trivial⟩ ⟨by kernel_rfl, trivial⟩) ?_
      refine post_next ?_
      rcases ite_some hF with ⟨hb31, hF⟩ | ⟨hb31, hF⟩
      · refine aw_cond_t rfl hb31 ?_
        refine aw_seq ?_
        refine aw_region ?_
        obtain ⟨y32, h33, hF⟩ := bind_some hF
        refine rgp (op_call 1 rfl (caps := []) (args := []) (rs := [.p (.bool y32)]) rfl rfl rfl Tryd_cal_6 (law42_awake_ok h33) rfl rfl rfl) ?_
        refine ras ?_
        refine reg_nil ?_
        refine post_imp (s' := ⟨52, [(4, some (.pv (.bool y32)))], [], 0, [], [], 0, []⟩) (imps [] ⟨by kernel_rfl, trivial⟩ trivial) ?_
        refine post_next ?_
        refine aw_ret ?_
        refine post_block_ret ?_
        iterate 2 (refine post_then_ret ?_)
        refine post_lp_ret ?_
        obtain rfl := Option.some.inj hF
        have hF := elim_stop hK36
        refine post_then_ret ?_
        obtain rfl := Option.some.inj hF
        exact prt
      refine aw_cond_f rfl hb31 ?_
      refine aw_skip ?_
      refine post_block_normal ?_
      refine post_next ?_
      refine aw_region ?_
      refine rmv ?_
      refine rgp (op_int (k := .i64) (m := x16) (n := 1) rfl rfl rfl rfl rfl rfl) ?_
      refine ras ?_
      refine reg_nil ?_
      refine post_round ?_
      exact rnd_back (ih (w_i64 (x16 + 1)) hF) (imps [0] ⟨by kernel_rfl, by kernel_rfl, by kernel_rfl, trivial⟩ ⟨by kernel_rfl, trivial⟩)
    refine aw_cond_f rfl hb26 ?_
    refine aw_exit ?_
    iterate 2 (refine post_then_exit ?_)
    obtain rfl := Option.some.inj hF
    exact post_lp_break _ ⟨_, rfl, rfl⟩ (imps [0] ⟨by kernel_rfl, by kernel_rfl, trivial⟩ ⟨by kernel_rfl, trivial⟩)
  rintro _ ⟨⟨⟩, rfl, rfl⟩
  have hF := elim_next hK36
  clear hK36
  refine post_next ?_
  refine aw_seq ?_
  refine dr_start ⟨_, _, _⟩ rfl ?_
  refine dr_cons { need := [(2, .lp 0 0)], hneed := [(0, .box 27 (bxv (eGEvent a0)))], dst := some 30, val := some (.pv (.agg (eGEvent a0))) } (fun m h => step_on (guard_no rfl) (op_load_lp_agg (ps := eGEvent a0) rfl h.1.1 h.2.1.1 rfl rfl rfl Tryd_agg_27 rfl rfl) rfl) ⟨⟨rfl, trivial⟩, ⟨rfl, trivial⟩, trivial⟩ ?_
  obtain ⟨y37, h38, hF⟩ := bind_some hF
  refine dr_cons { need := [(30, .pv (.agg (eGEvent a0)))], dst := some 31, val := some (.pv (.bool y37)) } (fun m h => step_on (guard_no rfl) (op_call 1 rfl (caps := []) (args := [.agg (eGEvent a0)]) (rs := [.p (.bool y37)]) rfl rfl (evl_cons h.1.1 evl_nil) Tryd_cal_12 (event_Right_ok h38) rfl rfl rfl) rfl) ⟨⟨rfl, trivial⟩, trivial, trivial⟩ ?_
  refine dr_cons { need := [(2, .lp 0 0)], hneed := [(0, .box 27 (bxv (eGEvent a0)))], dst := some 32, val := some (.pv (.agg (eGEvent a0))) } (fun m h => step_on (guard_no rfl) (op_load_lp_agg (ps := eGEvent a0) rfl h.1.1 h.2.1.1 rfl rfl rfl Tryd_agg_27 rfl rfl) rfl) ⟨⟨rfl, trivial⟩, ⟨rfl, trivial⟩, trivial⟩ ?_
  obtain ⟨y39, h40, hF⟩ := bind_some hF
  refine dr_cons { need := [(32, .pv (.agg (eGEvent a0)))], dst := some 33, val := some (.pv (.bool y39)) } (fun m h => step_on (guard_no rfl) (op_call 1 rfl (caps := []) (args := [.agg (eGEvent a0)]) (rs := [.p (.bool y39)]) rfl rfl (evl_cons h.1.1 evl_nil) Tryd_cal_13 (ref42_Right_ok h40) rfl rfl rfl) rfl) ⟨⟨rfl, trivial⟩, trivial, trivial⟩ ?_
  refine dr_cons { need := [(31, .pv (.bool y37)), (33, .pv (.bool y39))], dst := some 34, val := some (.pv (.bool (y37 == y39))) } (fun m h => step_on (guard_no rfl) (op_eqBool_eql rfl h.1.1 h.1.2.1 Tryd_und_4 rfl rfl) rfl) ⟨⟨rfl, rfl, trivial⟩, trivial, trivial⟩ ?_
  refine drm ?_
  rcases ite_some hF with ⟨hb41, hF⟩ | ⟨hb41, hF⟩
  · refine dr_cons { need := [(35, .pv (.bool (y37 == y39))), (2, .lp 0 0)], hneed := [(0, .box 27 (bxv (eGEvent a0)))], dst := some 36, val := some (.pv (.agg (eGEvent a0))) } (fun m h => step_on (guard_on rfl rfl rfl h.1.1 hb41) (op_load_lp_agg (ps := eGEvent a0) rfl h.1.2.1 h.2.1.1 rfl rfl rfl Tryd_agg_27 rfl rfl) rfl) ⟨⟨rfl, rfl, trivial⟩, ⟨rfl, trivial⟩, trivial⟩ ?_
    obtain ⟨y42, h43, hF⟩ := bind_some hF
    refine dr_cons { need := [(35, .pv (.bool (y37 == y39))), (36, .pv (.agg (eGEvent a0)))], dst := some 37, val := some (.pv (.str y42)) } (fun m h => step_on (guard_on rfl rfl rfl h.1.1 hb41) (op_call 1 rfl (caps := []) (args := [.agg (eGEvent a0)]) (rs := [.p (.str y42)]) rfl rfl (evl_cons h.1.2.1 evl_nil) Tryd_cal_14 (event_Text_ok h43) rfl rfl rfl) rfl) ⟨⟨rfl, rfl, trivial⟩, trivial, trivial⟩ ?_
    refine dr_cons { need := [(35, .pv (.bool (y37 == y39))), (2, .lp 0 0)], hneed := [(0, .box 27 (bxv (eGEvent a0)))], dst := some 38, val := some (.pv (.agg (eGEvent a0))) } (fun m h => step_on (guard_on rfl rfl rfl h.1.1 hb41) (op_load_lp_agg (ps := eGEvent a0) rfl h.1.2.1 h.2.1.1 rfl rfl rfl Tryd_agg_27 rfl rfl) rfl) ⟨⟨rfl, rfl, trivial⟩, ⟨rfl, trivial⟩, trivial⟩ ?_
    obtain ⟨y44, h45, hF⟩ := bind_some hF
    refine dr_cons { need := [(35, .pv (.bool (y37 == y39))), (38, .pv (.agg (eGEvent a0)))], dst := some 39, val := some (.pv (.str y44)) } (fun m h => step_on (guard_on rfl rfl rfl h.1.1 hb41) (op_call 1 rfl (caps := []) (args := [.agg (eGEvent a0)]) (rs := [.p (.str y44)]) rfl rfl (evl_cons h.1.2.1 evl_nil) Tryd_cal_15 (ref42_Text_ok h45) rfl rfl rfl) rfl) ⟨⟨rfl, rfl, trivial⟩, trivial, trivial⟩ ?_
    refine dr_cons { need := [(35, .pv (.bool (y37 == y39))), (37, .pv (.str y42)), (39, .pv (.str y44))], dst := some 40, val := some (.pv (.bool (y42 == y44))) } (fun m h => step_on (guard_on rfl rfl rfl h.1.1 hb41) (op_str rfl h.1.2.1 h.1.2.2.1 rfl rfl rfl) rfl) ⟨⟨rfl, rfl, rfl, trivial⟩, trivial, trivial⟩ ?_
    refine dr_cons { need := [(35, .pv (.bool (y37 == y39))), (40, .pv (.bool (y42 == y44)))], dst := some 41, val := some (.pv (.bool (y42 == y44))) } (fun m h => step_on (guard_no rfl) (op_pick_t rfl h.1.1 hb41 h.1.2.1 rfl rfl) rfl) ⟨⟨rfl, rfl, trivial⟩, trivial, trivial⟩ ?_
    refine drm ?_
    rcases ite_some hF with ⟨hb46, hF⟩ | ⟨hb46, hF⟩
    · refine dr_cons { need := [(42, .pv (.bool (y42 == y44))), (1, .pv (.vs 10 (List.map eGEvent a1)))], dst := some 43, val := some (.pv (.vs 10 (List.map eGEvent a1))) } (fun m h => step_on (guard_on rfl rfl rfl h.1.1 hb46) (op_move rfl h.1.2.1 rfl rfl) rfl) ⟨⟨rfl, rfl, trivial⟩, trivial, trivial⟩ ?_
      obtain ⟨y47, h48, hF⟩ := bind_some hF
      refine dr_cons { need := [(42, .pv (.bool (y42 == y44))), (43, .pv (.vs 10 (List.map eGEvent a1)))], dst := some 44, val := some (.pv (.str y47)) } (fun m h => step_on (guard_on rfl rfl rfl h.1.1 hb46) (op_call 1 rfl (caps := []) (args := [.vs 10 (List.map eGEvent a1)]) (rs := [.p (.str y47)]) rfl rfl (evl_cons h.1.2.1 evl_nil) Tryd_cal_16 (event_All_ok h48) rfl rfl rfl) rfl) ⟨⟨rfl, rfl, trivial⟩, trivial, trivial⟩ ?_
      refine dr_cons { need := [(42, .pv (.bool (y42 == y44))), (1, .pv (.vs 10 (List.map eGEvent a1)))], dst := some 45, val := some (.pv (.vs 10 (List.map eGEvent a1))) } (fun m h => step_on (guard_on rfl rfl rfl h.1.1 hb46) (op_move rfl h.1.2.1 rfl rfl) rfl) ⟨⟨rfl, rfl, trivial⟩, trivial, trivial⟩ ?_
      obtain ⟨y49, h50, hF⟩ := bind_some hF
      refine dr_cons { need := [(42, .pv (.bool (y42 == y44))), (45, .pv (.vs 10 (List.map eGEvent a1)))], dst := some 46, val := some (.pv (.str y49)) } (fun m h => step_on (guard_on rfl rfl rfl h.1.1 hb46) (op_call 1 rfl (caps := []) (args := [.vs 10 (List.map eGEvent a1)]) (rs := [.p (.str y49)]) rfl rfl (evl_cons h.1.2.1 evl_nil) Tryd_cal_17 (ref42_All_ok h50) rfl rfl rfl) rfl) ⟨⟨rfl, rfl, trivial⟩, trivial, trivial⟩ ?_
      refine dr_cons { need := [(42, .pv (.bool (y42 == y44))), (44, .pv (.str y47)), (46, .pv (.str y49))], dst := some 47, val := some (.pv (.bool (y47 == y49))) } (fun m h => step_on (guard_on rfl rfl rfl h.1.1 hb46) (op_str rfl h.1.2.1 h.1.2.2.1 rfl rfl rfl) rfl) ⟨⟨rfl, rfl, rfl, trivial⟩, trivial, trivial⟩ ?_
      refine dr_cons { need := [(42, .pv (.bool (y42 == y44))), (47, .pv (.bool (y47 == y49)))], dst := some 48, val := some (.pv (.bool (y47 == y49))) } (fun m h => step_on (guard_no rfl) (op_pick_t rfl h.1.1 hb46 h.1.2.1 rfl rfl) rfl) ⟨⟨rfl, rfl, trivial⟩, trivial, trivial⟩ ?_
      refine drm ?_
      rcases ite_some hF with ⟨hb51, hF⟩ | ⟨hb51, hF⟩
      · obtain ⟨y52, h53, hF⟩ := bind_some hF
        refine dr_cons { need := [(49, .pv (.bool (y47 == y49)))], dst := some 50, val := some (.pv (.bool y52)) } (fun m h => step_on (guard_on rfl rfl rfl h.1.1 hb51) (op_call 1 rfl (caps := []) (args := []) (rs := [.p (.bool y52)]) rfl rfl evl_nil Tryd_cal_6 (law42_awake_ok h53) rfl rfl rfl) rfl) ⟨⟨rfl, trivial⟩, trivial, trivial⟩ ?_
        refine dr_cons { need := [(49, .pv (.bool (y47 == y49))), (50, .pv (.bool y52))], dst := some 51, val := some (.pv (.bool y52)) } (fun m h => step_on (guard_no rfl) (op_pick_t rfl h.1.1 hb51 h.1.2.1 rfl rfl) rfl) ⟨⟨rfl, rfl, trivial⟩, trivial, trivial⟩ ?_
        refine dr_cons { need := [(51, .pv (.bool y52))], dst := some 4, val := some (.pv (.bool y52)) } (fun m h => step_on (guard_no rfl) (op_assign rfl h.1.1 rfl rfl) rfl) ⟨⟨rfl, trivial⟩, trivial, trivial⟩ ?_
        refine dr_nil Tryd_mixed rfl (by kernel_rfl) ?_
        refine post_imp (s' := ⟨52, [(4, some (.pv (.bool y52)))], [], 0, [], [], 0, []⟩) (imps [] ⟨by kernel_rfl, trivial⟩ trivial) ?_
        refine post_next ?_
        refine aw_ret ?_
        obtain rfl := Option.some.inj hF
        exact prt
      refine dro_f hb51 ?_
      refine drpf hb51 ?_
      refine dr_cons law42_EventText_e199 (fun m h => step_on (guard_no rfl) (op_assign rfl h.1.1 rfl rfl) rfl) ⟨⟨rfl, trivial⟩, trivial, trivial⟩ ?_
      refine dr_nil Tryd_mixed rfl (by kernel_rfl) ?_
      refine post_imp (s' := ⟨52, [(4, some (.pv (.bool false)))], [], 0, [], [], 0, []⟩) (imps [] ⟨by kernel_rfl, trivial⟩ trivial) ?_
      refine post_next ?_
      refine aw_ret ?_
      obtain rfl := Option.some.inj hF
      exact prt
    iterate 5 (refine dro_f hb46 ?_)
    refine drpf hb46 ?_
    refine drm ?_
    refine dro_f rfl ?_
    refine drpf rfl ?_
    refine dr_cons law42_EventText_e199 (fun m h => step_on (guard_no rfl) (op_assign rfl h.1.1 rfl rfl) rfl) ⟨⟨rfl, trivial⟩, trivial, trivial⟩ ?_
    refine dr_nil Tryd_mixed rfl (by kernel_rfl) ?_
    refine post_imp (s' := ⟨52, [(4, some (.pv (.bool false)))], [], 0, [], [], 0, []⟩) (imps [] ⟨by kernel_rfl, trivial⟩ trivial) ?_
    refine post_next ?_
    refine aw_ret ?_
    obtain rfl := Option.some.inj hF
    exact prt
  iterate 5 (refine dro_f hb41 ?_)
  refine drpf hb41 ?_
  refine drm ?_
  iterate 5 (refine dro_f rfl ?_)
  refine drpf rfl ?_
  refine drm ?_
  refine dro_f rfl ?_
  refine drpf rfl ?_
  refine dr_cons law42_EventText_e199 (fun m h => step_on (guard_no rfl) (op_assign rfl h.1.1 rfl rfl) rfl) ⟨⟨rfl, trivial⟩, trivial, trivial⟩ ?_
  refine dr_nil Tryd_mixed rfl (by kernel_rfl) ?_
  refine post_imp (s' := ⟨52, [(4, some (.pv (.bool false)))], [], 0, [], [], 0, []⟩) (imps [] ⟨by kernel_rfl, trivial⟩ trivial) ?_
  refine post_next ?_
  refine aw_ret ?_
  obtain rfl := Option.some.inj hF
  exact prt
end Go.Proofs.YtccladleehbmhaaDoor
