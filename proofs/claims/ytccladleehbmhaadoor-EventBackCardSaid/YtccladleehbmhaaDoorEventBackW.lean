/- A part of the proof that the law EventBack gives true for every input. -/
import Derived.Test.YtccladleehbmhaaDoorEventBackT
import Derived.Test.YtccladleehbmhaaDoorEventBackB
import Derived.Test.YtccladleehbmhaaDoorEventBackS
import Derived.Test.YtccladleehbmhaaDoorEventBackX
import Derived.Test.YtccladleehbmhaaDoorEventBackW1
/- Each Go function computes its plain function. -/
namespace Go.Proofs.YtccladleehbmhaaDoor
open Go.RowKit Go.Abs
set_option maxRecDepth 100000
set_option maxHeartbeats 4000000
theorem ref42_Lines_ok {a0 : List UInt8} {r : (List GEvent) × Int} (hF : ref42_Lines a0 = some r) : Abs.Fn globs_Tryd Tryd.prog 10 [.str a0] [.own 27 10 (List.map eGEvent r.1), .p (.int .i64 r.2)] := by
  unfold ref42_Lines at hF
  refine fn_of_body (n := 44) Tryd.func10 rfl rfl rfl ?_
  intro w O
  refine aw_seq ?_
  refine aw_region ?_
  iterate 2 (refine ras ?_)
  refine reg_nil ?_
  refine post_imp (s' := ⟨44, [(0, some (.pv (.str a0)))], [], 0, [], [], 0, []⟩) (imps [] ⟨by kernel_rfl, trivial⟩ trivial) ?_
  refine post_next ?_
  refine aw_seq ?_
  refine aw_region ?_
  refine ras ?_
  refine reg_imp (imp_nil_own 4 27 10 0 rfl rfl) ?_
  refine reg_nil ?_
  refine post_imp (s' := ⟨44, [(0, some (.pv (.str a0))), (4, some (.ls 0))], [(0, some (.row 27 10 (List.map eGEvent [])))], 1, [], [], 0, []⟩) (imps [0] ⟨by kernel_rfl, by kernel_rfl, trivial⟩ ⟨by kernel_rfl, trivial⟩) ?_
  refine post_next ?_
  refine aw_seq ?_
  refine aw_region ?_
  refine ras ?_
  refine reg_nil ?_
  refine post_imp (s' := ⟨44, [(0, some (.pv (.str a0))), (4, some (.ls 0)), (5, some (.pv (.str [])))], [(0, some (.row 27 10 (List.map eGEvent [])))], 1, [], [], 0, []⟩) (imps [0] ⟨by kernel_rfl, by kernel_rfl, by kernel_rfl, trivial⟩ ⟨by kernel_rfl, trivial⟩) ?_
  refine post_next ?_
  iterate 2 (refine aw_seq ?_)
  refine aw_region ?_
  refine ras ?_
  refine reg_nil ?_
  refine post_imp (s' := ⟨44, [(0, some (.pv (.str a0))), (4, some (.ls 0)), (5, some (.pv (.str []))), (6, some (.pv (.int .i64 0)))], [(0, some (.row 27 10 (List.map eGEvent [])))], 1, [], [], 0, []⟩) (imps [0] ⟨by kernel_rfl, by kernel_rfl, by kernel_rfl, by kernel_rfl, trivial⟩ ⟨by kernel_rfl, trivial⟩) ?_
  refine post_next ?_
  obtain ⟨lr87, hF, hK88⟩ := bind_some hF
  refine aw_for ((((a0.length : Int) : Int) - (0)).toNat + 1) (fun s1 => ∃ q, lr87 = .next q ∧ s1 = ⟨44, [(4, some (.ls 0)), (5, some (.pv (.str q.2)))], [(0, some (.row 27 10 (List.map eGEvent q.1)))], 1, [], [], 0, []⟩) ?_ ?_
  · refine rnd_loop (α := (List GEvent) × (List UInt8) × Int) (fun q => ⟨44, [(0, some (.pv (.str a0))), (4, some (.ls 0)), (5, some (.pv (.str q.2.1))), (6, some (.pv (.int .i64 q.2.2)))], [(0, some (.row 27 10 (List.map eGEvent q.1)))], 1, [], [], 0, []⟩) (fun k q => ref42_Lines_L1 a0 k q.1 q.2.1 q.2.2 = some lr87) ([], [], 0) (imps [0] ⟨by kernel_rfl, by kernel_rfl, by kernel_rfl, by kernel_rfl, trivial⟩ ⟨by kernel_rfl, trivial⟩) hF (fun q h => by cases h) ?_
    clear hF
    rintro k ⟨x26, x27, x28⟩ hF ih
    refine rnd_succ ?_
    iterate 2 (refine aw_seq ?_)
    refine aw_region ?_
    iterate 2 (refine rmv ?_)
    refine rgp (op_len_str rfl rfl Tryd_und_9 rfl rfl) ?_
    refine rgp (op_int (k := .i64) (m := x28) (n := (a0.length : Int)) rfl rfl rfl rfl rfl rfl) ?_
    refine reg_nil ?_
    refine post_imp (s' := ⟨44, [(0, some (.pv (.str a0))), (4, some (.ls 0)), (5, some (.pv (.str x27))), (6, some (.pv (.int .i64 x28))), (12, some (.pv (.bool (decide (x28 < (a0.length : Int))))))], [(0, some (.row 27 10 (List.map eGEvent x26)))], 1, [], [], 0, []⟩) (imps [0] ⟨by kernel_rfl, by kernel_rfl, by kernel_rfl, by kernel_rfl, by kernel_rfl, trivial⟩ ⟨by kernel_rfl, trivial⟩) ?_
    refine post_next ?_
    rcases ite_some hF with ⟨hb57, hF⟩ | ⟨hb57, hF⟩
    · refine aw_cond_t rfl hb57 ?_
      refine aw_skip ?_
      refine post_next ?_
      refine aw_seq ?_
      refine aw_join hF (fun q => ⟨44, [(0, some (.pv (.str a0))), (4, some (.ls 0)), (5, some (.pv (.str q.2))), (6, some (.pv (.int .i64 x28)))], [(0, some (.row 27 10 (List.map eGEvent q.1)))], 1, [], [], 0, []⟩) ?_ ?_
      · refine aw_block ?_
        iterate 2 (refine aw_seq ?_)
        refine aw_region ?_
        iterate 2 (refine rmv ?_)
        obtain ⟨y60, h61, hF⟩ := go_bind hF
        refine rgp (op_index_str (k := .i64) rfl rfl rfl h61 Tryd_und_9 rfl rfl) ?_
        refine rgp (op_int (k := .u8) (m := (y60.toNat : Int)) (n := 10) rfl rfl rfl rfl rfl rfl) ?_
        refine reg_nil ?_
        refine post_imp (s' := ⟨44, [(0, some (.pv (.str a0))), (4, some (.ls 0)), (5, some (.pv (.str x27))), (6, some (.pv (.int .i64 x28))), (18, some (.pv (.bool ((y60.toNat : Int) != 10))))], [(0, some (.row 27 10 (List.map eGEvent x26)))], 1, [], [], 0, []⟩) (imps [0] ⟨by kernel_rfl, by kernel_rfl, by kernel_rfl, by kernel_rfl, by kernel_rfl, trivial⟩ ⟨by kernel_rfl, trivial⟩) ?_
        refine post_next ?_
        rcases go_ite hF with ⟨hb62, hF⟩ | ⟨hb62, hF⟩
        · refine aw_cond_t rfl hb62 ?_
          refine aw_seq ?_
          refine aw_region ?_
          iterate 4 (refine rmv ?_)
          refine rgp (op_int (k := .i64) (m := x28) (n := 1) rfl rfl rfl rfl rfl rfl) ?_
          obtain ⟨y67, h68, hF⟩ := go_bind hF
          refine rgp (op_slice_str (nl := (some x28)) (nh := (some (w_i64 (x28 + 1)))) rfl rfl rfl rfl Tryd_und_9 h68 rfl rfl) ?_
          obtain ⟨u69, h70, hF⟩ := go_bind hF
          refine rgp (op_concat rfl rfl rfl (room_str h70) rfl rfl) ?_
          refine ras ?_
          refine reg_nil ?_
          refine post_imp (s' := ⟨44, [(0, some (.pv (.str a0))), (4, some (.ls 0)), (5, some (.pv (.str (x27 ++ y67)))), (6, some (.pv (.int .i64 x28)))], [(0, some (.row 27 10 (List.map eGEvent x26)))], 1, [], [], 0, []⟩) (imps [0] ⟨by kernel_rfl, by kernel_rfl, by kernel_rfl, by kernel_rfl, trivial⟩ ⟨by kernel_rfl, trivial⟩) ?_
          refine post_next ?_
          refine aw_exit ?_
          refine post_then_exit ?_
          refine post_block_exit ?_
          exact post_cut _ ⟨(x26, (x27 ++ y67)), rfl, hF⟩ (imps [0] ⟨by kernel_rfl, by kernel_rfl, by kernel_rfl, by kernel_rfl, trivial⟩ ⟨by kernel_rfl, trivial⟩)
        refine aw_cond_f rfl hb62 ?_
        refine aw_skip ?_
        refine post_next ?_
        refine aw_seq ?_
        refine aw_region ?_
        refine rmv ?_
        obtain ⟨y73, h74, hF⟩ := go_bind hF
        refine rgp (op_call 1 rfl (caps := []) (args := [.str x27]) (rs := [.p (.agg (eGEvent y73.1)), .p (.bool y73.2)]) rfl rfl rfl Tryd_cal_8 (ref42_Read_ok h74) rfl rfl rfl) ?_
        refine rmv ?_
        iterate 2 (refine rgp (op_extract rfl rfl rfl rfl rfl) ?_)
        refine rgp (op_alloc 1 rfl (ps := (eGEvent zGEvent)) rfl Tryd_zer_27 (by exact ⟨rfl, rfl, rfl, rfl, rfl, rfl, rfl, rfl, rfl, rfl, trivial⟩) rfl rfl) ?_
        refine rgp (op_store_lp (n := 10) rfl rfl rfl rfl rfl (or_agg Tryd_agg_27) (by rw [Tryd_non_27]; rfl) rfl rfl rfl) ?_
        refine ras ?_
        refine reg_nil ?_
        refine post_imp (s' := ⟨44, [(0, some (.pv (.str a0))), (4, some (.ls 0)), (6, some (.pv (.int .i64 x28))), (7, some (.lp 1 0)), (8, some (.pv (.bool y73.2)))], [(0, some (.row 27 10 (List.map eGEvent x26))), (1, some (.box 27 (bxv (eGEvent y73.1))))], 2, [], [], 0, []⟩) (imps [0, 1] ⟨by kernel_rfl, by kernel_rfl, by kernel_rfl, by kernel_rfl, by kernel_rfl, trivial⟩ ⟨by kernel_rfl, by kernel_rfl, trivial⟩) ?_
        refine post_next ?_
        iterate 2 (refine aw_seq ?_)
        refine aw_region ?_
        refine rmv ?_
        refine rgp (op_not rfl rfl rfl rfl) ?_
        refine reg_nil ?_
        refine post_imp (s' := ⟨44, [(0, some (.pv (.str a0))), (4, some (.ls 0)), (6, some (.pv (.int .i64 x28))), (7, some (.lp 1 0)), (32, some (.pv (.bool (!y73.2))))], [(0, some (.row 27 10 (List.map eGEvent x26))), (1, some (.box 27 (bxv (eGEvent y73.1))))], 2, [], [], 0, []⟩) (imps [0, 1] ⟨by kernel_rfl, by kernel_rfl, by kernel_rfl, by kernel_rfl, by kernel_rfl, trivial⟩ ⟨by kernel_rfl, by kernel_rfl, trivial⟩) ?_
        refine post_next ?_
        rcases go_ite hF with ⟨hb75, hF⟩ | ⟨hb75, hF⟩
        · refine aw_cond_t rfl hb75 ?_
          refine aw_seq ?_
          refine aw_region ?_
          refine rmv ?_
          refine rgp (op_len_ls (n := x26.length) rfl rfl rfl (List.length_map ..) Tryd_slc_30 rfl rfl) ?_
          iterate 2 (refine ras ?_)
          refine reg_nil ?_
          refine post_imp (s' := ⟨44, [(2, some (.pv .nils)), (3, some (.pv (.int .i64 (x26.length : Int))))], [], 0, [], [], 0, []⟩) (imps [] ⟨by kernel_rfl, by kernel_rfl, trivial⟩ trivial) ?_
          refine post_next ?_
          refine aw_ret ?_
          refine post_then_ret ?_
          refine post_block_ret ?_
          refine post_cut_ret ?_
          replace hF := go_stop hF
          iterate 2 (refine post_then_ret ?_)
          refine post_lp_ret ?_
          obtain rfl := Option.some.inj hF
          have hF := elim_stop hK88
          refine post_then_ret ?_
          refine post_imp (imp_nil_own 2 27 10 0 rfl rfl) ?_
          obtain rfl := Option.some.inj hF
          exact post_ret rfl rfl (.cons _ _ _ _ _ (.tmp _ _ rfl) (.own _ _ _ _ rfl nolent3) (.cons _ _ _ _ _ (.tmp _ _ rfl) (.p _) .nil)) (.inl rfl)
        refine aw_cond_f rfl hb75 ?_
        refine aw_skip ?_
        refine post_next ?_
        refine aw_seq ?_
        refine aw_region ?_
        refine rmv ?_
        refine rgp (op_load_lp_agg (ps := eGEvent y73.1) rfl rfl rfl rfl rfl rfl Tryd_agg_27 rfl rfl) ?_
        refine rgp (op_lit (rows := List.map eGEvent ([y73.1] : List GEvent)) (zs := (eGEvent zGEvent)) rfl rfl Tryd_slc_30 Tryd_zer_27 (by exact ⟨rfl, rfl, rfl, rfl, rfl, rfl, rfl, rfl, rfl, rfl, trivial⟩) rfl rfl rfl rfl rfl rfl rfl rfl) ?_
        obtain ⟨u78, h79, hF⟩ := go_bind hF
        refine rgp (op_append 2 rfl rfl rfl rfl rfl Tryd_slc_30 Tryd_elm_27 Tryd_zer_27 rfl rfl rfl (room_map (f := eGEvent) (g := eGEvent) h79) (List.map_append (f := eGEvent) (l₁ := x26) (l₂ := [y73.1])).symm rfl rfl) ?_
        refine ras ?_
        refine reg_nil ?_
        refine post_imp (s' := ⟨44, [(0, some (.pv (.str a0))), (4, some (.ls 0)), (6, some (.pv (.int .i64 x28)))], [(0, some (.row 27 10 (List.map eGEvent (x26 ++ [y73.1]))))], 1, [], [], 0, []⟩) (imps [2] ⟨by kernel_rfl, by kernel_rfl, by kernel_rfl, trivial⟩ ⟨by kernel_rfl, trivial⟩) ?_
        refine post_next ?_
        refine aw_region ?_
        refine ras ?_
        refine reg_nil ?_
        refine post_imp (s' := ⟨44, [(0, some (.pv (.str a0))), (4, some (.ls 0)), (5, some (.pv (.str []))), (6, some (.pv (.int .i64 x28)))], [(0, some (.row 27 10 (List.map eGEvent (x26 ++ [y73.1]))))], 1, [], [], 0, []⟩) (imps [0] ⟨by kernel_rfl, by kernel_rfl, by kernel_rfl, by kernel_rfl, trivial⟩ ⟨by kernel_rfl, trivial⟩) ?_
        refine post_block_normal ?_
        exact post_cut _ ⟨((x26 ++ [y73.1]), []), rfl, hF⟩ (imps [0] ⟨by kernel_rfl, by kernel_rfl, by kernel_rfl, by kernel_rfl, trivial⟩ ⟨by kernel_rfl, trivial⟩)
      rintro ⟨x80, x81⟩ hF
      refine post_next ?_
      refine aw_region ?_
      refine rmv ?_
      refine rgp (op_int (k := .i64) (m := x28) (n := 1) rfl rfl rfl rfl rfl rfl) ?_
      refine ras ?_
      refine reg_nil ?_
      refine post_round ?_
      exact rnd_back (ih (x80, x81, w_i64 (x28 + 1)) hF) (imps [0] ⟨by kernel_rfl, by kernel_rfl, by kernel_rfl, by kernel_rfl, trivial⟩ ⟨by kernel_rfl, trivial⟩)
    refine aw_cond_f rfl hb57 ?_
    refine aw_exit ?_
    iterate 2 (refine post_then_exit ?_)
    obtain rfl := Option.some.inj hF
    exact post_lp_break _ ⟨_, rfl, rfl⟩ (imps [0] ⟨by kernel_rfl, by kernel_rfl, trivial⟩ ⟨by kernel_rfl, trivial⟩)
  rintro _ ⟨⟨x85, x86⟩, rfl, rfl⟩
  have hF := elim_next hK88
  clear hK88
  refine post_next ?_
  iterate 2 (refine aw_seq ?_)
  refine aw_region ?_
  refine rmv ?_
  refine rgp (op_str rfl rfl rfl rfl rfl rfl) ?_
  refine reg_nil ?_
  refine post_imp (s' := ⟨44, [(4, some (.ls 0)), (40, some (.pv (.bool (!(x86 == [])))))], [(0, some (.row 27 10 (List.map eGEvent x85)))], 1, [], [], 0, []⟩) (imps [0] ⟨by kernel_rfl, by kernel_rfl, trivial⟩ ⟨by kernel_rfl, trivial⟩) ?_
  refine post_next ?_
  rcases ite_some hF with ⟨hb89, hF⟩ | ⟨hb89, hF⟩
  · refine aw_cond_t rfl hb89 ?_
    refine aw_seq ?_
    refine aw_region ?_
    refine rmv ?_
    refine rgp (op_len_ls (n := x85.length) rfl rfl rfl (List.length_map ..) Tryd_slc_30 rfl rfl) ?_
    iterate 2 (refine ras ?_)
    refine reg_nil ?_
    refine post_imp (s' := ⟨44, [(2, some (.pv .nils)), (3, some (.pv (.int .i64 (x85.length : Int))))], [], 0, [], [], 0, []⟩) (imps [] ⟨by kernel_rfl, by kernel_rfl, trivial⟩ trivial) ?_
    refine post_next ?_
    refine aw_ret ?_
    refine post_then_ret ?_
    refine post_imp (imp_nil_own 2 27 10 0 rfl rfl) ?_
    obtain rfl := Option.some.inj hF
    exact post_ret rfl rfl (.cons _ _ _ _ _ (.tmp _ _ rfl) (.own _ _ _ _ rfl nolent3) (.cons _ _ _ _ _ (.tmp _ _ rfl) (.p _) .nil)) (.inl rfl)
  refine aw_cond_f rfl hb89 ?_
  refine aw_skip ?_
  refine post_next ?_
  refine aw_seq ?_
  refine aw_region ?_
  refine rmv ?_
  iterate 2 (refine ras ?_)
  refine reg_nil ?_
  refine post_imp (s' := ⟨44, [(2, some (.ls 0)), (3, some (.pv (.int .i64 (-1))))], [(0, some (.row 27 10 (List.map eGEvent x85)))], 1, [], [], 0, []⟩) (imps [0] ⟨by kernel_rfl, by kernel_rfl, trivial⟩ ⟨by kernel_rfl, trivial⟩) ?_
  refine post_next ?_
  refine aw_ret ?_
  obtain rfl := Option.some.inj hF
  exact post_ret rfl rfl (.cons _ _ _ _ _ (.tmp _ _ rfl) (.own _ _ _ _ rfl nolent3) (.cons _ _ _ _ _ (.tmp _ _ rfl) (.p _) .nil)) (.inl rfl)
theorem law42_EventRead_ok {a0 : List UInt8} {a1 : List UInt8} {r : Bool} (hF : law42_EventRead a0 a1 = some r) : Abs.Fn globs_Tryd Tryd.prog 3 [.str a0, .str a1] [.p (.bool r)] := by
  unfold law42_EventRead at hF
  refine fn_of_body (n := 63) Tryd.func3 rfl rfl rfl ?_
  intro w O
  refine aw_seq ?_
  refine aw_region ?_
  refine ras ?_
  refine reg_nil ?_
  refine post_imp (s' := ⟨63, [(0, some (.pv (.str a0))), (1, some (.pv (.str a1)))], [], 0, [], [], 0, []⟩) (imps [] ⟨by kernel_rfl, by kernel_rfl, trivial⟩ trivial) ?_
  refine post_next ?_
  iterate 2 (refine aw_seq ?_)
  obtain ⟨x2, hF, hK4⟩ := bind_some hF
  refine aw_cut (fun s1 => s1 = ⟨63, [(0, some (.pv (.str a0))), (1, some (.pv (.str a1))), (20, some (.pv (.bool x2)))], [], 0, [], [], 0, []⟩) ?_ ?_
  · refine aw_region ?_
    refine rmv ?_
    refine rgp (op_len_str rfl rfl Tryd_und_9 rfl rfl) ?_
    refine rgp (op_int (k := .i64) (m := (a0.length : Int)) (n := 200) rfl rfl rfl rfl rfl rfl) ?_
    refine rmv ?_
    rcases ite_some hF with ⟨hb1, hF⟩ | ⟨hb1, hF⟩
    · refine rgo_t hb1 ?_
      iterate 2 (refine rgo_t hb1 ?_)
      refine rpt hb1 ?_
      refine reg_nil ?_
      cases hF
      exact post_cut _ rfl (imps [] ⟨by kernel_rfl, by kernel_rfl, by kernel_rfl, trivial⟩ trivial)
    refine rgn hb1 (op_move rfl rfl rfl rfl) ?_
    refine rgn hb1 (op_len_str rfl rfl Tryd_und_9 rfl rfl) ?_
    refine rgn hb1 (op_int (k := .i64) (m := (a1.length : Int)) (n := 600) rfl rfl rfl rfl rfl rfl) ?_
    refine rpf hb1 ?_
    refine reg_nil ?_
    cases hF
    exact post_cut _ rfl (imps [] ⟨by kernel_rfl, by kernel_rfl, by kernel_rfl, trivial⟩ trivial)
  rintro _ rfl
  have hF := hK4
  clear hK4
  refine post_next ?_
  rcases ite_some hF with ⟨hb5, hF⟩ | ⟨hb5, hF⟩
  · refine aw_cond_t rfl hb5 ?_
    refine aw_seq ?_
    refine aw_region ?_
    obtain ⟨y6, h7, hF⟩ := bind_some hF
    refine rgp (op_call 0 rfl (caps := []) (args := []) (rs := [.p (.bool y6)]) rfl rfl rfl Tryd_cal_6 (law42_awake_ok h7) rfl rfl rfl) ?_
    refine ras ?_
    refine reg_nil ?_
    refine post_imp (s' := ⟨63, [(4, some (.pv (.bool y6)))], [], 0, [], [], 0, []⟩) (imps [] ⟨by kernel_rfl, trivial⟩ trivial) ?_
    refine post_next ?_
    refine aw_ret ?_
    refine post_then_ret ?_
    obtain rfl := Option.some.inj hF
    exact prt
  refine aw_cond_f rfl hb5 ?_
  refine aw_skip ?_
  refine post_next ?_
  refine aw_seq ?_
  refine aw_region ?_
  refine rmv ?_
  obtain ⟨y10, h11, hF⟩ := bind_some hF
  refine rgp (op_call 0 rfl (caps := []) (args := [.str a0]) (rs := [.p (.agg (eGEvent y10.1)), .p (.bool y10.2)]) rfl rfl rfl Tryd_cal_7 (event_Read_ok h11) rfl rfl rfl) ?_
  refine rmv ?_
  iterate 2 (refine rgp (op_extract rfl rfl rfl rfl rfl) ?_)
  refine rgp (op_alloc 0 rfl (ps := (eGEvent zGEvent)) rfl Tryd_zer_27 (by exact ⟨rfl, rfl, rfl, rfl, rfl, rfl, rfl, rfl, rfl, rfl, trivial⟩) rfl rfl) ?_
  refine rgp (op_store_lp (n := 10) rfl rfl rfl rfl rfl (or_agg Tryd_agg_27) (by rw [Tryd_non_27]; rfl) rfl rfl rfl) ?_
  refine ras ?_
  refine reg_nil ?_
  refine post_imp (s' := ⟨63, [(0, some (.pv (.str a0))), (1, some (.pv (.str a1))), (5, some (.lp 0 0)), (6, some (.pv (.bool y10.2)))], [(0, some (.box 27 (bxv (eGEvent y10.1))))], 1, [], [], 0, []⟩) (imps [0] ⟨by kernel_rfl, by kernel_rfl, by kernel_rfl, by kernel_rfl, trivial⟩ ⟨by kernel_rfl, trivial⟩) ?_
  refine post_next ?_
  refine aw_seq ?_
  refine aw_region ?_
  refine rmv ?_
  obtain ⟨y14, h15, hF⟩ := bind_some hF
  refine rgp (op_call 1 rfl (caps := []) (args := [.str a0]) (rs := [.p (.agg (eGEvent y14.1)), .p (.bool y14.2)]) rfl rfl rfl Tryd_cal_8 (ref42_Read_ok h15) rfl rfl rfl) ?_
  refine rmv ?_
  iterate 2 (refine rgp (op_extract rfl rfl rfl rfl rfl) ?_)
  refine rgp (op_alloc 1 rfl (ps := (eGEvent zGEvent)) rfl Tryd_zer_27 (by exact ⟨rfl, rfl, rfl, rfl, rfl, rfl, rfl, rfl, rfl, rfl, trivial⟩) rfl rfl) ?_
  refine rgp (op_store_lp (n := 10) rfl rfl rfl rfl rfl (or_agg Tryd_agg_27) (by rw [Tryd_non_27]; rfl) rfl rfl rfl) ?_
  refine ras ?_
  refine reg_nil ?_
  refine post_imp (s' := ⟨63, [(1, some (.pv (.str a1))), (5, some (.lp 0 0)), (6, some (.pv (.bool y10.2))), (7, some (.lp 1 0)), (8, some (.pv (.bool y14.2)))], [(0, some (.box 27 (bxv (eGEvent y10.1)))), (1, some (.box 27 (bxv (eGEvent y14.1))))], 2, [], [], 0, []⟩) (imps [0, 1] ⟨by kernel_rfl, by kernel_rfl, by kernel_rfl, by kernel_rfl, by kernel_rfl, trivial⟩ ⟨by kernel_rfl, by kernel_rfl, trivial⟩) ?_
  refine post_next ?_
  refine aw_seq ?_
  refine aw_region ?_
  refine rmv ?_
  obtain ⟨y18, h19, hF⟩ := bind_some hF
  refine rgp (op_call 2 rfl (caps := []) (args := [.str a1]) (rs := [.p (.vs 10 (List.map eGEvent y18.1)), .p (.int .i64 y18.2)]) rfl rfl rfl Tryd_cal_9 (Fn.frozen (event_Lines_ok h19)) rfl rfl rfl) ?_
  refine rmv ?_
  iterate 2 (refine rgp (op_extract rfl rfl rfl rfl rfl) ?_)
  iterate 2 (refine ras ?_)
  refine reg_nil ?_
  refine post_imp (s' := ⟨63, [(1, some (.pv (.str a1))), (5, some (.lp 0 0)), (6, some (.pv (.bool y10.2))), (7, some (.lp 1 0)), (8, some (.pv (.bool y14.2))), (9, some (.pv (.vs 10 (List.map eGEvent y18.1)))), (10, some (.pv (.int .i64 y18.2)))], [(0, some (.box 27 (bxv (eGEvent y10.1)))), (1, some (.box 27 (bxv (eGEvent y14.1))))], 2, [], [], 0, []⟩) (imps [0, 1] ⟨by kernel_rfl, by kernel_rfl, by kernel_rfl, by kernel_rfl, by kernel_rfl, by kernel_rfl, by kernel_rfl, trivial⟩ ⟨by kernel_rfl, by kernel_rfl, trivial⟩) ?_
  refine post_next ?_
  refine aw_seq ?_
  refine aw_region ?_
  refine rmv ?_
  obtain ⟨y22, h23, hF⟩ := bind_some hF
  refine rgp (op_call 2 rfl (caps := []) (args := [.str a1]) (rs := [.p (.vs 10 (List.map eGEvent y22.1)), .p (.int .i64 y22.2)]) rfl rfl rfl Tryd_cal_10 (Fn.frozen (ref42_Lines_ok h23)) rfl rfl rfl) ?_
  refine rmv ?_
  iterate 2 (refine rgp (op_extract rfl rfl rfl rfl rfl) ?_)
  iterate 2 (refine ras ?_)
  refine reg_nil ?_
  refine post_imp (s' := ⟨63, [(5, some (.lp 0 0)), (6, some (.pv (.bool y10.2))), (7, some (.lp 1 0)), (8, some (.pv (.bool y14.2))), (9, some (.pv (.vs 10 (List.map eGEvent y18.1)))), (10, some (.pv (.int .i64 y18.2))), (11, some (.pv (.vs 10 (List.map eGEvent y22.1)))), (12, some (.pv (.int .i64 y22.2)))], [(0, some (.box 27 (bxv (eGEvent y10.1)))), (1, some (.box 27 (bxv (eGEvent y14.1))))], 2, [], [], 0, []⟩) (imps [0, 1] ⟨by kernel_rfl, by kernel_rfl, by kernel_rfl, by kernel_rfl, by kernel_rfl, by kernel_rfl, by kernel_rfl, by kernel_rfl, trivial⟩ ⟨by kernel_rfl, by kernel_rfl, trivial⟩) ?_
  refine post_next ?_
  refine aw_seq ?_
  refine aw_region ?_
  refine rgp (op_load_lp_agg (ps := eGEvent y10.1) rfl rfl rfl rfl rfl rfl Tryd_agg_27 rfl rfl) ?_
  refine rgp (op_load_lp_agg (ps := eGEvent y14.1) rfl rfl rfl rfl rfl rfl Tryd_agg_27 rfl rfl) ?_
  refine rgp (op_eqAgg_eql (r := bGEvent y10.1 y14.1) rfl rfl rfl Tryd_eqt_27 rfl rfl rfl rfl rfl) ?_
  refine rmv ?_
  rcases ite_some hF with ⟨hb24, hF⟩ | ⟨hb24, hF⟩
  · refine rgn hb24 (op_move rfl rfl rfl rfl) ?_
    refine rgn hb24 (op_move rfl rfl rfl rfl) ?_
    refine rgn hb24 (op_eqBool_eql rfl rfl rfl Tryd_und_4 rfl rfl) ?_
    refine rpt hb24 ?_
    refine rmv ?_
    rcases ite_some hF with ⟨hb25, hF⟩ | ⟨hb25, hF⟩
    · refine rgn hb25 (op_move rfl rfl rfl rfl) ?_
      refine rgn hb25 (op_move rfl rfl rfl rfl) ?_
      obtain ⟨y26, h27, hF⟩ := bind_some hF
      refine rgn hb25 (op_call 2 rfl (caps := []) (args := [.vs 10 (List.map eGEvent y18.1), .vs 10 (List.map eGEvent y22.1)]) (rs := [.p (.bool y26)]) rfl rfl rfl Tryd_cal_11 (law42_same_ok h27) rfl rfl rfl) ?_
      refine rpt hb25 ?_
      refine rmv ?_
      rcases ite_some hF with ⟨hb28, hF⟩ | ⟨hb28, hF⟩
      · refine rgn hb28 (op_move rfl rfl rfl rfl) ?_
        refine rgn hb28 (op_move rfl rfl rfl rfl) ?_
        refine rgn hb28 (op_int (k := .i64) (m := y18.2) (n := y22.2) rfl rfl rfl rfl rfl rfl) ?_
        refine rpt hb28 ?_
        refine rmv ?_
        rcases ite_some hF with ⟨hb29, hF⟩ | ⟨hb29, hF⟩
        · obtain ⟨y30, h31, hF⟩ := bind_some hF
          refine rgn hb29 (op_call 2 rfl (caps := []) (args := []) (rs := [.p (.bool y30)]) rfl rfl rfl Tryd_cal_6 (law42_awake_ok h31) rfl rfl rfl) ?_
          refine rpt hb29 ?_
          refine ras ?_
          refine reg_nil ?_
          refine post_imp (s' := ⟨63, [(4, some (.pv (.bool y30)))], [], 0, [], [], 0, []⟩) (imps [] ⟨by kernel_rfl, trivial⟩ trivial) ?_
          refine post_next ?_
          refine aw_ret ?_
          obtain rfl := Option.some.inj hF
          exact prt
        refine rgo_f hb29 ?_
        refine rpf hb29 ?_
        refine ras ?_
        refine reg_nil ?_
        refine post_imp (s' := ⟨63, [(4, some (.pv (.bool false)))], [], 0, [], [], 0, []⟩) (imps [] ⟨by kernel_rfl, trivial⟩ trivial) ?_
        refine post_next ?_
        refine aw_ret ?_
        obtain rfl := Option.some.inj hF
        exact prt
      iterate 3 (refine rgo_f hb28 ?_)
      refine rpf hb28 ?_
      refine rmv ?_
      refine rgo_f rfl ?_
      refine rpf rfl ?_
      refine ras ?_
      refine reg_nil ?_
      refine post_imp (s' := ⟨63, [(4, some (.pv (.bool false)))], [], 0, [], [], 0, []⟩) (imps [] ⟨by kernel_rfl, trivial⟩ trivial) ?_
      refine post_next ?_
      refine aw_ret ?_
      obtain rfl := Option.some.inj hF
      exact prt
    iterate 3 (refine rgo_f hb25 ?_)
    refine rpf hb25 ?_
    refine rmv ?_
    iterate 3 (refine rgo_f rfl ?_)
    refine rpf rfl ?_
    refine rmv ?_
    refine rgo_f rfl ?_
    refine rpf rfl ?_
    refine ras ?_
    refine reg_nil ?_
    refine post_imp (s' := ⟨63, [(4, some (.pv (.bool false)))], [], 0, [], [], 0, []⟩) (imps [] ⟨by kernel_rfl, trivial⟩ trivial) ?_
    refine post_next ?_
    refine aw_ret ?_
    obtain rfl := Option.some.inj hF
    exact prt
  iterate 3 (refine rgo_f hb24 ?_)
  refine rpf hb24 ?_
  refine rmv ?_
  iterate 3 (refine rgo_f rfl ?_)
  refine rpf rfl ?_
  refine rmv ?_
  iterate 3 (refine rgo_f rfl ?_)
  refine rpf rfl ?_
  refine rmv ?_
  refine rgo_f rfl ?_
  refine rpf rfl ?_
  refine ras ?_
  refine reg_nil ?_
  refine post_imp (s' := ⟨63, [(4, some (.pv (.bool false)))], [], 0, [], [], 0, []⟩) (imps [] ⟨by kernel_rfl, trivial⟩ trivial) ?_
  refine post_next ?_
  refine aw_ret ?_
  obtain rfl := Option.some.inj hF
  exact prt
end Go.Proofs.YtccladleehbmhaaDoor
