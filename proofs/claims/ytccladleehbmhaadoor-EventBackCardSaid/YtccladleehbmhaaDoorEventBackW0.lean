/- A part of the proof that the law EventBack gives true for every input. -/
import Derived.Test.YtccladleehbmhaaDoorEventBackT
import Derived.Test.YtccladleehbmhaaDoorEventBackB
import Derived.Test.YtccladleehbmhaaDoorEventBackS
import Derived.Test.YtccladleehbmhaaDoorEventBackX
/- Each Go function computes its plain function. -/
namespace Go.Proofs.YtccladleehbmhaaDoor
open Go.RowKit Go.Abs
set_option maxRecDepth 100000
set_option maxHeartbeats 4000000
theorem internal_stringslite_IndexByte_ok {a0 : List UInt8} {a1 : Int} {r : Int} (hF : internal_stringslite_IndexByte a0 a1 = some r) : Abs.Fn globs_Tryd Tryd.prog 69 [.str a0, .int .u8 a1] [.p (.int .i64 r)] := by
  unfold internal_stringslite_IndexByte at hF
  refine fn_of_body (n := 8) Tryd.func69 rfl rfl rfl ?_
  intro w O
  refine aw_seq ?_
  refine aw_region ?_
  refine ras ?_
  refine reg_nil ?_
  refine post_imp (s' := ⟨8, [(0, some (.pv (.str a0))), (1, some (.pv (.int .u8 a1)))], [], 0, [], [], 0, []⟩) (imps [] ⟨by kernel_rfl, by kernel_rfl, trivial⟩ trivial) ?_
  refine post_next ?_
  refine aw_seq ?_
  refine aw_region ?_
  iterate 2 (refine rmv ?_)
  refine rgp (op_extSB rfl rfl rfl rfl Tryd_ext_82 rfl rfl) ?_
  refine ras ?_
  refine reg_nil ?_
  refine post_imp (s' := ⟨8, [(4, some (.pv (.int .i64 (idxB a0 a1))))], [], 0, [], [], 0, []⟩) (imps [] ⟨by kernel_rfl, trivial⟩ trivial) ?_
  refine post_next ?_
  refine aw_ret ?_
  obtain rfl := Option.some.inj hF
  exact prt
theorem internal_stringslite_Index_ok {a0 : List UInt8} {a1 : List UInt8} {r : Int} (hF : internal_stringslite_Index a0 a1 = some r) : Abs.Fn globs_Tryd Tryd.prog 56 [.str a0, .str a1] [.p (.int .i64 r)] := by
  unfold internal_stringslite_Index at hF
  refine fn_of_body (n := 143) Tryd.func56 rfl rfl rfl ?_
  intro w O
  refine aw_seq ?_
  refine aw_region ?_
  refine ras ?_
  refine reg_nil ?_
  refine post_imp (s' := ⟨143, [(0, some (.pv (.str a0))), (1, some (.pv (.str a1)))], [], 0, [], [], 0, []⟩) (imps [] ⟨by kernel_rfl, by kernel_rfl, trivial⟩ trivial) ?_
  refine post_next ?_
  refine aw_seq ?_
  refine aw_region ?_
  refine rmv ?_
  refine rgp (op_len_str rfl rfl Tryd_und_9 rfl rfl) ?_
  refine ras ?_
  refine reg_nil ?_
  refine post_imp (s' := ⟨143, [(0, some (.pv (.str a0))), (1, some (.pv (.str a1))), (5, some (.pv (.int .i64 (a1.length : Int))))], [], 0, [], [], 0, []⟩) (imps [] ⟨by kernel_rfl, by kernel_rfl, by kernel_rfl, trivial⟩ trivial) ?_
  refine post_next ?_
  refine aw_seq ?_
  refine aw_block ?_
  refine aw_seq ?_
  obtain ⟨x2, hF, hK4⟩ := bind_some hF
  refine aw_cut (fun s1 => s1 = ⟨143, [(0, some (.pv (.str a0))), (1, some (.pv (.str a1))), (5, some (.pv (.int .i64 (a1.length : Int)))), (16, some (.pv (.bool x2)))], [], 0, [], [], 0, []⟩) ?_ ?_
  · refine aw_region ?_
    refine rmv ?_
    refine rgp (op_int (k := .i64) (m := (a1.length : Int)) (n := 0) rfl rfl rfl rfl rfl rfl) ?_
    refine rmv ?_
    rcases ite_some hF with ⟨hb1, hF⟩ | ⟨hb1, hF⟩
    · refine rgo_t hb1 ?_
      iterate 2 (refine rgo_t hb1 ?_)
      refine rpt hb1 ?_
      refine ras ?_
      refine reg_nil ?_
      cases hF
      exact post_cut _ rfl (imps [] ⟨by kernel_rfl, by kernel_rfl, by kernel_rfl, by kernel_rfl, trivial⟩ trivial)
    iterate 2 (refine rgn hb1 (op_move rfl rfl rfl rfl) ?_)
    refine rgn hb1 (op_str rfl rfl rfl rfl rfl rfl) ?_
    refine rpf hb1 ?_
    refine ras ?_
    refine reg_nil ?_
    cases hF
    exact post_cut _ rfl (imps [] ⟨by kernel_rfl, by kernel_rfl, by kernel_rfl, by kernel_rfl, trivial⟩ trivial)
  rintro _ rfl
  have hF := hK4
  clear hK4
  refine post_next ?_
  rcases ite_some hF with ⟨hb5, hF⟩ | ⟨hb5, hF⟩
  · refine aw_cond_t rfl hb5 ?_
    refine aw_seq ?_
    refine aw_region ?_
    refine ras ?_
    refine reg_nil ?_
    refine post_imp (s' := ⟨143, [(4, some (.pv (.int .i64 0)))], [], 0, [], [], 0, []⟩) (imps [] ⟨by kernel_rfl, trivial⟩ trivial) ?_
    refine post_next ?_
    refine aw_ret ?_
    refine post_block_ret ?_
    refine post_then_ret ?_
    obtain rfl := Option.some.inj hF
    exact prt
  refine aw_cond_f rfl hb5 ?_
  refine aw_seq ?_
  refine aw_region ?_
  refine rmv ?_
  refine rgp (op_int (k := .i64) (m := (a1.length : Int)) (n := 1) rfl rfl rfl rfl rfl rfl) ?_
  refine ras ?_
  refine reg_nil ?_
  refine post_imp (s' := ⟨143, [(0, some (.pv (.str a0))), (1, some (.pv (.str a1))), (5, some (.pv (.int .i64 (a1.length : Int)))), (24, some (.pv (.bool ((a1.length : Int) == 1))))], [], 0, [], [], 0, []⟩) (imps [] ⟨by kernel_rfl, by kernel_rfl, by kernel_rfl, by kernel_rfl, trivial⟩ trivial) ?_
  refine post_next ?_
  rcases ite_some hF with ⟨hb6, hF⟩ | ⟨hb6, hF⟩
  · refine aw_cond_t rfl hb6 ?_
    refine aw_seq ?_
    refine aw_region ?_
    iterate 2 (refine rmv ?_)
    obtain ⟨y7, h8, hF⟩ := bind_some hF
    refine rgp (op_index_str (k := .i64) rfl rfl rfl h8 Tryd_und_9 rfl rfl) ?_
    obtain ⟨y9, h10, hF⟩ := bind_some hF
    refine rgp (op_call 0 rfl (caps := []) (args := [.str a0, .int .u8 (y7.toNat : Int)]) (rs := [.p (.int .i64 y9)]) rfl rfl rfl Tryd_cal_69 (internal_stringslite_IndexByte_ok h10) rfl rfl rfl) ?_
    refine ras ?_
    refine reg_nil ?_
    refine post_imp (s' := ⟨143, [(4, some (.pv (.int .i64 y9)))], [], 0, [], [], 0, []⟩) (imps [] ⟨by kernel_rfl, trivial⟩ trivial) ?_
    refine post_next ?_
    refine aw_ret ?_
    refine post_block_ret ?_
    refine post_then_ret ?_
    obtain rfl := Option.some.inj hF
    exact prt
  refine aw_cond_f rfl hb6 ?_
  refine aw_seq ?_
  refine aw_region ?_
  iterate 2 (refine rmv ?_)
  refine rgp (op_len_str rfl rfl Tryd_und_9 rfl rfl) ?_
  refine rgp (op_int (k := .i64) (m := (a1.length : Int)) (n := (a0.length : Int)) rfl rfl rfl rfl rfl rfl) ?_
  refine ras ?_
  refine reg_nil ?_
  refine post_imp (s' := ⟨143, [(0, some (.pv (.str a0))), (1, some (.pv (.str a1))), (5, some (.pv (.int .i64 (a1.length : Int)))), (31, some (.pv (.bool (decide ((a1.length : Int) ≥ (a0.length : Int))))))], [], 0, [], [], 0, []⟩) (imps [] ⟨by kernel_rfl, by kernel_rfl, by kernel_rfl, by kernel_rfl, trivial⟩ trivial) ?_
  refine post_next ?_
  rcases ite_some hF with ⟨hb11, hF⟩ | ⟨hb11, hF⟩
  · refine aw_cond_t rfl hb11 ?_
    refine aw_seq ?_
    refine aw_region ?_
    refine ras ?_
    refine reg_nil ?_
    refine post_imp (s' := ⟨143, [(4, some (.pv (.int .i64 (-1))))], [], 0, [], [], 0, []⟩) (imps [] ⟨by kernel_rfl, trivial⟩ trivial) ?_
    refine post_next ?_
    refine aw_ret ?_
    refine post_block_ret ?_
    refine post_then_ret ?_
    obtain rfl := Option.some.inj hF
    exact prt
  cases hF
theorem strings_Index_ok {a0 : List UInt8} {a1 : List UInt8} {r : Int} (hF : strings_Index a0 a1 = some r) : Abs.Fn globs_Tryd Tryd.prog 66 [.str a0, .str a1] [.p (.int .i64 r)] := by
  unfold strings_Index at hF
  refine fn_of_body (n := 8) Tryd.func66 rfl rfl rfl ?_
  intro w O
  refine aw_seq ?_
  refine aw_region ?_
  refine ras ?_
  refine reg_nil ?_
  refine post_imp (s' := ⟨8, [(0, some (.pv (.str a0))), (1, some (.pv (.str a1)))], [], 0, [], [], 0, []⟩) (imps [] ⟨by kernel_rfl, by kernel_rfl, trivial⟩ trivial) ?_
  refine post_next ?_
  refine aw_seq ?_
  refine aw_region ?_
  iterate 2 (refine rmv ?_)
  obtain ⟨y1, h2, hF⟩ := bind_some hF
  refine rgp (op_call 0 rfl (caps := []) (args := [.str a0, .str a1]) (rs := [.p (.int .i64 y1)]) rfl rfl rfl Tryd_cal_56 (internal_stringslite_Index_ok h2) rfl rfl rfl) ?_
  refine ras ?_
  refine reg_nil ?_
  refine post_imp (s' := ⟨8, [(4, some (.pv (.int .i64 y1)))], [], 0, [], [], 0, []⟩) (imps [] ⟨by kernel_rfl, trivial⟩ trivial) ?_
  refine post_next ?_
  refine aw_ret ?_
  obtain rfl := Option.some.inj hF
  exact prt
theorem strings_Count_ok {a0 : List UInt8} {a1 : List UInt8} {r : Int} (hF : strings_Count a0 a1 = some r) : Abs.Fn globs_Tryd Tryd.prog 65 [.str a0, .str a1] [.p (.int .i64 r)] := by
  unfold strings_Count at hF
  refine fn_of_body (n := 34) Tryd.func65 rfl rfl rfl ?_
  intro w O
  refine aw_seq ?_
  refine aw_region ?_
  refine ras ?_
  refine reg_nil ?_
  refine post_imp (s' := ⟨34, [(0, some (.pv (.str a0))), (1, some (.pv (.str a1)))], [], 0, [], [], 0, []⟩) (imps [] ⟨by kernel_rfl, by kernel_rfl, trivial⟩ trivial) ?_
  refine post_next ?_
  iterate 2 (refine aw_seq ?_)
  refine aw_region ?_
  refine rmv ?_
  refine rgp (op_len_str rfl rfl Tryd_und_9 rfl rfl) ?_
  refine rgp (op_int (k := .i64) (m := (a1.length : Int)) (n := 0) rfl rfl rfl rfl rfl rfl) ?_
  refine reg_nil ?_
  refine post_imp (s' := ⟨34, [(0, some (.pv (.str a0))), (1, some (.pv (.str a1))), (9, some (.pv (.bool ((a1.length : Int) == 0))))], [], 0, [], [], 0, []⟩) (imps [] ⟨by kernel_rfl, by kernel_rfl, by kernel_rfl, trivial⟩ trivial) ?_
  refine post_next ?_
  rcases ite_some hF with ⟨hb1, hF⟩ | ⟨hb1, hF⟩
  · cases hF
  refine aw_cond_f rfl hb1 ?_
  refine aw_skip ?_
  refine post_next ?_
  iterate 2 (refine aw_seq ?_)
  refine aw_region ?_
  refine rmv ?_
  refine rgp (op_len_str rfl rfl Tryd_und_9 rfl rfl) ?_
  refine rgp (op_int (k := .i64) (m := (a1.length : Int)) (n := 1) rfl rfl rfl rfl rfl rfl) ?_
  refine reg_nil ?_
  refine post_imp (s' := ⟨34, [(0, some (.pv (.str a0))), (1, some (.pv (.str a1))), (15, some (.pv (.bool ((a1.length : Int) == 1))))], [], 0, [], [], 0, []⟩) (imps [] ⟨by kernel_rfl, by kernel_rfl, by kernel_rfl, trivial⟩ trivial) ?_
  refine post_next ?_
  rcases ite_some hF with ⟨hb2, hF⟩ | ⟨hb2, hF⟩
  · refine aw_cond_t rfl hb2 ?_
    refine aw_seq ?_
    refine aw_region ?_
    iterate 2 (refine rmv ?_)
    obtain ⟨y3, h4, hF⟩ := bind_some hF
    refine rgp (op_index_str (k := .i64) rfl rfl rfl h4 Tryd_und_9 rfl rfl) ?_
    refine rgp (op_extSB rfl rfl rfl rfl Tryd_ext_80 rfl rfl) ?_
    refine ras ?_
    refine reg_nil ?_
    refine post_imp (s' := ⟨34, [(4, some (.pv (.int .i64 (cntB a0 (y3.toNat : Int)))))], [], 0, [], [], 0, []⟩) (imps [] ⟨by kernel_rfl, trivial⟩ trivial) ?_
    refine post_next ?_
    refine aw_ret ?_
    refine post_then_ret ?_
    obtain rfl := Option.some.inj hF
    exact prt
  cases hF
theorem strings_genSplit_ok {a0 : List UInt8} {a1 : List UInt8} {a2 : Int} {a3 : Int} {r : (List (List UInt8))} (hF : strings_genSplit a0 a1 a2 a3 = some r) : Abs.Fn globs_Tryd Tryd.prog 53 [.str a0, .str a1, .int .i64 a2, .int .i64 a3] [.p (.vs 1 (List.map eS r))] := by
  unfold strings_genSplit at hF
  refine fn_of_body (n := 66) Tryd.func53 rfl rfl rfl ?_
  intro w O
  refine aw_seq ?_
  refine aw_region ?_
  refine ras ?_
  refine reg_nil ?_
  refine post_imp (s' := ⟨66, [(0, some (.pv (.str a0))), (1, some (.pv (.str a1))), (2, some (.pv (.int .i64 a2))), (3, some (.pv (.int .i64 a3)))], [], 0, [], [], 0, []⟩) (imps [] ⟨by kernel_rfl, by kernel_rfl, by kernel_rfl, by kernel_rfl, trivial⟩ trivial) ?_
  refine post_next ?_
  iterate 2 (refine aw_seq ?_)
  refine aw_region ?_
  refine rmv ?_
  refine rgp (op_int (k := .i64) (m := a3) (n := 0) rfl rfl rfl rfl rfl rfl) ?_
  refine reg_nil ?_
  refine post_imp (s' := ⟨66, [(0, some (.pv (.str a0))), (1, some (.pv (.str a1))), (2, some (.pv (.int .i64 a2))), (3, some (.pv (.int .i64 a3))), (13, some (.pv (.bool (a3 == 0))))], [], 0, [], [], 0, []⟩) (imps [] ⟨by kernel_rfl, by kernel_rfl, by kernel_rfl, by kernel_rfl, by kernel_rfl, trivial⟩ trivial) ?_
  refine post_next ?_
  rcases ite_some hF with ⟨hb1, hF⟩ | ⟨hb1, hF⟩
  · refine aw_cond_t rfl hb1 ?_
    refine aw_seq ?_
    refine aw_region ?_
    refine ras ?_
    refine reg_nil ?_
    refine post_imp (s' := ⟨66, [(8, some (.pv .nils))], [], 0, [], [], 0, []⟩) (imps [] ⟨by kernel_rfl, trivial⟩ trivial) ?_
    refine post_next ?_
    refine aw_ret ?_
    refine post_then_ret ?_
    refine post_imp (imp_nil_vs 8 1 rfl) ?_
    obtain rfl := Option.some.inj hF
    exact prt
  refine aw_cond_f rfl hb1 ?_
  refine aw_skip ?_
  refine post_next ?_
  iterate 2 (refine aw_seq ?_)
  refine aw_region ?_
  refine rmv ?_
  refine rgp (op_str rfl rfl rfl rfl rfl rfl) ?_
  refine reg_nil ?_
  refine post_imp (s' := ⟨66, [(0, some (.pv (.str a0))), (1, some (.pv (.str a1))), (2, some (.pv (.int .i64 a2))), (3, some (.pv (.int .i64 a3))), (15, some (.pv (.bool (a1 == []))))], [], 0, [], [], 0, []⟩) (imps [] ⟨by kernel_rfl, by kernel_rfl, by kernel_rfl, by kernel_rfl, by kernel_rfl, trivial⟩ trivial) ?_
  refine post_next ?_
  rcases ite_some hF with ⟨hb2, hF⟩ | ⟨hb2, hF⟩
  · cases hF
  refine aw_cond_f rfl hb2 ?_
  refine aw_skip ?_
  refine post_next ?_
  refine aw_seq ?_
  obtain ⟨x6, hF, hK8⟩ := bind_some hF
  refine aw_cut (fun s1 => s1 = ⟨66, [(0, some (.pv (.str a0))), (1, some (.pv (.str a1))), (2, some (.pv (.int .i64 a2))), (3, some (.pv (.int .i64 x6)))], [], 0, [], [], 0, []⟩) ?_ ?_
  · refine aw_seq ?_
    refine aw_region ?_
    refine rmv ?_
    refine rgp (op_int (k := .i64) (m := a3) (n := 0) rfl rfl rfl rfl rfl rfl) ?_
    refine reg_nil ?_
    refine post_imp (s' := ⟨66, [(0, some (.pv (.str a0))), (1, some (.pv (.str a1))), (2, some (.pv (.int .i64 a2))), (3, some (.pv (.int .i64 a3))), (20, some (.pv (.bool (decide (a3 < 0)))))], [], 0, [], [], 0, []⟩) (imps [] ⟨by kernel_rfl, by kernel_rfl, by kernel_rfl, by kernel_rfl, by kernel_rfl, trivial⟩ trivial) ?_
    refine post_next ?_
    rcases ite_some hF with ⟨hb3, hF⟩ | ⟨hb3, hF⟩
    · refine aw_cond_t rfl hb3 ?_
      refine aw_region ?_
      iterate 2 (refine rmv ?_)
      obtain ⟨y4, h5, hF⟩ := bind_some hF
      refine rgp (op_call 0 rfl (caps := []) (args := [.str a0, .str a1]) (rs := [.p (.int .i64 y4)]) rfl rfl rfl Tryd_cal_65 (strings_Count_ok h5) rfl rfl rfl) ?_
      refine rgp (op_int (k := .i64) (m := y4) (n := 1) rfl rfl rfl rfl rfl rfl) ?_
      refine ras ?_
      refine reg_nil ?_
      cases hF
      exact post_cut _ rfl (imps [] ⟨by kernel_rfl, by kernel_rfl, by kernel_rfl, by kernel_rfl, trivial⟩ trivial)
    refine aw_cond_f rfl hb3 ?_
    refine aw_skip ?_
    cases hF
    exact post_cut _ rfl (imps [] ⟨by kernel_rfl, by kernel_rfl, by kernel_rfl, by kernel_rfl, trivial⟩ trivial)
  rintro _ rfl
  have hF := hK8
  clear hK8
  refine post_next ?_
  refine aw_seq ?_
  refine aw_region ?_
  iterate 2 (refine rmv ?_)
  refine rgp (op_len_str rfl rfl Tryd_und_9 rfl rfl) ?_
  refine rgp (op_int (k := .i64) (m := (a0.length : Int)) (n := 1) rfl rfl rfl rfl rfl rfl) ?_
  refine rgp (op_min2 rfl rfl rfl rfl rfl) ?_
  refine ras ?_
  refine reg_nil ?_
  refine post_imp (s' := ⟨66, [(0, some (.pv (.str a0))), (1, some (.pv (.str a1))), (2, some (.pv (.int .i64 a2))), (3, some (.pv (.int .i64 (if (w_i64 ((a0.length : Int) + 1)) < x6 then (w_i64 ((a0.length : Int) + 1)) else x6))))], [], 0, [], [], 0, []⟩) (imps [] ⟨by kernel_rfl, by kernel_rfl, by kernel_rfl, by kernel_rfl, trivial⟩ trivial) ?_
  refine post_next ?_
  refine aw_seq ?_
  refine aw_region ?_
  refine rmv ?_
  obtain ⟨u11, h12, hF⟩ := bind_some hF
  refine rgp (op_make 0 rfl (k := .i64) (k' := .i64) (n := (if (w_i64 ((a0.length : Int) + 1)) < x6 then (w_i64 ((a0.length : Int) + 1)) else x6)) (m := (if (w_i64 ((a0.length : Int) + 1)) < x6 then (w_i64 ((a0.length : Int) + 1)) else x6)) (zs := eS []) rfl rfl rfl (mkOk_spec h12).1 (mkOk_spec h12).2.1 (mkOk_spec h12).2.2 Tryd_slc_41 Tryd_elm_9 rfl Tryd_zer_9 (by exact ⟨rfl, trivial⟩) rfl rfl (map_rep eS _ _) rfl rfl) ?_
  refine ras ?_
  refine reg_nil ?_
  refine post_imp (s' := ⟨66, [(0, some (.pv (.str a0))), (1, some (.pv (.str a1))), (2, some (.pv (.int .i64 a2))), (3, some (.pv (.int .i64 (if (w_i64 ((a0.length : Int) + 1)) < x6 then (w_i64 ((a0.length : Int) + 1)) else x6)))), (9, some (.ls 0))], [(0, some (.row 9 1 (List.map eS (List.replicate ((if (w_i64 ((a0.length : Int) + 1)) < x6 then (w_i64 ((a0.length : Int) + 1)) else x6) : Int).toNat []))))], 1, [], [], 0, []⟩) (imps [0] ⟨by kernel_rfl, by kernel_rfl, by kernel_rfl, by kernel_rfl, by kernel_rfl, trivial⟩ ⟨by kernel_rfl, trivial⟩) ?_
  refine post_next ?_
  refine aw_seq ?_
  refine aw_region ?_
  refine rmv ?_
  refine rgp (op_int (k := .i64) (m := (if (w_i64 ((a0.length : Int) + 1)) < x6 then (w_i64 ((a0.length : Int) + 1)) else x6)) (n := 1) rfl rfl rfl rfl rfl rfl) ?_
  refine ras ?_
  refine reg_nil ?_
  refine post_imp (s' := ⟨66, [(0, some (.pv (.str a0))), (1, some (.pv (.str a1))), (2, some (.pv (.int .i64 a2))), (3, some (.pv (.int .i64 (w_i64 ((if (w_i64 ((a0.length : Int) + 1)) < x6 then (w_i64 ((a0.length : Int) + 1)) else x6) - 1))))), (9, some (.ls 0))], [(0, some (.row 9 1 (List.map eS (List.replicate ((if (w_i64 ((a0.length : Int) + 1)) < x6 then (w_i64 ((a0.length : Int) + 1)) else x6) : Int).toNat []))))], 1, [], [], 0, []⟩) (imps [0] ⟨by kernel_rfl, by kernel_rfl, by kernel_rfl, by kernel_rfl, by kernel_rfl, trivial⟩ ⟨by kernel_rfl, trivial⟩) ?_
  refine post_next ?_
  refine aw_seq ?_
  refine aw_region ?_
  refine ras ?_
  refine reg_nil ?_
  refine post_imp (s' := ⟨66, [(0, some (.pv (.str a0))), (1, some (.pv (.str a1))), (2, some (.pv (.int .i64 a2))), (3, some (.pv (.int .i64 (w_i64 ((if (w_i64 ((a0.length : Int) + 1)) < x6 then (w_i64 ((a0.length : Int) + 1)) else x6) - 1))))), (9, some (.ls 0)), (10, some (.pv (.int .i64 0)))], [(0, some (.row 9 1 (List.map eS (List.replicate ((if (w_i64 ((a0.length : Int) + 1)) < x6 then (w_i64 ((a0.length : Int) + 1)) else x6) : Int).toNat []))))], 1, [], [], 0, []⟩) (imps [0] ⟨by kernel_rfl, by kernel_rfl, by kernel_rfl, by kernel_rfl, by kernel_rfl, by kernel_rfl, trivial⟩ ⟨by kernel_rfl, trivial⟩) ?_
  refine post_next ?_
  refine aw_seq ?_
  obtain ⟨lr79, hF, hK80⟩ := bind_some hF
  refine aw_for ((((w_i64 ((if (w_i64 ((a0.length : Int) + 1)) < x6 then (w_i64 ((a0.length : Int) + 1)) else x6) - 1)) : Int) - (0)).toNat + 1) (fun s1 => s1 = ⟨66, [(0, some (.pv (.str lr79.1))), (9, some (.ls 0)), (10, some (.pv (.int .i64 lr79.2.2)))], [(0, some (.row 9 1 (List.map eS lr79.2.1)))], 1, [], [], 0, []⟩) ?_ ?_
  · refine rnd_loop (α := (List UInt8) × (List (List UInt8)) × Int) (fun q => ⟨66, [(0, some (.pv (.str q.1))), (1, some (.pv (.str a1))), (2, some (.pv (.int .i64 a2))), (3, some (.pv (.int .i64 (w_i64 ((if (w_i64 ((a0.length : Int) + 1)) < x6 then (w_i64 ((a0.length : Int) + 1)) else x6) - 1))))), (9, some (.ls 0)), (10, some (.pv (.int .i64 q.2.2)))], [(0, some (.row 9 1 (List.map eS q.2.1)))], 1, [], [], 0, []⟩) (fun k q => strings_genSplit_L1 a0 a1 a2 x6 k q.1 q.2.1 q.2.2 = some lr79) (a0, (List.replicate ((if (w_i64 ((a0.length : Int) + 1)) < x6 then (w_i64 ((a0.length : Int) + 1)) else x6) : Int).toNat []), 0) (imps [0] ⟨by kernel_rfl, by kernel_rfl, by kernel_rfl, by kernel_rfl, by kernel_rfl, by kernel_rfl, trivial⟩ ⟨by kernel_rfl, trivial⟩) hF (fun q h => by cases h) ?_
    clear hF
    rintro k ⟨x31, x32, x33⟩ hF ih
    refine rnd_succ ?_
    iterate 2 (refine aw_seq ?_)
    refine aw_region ?_
    iterate 2 (refine rmv ?_)
    refine rgp (op_int (k := .i64) (m := x33) (n := w_i64 ((if (w_i64 ((a0.length : Int) + 1)) < x6 then (w_i64 ((a0.length : Int) + 1)) else x6) - 1)) rfl rfl rfl rfl rfl rfl) ?_
    refine reg_nil ?_
    refine post_imp (s' := ⟨66, [(0, some (.pv (.str x31))), (1, some (.pv (.str a1))), (2, some (.pv (.int .i64 a2))), (3, some (.pv (.int .i64 (w_i64 ((if (w_i64 ((a0.length : Int) + 1)) < x6 then (w_i64 ((a0.length : Int) + 1)) else x6) - 1))))), (9, some (.ls 0)), (10, some (.pv (.int .i64 x33))), (36, some (.pv (.bool (decide (x33 < (w_i64 ((if (w_i64 ((a0.length : Int) + 1)) < x6 then (w_i64 ((a0.length : Int) + 1)) else x6) - 1)))))))], [(0, some (.row 9 1 (List.map eS x32)))], 1, [], [], 0, []⟩) (imps [0] ⟨by kernel_rfl, by kernel_rfl, by kernel_rfl, by kernel_rfl, by kernel_rfl, by kernel_rfl, by kernel_rfl, trivial⟩ ⟨by kernel_rfl, trivial⟩) ?_
    refine post_next ?_
    rcases ite_some hF with ⟨hb55, hF⟩ | ⟨hb55, hF⟩
    · refine aw_cond_t rfl hb55 ?_
      refine aw_skip ?_
      refine post_next ?_
      refine aw_block ?_
      refine aw_seq ?_
      refine aw_region ?_
      iterate 2 (refine rmv ?_)
      obtain ⟨y58, h59, hF⟩ := bind_some hF
      refine rgp (op_call 1 rfl (caps := []) (args := [.str x31, .str a1]) (rs := [.p (.int .i64 y58)]) rfl rfl rfl Tryd_cal_66 (strings_Index_ok h59) rfl rfl rfl) ?_
      refine ras ?_
      refine reg_nil ?_
      refine post_imp (s' := ⟨66, [(0, some (.pv (.str x31))), (1, some (.pv (.str a1))), (2, some (.pv (.int .i64 a2))), (3, some (.pv (.int .i64 (w_i64 ((if (w_i64 ((a0.length : Int) + 1)) < x6 then (w_i64 ((a0.length : Int) + 1)) else x6) - 1))))), (9, some (.ls 0)), (10, some (.pv (.int .i64 x33))), (11, some (.pv (.int .i64 y58)))], [(0, some (.row 9 1 (List.map eS x32)))], 1, [], [], 0, []⟩) (imps [0] ⟨by kernel_rfl, by kernel_rfl, by kernel_rfl, by kernel_rfl, by kernel_rfl, by kernel_rfl, by kernel_rfl, trivial⟩ ⟨by kernel_rfl, trivial⟩) ?_
      refine post_next ?_
      iterate 2 (refine aw_seq ?_)
      refine aw_region ?_
      refine rmv ?_
      refine rgp (op_int (k := .i64) (m := y58) (n := 0) rfl rfl rfl rfl rfl rfl) ?_
      refine reg_nil ?_
      refine post_imp (s' := ⟨66, [(0, some (.pv (.str x31))), (1, some (.pv (.str a1))), (2, some (.pv (.int .i64 a2))), (3, some (.pv (.int .i64 (w_i64 ((if (w_i64 ((a0.length : Int) + 1)) < x6 then (w_i64 ((a0.length : Int) + 1)) else x6) - 1))))), (9, some (.ls 0)), (10, some (.pv (.int .i64 x33))), (11, some (.pv (.int .i64 y58))), (41, some (.pv (.bool (decide (y58 < 0)))))], [(0, some (.row 9 1 (List.map eS x32)))], 1, [], [], 0, []⟩) (imps [0] ⟨by kernel_rfl, by kernel_rfl, by kernel_rfl, by kernel_rfl, by kernel_rfl, by kernel_rfl, by kernel_rfl, by kernel_rfl, trivial⟩ ⟨by kernel_rfl, trivial⟩) ?_
      refine post_next ?_
      rcases ite_some hF with ⟨hb60, hF⟩ | ⟨hb60, hF⟩
      · refine aw_cond_t rfl hb60 ?_
        refine aw_exit ?_
        refine post_then_exit ?_
        refine post_block_other rfl ?_
        refine post_then_exit ?_
        obtain rfl := Option.some.inj hF
        exact post_lp_break _ rfl (imps [0] ⟨by kernel_rfl, by kernel_rfl, by kernel_rfl, trivial⟩ ⟨by kernel_rfl, trivial⟩)
      refine aw_cond_f rfl hb60 ?_
      refine aw_skip ?_
      refine post_next ?_
      refine aw_seq ?_
      refine aw_region ?_
      iterate 5 (refine rmv ?_)
      refine rgp (op_int (k := .i64) (m := y58) (n := a2) rfl rfl rfl rfl rfl rfl) ?_
      obtain ⟨y65, h66, hF⟩ := bind_some hF
      refine rgp (op_slice_str (nl := none) (nh := (some (w_i64 (y58 + a2)))) rfl rfl rfl rfl Tryd_und_9 h66 rfl rfl) ?_
      obtain ⟨y67, h68, hF⟩ := bind_some hF
      refine rgp (op_index_ls (k := .i64) rfl rfl rfl rfl (idx_map eS h68) Tryd_slc_41 rfl rfl) ?_
      refine rgp (op_store_le (n := 1) rfl rfl rfl rfl rfl (map_get eS h68) (or_one Tryd_one_9) (by rw [Tryd_one_9]; rfl) rfl (map_set' eS x32 _ y65) rfl rfl) ?_
      refine reg_nil ?_
      refine post_imp (s' := ⟨66, [(0, some (.pv (.str x31))), (1, some (.pv (.str a1))), (2, some (.pv (.int .i64 a2))), (3, some (.pv (.int .i64 (w_i64 ((if (w_i64 ((a0.length : Int) + 1)) < x6 then (w_i64 ((a0.length : Int) + 1)) else x6) - 1))))), (9, some (.ls 0)), (10, some (.pv (.int .i64 x33))), (11, some (.pv (.int .i64 y58)))], [(0, some (.row 9 1 (List.map eS (x32.set (x33 : Int).toNat y65))))], 1, [], [], 0, []⟩) (imps [0] ⟨by kernel_rfl, by kernel_rfl, by kernel_rfl, by kernel_rfl, by kernel_rfl, by kernel_rfl, by kernel_rfl, trivial⟩ ⟨by kernel_rfl, trivial⟩) ?_
      refine post_next ?_
      refine aw_seq ?_
      refine aw_region ?_
      iterate 3 (refine rmv ?_)
      refine rgp (op_len_str rfl rfl Tryd_und_9 rfl rfl) ?_
      refine rgp (op_int (k := .i64) (m := y58) (n := (a1.length : Int)) rfl rfl rfl rfl rfl rfl) ?_
      obtain ⟨y71, h72, hF⟩ := bind_some hF
      refine rgp (op_slice_str (nl := (some (w_i64 (y58 + (a1.length : Int))))) (nh := none) rfl rfl rfl rfl Tryd_und_9 h72 rfl rfl) ?_
      refine ras ?_
      refine reg_nil ?_
      refine post_imp (s' := ⟨66, [(0, some (.pv (.str y71))), (1, some (.pv (.str a1))), (2, some (.pv (.int .i64 a2))), (3, some (.pv (.int .i64 (w_i64 ((if (w_i64 ((a0.length : Int) + 1)) < x6 then (w_i64 ((a0.length : Int) + 1)) else x6) - 1))))), (9, some (.ls 0)), (10, some (.pv (.int .i64 x33)))], [(0, some (.row 9 1 (List.map eS (x32.set (x33 : Int).toNat y65))))], 1, [], [], 0, []⟩) (imps [0] ⟨by kernel_rfl, by kernel_rfl, by kernel_rfl, by kernel_rfl, by kernel_rfl, by kernel_rfl, trivial⟩ ⟨by kernel_rfl, trivial⟩) ?_
      refine post_next ?_
      refine aw_region ?_
      refine rmv ?_
      refine rgp (op_int (k := .i64) (m := x33) (n := 1) rfl rfl rfl rfl rfl rfl) ?_
      refine ras ?_
      refine reg_nil ?_
      refine post_imp (s' := ⟨66, [(0, some (.pv (.str y71))), (1, some (.pv (.str a1))), (2, some (.pv (.int .i64 a2))), (3, some (.pv (.int .i64 (w_i64 ((if (w_i64 ((a0.length : Int) + 1)) < x6 then (w_i64 ((a0.length : Int) + 1)) else x6) - 1))))), (9, some (.ls 0)), (10, some (.pv (.int .i64 (w_i64 (x33 + 1)))))], [(0, some (.row 9 1 (List.map eS (x32.set (x33 : Int).toNat y65))))], 1, [], [], 0, []⟩) (imps [0] ⟨by kernel_rfl, by kernel_rfl, by kernel_rfl, by kernel_rfl, by kernel_rfl, by kernel_rfl, trivial⟩ ⟨by kernel_rfl, trivial⟩) ?_
      refine post_block_normal ?_
      refine post_round ?_
      exact rnd_back (ih (y71, (x32.set (x33 : Int).toNat y65), w_i64 (x33 + 1)) hF) (imps [0] ⟨by kernel_rfl, by kernel_rfl, by kernel_rfl, by kernel_rfl, by kernel_rfl, by kernel_rfl, trivial⟩ ⟨by kernel_rfl, trivial⟩)
    refine aw_cond_f rfl hb55 ?_
    refine aw_exit ?_
    iterate 2 (refine post_then_exit ?_)
    obtain rfl := Option.some.inj hF
    exact post_lp_break _ rfl (imps [0] ⟨by kernel_rfl, by kernel_rfl, by kernel_rfl, trivial⟩ ⟨by kernel_rfl, trivial⟩)
  rintro _ rfl
  have hF := hK80
  clear hK80
  obtain ⟨x76, x77, x78⟩ := lr79
  refine post_next ?_
  refine aw_seq ?_
  refine aw_region ?_
  iterate 3 (refine rmv ?_)
  obtain ⟨y83, h84, hF⟩ := bind_some hF
  refine rgp (op_index_ls (k := .i64) rfl rfl rfl rfl (idx_map eS h84) Tryd_slc_41 rfl rfl) ?_
  refine rgp (op_store_le (n := 1) rfl rfl rfl rfl rfl (map_get eS h84) (or_one Tryd_one_9) (by rw [Tryd_one_9]; rfl) rfl (map_set' eS x77 _ x76) rfl rfl) ?_
  refine reg_nil ?_
  refine post_imp (s' := ⟨66, [(9, some (.ls 0)), (10, some (.pv (.int .i64 x78)))], [(0, some (.row 9 1 (List.map eS (x77.set (x78 : Int).toNat x76))))], 1, [], [], 0, []⟩) (imps [0] ⟨by kernel_rfl, by kernel_rfl, trivial⟩ ⟨by kernel_rfl, trivial⟩) ?_
  refine post_next ?_
  refine aw_seq ?_
  refine aw_region ?_
  iterate 2 (refine rmv ?_)
  refine rgp (op_int (k := .i64) (m := x78) (n := 1) rfl rfl rfl rfl rfl rfl) ?_
  refine reg_imp (imp_freeze [(0, some (.row 9 1 (List.map eS (x77.set (x78 : Int).toNat x76))))] [(9, some (.pv (.vs 1 (List.map eS (x77.set (x78 : Int).toNat x76))))), (62, some (.pv (.vs 1 (List.map eS (x77.set (x78 : Int).toNat x76)))))] (FzH.spec ⟨rfl, trivial⟩) ⟨⟨_, rfl, rfl⟩, ⟨_, rfl, rfl⟩, trivial⟩) ?_
  obtain ⟨y85, h86, hF⟩ := bind_some hF
  refine rgp (op_slice_vs (nl := none) (nh := (some (w_i64 (x78 + 1)))) (nm := none) rfl rfl rfl rfl rfl (.inl rfl) Tryd_slc_41 (cut_map (nl := none) (nh := (some (w_i64 (x78 + 1)))) eS h86) rfl rfl) ?_
  refine ras ?_
  refine reg_nil ?_
  refine post_imp (s' := ⟨66, [(8, some (.pv (.vs 1 (List.map eS y85))))], [], 0, [], [], 0, []⟩) (imps [] ⟨by kernel_rfl, trivial⟩ trivial) ?_
  refine post_next ?_
  refine aw_ret ?_
  obtain rfl := Option.some.inj hF
  exact prt
theorem strings_Split_ok {a0 : List UInt8} {a1 : List UInt8} {r : (List (List UInt8))} (hF : strings_Split a0 a1 = some r) : Abs.Fn globs_Tryd Tryd.prog 37 [.str a0, .str a1] [.p (.vs 1 (List.map eS r))] := by
  unfold strings_Split at hF
  refine fn_of_body (n := 8) Tryd.func37 rfl rfl rfl ?_
  intro w O
  refine aw_seq ?_
  refine aw_region ?_
  refine ras ?_
  refine reg_nil ?_
  refine post_imp (s' := ⟨8, [(0, some (.pv (.str a0))), (1, some (.pv (.str a1)))], [], 0, [], [], 0, []⟩) (imps [] ⟨by kernel_rfl, by kernel_rfl, trivial⟩ trivial) ?_
  refine post_next ?_
  refine aw_seq ?_
  refine aw_region ?_
  iterate 2 (refine rmv ?_)
  obtain ⟨y1, h2, hF⟩ := bind_some hF
  refine rgp (op_call 0 rfl (caps := []) (args := [.str a0, .str a1, .int .i64 0, .int .i64 (-1)]) (rs := [.p (.vs 1 (List.map eS y1))]) rfl rfl rfl Tryd_cal_53 (strings_genSplit_ok h2) rfl rfl rfl) ?_
  refine ras ?_
  refine reg_nil ?_
  refine post_imp (s' := ⟨8, [(4, some (.pv (.vs 1 (List.map eS y1))))], [], 0, [], [], 0, []⟩) (imps [] ⟨by kernel_rfl, trivial⟩ trivial) ?_
  refine post_next ?_
  refine aw_ret ?_
  obtain rfl := Option.some.inj hF
  exact prt
theorem event_pattern_ok {a0 : Int} {r : (List UInt8)} (hF : event_pattern a0 = some r) : Abs.Fn globs_Tryd Tryd.prog 24 [.int .i64 a0] [.p (.str r)] := by
  unfold event_pattern at hF
  refine fn_of_body (n := 16) Tryd.func24 rfl rfl rfl ?_
  intro w O
  refine aw_seq ?_
  refine aw_region ?_
  refine ras ?_
  refine reg_nil ?_
  refine post_imp (s' := ⟨16, [(0, some (.pv (.int .i64 a0)))], [], 0, [], [], 0, []⟩) (imps [] ⟨by kernel_rfl, trivial⟩ trivial) ?_
  refine post_next ?_
  iterate 2 (refine aw_seq ?_)
  refine aw_region ?_
  refine rmv ?_
  refine reg_nil ?_
  refine post_imp (s' := ⟨16, [(3, some (.pv (.int .i64 a0)))], [], 0, [], [], 0, []⟩) (imps [] ⟨by kernel_rfl, trivial⟩ trivial) ?_
  refine post_next ?_
  refine aw_block ?_
  refine aw_seq ?_
  refine aw_region ?_
  refine rgp (op_int (k := .i64) (m := a0) (n := 1) rfl rfl rfl rfl rfl rfl) ?_
  refine ras ?_
  refine reg_nil ?_
  refine post_imp (s' := ⟨16, [(3, some (.pv (.int .i64 a0))), (4, some (.pv (.bool (a0 == 1))))], [], 0, [], [], 0, []⟩) (imps [] ⟨by kernel_rfl, by kernel_rfl, trivial⟩ trivial) ?_
  refine post_next ?_
  rcases ite_some hF with ⟨hb1, hF⟩ | ⟨hb1, hF⟩
  · refine aw_cond_t rfl hb1 ?_
    refine aw_seq ?_
    refine aw_region ?_
    refine ras ?_
    refine reg_nil ?_
    refine post_imp (s' := ⟨16, [(2, some (.pv (.str [110, 101, 119, 32, 35, 111, 32, 36, 32, 98, 121, 32, 35, 119, 32, 105, 110, 32, 35, 48, 32, 35, 49, 32, 35, 50, 32, 35, 51])))], [], 0, [], [], 0, []⟩) (imps [] ⟨by kernel_rfl, trivial⟩ trivial) ?_
    refine post_next ?_
    refine aw_ret ?_
    refine post_block_ret ?_
    refine post_then_ret ?_
    obtain rfl := Option.some.inj hF
    exact prt
  refine aw_cond_f rfl hb1 ?_
  refine aw_seq ?_
  refine aw_region ?_
  refine rgp (op_int (k := .i64) (m := a0) (n := 2) rfl rfl rfl rfl rfl rfl) ?_
  refine ras ?_
  refine reg_nil ?_
  refine post_imp (s' := ⟨16, [(3, some (.pv (.int .i64 a0))), (6, some (.pv (.bool (a0 == 2))))], [], 0, [], [], 0, []⟩) (imps [] ⟨by kernel_rfl, by kernel_rfl, trivial⟩ trivial) ?_
  refine post_next ?_
  rcases ite_some hF with ⟨hb2, hF⟩ | ⟨hb2, hF⟩
  · refine aw_cond_t rfl hb2 ?_
    refine aw_seq ?_
    refine aw_region ?_
    refine ras ?_
    refine reg_nil ?_
    refine post_imp (s' := ⟨16, [(2, some (.pv (.str [112, 117, 116, 32, 35, 111, 32, 36, 32, 98, 121, 32, 35, 119, 32, 64])))], [], 0, [], [], 0, []⟩) (imps [] ⟨by kernel_rfl, trivial⟩ trivial) ?_
    refine post_next ?_
    refine aw_ret ?_
    refine post_block_ret ?_
    refine post_then_ret ?_
    obtain rfl := Option.some.inj hF
    exact prt
  refine aw_cond_f rfl hb2 ?_
  refine aw_seq ?_
  refine aw_region ?_
  refine rgp (op_int (k := .i64) (m := a0) (n := 3) rfl rfl rfl rfl rfl rfl) ?_
  refine ras ?_
  refine reg_nil ?_
  refine post_imp (s' := ⟨16, [(3, some (.pv (.int .i64 a0))), (8, some (.pv (.bool (a0 == 3))))], [], 0, [], [], 0, []⟩) (imps [] ⟨by kernel_rfl, by kernel_rfl, trivial⟩ trivial) ?_
  refine post_next ?_
  rcases ite_some hF with ⟨hb3, hF⟩ | ⟨hb3, hF⟩
  · refine aw_cond_t rfl hb3 ?_
    refine aw_seq ?_
    refine aw_region ?_
    refine ras ?_
    refine reg_nil ?_
    refine post_imp (s' := ⟨16, [(2, some (.pv (.str [99, 97, 108, 108, 32, 35, 111, 32, 36, 32, 98, 121, 32, 35, 119])))], [], 0, [], [], 0, []⟩) (imps [] ⟨by kernel_rfl, trivial⟩ trivial) ?_
    refine post_next ?_
    refine aw_ret ?_
    refine post_block_ret ?_
    refine post_then_ret ?_
    obtain rfl := Option.some.inj hF
    exact prt
  refine aw_cond_f rfl hb3 ?_
  refine aw_seq ?_
  refine aw_region ?_
  refine rgp (op_int (k := .i64) (m := a0) (n := 4) rfl rfl rfl rfl rfl rfl) ?_
  refine ras ?_
  refine reg_nil ?_
  refine post_imp (s' := ⟨16, [(3, some (.pv (.int .i64 a0))), (10, some (.pv (.bool (a0 == 4))))], [], 0, [], [], 0, []⟩) (imps [] ⟨by kernel_rfl, by kernel_rfl, trivial⟩ trivial) ?_
  refine post_next ?_
  rcases ite_some hF with ⟨hb4, hF⟩ | ⟨hb4, hF⟩
  · refine aw_cond_t rfl hb4 ?_
    refine aw_seq ?_
    refine aw_region ?_
    refine ras ?_
    refine reg_nil ?_
    refine post_imp (s' := ⟨16, [(2, some (.pv (.str [98, 97, 99, 107, 32, 35, 119, 32, 64])))], [], 0, [], [], 0, []⟩) (imps [] ⟨by kernel_rfl, trivial⟩ trivial) ?_
    refine post_next ?_
    refine aw_ret ?_
    refine post_block_ret ?_
    refine post_then_ret ?_
    obtain rfl := Option.some.inj hF
    exact prt
  refine aw_cond_f rfl hb4 ?_
  refine aw_seq ?_
  refine aw_region ?_
  refine rgp (op_int (k := .i64) (m := a0) (n := 5) rfl rfl rfl rfl rfl rfl) ?_
  refine ras ?_
  refine reg_nil ?_
  refine post_imp (s' := ⟨16, [(3, some (.pv (.int .i64 a0))), (12, some (.pv (.bool (a0 == 5))))], [], 0, [], [], 0, []⟩) (imps [] ⟨by kernel_rfl, by kernel_rfl, trivial⟩ trivial) ?_
  refine post_next ?_
  rcases ite_some hF with ⟨hb5, hF⟩ | ⟨hb5, hF⟩
  · refine aw_cond_t rfl hb5 ?_
    refine aw_seq ?_
    refine aw_region ?_
    refine ras ?_
    refine reg_nil ?_
    refine post_imp (s' := ⟨16, [(2, some (.pv (.str [109, 111, 118, 101, 32, 35, 111, 32, 116, 111, 32, 35, 48, 32, 98, 121, 32, 35, 119])))], [], 0, [], [], 0, []⟩) (imps [] ⟨by kernel_rfl, trivial⟩ trivial) ?_
    refine post_next ?_
    refine aw_ret ?_
    refine post_block_ret ?_
    refine post_then_ret ?_
    obtain rfl := Option.some.inj hF
    exact prt
  refine aw_cond_f rfl hb5 ?_
  refine aw_seq ?_
  refine aw_region ?_
  refine rgp (op_int (k := .i64) (m := a0) (n := 6) rfl rfl rfl rfl rfl rfl) ?_
  refine ras ?_
  refine reg_nil ?_
  refine post_imp (s' := ⟨16, [(14, some (.pv (.bool (a0 == 6))))], [], 0, [], [], 0, []⟩) (imps [] ⟨by kernel_rfl, trivial⟩ trivial) ?_
  refine post_next ?_
  rcases ite_some hF with ⟨hb6, hF⟩ | ⟨hb6, hF⟩
  · refine aw_cond_t rfl hb6 ?_
    refine aw_seq ?_
    refine aw_region ?_
    refine ras ?_
    refine reg_nil ?_
    refine post_imp (s' := ⟨16, [(2, some (.pv (.str [100, 101, 108, 101, 116, 101, 32, 35, 111, 32, 98, 121, 32, 35, 119])))], [], 0, [], [], 0, []⟩) (imps [] ⟨by kernel_rfl, trivial⟩ trivial) ?_
    refine post_next ?_
    refine aw_ret ?_
    refine post_block_ret ?_
    refine post_then_ret ?_
    obtain rfl := Option.some.inj hF
    exact prt
  refine aw_cond_f rfl hb6 ?_
  refine aw_skip ?_
  refine post_block_normal ?_
  refine post_next ?_
  refine aw_seq ?_
  refine aw_region ?_
  refine ras ?_
  refine reg_nil ?_
  refine post_imp (s' := ⟨16, [(2, some (.pv (.str [])))], [], 0, [], [], 0, []⟩) (imps [] ⟨by kernel_rfl, trivial⟩ trivial) ?_
  refine post_next ?_
  refine aw_ret ?_
  obtain rfl := Option.some.inj hF
  exact prt

theorem strings_Fields_ok {a0 : List UInt8} {r : (List (List UInt8))} (hF : strings_Fields a0 = some r) : Abs.Fn globs_Tryd Tryd.prog 25 [.str a0] [.own 9 1 (List.map eS r)] := by
  unfold strings_Fields at hF
  refine fn_of_body (n := 106) Tryd.func25 rfl rfl rfl ?_
  intro w O
  refine aw_seq ?_
  refine aw_region ?_
  refine ras ?_
  refine reg_nil ?_
  refine post_imp (s' := ⟨106, [(0, some (.pv (.str a0)))], [], 0, [], [], 0, []⟩) (imps [] ⟨by kernel_rfl, trivial⟩ trivial) ?_
  refine post_next ?_
  refine aw_seq ?_
  refine aw_region ?_
  refine ras ?_
  refine reg_nil ?_
  refine post_imp (s' := ⟨106, [(0, some (.pv (.str a0))), (3, some (.pv (.int .i64 0)))], [], 0, [], [], 0, []⟩) (imps [] ⟨by kernel_rfl, by kernel_rfl, trivial⟩ trivial) ?_
  refine post_next ?_
  refine aw_seq ?_
  refine aw_region ?_
  refine ras ?_
  refine reg_nil ?_
  refine post_imp (s' := ⟨106, [(0, some (.pv (.str a0))), (3, some (.pv (.int .i64 0))), (4, some (.pv (.int .i64 1)))], [], 0, [], [], 0, []⟩) (imps [] ⟨by kernel_rfl, by kernel_rfl, by kernel_rfl, trivial⟩ trivial) ?_
  refine post_next ?_
  refine aw_seq ?_
  refine aw_region ?_
  refine ras ?_
  refine reg_nil ?_
  refine post_imp (s' := ⟨106, [(0, some (.pv (.str a0))), (3, some (.pv (.int .i64 0))), (4, some (.pv (.int .i64 1))), (5, some (.pv (.int .u8 0)))], [], 0, [], [], 0, []⟩) (imps [] ⟨by kernel_rfl, by kernel_rfl, by kernel_rfl, by kernel_rfl, trivial⟩ trivial) ?_
  refine post_next ?_
  iterate 2 (refine aw_seq ?_)
  refine aw_region ?_
  refine ras ?_
  refine reg_nil ?_
  refine post_imp (s' := ⟨106, [(0, some (.pv (.str a0))), (3, some (.pv (.int .i64 0))), (4, some (.pv (.int .i64 1))), (5, some (.pv (.int .u8 0))), (6, some (.pv (.int .i64 0)))], [], 0, [], [], 0, []⟩) (imps [] ⟨by kernel_rfl, by kernel_rfl, by kernel_rfl, by kernel_rfl, by kernel_rfl, trivial⟩ trivial) ?_
  refine post_next ?_
  obtain ⟨lr42, hF, hK43⟩ := bind_some hF
  refine aw_for (a0.length + 1) (fun s1 => s1 = ⟨106, [(0, some (.pv (.str a0))), (3, some (.pv (.int .i64 lr42.1))), (5, some (.pv (.int .u8 lr42.2)))], [], 0, [], [], 0, []⟩) ?_ ?_
  · refine rnd_loop (α := Int × Int × Int × Int) (fun q => ⟨106, [(0, some (.pv (.str a0))), (3, some (.pv (.int .i64 q.1))), (4, some (.pv (.int .i64 q.2.1))), (5, some (.pv (.int .u8 q.2.2.1))), (6, some (.pv (.int .i64 q.2.2.2)))], [], 0, [], [], 0, []⟩) (fun k q => strings_Fields_L1 a0 k q.1 q.2.1 q.2.2.1 q.2.2.2 = some lr42) (0, 1, 0, 0) (imps [] ⟨by kernel_rfl, by kernel_rfl, by kernel_rfl, by kernel_rfl, by kernel_rfl, trivial⟩ trivial) hF (fun q h => by cases h) ?_
    clear hF
    rintro k ⟨x10, x11, x12, x13⟩ hF ih
    refine rnd_succ ?_
    iterate 2 (refine aw_seq ?_)
    refine aw_region ?_
    iterate 2 (refine rmv ?_)
    refine rgp (op_len_str rfl rfl Tryd_und_9 rfl rfl) ?_
    refine rgp (op_int (k := .i64) (m := x13) (n := (a0.length : Int)) rfl rfl rfl rfl rfl rfl) ?_
    refine reg_nil ?_
    refine post_imp (s' := ⟨106, [(0, some (.pv (.str a0))), (3, some (.pv (.int .i64 x10))), (4, some (.pv (.int .i64 x11))), (5, some (.pv (.int .u8 x12))), (6, some (.pv (.int .i64 x13))), (16, some (.pv (.bool (decide (x13 < (a0.length : Int))))))], [], 0, [], [], 0, []⟩) (imps [] ⟨by kernel_rfl, by kernel_rfl, by kernel_rfl, by kernel_rfl, by kernel_rfl, by kernel_rfl, trivial⟩ trivial) ?_
    refine post_next ?_
    rcases ite_some hF with ⟨hb27, hF⟩ | ⟨hb27, hF⟩
    · refine aw_cond_t rfl hb27 ?_
      refine aw_skip ?_
      refine post_next ?_
      refine aw_seq ?_
      refine aw_block ?_
      refine aw_seq ?_
      refine aw_region ?_
      iterate 2 (refine rmv ?_)
      obtain ⟨y30, h31, hF⟩ := bind_some hF
      refine rgp (op_index_str (k := .i64) rfl rfl rfl h31 Tryd_und_9 rfl rfl) ?_
      refine ras ?_
      refine reg_nil ?_
      refine post_imp (s' := ⟨106, [(0, some (.pv (.str a0))), (3, some (.pv (.int .i64 x10))), (4, some (.pv (.int .i64 x11))), (5, some (.pv (.int .u8 x12))), (6, some (.pv (.int .i64 x13))), (7, some (.pv (.int .u8 (y30.toNat : Int))))], [], 0, [], [], 0, []⟩) (imps [] ⟨by kernel_rfl, by kernel_rfl, by kernel_rfl, by kernel_rfl, by kernel_rfl, by kernel_rfl, trivial⟩ trivial) ?_
      refine post_next ?_
      refine aw_seq ?_
      refine aw_region ?_
      iterate 2 (refine rmv ?_)
      refine rgp (op_int2 (k := .u8) (m := x12) (n := (y30.toNat : Int)) rfl rfl rfl rfl rfl rfl) ?_
      refine ras ?_
      refine reg_nil ?_
      refine post_imp (s' := ⟨106, [(0, some (.pv (.str a0))), (3, some (.pv (.int .i64 x10))), (4, some (.pv (.int .i64 x11))), (5, some (.pv (.int .u8 (orI .u8 x12 (y30.toNat : Int))))), (6, some (.pv (.int .i64 x13))), (7, some (.pv (.int .u8 (y30.toNat : Int))))], [], 0, [], [], 0, []⟩) (imps [] ⟨by kernel_rfl, by kernel_rfl, by kernel_rfl, by kernel_rfl, by kernel_rfl, by kernel_rfl, trivial⟩ trivial) ?_
      refine post_next ?_
      refine aw_seq ?_
      refine aw_region ?_
      refine rmv ?_
      obtain ⟨y34, h35, hF⟩ := bind_some hF
      refine rgp (op_glob_index (k := .u8) (l := glob_0) (f := eI_u8) rfl globm_0 rfl Tryd_arr_69 globe_0 (fun _ => rfl) rfl h35 rfl rfl) ?_
      refine rgp (op_load_vp (p := .int .u8 y34) rfl rfl rfl Tryd_one_5 rfl rfl) ?_
      refine rgp (op_convInt rfl rfl Tryd_und_5 Tryd_und_3 rfl rfl) ?_
      refine ras ?_
      refine reg_nil ?_
      refine post_imp (s' := ⟨106, [(0, some (.pv (.str a0))), (3, some (.pv (.int .i64 x10))), (4, some (.pv (.int .i64 x11))), (5, some (.pv (.int .u8 (orI .u8 x12 (y30.toNat : Int))))), (6, some (.pv (.int .i64 x13))), (8, some (.pv (.int .i64 (w_i64 y34))))], [], 0, [], [], 0, []⟩) (imps [] ⟨by kernel_rfl, by kernel_rfl, by kernel_rfl, by kernel_rfl, by kernel_rfl, by kernel_rfl, trivial⟩ trivial) ?_
      refine post_next ?_
      refine aw_seq ?_
      refine aw_region ?_
      iterate 3 (refine rmv ?_)
      refine rgp (op_unxor rfl rfl rfl rfl) ?_
      refine rgp (op_int2 (k := .i64) (m := x11) (n := cplI .i64 (w_i64 y34)) rfl rfl rfl rfl rfl rfl) ?_
      refine rgp (op_int (k := .i64) (m := x10) (n := andI .i64 x11 (cplI .i64 (w_i64 y34))) rfl rfl rfl rfl rfl rfl) ?_
      refine ras ?_
      refine reg_nil ?_
      refine post_imp (s' := ⟨106, [(0, some (.pv (.str a0))), (3, some (.pv (.int .i64 (w_i64 (x10 + (andI .i64 x11 (cplI .i64 (w_i64 y34)))))))), (5, some (.pv (.int .u8 (orI .u8 x12 (y30.toNat : Int))))), (6, some (.pv (.int .i64 x13))), (8, some (.pv (.int .i64 (w_i64 y34))))], [], 0, [], [], 0, []⟩) (imps [] ⟨by kernel_rfl, by kernel_rfl, by kernel_rfl, by kernel_rfl, by kernel_rfl, trivial⟩ trivial) ?_
      refine post_next ?_
      refine aw_region ?_
      refine rmv ?_
      refine ras ?_
      refine reg_nil ?_
      refine post_imp (s' := ⟨106, [(0, some (.pv (.str a0))), (3, some (.pv (.int .i64 (w_i64 (x10 + (andI .i64 x11 (cplI .i64 (w_i64 y34)))))))), (4, some (.pv (.int .i64 (w_i64 y34)))), (5, some (.pv (.int .u8 (orI .u8 x12 (y30.toNat : Int))))), (6, some (.pv (.int .i64 x13)))], [], 0, [], [], 0, []⟩) (imps [] ⟨by kernel_rfl, by kernel_rfl, by kernel_rfl, by kernel_rfl, by kernel_rfl, trivial⟩ trivial) ?_
      refine post_block_normal ?_
      refine post_next ?_
      refine aw_region ?_
      refine rmv ?_
      refine rgp (op_int (k := .i64) (m := x13) (n := 1) rfl rfl rfl rfl rfl rfl) ?_
      refine ras ?_
      refine reg_nil ?_
      refine post_round ?_
      exact rnd_back (ih (w_i64 (x10 + (andI .i64 x11 (cplI .i64 (w_i64 y34)))), w_i64 y34, orI .u8 x12 (y30.toNat : Int), w_i64 (x13 + 1)) hF) (imps [] ⟨by kernel_rfl, by kernel_rfl, by kernel_rfl, by kernel_rfl, by kernel_rfl, trivial⟩ trivial)
    refine aw_cond_f rfl hb27 ?_
    refine aw_exit ?_
    iterate 2 (refine post_then_exit ?_)
    obtain rfl := Option.some.inj hF
    exact post_lp_break _ rfl (imps [] ⟨by kernel_rfl, by kernel_rfl, by kernel_rfl, trivial⟩ trivial)
  rintro _ rfl
  have hF := hK43
  clear hK43
  obtain ⟨x40, x41⟩ := lr42
  refine post_next ?_
  iterate 2 (refine aw_seq ?_)
  refine aw_region ?_
  refine rmv ?_
  refine rgp (op_int (k := .u8) (m := x41) (n := 128) rfl rfl rfl rfl rfl rfl) ?_
  refine reg_nil ?_
  refine post_imp (s' := ⟨106, [(0, some (.pv (.str a0))), (3, some (.pv (.int .i64 x40))), (37, some (.pv (.bool (decide (x41 ≥ 128)))))], [], 0, [], [], 0, []⟩) (imps [] ⟨by kernel_rfl, by kernel_rfl, by kernel_rfl, trivial⟩ trivial) ?_
  refine post_next ?_
  rcases ite_some hF with ⟨hb44, hF⟩ | ⟨hb44, hF⟩
  · cases hF
  refine aw_cond_f rfl hb44 ?_
  refine aw_skip ?_
  refine post_next ?_
  refine aw_seq ?_
  refine aw_region ?_
  refine rmv ?_
  obtain ⟨u47, h48, hF⟩ := bind_some hF
  refine rgp (op_make 0 rfl (k := .i64) (k' := .i64) (n := x40) (m := x40) (zs := eS []) rfl rfl rfl (mkOk_spec h48).1 (mkOk_spec h48).2.1 (mkOk_spec h48).2.2 Tryd_slc_41 Tryd_elm_9 rfl Tryd_zer_9 (by exact ⟨rfl, trivial⟩) rfl rfl (map_rep eS _ _) rfl rfl) ?_
  refine ras ?_
  refine reg_nil ?_
  refine post_imp (s' := ⟨106, [(0, some (.pv (.str a0))), (9, some (.ls 0))], [(0, some (.row 9 1 (List.map eS (List.replicate (x40 : Int).toNat []))))], 1, [], [], 0, []⟩) (imps [0] ⟨by kernel_rfl, by kernel_rfl, trivial⟩ ⟨by kernel_rfl, trivial⟩) ?_
  refine post_next ?_
  refine aw_seq ?_
  refine aw_region ?_
  refine ras ?_
  refine reg_nil ?_
  refine post_imp (s' := ⟨106, [(0, some (.pv (.str a0))), (9, some (.ls 0)), (10, some (.pv (.int .i64 0)))], [(0, some (.row 9 1 (List.map eS (List.replicate (x40 : Int).toNat []))))], 1, [], [], 0, []⟩) (imps [0] ⟨by kernel_rfl, by kernel_rfl, by kernel_rfl, trivial⟩ ⟨by kernel_rfl, trivial⟩) ?_
  refine post_next ?_
  refine aw_seq ?_
  refine aw_region ?_
  refine ras ?_
  refine reg_nil ?_
  refine post_imp (s' := ⟨106, [(0, some (.pv (.str a0))), (9, some (.ls 0)), (10, some (.pv (.int .i64 0)))], [(0, some (.row 9 1 (List.map eS (List.replicate (x40 : Int).toNat []))))], 1, [], [], 0, []⟩) (imps [0] ⟨by kernel_rfl, by kernel_rfl, by kernel_rfl, trivial⟩ ⟨by kernel_rfl, trivial⟩) ?_
  refine post_next ?_
  refine aw_seq ?_
  refine aw_region ?_
  refine ras ?_
  refine reg_nil ?_
  refine post_imp (s' := ⟨106, [(0, some (.pv (.str a0))), (9, some (.ls 0)), (10, some (.pv (.int .i64 0))), (12, some (.pv (.int .i64 0)))], [(0, some (.row 9 1 (List.map eS (List.replicate (x40 : Int).toNat []))))], 1, [], [], 0, []⟩) (imps [0] ⟨by kernel_rfl, by kernel_rfl, by kernel_rfl, by kernel_rfl, trivial⟩ ⟨by kernel_rfl, trivial⟩) ?_
  refine post_next ?_
  refine aw_seq ?_
  obtain ⟨x79, hF, hK80⟩ := bind_some hF
  refine aw_for (a0.length + 1) (fun s1 => s1 = ⟨106, [(0, some (.pv (.str a0))), (9, some (.ls 0)), (10, some (.pv (.int .i64 0))), (12, some (.pv (.int .i64 x79)))], [(0, some (.row 9 1 (List.map eS (List.replicate (x40 : Int).toNat []))))], 1, [], [], 0, []⟩) ?_ ?_
  · refine rnd_loop (α := Int) (fun q => ⟨106, [(0, some (.pv (.str a0))), (9, some (.ls 0)), (10, some (.pv (.int .i64 0))), (12, some (.pv (.int .i64 q)))], [(0, some (.row 9 1 (List.map eS (List.replicate (x40 : Int).toNat []))))], 1, [], [], 0, []⟩) (fun k q => strings_Fields_L2 a0 k q = some x79) 0 (imps [0] ⟨by kernel_rfl, by kernel_rfl, by kernel_rfl, by kernel_rfl, trivial⟩ ⟨by kernel_rfl, trivial⟩) hF (fun q h => by cases h) ?_
    clear hF
    rintro k x58 hF ih
    refine rnd_succ ?_
    iterate 2 (refine aw_seq ?_)
    obtain ⟨x74, hF, hK76⟩ := bind_some hF
    refine aw_cut (fun s1 => s1 = ⟨106, [(0, some (.pv (.str a0))), (9, some (.ls 0)), (10, some (.pv (.int .i64 0))), (12, some (.pv (.int .i64 x58))), (53, some (.pv (.bool x74)))], [(0, some (.row 9 1 (List.map eS (List.replicate (x40 : Int).toNat []))))], 1, [], [], 0, []⟩) ?_ ?_
    · refine aw_region ?_
      iterate 2 (refine rmv ?_)
      refine rgp (op_len_str rfl rfl Tryd_und_9 rfl rfl) ?_
      refine rgp (op_int (k := .i64) (m := x58) (n := (a0.length : Int)) rfl rfl rfl rfl rfl rfl) ?_
      refine rmv ?_
      rcases ite_some hF with ⟨hb69, hF⟩ | ⟨hb69, hF⟩
      · refine rgn hb69 (op_move rfl rfl rfl rfl) ?_
        refine rgn hb69 (op_move rfl rfl rfl rfl) ?_
        obtain ⟨y70, h71, hF⟩ := bind_some hF
        refine rgn hb69 (op_index_str (k := .i64) rfl rfl rfl h71 Tryd_und_9 rfl rfl) ?_
        obtain ⟨y72, h73, hF⟩ := bind_some hF
        refine rgn hb69 (op_glob_index (k := .u8) (l := glob_0) (f := eI_u8) rfl globm_0 rfl Tryd_arr_69 globe_0 (fun _ => rfl) rfl h73 rfl rfl) ?_
        refine rgn hb69 (op_load_vp (p := .int .u8 y72) rfl rfl rfl Tryd_one_5 rfl rfl) ?_
        refine rgn hb69 (op_int (k := .u8) (m := y72) (n := 0) rfl rfl rfl rfl rfl rfl) ?_
        refine rpt hb69 ?_
        refine reg_nil ?_
        cases hF
        exact post_cut _ rfl (imps [0] ⟨by kernel_rfl, by kernel_rfl, by kernel_rfl, by kernel_rfl, by kernel_rfl, trivial⟩ ⟨by kernel_rfl, trivial⟩)
      iterate 6 (refine rgo_f hb69 ?_)
      refine rpf hb69 ?_
      refine reg_nil ?_
      cases hF
      exact post_cut _ rfl (imps [0] ⟨by kernel_rfl, by kernel_rfl, by kernel_rfl, by kernel_rfl, by kernel_rfl, trivial⟩ ⟨by kernel_rfl, trivial⟩)
    rintro _ rfl
    have hF := hK76
    clear hK76
    refine post_next ?_
    rcases ite_some hF with ⟨hb77, hF⟩ | ⟨hb77, hF⟩
    · refine aw_cond_t rfl hb77 ?_
      refine aw_skip ?_
      refine post_next ?_
      refine aw_block ?_
      refine aw_region ?_
      refine rmv ?_
      refine rgp (op_int (k := .i64) (m := x58) (n := 1) rfl rfl rfl rfl rfl rfl) ?_
      refine ras ?_
      refine reg_nil ?_
      refine post_imp (s' := ⟨106, [(0, some (.pv (.str a0))), (9, some (.ls 0)), (10, some (.pv (.int .i64 0))), (12, some (.pv (.int .i64 (w_i64 (x58 + 1)))))], [(0, some (.row 9 1 (List.map eS (List.replicate (x40 : Int).toNat []))))], 1, [], [], 0, []⟩) (imps [0] ⟨by kernel_rfl, by kernel_rfl, by kernel_rfl, by kernel_rfl, trivial⟩ ⟨by kernel_rfl, trivial⟩) ?_
      refine post_block_normal ?_
      refine post_round ?_
      exact rnd_back (ih (w_i64 (x58 + 1)) hF) (imps [0] ⟨by kernel_rfl, by kernel_rfl, by kernel_rfl, by kernel_rfl, trivial⟩ ⟨by kernel_rfl, trivial⟩)
    refine aw_cond_f rfl hb77 ?_
    refine aw_exit ?_
    iterate 2 (refine post_then_exit ?_)
    obtain rfl := Option.some.inj hF
    exact post_lp_break _ rfl (imps [0] ⟨by kernel_rfl, by kernel_rfl, by kernel_rfl, by kernel_rfl, trivial⟩ ⟨by kernel_rfl, trivial⟩)
  rintro _ rfl
  have hF := hK80
  clear hK80
  refine post_next ?_
  refine aw_seq ?_
  refine aw_region ?_
  refine rmv ?_
  refine ras ?_
  refine reg_nil ?_
  refine post_imp (s' := ⟨106, [(0, some (.pv (.str a0))), (9, some (.ls 0)), (10, some (.pv (.int .i64 0))), (11, some (.pv (.int .i64 x79))), (12, some (.pv (.int .i64 x79)))], [(0, some (.row 9 1 (List.map eS (List.replicate (x40 : Int).toNat []))))], 1, [], [], 0, []⟩) (imps [0] ⟨by kernel_rfl, by kernel_rfl, by kernel_rfl, by kernel_rfl, by kernel_rfl, trivial⟩ ⟨by kernel_rfl, trivial⟩) ?_
  refine post_next ?_
  refine aw_seq ?_
  obtain ⟨lr246, hF, hK247⟩ := bind_some hF
  refine aw_for (a0.length + 1) (fun s1 => s1 = ⟨106, [(0, some (.pv (.str a0))), (9, some (.ls 0)), (10, some (.pv (.int .i64 lr246.2.1))), (11, some (.pv (.int .i64 lr246.2.2)))], [(0, some (.row 9 1 (List.map eS lr246.1)))], 1, [], [], 0, []⟩) ?_ ?_
  · refine rnd_loop (α := (List (List UInt8)) × Int × Int × Int) (fun q => ⟨106, [(0, some (.pv (.str a0))), (9, some (.ls 0)), (10, some (.pv (.int .i64 q.2.1))), (11, some (.pv (.int .i64 q.2.2.1))), (12, some (.pv (.int .i64 q.2.2.2)))], [(0, some (.row 9 1 (List.map eS q.1)))], 1, [], [], 0, []⟩) (fun k q => strings_Fields_L3 a0 k q.1 q.2.1 q.2.2.1 q.2.2.2 = some lr246) ((List.replicate (x40 : Int).toNat []), 0, x79, x79) (imps [0] ⟨by kernel_rfl, by kernel_rfl, by kernel_rfl, by kernel_rfl, by kernel_rfl, trivial⟩ ⟨by kernel_rfl, trivial⟩) hF (fun q h => by cases h) ?_
    clear hF
    rintro k ⟨x131, x132, x133, x134⟩ hF ih
    refine rnd_succ ?_
    iterate 2 (refine aw_seq ?_)
    refine aw_region ?_
    iterate 2 (refine rmv ?_)
    refine rgp (op_len_str rfl rfl Tryd_und_9 rfl rfl) ?_
    refine rgp (op_int (k := .i64) (m := x134) (n := (a0.length : Int)) rfl rfl rfl rfl rfl rfl) ?_
    refine reg_nil ?_
    refine post_imp (s' := ⟨106, [(0, some (.pv (.str a0))), (9, some (.ls 0)), (10, some (.pv (.int .i64 x132))), (11, some (.pv (.int .i64 x133))), (12, some (.pv (.int .i64 x134))), (60, some (.pv (.bool (decide (x134 < (a0.length : Int))))))], [(0, some (.row 9 1 (List.map eS x131)))], 1, [], [], 0, []⟩) (imps [0] ⟨by kernel_rfl, by kernel_rfl, by kernel_rfl, by kernel_rfl, by kernel_rfl, by kernel_rfl, trivial⟩ ⟨by kernel_rfl, trivial⟩) ?_
    refine post_next ?_
    rcases ite_some hF with ⟨hb189, hF⟩ | ⟨hb189, hF⟩
    · refine aw_cond_t rfl hb189 ?_
      refine aw_skip ?_
      refine post_next ?_
      refine aw_block ?_
      iterate 2 (refine aw_seq ?_)
      refine aw_region ?_
      iterate 2 (refine rmv ?_)
      obtain ⟨y194, h195, hF⟩ := bind_some hF
      refine rgp (op_index_str (k := .i64) rfl rfl rfl h195 Tryd_und_9 rfl rfl) ?_
      obtain ⟨y196, h197, hF⟩ := bind_some hF
      refine rgp (op_glob_index (k := .u8) (l := glob_0) (f := eI_u8) rfl globm_0 rfl Tryd_arr_69 globe_0 (fun _ => rfl) rfl h197 rfl rfl) ?_
      refine rgp (op_load_vp (p := .int .u8 y196) rfl rfl rfl Tryd_one_5 rfl rfl) ?_
      refine rgp (op_int (k := .u8) (m := y196) (n := 0) rfl rfl rfl rfl rfl rfl) ?_
      refine reg_nil ?_
      refine post_imp (s' := ⟨106, [(0, some (.pv (.str a0))), (9, some (.ls 0)), (10, some (.pv (.int .i64 x132))), (11, some (.pv (.int .i64 x133))), (12, some (.pv (.int .i64 x134))), (66, some (.pv (.bool (y196 == 0))))], [(0, some (.row 9 1 (List.map eS x131)))], 1, [], [], 0, []⟩) (imps [0] ⟨by kernel_rfl, by kernel_rfl, by kernel_rfl, by kernel_rfl, by kernel_rfl, by kernel_rfl, trivial⟩ ⟨by kernel_rfl, trivial⟩) ?_
      refine post_next ?_
      rcases ite_some hF with ⟨hb198, hF⟩ | ⟨hb198, hF⟩
      · refine aw_cond_t rfl hb198 ?_
        refine aw_seq ?_
        refine aw_region ?_
        refine rmv ?_
        refine rgp (op_int (k := .i64) (m := x134) (n := 1) rfl rfl rfl rfl rfl rfl) ?_
        refine ras ?_
        refine reg_nil ?_
        refine post_imp (s' := ⟨106, [(0, some (.pv (.str a0))), (9, some (.ls 0)), (10, some (.pv (.int .i64 x132))), (11, some (.pv (.int .i64 x133))), (12, some (.pv (.int .i64 (w_i64 (x134 + 1)))))], [(0, some (.row 9 1 (List.map eS x131)))], 1, [], [], 0, []⟩) (imps [0] ⟨by kernel_rfl, by kernel_rfl, by kernel_rfl, by kernel_rfl, by kernel_rfl, trivial⟩ ⟨by kernel_rfl, trivial⟩) ?_
        refine post_next ?_
        refine aw_exit ?_
        refine post_then_exit ?_
        refine post_block_exit ?_
        refine post_round ?_
        exact rnd_back (ih (x131, x132, x133, w_i64 (x134 + 1)) hF) (imps [0] ⟨by kernel_rfl, by kernel_rfl, by kernel_rfl, by kernel_rfl, by kernel_rfl, trivial⟩ ⟨by kernel_rfl, trivial⟩)
      refine aw_cond_f rfl hb198 ?_
      refine aw_skip ?_
      refine post_next ?_
      refine aw_seq ?_
      refine aw_region ?_
      iterate 5 (refine rmv ?_)
      obtain ⟨y203, h204, hF⟩ := bind_some hF
      refine rgp (op_slice_str (nl := (some x133)) (nh := (some x134)) rfl rfl rfl rfl Tryd_und_9 h204 rfl rfl) ?_
      obtain ⟨y205, h206, hF⟩ := bind_some hF
      refine rgp (op_index_ls (k := .i64) rfl rfl rfl rfl (idx_map eS h206) Tryd_slc_41 rfl rfl) ?_
      refine rgp (op_store_le (n := 1) rfl rfl rfl rfl rfl (map_get eS h206) (or_one Tryd_one_9) (by rw [Tryd_one_9]; rfl) rfl (map_set' eS x131 _ y203) rfl rfl) ?_
      refine reg_nil ?_
      refine post_imp (s' := ⟨106, [(0, some (.pv (.str a0))), (9, some (.ls 0)), (10, some (.pv (.int .i64 x132))), (12, some (.pv (.int .i64 x134)))], [(0, some (.row 9 1 (List.map eS (x131.set (x132 : Int).toNat y203))))], 1, [], [], 0, []⟩) (imps [0] ⟨by kernel_rfl, by kernel_rfl, by kernel_rfl, by kernel_rfl, trivial⟩ ⟨by kernel_rfl, trivial⟩) ?_
      refine post_next ?_
      refine aw_seq ?_
      refine aw_region ?_
      refine rmv ?_
      refine rgp (op_int (k := .i64) (m := x132) (n := 1) rfl rfl rfl rfl rfl rfl) ?_
      refine ras ?_
      refine reg_nil ?_
      refine post_imp (s' := ⟨106, [(0, some (.pv (.str a0))), (9, some (.ls 0)), (10, some (.pv (.int .i64 (w_i64 (x132 + 1))))), (12, some (.pv (.int .i64 x134)))], [(0, some (.row 9 1 (List.map eS (x131.set (x132 : Int).toNat y203))))], 1, [], [], 0, []⟩) (imps [0] ⟨by kernel_rfl, by kernel_rfl, by kernel_rfl, by kernel_rfl, trivial⟩ ⟨by kernel_rfl, trivial⟩) ?_
      refine post_next ?_
      refine aw_seq ?_
      refine aw_region ?_
      refine rmv ?_
      refine rgp (op_int (k := .i64) (m := x134) (n := 1) rfl rfl rfl rfl rfl rfl) ?_
      refine ras ?_
      refine reg_nil ?_
      refine post_imp (s' := ⟨106, [(0, some (.pv (.str a0))), (9, some (.ls 0)), (10, some (.pv (.int .i64 (w_i64 (x132 + 1))))), (12, some (.pv (.int .i64 (w_i64 (x134 + 1)))))], [(0, some (.row 9 1 (List.map eS (x131.set (x132 : Int).toNat y203))))], 1, [], [], 0, []⟩) (imps [0] ⟨by kernel_rfl, by kernel_rfl, by kernel_rfl, by kernel_rfl, trivial⟩ ⟨by kernel_rfl, trivial⟩) ?_
      refine post_next ?_
      refine aw_seq ?_
      obtain ⟨x237, hF, hK238⟩ := bind_some hF
      refine aw_for (a0.length + 1) (fun s1 => s1 = ⟨106, [(0, some (.pv (.str a0))), (9, some (.ls 0)), (10, some (.pv (.int .i64 (w_i64 (x132 + 1))))), (12, some (.pv (.int .i64 x237)))], [(0, some (.row 9 1 (List.map eS (x131.set (x132 : Int).toNat y203))))], 1, [], [], 0, []⟩) ?_ ?_
      · refine rnd_loop (α := Int) (fun q => ⟨106, [(0, some (.pv (.str a0))), (9, some (.ls 0)), (10, some (.pv (.int .i64 (w_i64 (x132 + 1))))), (12, some (.pv (.int .i64 q)))], [(0, some (.row 9 1 (List.map eS (x131.set (x132 : Int).toNat y203))))], 1, [], [], 0, []⟩) (fun k q => strings_Fields_L4 a0 k q = some x237) (w_i64 (x134 + 1)) (imps [0] ⟨by kernel_rfl, by kernel_rfl, by kernel_rfl, by kernel_rfl, trivial⟩ ⟨by kernel_rfl, trivial⟩) hF (fun q h => by cases h) ?_
        clear hF
        rintro k x216 hF ih
        refine rnd_succ ?_
        iterate 2 (refine aw_seq ?_)
        obtain ⟨x232, hF, hK234⟩ := bind_some hF
        refine aw_cut (fun s1 => s1 = ⟨106, [(0, some (.pv (.str a0))), (9, some (.ls 0)), (10, some (.pv (.int .i64 (w_i64 (x132 + 1))))), (12, some (.pv (.int .i64 x216))), (91, some (.pv (.bool x232)))], [(0, some (.row 9 1 (List.map eS (x131.set (x132 : Int).toNat y203))))], 1, [], [], 0, []⟩) ?_ ?_
        · refine aw_region ?_
          iterate 2 (refine rmv ?_)
          refine rgp (op_len_str rfl rfl Tryd_und_9 rfl rfl) ?_
          refine rgp (op_int (k := .i64) (m := x216) (n := (a0.length : Int)) rfl rfl rfl rfl rfl rfl) ?_
          refine rmv ?_
          rcases ite_some hF with ⟨hb227, hF⟩ | ⟨hb227, hF⟩
          · refine rgn hb227 (op_move rfl rfl rfl rfl) ?_
            refine rgn hb227 (op_move rfl rfl rfl rfl) ?_
            obtain ⟨y228, h229, hF⟩ := bind_some hF
            refine rgn hb227 (op_index_str (k := .i64) rfl rfl rfl h229 Tryd_und_9 rfl rfl) ?_
            obtain ⟨y230, h231, hF⟩ := bind_some hF
            refine rgn hb227 (op_glob_index (k := .u8) (l := glob_0) (f := eI_u8) rfl globm_0 rfl Tryd_arr_69 globe_0 (fun _ => rfl) rfl h231 rfl rfl) ?_
            refine rgn hb227 (op_load_vp (p := .int .u8 y230) rfl rfl rfl Tryd_one_5 rfl rfl) ?_
            refine rgn hb227 (op_int (k := .u8) (m := y230) (n := 0) rfl rfl rfl rfl rfl rfl) ?_
            refine rpt hb227 ?_
            refine reg_nil ?_
            cases hF
            exact post_cut _ rfl (imps [0] ⟨by kernel_rfl, by kernel_rfl, by kernel_rfl, by kernel_rfl, by kernel_rfl, trivial⟩ ⟨by kernel_rfl, trivial⟩)
          iterate 6 (refine rgo_f hb227 ?_)
          refine rpf hb227 ?_
          refine reg_nil ?_
          cases hF
          exact post_cut _ rfl (imps [0] ⟨by kernel_rfl, by kernel_rfl, by kernel_rfl, by kernel_rfl, by kernel_rfl, trivial⟩ ⟨by kernel_rfl, trivial⟩)
        rintro _ rfl
        have hF := hK234
        clear hK234
        refine post_next ?_
        rcases ite_some hF with ⟨hb235, hF⟩ | ⟨hb235, hF⟩
        · refine aw_cond_t rfl hb235 ?_
          refine aw_skip ?_
          refine post_next ?_
          refine aw_block ?_
          refine aw_region ?_
          refine rmv ?_
          refine rgp (op_int (k := .i64) (m := x216) (n := 1) rfl rfl rfl rfl rfl rfl) ?_
          refine ras ?_
          refine reg_nil ?_
          refine post_imp (s' := ⟨106, [(0, some (.pv (.str a0))), (9, some (.ls 0)), (10, some (.pv (.int .i64 (w_i64 (x132 + 1))))), (12, some (.pv (.int .i64 (w_i64 (x216 + 1)))))], [(0, some (.row 9 1 (List.map eS (x131.set (x132 : Int).toNat y203))))], 1, [], [], 0, []⟩) (imps [0] ⟨by kernel_rfl, by kernel_rfl, by kernel_rfl, by kernel_rfl, trivial⟩ ⟨by kernel_rfl, trivial⟩) ?_
          refine post_block_normal ?_
          refine post_round ?_
          exact rnd_back (ih (w_i64 (x216 + 1)) hF) (imps [0] ⟨by kernel_rfl, by kernel_rfl, by kernel_rfl, by kernel_rfl, trivial⟩ ⟨by kernel_rfl, trivial⟩)
        refine aw_cond_f rfl hb235 ?_
        refine aw_exit ?_
        iterate 2 (refine post_then_exit ?_)
        obtain rfl := Option.some.inj hF
        exact post_lp_break _ rfl (imps [0] ⟨by kernel_rfl, by kernel_rfl, by kernel_rfl, by kernel_rfl, trivial⟩ ⟨by kernel_rfl, trivial⟩)
      rintro _ rfl
      have hF := hK238
      clear hK238
      refine post_next ?_
      refine aw_region ?_
      refine rmv ?_
      refine ras ?_
      refine reg_nil ?_
      refine post_imp (s' := ⟨106, [(0, some (.pv (.str a0))), (9, some (.ls 0)), (10, some (.pv (.int .i64 (w_i64 (x132 + 1))))), (11, some (.pv (.int .i64 x237))), (12, some (.pv (.int .i64 x237)))], [(0, some (.row 9 1 (List.map eS (x131.set (x132 : Int).toNat y203))))], 1, [], [], 0, []⟩) (imps [0] ⟨by kernel_rfl, by kernel_rfl, by kernel_rfl, by kernel_rfl, by kernel_rfl, trivial⟩ ⟨by kernel_rfl, trivial⟩) ?_
      refine post_block_normal ?_
      refine post_round ?_
      exact rnd_back (ih ((x131.set (x132 : Int).toNat y203), w_i64 (x132 + 1), x237, x237) hF) (imps [0] ⟨by kernel_rfl, by kernel_rfl, by kernel_rfl, by kernel_rfl, by kernel_rfl, trivial⟩ ⟨by kernel_rfl, trivial⟩)
    refine aw_cond_f rfl hb189 ?_
    refine aw_exit ?_
    iterate 2 (refine post_then_exit ?_)
    obtain rfl := Option.some.inj hF
    exact post_lp_break _ rfl (imps [0] ⟨by kernel_rfl, by kernel_rfl, by kernel_rfl, by kernel_rfl, trivial⟩ ⟨by kernel_rfl, trivial⟩)
  rintro _ rfl
  have hF := hK247
  clear hK247
  obtain ⟨x243, x244, x245⟩ := lr246
  refine post_next ?_
  iterate 2 (refine aw_seq ?_)
  refine aw_region ?_
  iterate 2 (refine rmv ?_)
  refine rgp (op_len_str rfl rfl Tryd_und_9 rfl rfl) ?_
  refine rgp (op_int (k := .i64) (m := x245) (n := (a0.length : Int)) rfl rfl rfl rfl rfl rfl) ?_
  refine reg_nil ?_
  refine post_imp (s' := ⟨106, [(0, some (.pv (.str a0))), (9, some (.ls 0)), (10, some (.pv (.int .i64 x244))), (11, some (.pv (.int .i64 x245))), (98, some (.pv (.bool (decide (x245 < (a0.length : Int))))))], [(0, some (.row 9 1 (List.map eS x243)))], 1, [], [], 0, []⟩) (imps [0] ⟨by kernel_rfl, by kernel_rfl, by kernel_rfl, by kernel_rfl, by kernel_rfl, trivial⟩ ⟨by kernel_rfl, trivial⟩) ?_
  refine post_next ?_
  rcases ite_some hF with ⟨hb248, hF⟩ | ⟨hb248, hF⟩
  · refine aw_cond_t rfl hb248 ?_
    refine aw_region ?_
    iterate 4 (refine rmv ?_)
    obtain ⟨y249, h250, hF⟩ := bind_some hF
    refine rgp (op_slice_str (nl := (some x245)) (nh := none) rfl rfl rfl rfl Tryd_und_9 h250 rfl rfl) ?_
    obtain ⟨y251, h252, hF⟩ := bind_some hF
    refine rgp (op_index_ls (k := .i64) rfl rfl rfl rfl (idx_map eS h252) Tryd_slc_41 rfl rfl) ?_
    refine rgp (op_store_le (n := 1) rfl rfl rfl rfl rfl (map_get eS h252) (or_one Tryd_one_9) (by rw [Tryd_one_9]; rfl) rfl (map_set' eS x243 _ y249) rfl rfl) ?_
    refine reg_nil ?_
    refine post_imp (s' := ⟨106, [(9, some (.ls 0))], [(0, some (.row 9 1 (List.map eS (x243.set (x244 : Int).toNat y249))))], 1, [], [], 0, []⟩) (imps [0] ⟨by kernel_rfl, trivial⟩ ⟨by kernel_rfl, trivial⟩) ?_
    refine post_next ?_
    refine aw_seq ?_
    refine aw_region ?_
    refine rmv ?_
    refine ras ?_
    refine reg_nil ?_
    refine post_imp (s' := ⟨106, [(2, some (.ls 0))], [(0, some (.row 9 1 (List.map eS (x243.set (x244 : Int).toNat y249))))], 1, [], [], 0, []⟩) (imps [0] ⟨by kernel_rfl, trivial⟩ ⟨by kernel_rfl, trivial⟩) ?_
    refine post_next ?_
    refine aw_ret ?_
    obtain rfl := Option.some.inj hF
    exact post_ret rfl rfl (.cons _ _ _ _ _ (.tmp _ _ rfl) (.own _ _ _ _ rfl nolent3) .nil) (.inl rfl)
  refine aw_cond_f rfl hb248 ?_
  refine aw_skip ?_
  refine post_next ?_
  refine aw_seq ?_
  refine aw_region ?_
  refine rmv ?_
  refine ras ?_
  refine reg_nil ?_
  refine post_imp (s' := ⟨106, [(2, some (.ls 0))], [(0, some (.row 9 1 (List.map eS x243)))], 1, [], [], 0, []⟩) (imps [0] ⟨by kernel_rfl, trivial⟩ ⟨by kernel_rfl, trivial⟩) ?_
  refine post_next ?_
  refine aw_ret ?_
  obtain rfl := Option.some.inj hF
  exact post_ret rfl rfl (.cons _ _ _ _ _ (.tmp _ _ rfl) (.own _ _ _ _ rfl nolent3) .nil) (.inl rfl)
theorem internal_stringslite_HasPrefix_ok {a0 : List UInt8} {a1 : List UInt8} {r : Bool} (hF : internal_stringslite_HasPrefix a0 a1 = some r) : Abs.Fn globs_Tryd Tryd.prog 81 [.str a0, .str a1] [.p (.bool r)] := by
  unfold internal_stringslite_HasPrefix at hF
  refine fn_of_body (n := 18) Tryd.func81 rfl rfl rfl ?_
  intro w O
  refine aw_seq ?_
  refine aw_region ?_
  refine ras ?_
  refine reg_nil ?_
  refine post_imp (s' := ⟨18, [(0, some (.pv (.str a0))), (1, some (.pv (.str a1)))], [], 0, [], [], 0, []⟩) (imps [] ⟨by kernel_rfl, by kernel_rfl, trivial⟩ trivial) ?_
  refine post_next ?_
  refine aw_seq ?_
  refine aw_region ?_
  refine rmv ?_
  refine rgp (op_len_str rfl rfl Tryd_und_9 rfl rfl) ?_
  refine rmv ?_
  refine rgp (op_len_str rfl rfl Tryd_und_9 rfl rfl) ?_
  refine rgp (op_int (k := .i64) (m := (a0.length : Int)) (n := (a1.length : Int)) rfl rfl rfl rfl rfl rfl) ?_
  refine rmv ?_
  rcases ite_some hF with ⟨hb1, hF⟩ | ⟨hb1, hF⟩
  · refine rgn hb1 (op_move rfl rfl rfl rfl) ?_
    refine rgn hb1 (op_move rfl rfl rfl rfl) ?_
    refine rgn hb1 (op_len_str rfl rfl Tryd_und_9 rfl rfl) ?_
    obtain ⟨y2, h3, hF⟩ := bind_some hF
    refine rgn hb1 (op_slice_str (nl := none) (nh := (some (a1.length : Int))) rfl rfl rfl rfl Tryd_und_9 h3 rfl rfl) ?_
    refine rgn hb1 (op_move rfl rfl rfl rfl) ?_
    refine rgn hb1 (op_str rfl rfl rfl rfl rfl rfl) ?_
    refine rpt hb1 ?_
    refine ras ?_
    refine reg_nil ?_
    refine post_imp (s' := ⟨18, [(4, some (.pv (.bool (y2 == a1))))], [], 0, [], [], 0, []⟩) (imps [] ⟨by kernel_rfl, trivial⟩ trivial) ?_
    refine post_next ?_
    refine aw_ret ?_
    obtain rfl := Option.some.inj hF
    exact prt
  iterate 6 (refine rgo_f hb1 ?_)
  refine rpf hb1 ?_
  refine ras ?_
  refine reg_nil ?_
  refine post_imp (s' := ⟨18, [(4, some (.pv (.bool false)))], [], 0, [], [], 0, []⟩) (imps [] ⟨by kernel_rfl, trivial⟩ trivial) ?_
  refine post_next ?_
  refine aw_ret ?_
  obtain rfl := Option.some.inj hF
  exact prt
theorem internal_stringslite_CutPrefix_ok {a0 : List UInt8} {a1 : List UInt8} {r : (List UInt8) × Bool} (hF : internal_stringslite_CutPrefix a0 a1 = some r) : Abs.Fn globs_Tryd Tryd.prog 68 [.str a0, .str a1] [.p (.str r.1), .p (.bool r.2)] := by
  unfold internal_stringslite_CutPrefix at hF
  refine fn_of_body (n := 15) Tryd.func68 rfl rfl rfl ?_
  intro w O
  refine aw_seq ?_
  refine aw_region ?_
  iterate 2 (refine ras ?_)
  refine reg_nil ?_
  refine post_imp (s' := ⟨15, [(0, some (.pv (.str a0))), (1, some (.pv (.str a1)))], [], 0, [], [], 0, []⟩) (imps [] ⟨by kernel_rfl, by kernel_rfl, trivial⟩ trivial) ?_
  refine post_next ?_
  iterate 2 (refine aw_seq ?_)
  refine aw_region ?_
  iterate 2 (refine rmv ?_)
  obtain ⟨y3, h4, hF⟩ := bind_some hF
  refine rgp (op_call 0 rfl (caps := []) (args := [.str a0, .str a1]) (rs := [.p (.bool y3)]) rfl rfl rfl Tryd_cal_81 (internal_stringslite_HasPrefix_ok h4) rfl rfl rfl) ?_
  refine rgp (op_not rfl rfl rfl rfl) ?_
  refine reg_nil ?_
  refine post_imp (s' := ⟨15, [(0, some (.pv (.str a0))), (1, some (.pv (.str a1))), (9, some (.pv (.bool (!y3))))], [], 0, [], [], 0, []⟩) (imps [] ⟨by kernel_rfl, by kernel_rfl, by kernel_rfl, trivial⟩ trivial) ?_
  refine post_next ?_
  rcases ite_some hF with ⟨hb5, hF⟩ | ⟨hb5, hF⟩
  · refine aw_cond_t rfl hb5 ?_
    refine aw_seq ?_
    refine aw_region ?_
    refine rmv ?_
    iterate 2 (refine ras ?_)
    refine reg_nil ?_
    refine post_imp (s' := ⟨15, [(4, some (.pv (.str a0))), (5, some (.pv (.bool false)))], [], 0, [], [], 0, []⟩) (imps [] ⟨by kernel_rfl, by kernel_rfl, trivial⟩ trivial) ?_
    refine post_next ?_
    refine aw_ret ?_
    refine post_then_ret ?_
    obtain rfl := Option.some.inj hF
    exact post_ret rfl rfl (.cons _ _ _ _ _ (.tmp _ _ rfl) (.p _) (.cons _ _ _ _ _ (.tmp _ _ rfl) (.p _) .nil)) (.inl rfl)
  refine aw_cond_f rfl hb5 ?_
  refine aw_skip ?_
  refine post_next ?_
  refine aw_seq ?_
  refine aw_region ?_
  iterate 2 (refine rmv ?_)
  refine rgp (op_len_str rfl rfl Tryd_und_9 rfl rfl) ?_
  obtain ⟨y6, h7, hF⟩ := bind_some hF
  refine rgp (op_slice_str (nl := (some (a1.length : Int))) (nh := none) rfl rfl rfl rfl Tryd_und_9 h7 rfl rfl) ?_
  iterate 2 (refine ras ?_)
  refine reg_nil ?_
  refine post_imp (s' := ⟨15, [(4, some (.pv (.str y6))), (5, some (.pv (.bool true)))], [], 0, [], [], 0, []⟩) (imps [] ⟨by kernel_rfl, by kernel_rfl, trivial⟩ trivial) ?_
  refine post_next ?_
  refine aw_ret ?_
  obtain rfl := Option.some.inj hF
  exact post_ret rfl rfl (.cons _ _ _ _ _ (.tmp _ _ rfl) (.p _) (.cons _ _ _ _ _ (.tmp _ _ rfl) (.p _) .nil)) (.inl rfl)
theorem strings_CutPrefix_ok {a0 : List UInt8} {a1 : List UInt8} {r : (List UInt8) × Bool} (hF : strings_CutPrefix a0 a1 = some r) : Abs.Fn globs_Tryd Tryd.prog 55 [.str a0, .str a1] [.p (.str r.1), .p (.bool r.2)] := by
  unfold strings_CutPrefix at hF
  refine fn_of_body (n := 11) Tryd.func55 rfl rfl rfl ?_
  intro w O
  refine aw_seq ?_
  refine aw_region ?_
  iterate 2 (refine ras ?_)
  refine reg_nil ?_
  refine post_imp (s' := ⟨11, [(0, some (.pv (.str a0))), (1, some (.pv (.str a1)))], [], 0, [], [], 0, []⟩) (imps [] ⟨by kernel_rfl, by kernel_rfl, trivial⟩ trivial) ?_
  refine post_next ?_
  refine aw_seq ?_
  refine aw_region ?_
  iterate 2 (refine rmv ?_)
  obtain ⟨y1, h2, hF⟩ := bind_some hF
  refine rgp (op_call 0 rfl (caps := []) (args := [.str a0, .str a1]) (rs := [.p (.str y1.1), .p (.bool y1.2)]) rfl rfl rfl Tryd_cal_68 (internal_stringslite_CutPrefix_ok h2) rfl rfl rfl) ?_
  iterate 2 (refine rgp (op_extract rfl rfl rfl rfl rfl) ?_)
  iterate 2 (refine ras ?_)
  refine reg_nil ?_
  refine post_imp (s' := ⟨11, [(4, some (.pv (.str y1.1))), (5, some (.pv (.bool y1.2)))], [], 0, [], [], 0, []⟩) (imps [] ⟨by kernel_rfl, by kernel_rfl, trivial⟩ trivial) ?_
  refine post_next ?_
  refine aw_ret ?_
  obtain rfl := Option.some.inj hF
  exact post_ret rfl rfl (.cons _ _ _ _ _ (.tmp _ _ rfl) (.p _) (.cons _ _ _ _ _ (.tmp _ _ rfl) (.p _) .nil)) (.inl rfl)
theorem word_Digit_ok {a0 : Int} {r : Bool} (hF : word_Digit a0 = some r) : Abs.Fn globs_Tryd Tryd.prog 44 [.int .u8 a0] [.p (.bool r)] := by
  unfold word_Digit at hF
  refine fn_of_body (n := 6) Tryd.func44 rfl rfl rfl ?_
  intro w O
  refine aw_seq ?_
  refine aw_region ?_
  refine ras ?_
  refine reg_nil ?_
  refine post_imp (s' := ⟨6, [(0, some (.pv (.int .u8 a0)))], [], 0, [], [], 0, []⟩) (imps [] ⟨by kernel_rfl, trivial⟩ trivial) ?_
  refine post_next ?_
  refine aw_seq ?_
  refine aw_region ?_
  refine rmv ?_
  refine rgp (op_int (k := .u8) (m := a0) (n := 48) rfl rfl rfl rfl rfl rfl) ?_
  refine rgp (op_int (k := .u8) (m := w_u8 (a0 - 48)) (n := 10) rfl rfl rfl rfl rfl rfl) ?_
  refine ras ?_
  refine reg_nil ?_
  refine post_imp (s' := ⟨6, [(2, some (.pv (.bool (decide ((w_u8 (a0 - 48)) < 10)))))], [], 0, [], [], 0, []⟩) (imps [] ⟨by kernel_rfl, trivial⟩ trivial) ?_
  refine post_next ?_
  refine aw_ret ?_
  obtain rfl := Option.some.inj hF
  exact prt
theorem slices_Reverse_byte_w_ok {b0 : List Int} {r : (List Int)} (hF : slices_Reverse_byte_w b0 = some r) : Abs.FnW globs_Tryd Tryd.prog 76 [.ls 0] [(0, some (.row 5 1 (List.map eI_u8 b0)))] 1 [(0, 0)] [] [(0, some (.row 5 1 (List.map eI_u8 r)))] 1 := by
  unfold slices_Reverse_byte_w at hF
  refine fnW_of_body (n := 28) (m := 1) [0] Tryd.func76 rfl rfl rfl ?_
  intro c w O θ hcx
  refine aw_seq ?_
  refine aw_region ?_
  refine rmv ?_
  refine rgp (op_len_ls (n := b0.length) rfl rfl rfl (List.length_map ..) Tryd_slc_55 rfl rfl) ?_
  refine rgp (op_int (k := .i64) (m := (b0.length : Int)) (n := 1) rfl rfl rfl rfl rfl rfl) ?_
  iterate 2 (refine ras ?_)
  refine reg_nil ?_
  refine post_imp (s' := ⟨28, [(0, some (.ls 0)), (2, some (.pv (.int .i64 0))), (3, some (.pv (.int .i64 (w_i64 ((b0.length : Int) - 1)))))], [(0, some (.row 5 1 (List.map eI_u8 b0)))], 1, [], [], 0, [0]⟩) (imps [0] ⟨by kernel_rfl, by kernel_rfl, by kernel_rfl, trivial⟩ ⟨by kernel_rfl, trivial⟩) ?_
  refine post_next ?_
  obtain ⟨x61, hF, hK62⟩ := bind_some hF
  refine aw_for (b0.length + 1) (fun s1 => s1 = ⟨28, [(0, some (.ls 0))], [(0, some (.row 5 1 (List.map eI_u8 x61)))], 1, [], [], 0, [0]⟩) ?_ ?_
  · refine rnd_loop (α := (List Int) × Int × Int) (fun q => ⟨28, [(0, some (.ls 0)), (2, some (.pv (.int .i64 q.2.1))), (3, some (.pv (.int .i64 q.2.2)))], [(0, some (.row 5 1 (List.map eI_u8 q.1)))], 1, [], [], 0, [0]⟩) (fun k q => slices_Reverse_byte_w_L1 k q.1 q.2.1 q.2.2 = some x61) (b0, 0, w_i64 ((b0.length : Int) - 1)) (imps [0] ⟨by kernel_rfl, by kernel_rfl, by kernel_rfl, trivial⟩ ⟨by kernel_rfl, trivial⟩) hF (fun q h => by cases h) ?_
    clear hF
    rintro k ⟨x18, x19, x20⟩ hF ih
    refine rnd_succ ?_
    iterate 2 (refine aw_seq ?_)
    refine aw_region ?_
    iterate 2 (refine rmv ?_)
    refine rgp (op_int (k := .i64) (m := x19) (n := x20) rfl rfl rfl rfl rfl rfl) ?_
    refine reg_nil ?_
    refine post_imp (s' := ⟨28, [(0, some (.ls 0)), (2, some (.pv (.int .i64 x19))), (3, some (.pv (.int .i64 x20))), (9, some (.pv (.bool (decide (x19 < x20)))))], [(0, some (.row 5 1 (List.map eI_u8 x18)))], 1, [], [], 0, [0]⟩) (imps [0] ⟨by kernel_rfl, by kernel_rfl, by kernel_rfl, by kernel_rfl, trivial⟩ ⟨by kernel_rfl, trivial⟩) ?_
    refine post_next ?_
    rcases ite_some hF with ⟨hb41, hF⟩ | ⟨hb41, hF⟩
    · refine aw_cond_t rfl hb41 ?_
      refine aw_skip ?_
      refine post_next ?_
      refine aw_seq ?_
      refine aw_block ?_
      refine dr_start ⟨_, _, _⟩ rfl ?_
      iterate 6 (refine drm ?_)
      obtain ⟨y50, h51, hF⟩ := bind_some hF
      refine dr_cons { need := [(18, .ls 0), (19, .pv (.int .i64 x20))], hneed := [(0, .row 5 1 (List.map eI_u8 x18))], dst := some 20, val := some (.le 0 1 (x20 : Int).toNat 0) } (fun m h => step_on (guard_no rfl) (op_index_ls (k := .i64) rfl h.1.1 h.1.2.1 h.2.1.1 (idx_map eI_u8 h51) Tryd_slc_55 rfl rfl) rfl) ⟨⟨rfl, rfl, trivial⟩, ⟨rfl, trivial⟩, trivial⟩ ?_
      refine dr_cons { need := [(20, .le 0 1 (x20 : Int).toNat 0)], hneed := [(0, .row 5 1 (List.map eI_u8 x18))], dst := some 21, val := some (.pv (.int .u8 y50)) } (fun m h => step_on (guard_no rfl) (op_load_le (p := .int .u8 y50) rfl h.1.1 h.2.1.1 (map_get eI_u8 h51) rfl Tryd_one_5 rfl rfl) rfl) ⟨⟨rfl, trivial⟩, ⟨rfl, trivial⟩, trivial⟩ ?_
      iterate 2 (refine drm ?_)
      obtain ⟨y52, h53, hF⟩ := bind_some hF
      refine dr_cons { need := [(22, .ls 0), (23, .pv (.int .i64 x19))], hneed := [(0, .row 5 1 (List.map eI_u8 x18))], dst := some 24, val := some (.le 0 1 (x19 : Int).toNat 0) } (fun m h => step_on (guard_no rfl) (op_index_ls (k := .i64) rfl h.1.1 h.1.2.1 h.2.1.1 (idx_map eI_u8 h53) Tryd_slc_55 rfl rfl) rfl) ⟨⟨rfl, rfl, trivial⟩, ⟨rfl, trivial⟩, trivial⟩ ?_
      refine dr_cons { need := [(24, .le 0 1 (x19 : Int).toNat 0)], hneed := [(0, .row 5 1 (List.map eI_u8 x18))], dst := some 25, val := some (.pv (.int .u8 y52)) } (fun m h => step_on (guard_no rfl) (op_load_le (p := .int .u8 y52) rfl h.1.1 h.2.1.1 (map_get eI_u8 h53) rfl Tryd_one_5 rfl rfl) rfl) ⟨⟨rfl, trivial⟩, ⟨rfl, trivial⟩, trivial⟩ ?_
      obtain ⟨y54, h55, hF⟩ := bind_some hF
      refine dr_cons { need := [(14, .ls 0), (15, .pv (.int .i64 x19))], hneed := [(0, .row 5 1 (List.map eI_u8 x18))], dst := some 26, val := some (.le 0 1 (x19 : Int).toNat 0) } (fun m h => step_on (guard_no rfl) (op_index_ls (k := .i64) rfl h.1.1 h.1.2.1 h.2.1.1 (idx_map eI_u8 h55) Tryd_slc_55 rfl rfl) rfl) ⟨⟨rfl, rfl, trivial⟩, ⟨rfl, trivial⟩, trivial⟩ ?_
      refine dr_cons { need := [(26, .le 0 1 (x19 : Int).toNat 0), (21, .pv (.int .u8 y50))], hneed := [(0, .row 5 1 (List.map eI_u8 x18))], upd := [(0, some (.row 5 1 (List.map eI_u8 (x18.set (x19 : Int).toNat y50))))] } (fun m h => step_on (guard_no rfl) (op_store_le (n := 1) rfl h.1.1 h.1.2.1 rfl h.2.1.1 (map_get eI_u8 h55) (or_one Tryd_one_5) (by rw [Tryd_one_5]; rfl) rfl (map_set' eI_u8 x18 _ y50) rfl rfl) rfl) ⟨⟨rfl, rfl, trivial⟩, ⟨rfl, trivial⟩, trivial⟩ ?_
      obtain ⟨y56, h57, hF⟩ := bind_some hF
      refine dr_cons { need := [(16, .ls 0), (17, .pv (.int .i64 x20))], hneed := [(0, .row 5 1 (List.map eI_u8 (x18.set (x19 : Int).toNat y50)))], dst := some 27, val := some (.le 0 1 (x20 : Int).toNat 0) } (fun m h => step_on (guard_no rfl) (op_index_ls (k := .i64) rfl h.1.1 h.1.2.1 h.2.1.1 (idx_map eI_u8 h57) Tryd_slc_55 rfl rfl) rfl) ⟨⟨rfl, rfl, trivial⟩, ⟨rfl, trivial⟩, trivial⟩ ?_
      refine dr_cons { need := [(27, .le 0 1 (x20 : Int).toNat 0), (25, .pv (.int .u8 y52))], hneed := [(0, .row 5 1 (List.map eI_u8 (x18.set (x19 : Int).toNat y50)))], upd := [(0, some (.row 5 1 (List.map eI_u8 ((x18.set (x19 : Int).toNat y50).set (x20 : Int).toNat y52))))] } (fun m h => step_on (guard_no rfl) (op_store_le (n := 1) rfl h.1.1 h.1.2.1 rfl h.2.1.1 (map_get eI_u8 h57) (or_one Tryd_one_5) (by rw [Tryd_one_5]; rfl) rfl (map_set' eI_u8 (x18.set (x19 : Int).toNat y50) _ y52) rfl rfl) rfl) ⟨⟨rfl, rfl, trivial⟩, ⟨rfl, trivial⟩, trivial⟩ ?_
      refine dr_nil Tryd_mixed rfl (by kernel_rfl) ?_
      refine post_imp (s' := ⟨28, [(0, some (.ls 0)), (2, some (.pv (.int .i64 x19))), (3, some (.pv (.int .i64 x20)))], [(0, some (.row 5 1 (List.map eI_u8 ((x18.set (x19 : Int).toNat y50).set (x20 : Int).toNat y52))))], 1, [], [], 0, [0]⟩) (imps [0] ⟨by kernel_rfl, by kernel_rfl, by kernel_rfl, trivial⟩ ⟨by kernel_rfl, trivial⟩) ?_
      refine post_block_normal ?_
      refine post_next ?_
      refine aw_region ?_
      refine rmv ?_
      refine rgp (op_int (k := .i64) (m := x19) (n := 1) rfl rfl rfl rfl rfl rfl) ?_
      refine rmv ?_
      refine rgp (op_int (k := .i64) (m := x20) (n := 1) rfl rfl rfl rfl rfl rfl) ?_
      iterate 2 (refine ras ?_)
      refine reg_nil ?_
      refine post_round ?_
      exact rnd_back (ih (((x18.set (x19 : Int).toNat y50).set (x20 : Int).toNat y52), w_i64 (x19 + 1), w_i64 (x20 - 1)) hF) (imps [0] ⟨by kernel_rfl, by kernel_rfl, by kernel_rfl, trivial⟩ ⟨by kernel_rfl, trivial⟩)
    refine aw_cond_f rfl hb41 ?_
    refine aw_exit ?_
    iterate 2 (refine post_then_exit ?_)
    obtain rfl := Option.some.inj hF
    exact post_lp_break _ rfl (imps [0] ⟨by kernel_rfl, trivial⟩ ⟨by kernel_rfl, trivial⟩)
  rintro _ rfl
  have hF := hK62
  clear hK62
  refine post_imp (s' := ⟨28, [(0, some (.ls 0))], [(0, some (.row 5 1 (List.map eI_u8 x61)))], 1, [], [], 0, [0]⟩) (imps [0] ⟨by kernel_rfl, trivial⟩ ⟨by kernel_rfl, trivial⟩) ?_
  obtain rfl := Option.some.inj hF
  exact post_retW hcx rfl .nil rfl (.inr rfl)
theorem word_Digits_ok {a0 : Int} {r : (List UInt8)} (hF : word_Digits a0 = some r) : Abs.Fn globs_Tryd Tryd.prog 61 [.int .i64 a0] [.p (.str r)] := by
  unfold word_Digits at hF
  refine fn_of_body (n := 38) Tryd.func61 rfl rfl rfl ?_
  intro w O
  refine aw_seq ?_
  refine aw_region ?_
  refine ras ?_
  refine reg_nil ?_
  refine post_imp (s' := ⟨38, [(0, some (.pv (.int .i64 a0)))], [], 0, [], [], 0, []⟩) (imps [] ⟨by kernel_rfl, trivial⟩ trivial) ?_
  refine post_next ?_
  refine aw_seq ?_
  refine aw_region ?_
  refine rmv ?_
  refine rgp (op_convInt rfl rfl Tryd_und_3 Tryd_und_108 rfl rfl) ?_
  refine ras ?_
  refine reg_nil ?_
  refine post_imp (s' := ⟨38, [(0, some (.pv (.int .i64 a0))), (3, some (.pv (.int .u64 (w_u64 a0))))], [], 0, [], [], 0, []⟩) (imps [] ⟨by kernel_rfl, by kernel_rfl, trivial⟩ trivial) ?_
  refine post_next ?_
  refine aw_seq ?_
  obtain ⟨x2, hF, hK4⟩ := bind_some hF
  refine aw_cut (fun s1 => s1 = ⟨38, [(0, some (.pv (.int .i64 a0))), (3, some (.pv (.int .u64 x2)))], [], 0, [], [], 0, []⟩) ?_ ?_
  · refine aw_seq ?_
    refine aw_region ?_
    refine rmv ?_
    refine rgp (op_int (k := .i64) (m := a0) (n := 0) rfl rfl rfl rfl rfl rfl) ?_
    refine reg_nil ?_
    refine post_imp (s' := ⟨38, [(0, some (.pv (.int .i64 a0))), (3, some (.pv (.int .u64 (w_u64 a0)))), (8, some (.pv (.bool (decide (a0 < 0)))))], [], 0, [], [], 0, []⟩) (imps [] ⟨by kernel_rfl, by kernel_rfl, by kernel_rfl, trivial⟩ trivial) ?_
    refine post_next ?_
    rcases ite_some hF with ⟨hb1, hF⟩ | ⟨hb1, hF⟩
    · refine aw_cond_t rfl hb1 ?_
      refine aw_region ?_
      refine rmv ?_
      refine rgp (op_neg rfl rfl rfl rfl) ?_
      refine ras ?_
      refine reg_nil ?_
      cases hF
      exact post_cut _ rfl (imps [] ⟨by kernel_rfl, by kernel_rfl, trivial⟩ trivial)
    refine aw_cond_f rfl hb1 ?_
    refine aw_skip ?_
    cases hF
    exact post_cut _ rfl (imps [] ⟨by kernel_rfl, by kernel_rfl, trivial⟩ trivial)
  rintro _ rfl
  have hF := hK4
  clear hK4
  refine post_next ?_
  refine aw_seq ?_
  refine aw_region ?_
  refine ras ?_
  refine reg_imp (imp_nil_own 4 5 1 0 rfl rfl) ?_
  refine reg_nil ?_
  refine post_imp (s' := ⟨38, [(0, some (.pv (.int .i64 a0))), (3, some (.pv (.int .u64 x2))), (4, some (.ls 0))], [(0, some (.row 5 1 (List.map eI_u8 [])))], 1, [], [], 0, []⟩) (imps [0] ⟨by kernel_rfl, by kernel_rfl, by kernel_rfl, trivial⟩ ⟨by kernel_rfl, trivial⟩) ?_
  refine post_next ?_
  iterate 2 (refine aw_seq ?_)
  refine aw_region ?_
  iterate 2 (refine rmv ?_)
  refine rgp (op_int2 (k := .u64) (m := x2) (n := 10) rfl rfl rfl (rem_op (by decide)) rfl rfl) ?_
  refine rgp (op_int (k := .u64) (m := 48) (n := Int.tmod x2 10) rfl rfl rfl rfl rfl rfl) ?_
  refine rgp (op_convInt rfl rfl Tryd_und_108 Tryd_und_5 rfl rfl) ?_
  refine rgp (op_lit (rows := List.map eI_u8 ([w_u8 (w_u64 (48 + (Int.tmod x2 10)))] : List Int)) (zs := [.int .u8 0]) rfl rfl Tryd_slc_55 Tryd_zer_5 (by exact ⟨rfl, trivial⟩) rfl rfl rfl rfl rfl rfl rfl rfl) ?_
  obtain ⟨u7, h8, hF⟩ := bind_some hF
  refine rgp (op_append 1 rfl rfl rfl rfl rfl Tryd_slc_55 Tryd_elm_5 Tryd_zer_5 rfl rfl rfl (room_map (f := eI_u8) (g := eI_u8) h8) (List.map_append (f := eI_u8) (l₁ := []) (l₂ := [w_u8 (w_u64 (48 + (Int.tmod x2 10)))])).symm rfl rfl) ?_
  refine ras ?_
  refine reg_nil ?_
  refine post_imp (s' := ⟨38, [(0, some (.pv (.int .i64 a0))), (3, some (.pv (.int .u64 x2))), (4, some (.ls 0))], [(0, some (.row 5 1 (List.map eI_u8 ([] ++ [w_u8 (w_u64 (48 + (Int.tmod x2 10)))]))))], 1, [], [], 0, []⟩) (imps [1] ⟨by kernel_rfl, by kernel_rfl, by kernel_rfl, trivial⟩ ⟨by kernel_rfl, trivial⟩) ?_
  refine post_next ?_
  obtain ⟨x24, hF, hK25⟩ := bind_some hF
  refine aw_for 21 (fun s1 => s1 = ⟨38, [(0, some (.pv (.int .i64 a0))), (4, some (.ls 0))], [(0, some (.row 5 1 (List.map eI_u8 x24)))], 1, [], [], 0, []⟩) ?_ ?_
  · refine rnd_loop (α := Int × (List Int)) (fun q => ⟨38, [(0, some (.pv (.int .i64 a0))), (3, some (.pv (.int .u64 q.1))), (4, some (.ls 0))], [(0, some (.row 5 1 (List.map eI_u8 q.2)))], 1, [], [], 0, []⟩) (fun k q => word_Digits_L1 k q.1 q.2 = some x24) (x2, ([] ++ [w_u8 (w_u64 (48 + (Int.tmod x2 10)))])) (imps [0] ⟨by kernel_rfl, by kernel_rfl, by kernel_rfl, trivial⟩ ⟨by kernel_rfl, trivial⟩) hF (fun q h => by cases h) ?_
    clear hF
    rintro k ⟨x12, x13⟩ hF ih
    refine rnd_succ ?_
    iterate 2 (refine aw_seq ?_)
    refine aw_region ?_
    refine rmv ?_
    refine rgp (op_int (k := .u64) (m := x12) (n := 10) rfl rfl rfl rfl rfl rfl) ?_
    refine reg_nil ?_
    refine post_imp (s' := ⟨38, [(0, some (.pv (.int .i64 a0))), (3, some (.pv (.int .u64 x12))), (4, some (.ls 0)), (19, some (.pv (.bool (decide (x12 ≥ 10)))))], [(0, some (.row 5 1 (List.map eI_u8 x13)))], 1, [], [], 0, []⟩) (imps [0] ⟨by kernel_rfl, by kernel_rfl, by kernel_rfl, by kernel_rfl, trivial⟩ ⟨by kernel_rfl, trivial⟩) ?_
    refine post_next ?_
    rcases ite_some hF with ⟨hb19, hF⟩ | ⟨hb19, hF⟩
    · refine aw_cond_t rfl hb19 ?_
      refine aw_skip ?_
      refine post_next ?_
      refine aw_seq ?_
      refine aw_block ?_
      refine aw_region ?_
      refine rmv ?_
      refine rgp (op_int2 (k := .u64) (m := x12) (n := 10) rfl rfl rfl (quo_op (by decide)) rfl rfl) ?_
      refine ras ?_
      refine reg_nil ?_
      refine post_imp (s' := ⟨38, [(0, some (.pv (.int .i64 a0))), (3, some (.pv (.int .u64 (w_u64 (Int.tdiv x12 10))))), (4, some (.ls 0))], [(0, some (.row 5 1 (List.map eI_u8 x13)))], 1, [], [], 0, []⟩) (imps [0] ⟨by kernel_rfl, by kernel_rfl, by kernel_rfl, trivial⟩ ⟨by kernel_rfl, trivial⟩) ?_
      refine post_block_normal ?_
      refine post_next ?_
      refine aw_region ?_
      iterate 2 (refine rmv ?_)
      refine rgp (op_int2 (k := .u64) (m := w_u64 (Int.tdiv x12 10)) (n := 10) rfl rfl rfl (rem_op (by decide)) rfl rfl) ?_
      refine rgp (op_int (k := .u64) (m := 48) (n := Int.tmod (w_u64 (Int.tdiv x12 10)) 10) rfl rfl rfl rfl rfl rfl) ?_
      refine rgp (op_convInt rfl rfl Tryd_und_108 Tryd_und_5 rfl rfl) ?_
      refine rgp (op_lit (rows := List.map eI_u8 ([w_u8 (w_u64 (48 + (Int.tmod (w_u64 (Int.tdiv x12 10)) 10)))] : List Int)) (zs := [.int .u8 0]) rfl rfl Tryd_slc_55 Tryd_zer_5 (by exact ⟨rfl, trivial⟩) rfl rfl rfl rfl rfl rfl rfl rfl) ?_
      obtain ⟨u20, h21, hF⟩ := bind_some hF
      refine rgp (op_append 1 rfl rfl rfl rfl rfl Tryd_slc_55 Tryd_elm_5 Tryd_zer_5 rfl rfl rfl (room_map (f := eI_u8) (g := eI_u8) h21) (List.map_append (f := eI_u8) (l₁ := x13) (l₂ := [w_u8 (w_u64 (48 + (Int.tmod (w_u64 (Int.tdiv x12 10)) 10)))])).symm rfl rfl) ?_
      refine ras ?_
      refine reg_nil ?_
      refine post_round ?_
      exact rnd_back (ih (w_u64 (Int.tdiv x12 10), (x13 ++ [w_u8 (w_u64 (48 + (Int.tmod (w_u64 (Int.tdiv x12 10)) 10)))])) hF) (imps [1] ⟨by kernel_rfl, by kernel_rfl, by kernel_rfl, trivial⟩ ⟨by kernel_rfl, trivial⟩)
    refine aw_cond_f rfl hb19 ?_
    refine aw_exit ?_
    iterate 2 (refine post_then_exit ?_)
    obtain rfl := Option.some.inj hF
    exact post_lp_break _ rfl (imps [0] ⟨by kernel_rfl, by kernel_rfl, trivial⟩ ⟨by kernel_rfl, trivial⟩)
  rintro _ rfl
  have hF := hK25
  clear hK25
  refine post_next ?_
  refine aw_seq ?_
  obtain ⟨x29, hF, hK31⟩ := bind_some hF
  refine aw_cut (fun s1 => s1 = ⟨38, [(4, some (.ls 0))], [(0, some (.row 5 1 (List.map eI_u8 x29)))], 1, [], [], 0, []⟩) ?_ ?_
  · refine aw_seq ?_
    refine aw_region ?_
    refine rmv ?_
    refine rgp (op_int (k := .i64) (m := a0) (n := 0) rfl rfl rfl rfl rfl rfl) ?_
    refine reg_nil ?_
    refine post_imp (s' := ⟨38, [(4, some (.ls 0)), (30, some (.pv (.bool (decide (a0 < 0)))))], [(0, some (.row 5 1 (List.map eI_u8 x24)))], 1, [], [], 0, []⟩) (imps [0] ⟨by kernel_rfl, by kernel_rfl, trivial⟩ ⟨by kernel_rfl, trivial⟩) ?_
    refine post_next ?_
    rcases ite_some hF with ⟨hb26, hF⟩ | ⟨hb26, hF⟩
    · refine aw_cond_t rfl hb26 ?_
      refine aw_region ?_
      refine rmv ?_
      refine rgp (op_lit (rows := List.map eI_u8 ([45] : List Int)) (zs := [.int .u8 0]) rfl rfl Tryd_slc_55 Tryd_zer_5 (by exact ⟨rfl, trivial⟩) rfl rfl rfl rfl rfl rfl rfl rfl) ?_
      obtain ⟨u27, h28, hF⟩ := bind_some hF
      refine rgp (op_append 1 rfl rfl rfl rfl rfl Tryd_slc_55 Tryd_elm_5 Tryd_zer_5 rfl rfl rfl (room_map (f := eI_u8) (g := eI_u8) h28) (List.map_append (f := eI_u8) (l₁ := x24) (l₂ := [45])).symm rfl rfl) ?_
      refine ras ?_
      refine reg_nil ?_
      cases hF
      exact post_cut _ rfl (imps [1] ⟨by kernel_rfl, trivial⟩ ⟨by kernel_rfl, trivial⟩)
    refine aw_cond_f rfl hb26 ?_
    refine aw_skip ?_
    cases hF
    exact post_cut _ rfl (imps [0] ⟨by kernel_rfl, trivial⟩ ⟨by kernel_rfl, trivial⟩)
  rintro _ rfl
  have hF := hK31
  clear hK31
  refine post_next ?_
  refine aw_seq ?_
  refine aw_region ?_
  refine rmv ?_
  obtain ⟨y32, h33, hF⟩ := bind_some hF
  refine rgp (op_callW (args := [.ls 0]) [0] [0] [] 1 rfl rfl rfl rfl rfl Tryd_cal_76 (slices_Reverse_byte_w_ok h33) rfl (by decide) ⟨rfl, trivial⟩ rfl (by decide) ⟨.inl rfl, trivial⟩ (by kernel_rfl) (by kernel_rfl) rfl rfl rfl rfl) ?_
  refine reg_nil ?_
  refine post_imp (s' := ⟨38, [(4, some (.ls 0))], [(0, some (.row 5 1 (List.map eI_u8 y32)))], 1, [], [], 0, []⟩) (imps [0] ⟨by kernel_rfl, trivial⟩ ⟨by kernel_rfl, trivial⟩) ?_
  refine post_next ?_
  refine aw_seq ?_
  refine aw_region ?_
  refine rmv ?_
  refine reg_imp (imp_freeze [(0, some (.row 5 1 (List.map eI_u8 y32)))] [(4, some (.pv (.vs 1 (List.map eI_u8 y32)))), (36, some (.pv (.vs 1 (List.map eI_u8 y32))))] (FzH.spec ⟨rfl, trivial⟩) ⟨⟨_, rfl, rfl⟩, ⟨_, rfl, rfl⟩, trivial⟩) ?_
  refine rgp (op_bytesStr (E := eI_u8) rfl rfl rfl Tryd_und_55 Tryd_und_5 Tryd_und_9 rfl rfl) ?_
  refine ras ?_
  refine reg_nil ?_
  refine post_imp (s' := ⟨38, [(2, some (.pv (.str (strL y32))))], [], 0, [], [], 0, []⟩) (imps [] ⟨by kernel_rfl, trivial⟩ trivial) ?_
  refine post_next ?_
  refine aw_ret ?_
  obtain rfl := Option.some.inj hF
  exact prt
theorem word_Number_ok {a0 : List UInt8} {r : Int × Bool} (hF : word_Number a0 = some r) : Abs.Fn globs_Tryd Tryd.prog 67 [.str a0] [.p (.int .i64 r.1), .p (.bool r.2)] := by
  unfold word_Number at hF
  refine fn_of_body (n := 36) Tryd.func67 rfl rfl rfl ?_
  intro w O
  refine aw_seq ?_
  refine aw_region ?_
  iterate 2 (refine ras ?_)
  refine reg_nil ?_
  refine post_imp (s' := ⟨36, [(0, some (.pv (.str a0)))], [], 0, [], [], 0, []⟩) (imps [] ⟨by kernel_rfl, trivial⟩ trivial) ?_
  refine post_next ?_
  iterate 2 (refine aw_seq ?_)
  obtain ⟨x2, hF, hK4⟩ := bind_some hF
  refine aw_cut (fun s1 => s1 = ⟨36, [(0, some (.pv (.str a0))), (13, some (.pv (.bool x2)))], [], 0, [], [], 0, []⟩) ?_ ?_
  · refine aw_region ?_
    refine rmv ?_
    refine rgp (op_str rfl rfl rfl rfl rfl rfl) ?_
    refine rmv ?_
    rcases ite_some hF with ⟨hb1, hF⟩ | ⟨hb1, hF⟩
    · refine rgo_t hb1 ?_
      iterate 2 (refine rgo_t hb1 ?_)
      refine rpt hb1 ?_
      refine reg_nil ?_
      cases hF
      exact post_cut _ rfl (imps [] ⟨by kernel_rfl, by kernel_rfl, trivial⟩ trivial)
    refine rgn hb1 (op_move rfl rfl rfl rfl) ?_
    refine rgn hb1 (op_len_str rfl rfl Tryd_und_9 rfl rfl) ?_
    refine rgn hb1 (op_int (k := .i64) (m := (a0.length : Int)) (n := 9) rfl rfl rfl rfl rfl rfl) ?_
    refine rpf hb1 ?_
    refine reg_nil ?_
    cases hF
    exact post_cut _ rfl (imps [] ⟨by kernel_rfl, by kernel_rfl, trivial⟩ trivial)
  rintro _ rfl
  have hF := hK4
  clear hK4
  refine post_next ?_
  rcases ite_some hF with ⟨hb5, hF⟩ | ⟨hb5, hF⟩
  · refine aw_cond_t rfl hb5 ?_
    refine aw_seq ?_
    refine aw_region ?_
    iterate 2 (refine ras ?_)
    refine reg_nil ?_
    refine post_imp (s' := ⟨36, [(2, some (.pv (.int .i64 0))), (3, some (.pv (.bool false)))], [], 0, [], [], 0, []⟩) (imps [] ⟨by kernel_rfl, by kernel_rfl, trivial⟩ trivial) ?_
    refine post_next ?_
    refine aw_ret ?_
    refine post_then_ret ?_
    obtain rfl := Option.some.inj hF
    exact post_ret rfl rfl (.cons _ _ _ _ _ (.tmp _ _ rfl) (.p _) (.cons _ _ _ _ _ (.tmp _ _ rfl) (.p _) .nil)) (.inl rfl)
  refine aw_cond_f rfl hb5 ?_
  refine aw_skip ?_
  refine post_next ?_
  refine aw_seq ?_
  refine aw_region ?_
  refine ras ?_
  refine reg_nil ?_
  refine post_imp (s' := ⟨36, [(0, some (.pv (.str a0))), (4, some (.pv (.int .i64 0)))], [], 0, [], [], 0, []⟩) (imps [] ⟨by kernel_rfl, by kernel_rfl, trivial⟩ trivial) ?_
  refine post_next ?_
  iterate 2 (refine aw_seq ?_)
  refine aw_region ?_
  refine rmv ?_
  obtain ⟨u8, h9, hF⟩ := bind_some hF
  refine rgp (op_strBytes (E := eI_u8) rfl rfl Tryd_und_9 Tryd_und_55 Tryd_und_5 h9 rfl rfl rfl) ?_
  refine rgp (op_len_vs (n := (bytesL a0).length) rfl rfl (List.length_map ..) Tryd_slc_55 rfl rfl) ?_
  refine rmv ?_
  refine reg_nil ?_
  refine post_imp (s' := ⟨36, [(0, some (.pv (.str a0))), (4, some (.pv (.int .i64 0))), (15, some (.pv (.vs 1 (List.map eI_u8 (bytesL a0))))), (16, some (.pv (.int .i64 ((bytesL a0).length : Int)))), (17, some (.pv (.int .i64 0)))], [], 0, [], [], 0, []⟩) (imps [] ⟨by kernel_rfl, by kernel_rfl, by kernel_rfl, by kernel_rfl, by kernel_rfl, trivial⟩ trivial) ?_
  refine post_next ?_
  obtain ⟨lr47, hF, hK48⟩ := bind_some hF
  refine aw_for (((((bytesL a0).length : Int) : Int) - (0)).toNat + 1) (fun s1 => ∃ q, lr47 = .next q ∧ s1 = ⟨36, [(0, some (.pv (.str a0))), (4, some (.pv (.int .i64 q)))], [], 0, [], [], 0, []⟩) ?_ ?_
  · refine rnd_loop (α := Int × Int) (fun q => ⟨36, [(0, some (.pv (.str a0))), (4, some (.pv (.int .i64 q.1))), (15, some (.pv (.vs 1 (List.map eI_u8 (bytesL a0))))), (16, some (.pv (.int .i64 ((bytesL a0).length : Int)))), (17, some (.pv (.int .i64 q.2)))], [], 0, [], [], 0, []⟩) (fun k q => word_Number_L1 a0 u8 k q.1 q.2 = some lr47) (0, 0) (imps [] ⟨by kernel_rfl, by kernel_rfl, by kernel_rfl, by kernel_rfl, by kernel_rfl, trivial⟩ trivial) hF (fun q h => by cases h) ?_
    clear hF
    rintro k ⟨x20, x21⟩ hF ih
    refine rnd_succ ?_
    refine aw_seq ?_
    refine aw_region ?_
    refine rgp (op_int (k := .i64) (m := x21) (n := ((bytesL a0).length : Int)) rfl rfl rfl rfl rfl rfl) ?_
    refine reg_nil ?_
    refine post_imp (s' := ⟨36, [(0, some (.pv (.str a0))), (4, some (.pv (.int .i64 x20))), (15, some (.pv (.vs 1 (List.map eI_u8 (bytesL a0))))), (16, some (.pv (.int .i64 ((bytesL a0).length : Int)))), (17, some (.pv (.int .i64 x21))), (18, some (.pv (.bool (decide (x21 < ((bytesL a0).length : Int))))))], [], 0, [], [], 0, []⟩) (imps [] ⟨by kernel_rfl, by kernel_rfl, by kernel_rfl, by kernel_rfl, by kernel_rfl, by kernel_rfl, trivial⟩ trivial) ?_
    refine post_next ?_
    refine aw_seq ?_
    rcases ite_some hF with ⟨hb34, hF⟩ | ⟨hb34, hF⟩
    · refine aw_cond_t rfl hb34 ?_
      refine aw_skip ?_
      refine post_next ?_
      refine aw_seq ?_
      refine aw_block ?_
      refine aw_seq ?_
      refine aw_region ?_
      obtain ⟨y37, h38, hF⟩ := bind_some hF
      refine rgp (op_index_vs (k := .i64) rfl rfl rfl (idx_map eI_u8 h38) Tryd_slc_55 rfl rfl) ?_
      refine rgp (op_load_vp (p := .int .u8 y37) rfl rfl rfl Tryd_one_5 rfl rfl) ?_
      refine ras ?_
      refine reg_nil ?_
      refine post_imp (s' := ⟨36, [(0, some (.pv (.str a0))), (4, some (.pv (.int .i64 x20))), (6, some (.pv (.int .u8 y37))), (15, some (.pv (.vs 1 (List.map eI_u8 (bytesL a0))))), (16, some (.pv (.int .i64 ((bytesL a0).length : Int)))), (17, some (.pv (.int .i64 x21)))], [], 0, [], [], 0, []⟩) (imps [] ⟨by kernel_rfl, by kernel_rfl, by kernel_rfl, by kernel_rfl, by kernel_rfl, by kernel_rfl, trivial⟩ trivial) ?_
      refine post_next ?_
      iterate 2 (refine aw_seq ?_)
      refine aw_region ?_
      refine rmv ?_
      obtain ⟨y41, h42, hF⟩ := bind_some hF
      refine rgp (op_call 0 rfl (caps := []) (args := [.int .u8 y37]) (rs := [.p (.bool y41)]) rfl rfl rfl Tryd_cal_44 (word_Digit_ok h42) rfl rfl rfl) ?_
      refine rgp (op_not rfl rfl rfl rfl) ?_
      refine reg_nil ?_
      refine post_imp (s' := ⟨36, [(0, some (.pv (.str a0))), (4, some (.pv (.int .i64 x20))), (6, some (.pv (.int .u8 y37))), (15, some (.pv (.vs 1 (List.map eI_u8 (bytesL a0))))), (16, some (.pv (.int .i64 ((bytesL a0).length : Int)))), (17, some (.pv (.int .i64 x21))), (23, some (.pv (.bool (!y41))))], [], 0, [], [], 0, []⟩) (imps [] ⟨by kernel_rfl, by kernel_rfl, by kernel_rfl, by kernel_rfl, by kernel_rfl, by kernel_rfl, by kernel_rfl, trivial⟩ trivial) ?_
      refine post_next ?_
      rcases ite_some hF with ⟨hb43, hF⟩ | ⟨hb43, hF⟩
      · refine aw_cond_t rfl hb43 ?_
        refine aw_seq ?_
        refine aw_region ?_
        iterate 2 (refine ras ?_)
        refine reg_nil ?_
        refine post_imp (s' := ⟨36, [(2, some (.pv (.int .i64 0))), (3, some (.pv (.bool false)))], [], 0, [], [], 0, []⟩) (imps [] ⟨by kernel_rfl, by kernel_rfl, trivial⟩ trivial) ?_
        refine post_next ?_
        refine aw_ret ?_
        refine post_then_ret ?_
        refine post_block_ret ?_
        iterate 2 (refine post_then_ret ?_)
        refine post_lp_ret ?_
        obtain rfl := Option.some.inj hF
        have hF := elim_stop hK48
        refine post_then_ret ?_
        obtain rfl := Option.some.inj hF
        exact post_ret rfl rfl (.cons _ _ _ _ _ (.tmp _ _ rfl) (.p _) (.cons _ _ _ _ _ (.tmp _ _ rfl) (.p _) .nil)) (.inl rfl)
      refine aw_cond_f rfl hb43 ?_
      refine aw_skip ?_
      refine post_next ?_
      refine aw_region ?_
      refine rmv ?_
      refine rgp (op_int (k := .i64) (m := 10) (n := x20) rfl rfl rfl rfl rfl rfl) ?_
      refine rmv ?_
      refine rgp (op_int2 (k := .u8) (m := y37) (n := 15) rfl rfl rfl rfl rfl rfl) ?_
      refine rgp (op_convInt rfl rfl Tryd_und_5 Tryd_und_3 rfl rfl) ?_
      refine rgp (op_int (k := .i64) (m := w_i64 (10 * x20)) (n := w_i64 (andI .u8 y37 15)) rfl rfl rfl rfl rfl rfl) ?_
      refine ras ?_
      refine reg_nil ?_
      refine post_imp (s' := ⟨36, [(0, some (.pv (.str a0))), (4, some (.pv (.int .i64 (w_i64 ((w_i64 (10 * x20)) + (w_i64 (andI .u8 y37 15))))))), (15, some (.pv (.vs 1 (List.map eI_u8 (bytesL a0))))), (16, some (.pv (.int .i64 ((bytesL a0).length : Int)))), (17, some (.pv (.int .i64 x21)))], [], 0, [], [], 0, []⟩) (imps [] ⟨by kernel_rfl, by kernel_rfl, by kernel_rfl, by kernel_rfl, by kernel_rfl, trivial⟩ trivial) ?_
      refine post_block_normal ?_
      refine post_next ?_
      refine aw_region ?_
      refine rgp (op_int (k := .i64) (m := x21) (n := 1) rfl rfl rfl rfl rfl rfl) ?_
      refine rmv ?_
      refine reg_nil ?_
      refine post_round ?_
      exact rnd_back (ih (w_i64 ((w_i64 (10 * x20)) + (w_i64 (andI .u8 y37 15))), w_i64 (x21 + 1)) hF) (imps [] ⟨by kernel_rfl, by kernel_rfl, by kernel_rfl, by kernel_rfl, by kernel_rfl, trivial⟩ trivial)
    refine aw_cond_f rfl hb34 ?_
    refine aw_exit ?_
    iterate 2 (refine post_then_exit ?_)
    obtain rfl := Option.some.inj hF
    exact post_lp_break _ ⟨_, rfl, rfl⟩ (imps [] ⟨by kernel_rfl, by kernel_rfl, trivial⟩ trivial)
  rintro _ ⟨x46, rfl, rfl⟩
  have hF := elim_next hK48
  clear hK48
  refine post_next ?_
  iterate 2 (refine aw_seq ?_)
  refine aw_region ?_
  refine rmv ?_
  obtain ⟨y51, h52, hF⟩ := bind_some hF
  refine rgp (op_call 0 rfl (caps := []) (args := [.int .i64 x46]) (rs := [.p (.str y51)]) rfl rfl rfl Tryd_cal_61 (word_Digits_ok h52) rfl rfl rfl) ?_
  refine rmv ?_
  refine rgp (op_str rfl rfl rfl rfl rfl rfl) ?_
  refine reg_nil ?_
  refine post_imp (s' := ⟨36, [(4, some (.pv (.int .i64 x46))), (34, some (.pv (.bool (!(y51 == a0)))))], [], 0, [], [], 0, []⟩) (imps [] ⟨by kernel_rfl, by kernel_rfl, trivial⟩ trivial) ?_
  refine post_next ?_
  rcases ite_some hF with ⟨hb53, hF⟩ | ⟨hb53, hF⟩
  · refine aw_cond_t rfl hb53 ?_
    refine aw_seq ?_
    refine aw_region ?_
    iterate 2 (refine ras ?_)
    refine reg_nil ?_
    refine post_imp (s' := ⟨36, [(2, some (.pv (.int .i64 0))), (3, some (.pv (.bool false)))], [], 0, [], [], 0, []⟩) (imps [] ⟨by kernel_rfl, by kernel_rfl, trivial⟩ trivial) ?_
    refine post_next ?_
    refine aw_ret ?_
    refine post_then_ret ?_
    obtain rfl := Option.some.inj hF
    exact post_ret rfl rfl (.cons _ _ _ _ _ (.tmp _ _ rfl) (.p _) (.cons _ _ _ _ _ (.tmp _ _ rfl) (.p _) .nil)) (.inl rfl)
  refine aw_cond_f rfl hb53 ?_
  refine aw_skip ?_
  refine post_next ?_
  refine aw_seq ?_
  refine aw_region ?_
  refine rmv ?_
  iterate 2 (refine ras ?_)
  refine reg_nil ?_
  refine post_imp (s' := ⟨36, [(2, some (.pv (.int .i64 x46))), (3, some (.pv (.bool true)))], [], 0, [], [], 0, []⟩) (imps [] ⟨by kernel_rfl, by kernel_rfl, trivial⟩ trivial) ?_
  refine post_next ?_
  refine aw_ret ?_
  obtain rfl := Option.some.inj hF
  exact post_ret rfl rfl (.cons _ _ _ _ _ (.tmp _ _ rfl) (.p _) (.cons _ _ _ _ _ (.tmp _ _ rfl) (.p _) .nil)) (.inl rfl)
theorem event_number_ok {a0 : List UInt8} {r : Int × Bool} (hF : event_number a0 = some r) : Abs.Fn globs_Tryd Tryd.prog 54 [.str a0] [.p (.int .i64 r.1), .p (.bool r.2)] := by
  unfold event_number at hF
  refine fn_of_body (n := 28) Tryd.func54 rfl rfl rfl ?_
  intro w O
  refine aw_seq ?_
  refine aw_region ?_
  iterate 2 (refine ras ?_)
  refine reg_nil ?_
  refine post_imp (s' := ⟨28, [(0, some (.pv (.str a0)))], [], 0, [], [], 0, []⟩) (imps [] ⟨by kernel_rfl, trivial⟩ trivial) ?_
  refine post_next ?_
  refine aw_seq ?_
  refine aw_region ?_
  refine rmv ?_
  obtain ⟨y3, h4, hF⟩ := bind_some hF
  refine rgp (op_call 0 rfl (caps := []) (args := [.str a0, .str [45]]) (rs := [.p (.str y3.1), .p (.bool y3.2)]) rfl rfl rfl Tryd_cal_55 (strings_CutPrefix_ok h4) rfl rfl rfl) ?_
  refine rmv ?_
  iterate 2 (refine rgp (op_extract rfl rfl rfl rfl rfl) ?_)
  iterate 2 (refine ras ?_)
  refine reg_nil ?_
  refine post_imp (s' := ⟨28, [(4, some (.pv (.str y3.1))), (5, some (.pv (.bool y3.2)))], [], 0, [], [], 0, []⟩) (imps [] ⟨by kernel_rfl, by kernel_rfl, trivial⟩ trivial) ?_
  refine post_next ?_
  refine aw_seq ?_
  refine aw_region ?_
  refine rmv ?_
  obtain ⟨y7, h8, hF⟩ := bind_some hF
  refine rgp (op_call 0 rfl (caps := []) (args := [.str y3.1]) (rs := [.p (.int .i64 y7.1), .p (.bool y7.2)]) rfl rfl rfl Tryd_cal_67 (word_Number_ok h8) rfl rfl rfl) ?_
  refine rmv ?_
  iterate 2 (refine rgp (op_extract rfl rfl rfl rfl rfl) ?_)
  iterate 2 (refine ras ?_)
  refine reg_nil ?_
  refine post_imp (s' := ⟨28, [(5, some (.pv (.bool y3.2))), (6, some (.pv (.int .i64 y7.1))), (7, some (.pv (.bool y7.2)))], [], 0, [], [], 0, []⟩) (imps [] ⟨by kernel_rfl, by kernel_rfl, by kernel_rfl, trivial⟩ trivial) ?_
  refine post_next ?_
  iterate 2 (refine aw_seq ?_)
  refine aw_region ?_
  refine rmv ?_
  refine reg_nil ?_
  refine post_imp (s' := ⟨28, [(6, some (.pv (.int .i64 y7.1))), (7, some (.pv (.bool y7.2))), (18, some (.pv (.bool y3.2)))], [], 0, [], [], 0, []⟩) (imps [] ⟨by kernel_rfl, by kernel_rfl, by kernel_rfl, trivial⟩ trivial) ?_
  refine post_next ?_
  rcases ite_some hF with ⟨hb9, hF⟩ | ⟨hb9, hF⟩
  · refine aw_cond_t rfl hb9 ?_
    refine aw_seq ?_
    refine aw_region ?_
    refine rmv ?_
    refine rgp (op_neg rfl rfl rfl rfl) ?_
    iterate 2 (refine rmv ?_)
    rcases ite_some hF with ⟨hb10, hF⟩ | ⟨hb10, hF⟩
    · refine rgn hb10 (op_move rfl rfl rfl rfl) ?_
      refine rgn hb10 (op_int (k := .i64) (m := y7.1) (n := 0) rfl rfl rfl rfl rfl rfl) ?_
      refine rpt hb10 ?_
      iterate 2 (refine ras ?_)
      refine reg_nil ?_
      refine post_imp (s' := ⟨28, [(2, some (.pv (.int .i64 (w_i64 (0 - y7.1))))), (3, some (.pv (.bool (y7.1 != 0))))], [], 0, [], [], 0, []⟩) (imps [] ⟨by kernel_rfl, by kernel_rfl, trivial⟩ trivial) ?_
      refine post_next ?_
      refine aw_ret ?_
      refine post_then_ret ?_
      obtain rfl := Option.some.inj hF
      exact post_ret rfl rfl (.cons _ _ _ _ _ (.tmp _ _ rfl) (.p _) (.cons _ _ _ _ _ (.tmp _ _ rfl) (.p _) .nil)) (.inl rfl)
    iterate 2 (refine rgo_f hb10 ?_)
    refine rpf hb10 ?_
    iterate 2 (refine ras ?_)
    refine reg_nil ?_
    refine post_imp (s' := ⟨28, [(2, some (.pv (.int .i64 (w_i64 (0 - y7.1))))), (3, some (.pv (.bool false)))], [], 0, [], [], 0, []⟩) (imps [] ⟨by kernel_rfl, by kernel_rfl, trivial⟩ trivial) ?_
    refine post_next ?_
    refine aw_ret ?_
    refine post_then_ret ?_
    obtain rfl := Option.some.inj hF
    exact post_ret rfl rfl (.cons _ _ _ _ _ (.tmp _ _ rfl) (.p _) (.cons _ _ _ _ _ (.tmp _ _ rfl) (.p _) .nil)) (.inl rfl)
  refine aw_cond_f rfl hb9 ?_
  refine aw_skip ?_
  refine post_next ?_
  refine aw_seq ?_
  refine aw_region ?_
  iterate 2 (refine rmv ?_)
  iterate 2 (refine ras ?_)
  refine reg_nil ?_
  refine post_imp (s' := ⟨28, [(2, some (.pv (.int .i64 y7.1))), (3, some (.pv (.bool y7.2)))], [], 0, [], [], 0, []⟩) (imps [] ⟨by kernel_rfl, by kernel_rfl, trivial⟩ trivial) ?_
  refine post_next ?_
  refine aw_ret ?_
  obtain rfl := Option.some.inj hF
  exact post_ret rfl rfl (.cons _ _ _ _ _ (.tmp _ _ rfl) (.p _) (.cons _ _ _ _ _ (.tmp _ _ rfl) (.p _) .nil)) (.inl rfl)
theorem event_slot_w_ok {a1 : Int} {b0 : GEvent} {r : Nat} (hF : event_slot_w a1 b0 = some r) : Abs.FnW globs_Tryd Tryd.prog 26 [.lp 0 0, .pv (.int .u8 a1)] [(0, some (.box 27 (bxv (eGEvent b0))))] 1 [(0, 0)] [.lp 0 (r)] [(0, some (.box 27 (bxv (eGEvent b0))))] 1 := by
  unfold event_slot_w at hF
  refine fnW_of_body (n := 22) (m := 1) [0] Tryd.func26 rfl rfl rfl ?_
  intro c w O θ hcx
  refine aw_seq ?_
  refine aw_region ?_
  refine ras ?_
  refine reg_nil ?_
  refine post_imp (s' := ⟨22, [(0, some (.lp 0 0)), (1, some (.pv (.int .u8 a1)))], [(0, some (.box 27 (bxv (eGEvent b0))))], 1, [], [], 0, [0]⟩) (imps [0] ⟨by kernel_rfl, by kernel_rfl, trivial⟩ ⟨by kernel_rfl, trivial⟩) ?_
  refine post_next ?_
  iterate 2 (refine aw_seq ?_)
  refine aw_region ?_
  refine rmv ?_
  refine reg_nil ?_
  refine post_imp (s' := ⟨22, [(0, some (.lp 0 0)), (1, some (.pv (.int .u8 a1))), (5, some (.pv (.int .u8 a1)))], [(0, some (.box 27 (bxv (eGEvent b0))))], 1, [], [], 0, [0]⟩) (imps [0] ⟨by kernel_rfl, by kernel_rfl, by kernel_rfl, trivial⟩ ⟨by kernel_rfl, trivial⟩) ?_
  refine post_next ?_
  refine aw_block ?_
  refine aw_seq ?_
  refine aw_region ?_
  refine rgp (op_int (k := .u8) (m := a1) (n := 119) rfl rfl rfl rfl rfl rfl) ?_
  refine ras ?_
  refine reg_nil ?_
  refine post_imp (s' := ⟨22, [(0, some (.lp 0 0)), (1, some (.pv (.int .u8 a1))), (5, some (.pv (.int .u8 a1))), (6, some (.pv (.bool (a1 == 119))))], [(0, some (.box 27 (bxv (eGEvent b0))))], 1, [], [], 0, [0]⟩) (imps [0] ⟨by kernel_rfl, by kernel_rfl, by kernel_rfl, by kernel_rfl, trivial⟩ ⟨by kernel_rfl, trivial⟩) ?_
  refine post_next ?_
  rcases ite_some hF with ⟨hb1, hF⟩ | ⟨hb1, hF⟩
  · refine aw_cond_t rfl hb1 ?_
    refine aw_seq ?_
    refine aw_region ?_
    refine rmv ?_
    refine rgp (op_nilCheck rfl rfl rfl rfl rfl) ?_
    refine rgp (op_field_lp rfl rfl Tryd_fld_27_1 rfl rfl) ?_
    refine ras ?_
    refine reg_nil ?_
    refine post_imp (s' := ⟨22, [(0, some (.lp 0 0)), (4, some (.lp 0 1))], [(0, some (.box 27 (bxv (eGEvent b0))))], 1, [], [], 0, [0]⟩) (imps [0] ⟨by kernel_rfl, by kernel_rfl, trivial⟩ ⟨by kernel_rfl, trivial⟩) ?_
    refine post_next ?_
    refine aw_ret ?_
    refine post_block_ret ?_
    refine post_then_ret ?_
    refine post_imp (s' := ⟨22, [(0, some (.lp 0 0)), (4, some (.lp 0 1))], [(0, some (.box 27 (bxv (eGEvent b0))))], 1, [], [], 0, [0]⟩) (imps [0] ⟨by kernel_rfl, by kernel_rfl, trivial⟩ ⟨by kernel_rfl, trivial⟩) ?_
    obtain rfl := Option.some.inj hF
    exact post_retW hcx rfl (.cons _ _ _ _ (.tmp _ _ rfl) .nil) rfl (.inl rfl)
  refine aw_cond_f rfl hb1 ?_
  refine aw_seq ?_
  refine aw_region ?_
  refine rgp (op_int (k := .u8) (m := a1) (n := 111) rfl rfl rfl rfl rfl rfl) ?_
  refine ras ?_
  refine reg_nil ?_
  refine post_imp (s' := ⟨22, [(0, some (.lp 0 0)), (1, some (.pv (.int .u8 a1))), (11, some (.pv (.bool (a1 == 111))))], [(0, some (.box 27 (bxv (eGEvent b0))))], 1, [], [], 0, [0]⟩) (imps [0] ⟨by kernel_rfl, by kernel_rfl, by kernel_rfl, trivial⟩ ⟨by kernel_rfl, trivial⟩) ?_
  refine post_next ?_
  rcases ite_some hF with ⟨hb2, hF⟩ | ⟨hb2, hF⟩
  · refine aw_cond_t rfl hb2 ?_
    refine aw_seq ?_
    refine aw_region ?_
    refine rmv ?_
    refine rgp (op_nilCheck rfl rfl rfl rfl rfl) ?_
    refine rgp (op_field_lp rfl rfl Tryd_fld_27_2 rfl rfl) ?_
    refine ras ?_
    refine reg_nil ?_
    refine post_imp (s' := ⟨22, [(0, some (.lp 0 0)), (4, some (.lp 0 2))], [(0, some (.box 27 (bxv (eGEvent b0))))], 1, [], [], 0, [0]⟩) (imps [0] ⟨by kernel_rfl, by kernel_rfl, trivial⟩ ⟨by kernel_rfl, trivial⟩) ?_
    refine post_next ?_
    refine aw_ret ?_
    refine post_block_ret ?_
    refine post_then_ret ?_
    refine post_imp (s' := ⟨22, [(0, some (.lp 0 0)), (4, some (.lp 0 2))], [(0, some (.box 27 (bxv (eGEvent b0))))], 1, [], [], 0, [0]⟩) (imps [0] ⟨by kernel_rfl, by kernel_rfl, trivial⟩ ⟨by kernel_rfl, trivial⟩) ?_
    obtain rfl := Option.some.inj hF
    exact post_retW hcx rfl (.cons _ _ _ _ (.tmp _ _ rfl) .nil) rfl (.inl rfl)
  refine aw_cond_f rfl hb2 ?_
  refine aw_skip ?_
  refine post_block_normal ?_
  refine post_next ?_
  refine aw_seq ?_
  refine aw_region ?_
  iterate 2 (refine rmv ?_)
  refine rgp (op_int (k := .u8) (m := a1) (n := 48) rfl rfl rfl rfl rfl rfl) ?_
  refine rgp (op_nilCheck rfl rfl rfl rfl rfl) ?_
  refine rgp (op_field_lp rfl rfl Tryd_fld_27_5 rfl rfl) ?_
  obtain ⟨y3, h4, hF⟩ := bind_some hF
  refine rgp (op_arr_lpN (l := (b0.fOwn).l) rfl rfl rfl Tryd_arr_25 rfl h4 rfl rfl) ?_
  refine ras ?_
  refine reg_nil ?_
  refine post_imp (s' := ⟨22, [(0, some (.lp 0 0)), (4, some (.lp 0 (6 + (w_u8 (a1 - 48) : Int).toNat * 1)))], [(0, some (.box 27 (bxv (eGEvent b0))))], 1, [], [], 0, [0]⟩) (imps [0] ⟨by kernel_rfl, by kernel_rfl, trivial⟩ ⟨by kernel_rfl, trivial⟩) ?_
  refine post_next ?_
  refine aw_ret ?_
  refine post_imp (s' := ⟨22, [(0, some (.lp 0 0)), (4, some (.lp 0 (6 + (w_u8 (a1 - 48) : Int).toNat * 1)))], [(0, some (.box 27 (bxv (eGEvent b0))))], 1, [], [], 0, [0]⟩) (imps [0] ⟨by kernel_rfl, by kernel_rfl, trivial⟩ ⟨by kernel_rfl, trivial⟩) ?_
  obtain rfl := Option.some.inj hF
  exact post_retW hcx rfl (.cons _ _ _ _ (.tmp _ _ rfl) .nil) rfl (.inl rfl)

theorem word_Letter_ok {a0 : Int} {r : Bool} (hF : word_Letter a0 = some r) : Abs.Fn globs_Tryd Tryd.prog 43 [.int .u8 a0] [.p (.bool r)] := by
  unfold word_Letter at hF
  refine fn_of_body (n := 12) Tryd.func43 rfl rfl rfl ?_
  intro w O
  refine aw_seq ?_
  refine aw_region ?_
  refine ras ?_
  refine reg_nil ?_
  refine post_imp (s' := ⟨12, [(0, some (.pv (.int .u8 a0)))], [], 0, [], [], 0, []⟩) (imps [] ⟨by kernel_rfl, trivial⟩ trivial) ?_
  refine post_next ?_
  refine aw_seq ?_
  refine aw_region ?_
  refine rmv ?_
  refine rgp (op_int2 (k := .u8) (m := a0) (n := 32) rfl rfl rfl rfl rfl rfl) ?_
  refine ras ?_
  refine reg_nil ?_
  refine post_imp (s' := ⟨12, [(3, some (.pv (.int .u8 (orI .u8 a0 32))))], [], 0, [], [], 0, []⟩) (imps [] ⟨by kernel_rfl, trivial⟩ trivial) ?_
  refine post_next ?_
  refine aw_seq ?_
  refine aw_region ?_
  refine rmv ?_
  refine rgp (op_int (k := .u8) (m := orI .u8 a0 32) (n := 97) rfl rfl rfl rfl rfl rfl) ?_
  refine rmv ?_
  rcases ite_some hF with ⟨hb1, hF⟩ | ⟨hb1, hF⟩
  · refine rgn hb1 (op_move rfl rfl rfl rfl) ?_
    refine rgn hb1 (op_int (k := .u8) (m := orI .u8 a0 32) (n := 122) rfl rfl rfl rfl rfl rfl) ?_
    refine rpt hb1 ?_
    refine ras ?_
    refine reg_nil ?_
    refine post_imp (s' := ⟨12, [(2, some (.pv (.bool (decide ((orI .u8 a0 32) ≤ 122)))))], [], 0, [], [], 0, []⟩) (imps [] ⟨by kernel_rfl, trivial⟩ trivial) ?_
    refine post_next ?_
    refine aw_ret ?_
    obtain rfl := Option.some.inj hF
    exact prt
  iterate 2 (refine rgo_f hb1 ?_)
  refine rpf hb1 ?_
  refine ras ?_
  refine reg_nil ?_
  refine post_imp (s' := ⟨12, [(2, some (.pv (.bool false)))], [], 0, [], [], 0, []⟩) (imps [] ⟨by kernel_rfl, trivial⟩ trivial) ?_
  refine post_next ?_
  refine aw_ret ?_
  obtain rfl := Option.some.inj hF
  exact prt

theorem word_is_ok {a0 : List UInt8} {r : (List UInt8)} (hF : word_is a0 = some r) : Abs.Fn globs_Tryd Tryd.prog 59 [.str a0] [.p (.fn 75 [.vp (eS r)])] := by
  unfold word_is at hF
  refine fn_of_body (n := 4) Tryd.func59 rfl rfl rfl ?_
  intro w O
  refine aw_seq ?_
  refine aw_region ?_
  refine rgp (op_box 0 rfl rfl rfl rfl rfl rfl) ?_
  refine ras ?_
  refine reg_nil ?_
  refine post_imp (s' := ⟨4, [(1, some (.lp 0 0))], [(0, some (.box 9 [.pv (.str a0)]))], 1, [], [], 0, []⟩) (imps [0] ⟨by kernel_rfl, trivial⟩ ⟨by kernel_rfl, trivial⟩) ?_
  refine post_next ?_
  refine aw_seq ?_
  refine aw_region ?_
  refine rgp (op_makeFunc rfl rfl rfl rfl) ?_
  refine ras ?_
  refine reg_nil ?_
  refine post_imp (s' := ⟨4, [(2, some (.fn 75 [.lp 0 0]))], [(0, some (.box 9 [.pv (.str a0)]))], 1, [], [], 0, []⟩) (imps [0] ⟨by kernel_rfl, trivial⟩ ⟨by kernel_rfl, trivial⟩) ?_
  refine post_next ?_
  refine aw_ret ?_
  refine post_imp (imp_freeze [(0, some (.box 9 [.pv (.str a0)]))] [(2, some (.pv (.fn 75 [.vp (eS a0)])))] (FzH.spec ⟨rfl, trivial⟩) ⟨⟨_, rfl, rfl⟩, trivial⟩) ?_
  obtain rfl := Option.some.inj hF
  exact post_ret rfl rfl (.cons _ _ _ _ _ (.tmp _ _ rfl) (.p _) .nil) (.inl rfl)
theorem slices_IndexFunc_string_ok {a0 : List (List UInt8)} {q1 : (List UInt8) → Option Bool} {r : Int} {q1_f : Nat} {q1_c : List PV} (q1_b : callB Tryd.prog q1_f = true) (q1_h : ∀ (x0 : List UInt8) (r : Bool), q1 x0 = some r → Abs.Fn globs_Tryd Tryd.prog q1_f ([.str x0] ++ q1_c) [.p (.bool r)]) (hF : slices_IndexFunc_string a0 q1 = some r) : Abs.Fn globs_Tryd Tryd.prog 58 [.vs 1 (List.map eS a0), .fn q1_f q1_c] [.p (.int .i64 r)] := by
  unfold slices_IndexFunc_string at hF
  refine fn_of_body (n := 19) Tryd.func58 rfl rfl rfl ?_
  intro w O
  refine aw_seq ?_
  refine aw_region ?_
  refine ras ?_
  refine reg_nil ?_
  refine post_imp (s' := ⟨19, [(0, some (.pv (.vs 1 (List.map eS a0)))), (1, some (.pv (.fn q1_f q1_c)))], [], 0, [], [], 0, []⟩) (imps [] ⟨by kernel_rfl, by kernel_rfl, trivial⟩ trivial) ?_
  refine post_next ?_
  iterate 2 (refine aw_seq ?_)
  refine aw_region ?_
  refine rmv ?_
  refine rgp (op_len_vs (n := a0.length) rfl rfl (List.length_map ..) Tryd_slc_41 rfl rfl) ?_
  refine rmv ?_
  refine reg_nil ?_
  refine post_imp (s' := ⟨19, [(0, some (.pv (.vs 1 (List.map eS a0)))), (1, some (.pv (.fn q1_f q1_c))), (7, some (.pv (.int .i64 (a0.length : Int)))), (8, some (.pv (.int .i64 0)))], [], 0, [], [], 0, []⟩) (imps [] ⟨by kernel_rfl, by kernel_rfl, by kernel_rfl, by kernel_rfl, trivial⟩ trivial) ?_
  refine post_next ?_
  obtain ⟨lr34, hF, hK35⟩ := bind_some hF
  refine aw_for ((((a0.length : Int) : Int) - (0)).toNat + 1) (fun s1 => ∃ q, lr34 = .next q ∧ s1 = ⟨19, [], [], 0, [], [], 0, []⟩) ?_ ?_
  · refine rnd_loop (α := Int) (fun q => ⟨19, [(0, some (.pv (.vs 1 (List.map eS a0)))), (1, some (.pv (.fn q1_f q1_c))), (7, some (.pv (.int .i64 (a0.length : Int)))), (8, some (.pv (.int .i64 q)))], [], 0, [], [], 0, []⟩) (fun k q => slices_IndexFunc_string_L1 a0 q1 k q = some lr34) 0 (imps [] ⟨by kernel_rfl, by kernel_rfl, by kernel_rfl, by kernel_rfl, trivial⟩ trivial) hF (fun q h => by cases h) ?_
    clear hF
    rintro k x11 hF ih
    refine rnd_succ ?_
    refine aw_seq ?_
    refine aw_region ?_
    refine rgp (op_int (k := .i64) (m := x11) (n := (a0.length : Int)) rfl rfl rfl rfl rfl rfl) ?_
    refine reg_nil ?_
    refine post_imp (s' := ⟨19, [(0, some (.pv (.vs 1 (List.map eS a0)))), (1, some (.pv (.fn q1_f q1_c))), (7, some (.pv (.int .i64 (a0.length : Int)))), (8, some (.pv (.int .i64 x11))), (9, some (.pv (.bool (decide (x11 < (a0.length : Int))))))], [], 0, [], [], 0, []⟩) (imps [] ⟨by kernel_rfl, by kernel_rfl, by kernel_rfl, by kernel_rfl, by kernel_rfl, trivial⟩ trivial) ?_
    refine post_next ?_
    refine aw_seq ?_
    rcases ite_some hF with ⟨hb23, hF⟩ | ⟨hb23, hF⟩
    · refine aw_cond_t rfl hb23 ?_
      refine aw_skip ?_
      refine post_next ?_
      refine aw_seq ?_
      refine aw_block ?_
      refine aw_seq ?_
      refine aw_region ?_
      refine rmv ?_
      refine ras ?_
      refine reg_nil ?_
      refine post_imp (s' := ⟨19, [(0, some (.pv (.vs 1 (List.map eS a0)))), (1, some (.pv (.fn q1_f q1_c))), (5, some (.pv (.int .i64 x11))), (7, some (.pv (.int .i64 (a0.length : Int)))), (8, some (.pv (.int .i64 x11)))], [], 0, [], [], 0, []⟩) (imps [] ⟨by kernel_rfl, by kernel_rfl, by kernel_rfl, by kernel_rfl, by kernel_rfl, trivial⟩ trivial) ?_
      refine post_next ?_
      refine aw_seq ?_
      refine aw_region ?_
      iterate 3 (refine rmv ?_)
      obtain ⟨y28, h29, hF⟩ := bind_some hF
      refine rgp (op_index_vs (k := .i64) rfl rfl rfl (idx_map eS h29) Tryd_slc_41 rfl rfl) ?_
      refine rgp (op_load_vp (p := .str y28) rfl rfl rfl Tryd_one_9 rfl rfl) ?_
      obtain ⟨y30, h31, hF⟩ := bind_some hF
      refine rgp (op_call 0 rfl (caps := q1_c) (args := [.str y28]) (rs := [.p (.bool y30)]) rfl rfl rfl q1_b (q1_h y28 _ h31) rfl rfl rfl) ?_
      refine reg_nil ?_
      refine post_imp (s' := ⟨19, [(0, some (.pv (.vs 1 (List.map eS a0)))), (1, some (.pv (.fn q1_f q1_c))), (5, some (.pv (.int .i64 x11))), (7, some (.pv (.int .i64 (a0.length : Int)))), (8, some (.pv (.int .i64 x11))), (16, some (.pv (.bool y30)))], [], 0, [], [], 0, []⟩) (imps [] ⟨by kernel_rfl, by kernel_rfl, by kernel_rfl, by kernel_rfl, by kernel_rfl, by kernel_rfl, trivial⟩ trivial) ?_
      refine post_next ?_
      rcases ite_some hF with ⟨hb32, hF⟩ | ⟨hb32, hF⟩
      · refine aw_cond_t rfl hb32 ?_
        refine aw_seq ?_
        refine aw_region ?_
        refine rmv ?_
        refine ras ?_
        refine reg_nil ?_
        refine post_imp (s' := ⟨19, [(4, some (.pv (.int .i64 x11)))], [], 0, [], [], 0, []⟩) (imps [] ⟨by kernel_rfl, trivial⟩ trivial) ?_
        refine post_next ?_
        refine aw_ret ?_
        refine post_block_ret ?_
        iterate 2 (refine post_then_ret ?_)
        refine post_lp_ret ?_
        obtain rfl := Option.some.inj hF
        have hF := elim_stop hK35
        refine post_then_ret ?_
        obtain rfl := Option.some.inj hF
        exact prt
      refine aw_cond_f rfl hb32 ?_
      refine aw_skip ?_
      refine post_block_normal ?_
      refine post_next ?_
      refine aw_region ?_
      refine rgp (op_int (k := .i64) (m := x11) (n := 1) rfl rfl rfl rfl rfl rfl) ?_
      refine rmv ?_
      refine reg_nil ?_
      refine post_round ?_
      exact rnd_back (ih (w_i64 (x11 + 1)) hF) (imps [] ⟨by kernel_rfl, by kernel_rfl, by kernel_rfl, by kernel_rfl, trivial⟩ trivial)
    refine aw_cond_f rfl hb23 ?_
    refine aw_exit ?_
    iterate 2 (refine post_then_exit ?_)
    obtain rfl := Option.some.inj hF
    exact post_lp_break _ ⟨_, rfl, rfl⟩ (imps [] trivial trivial)
  rintro _ ⟨⟨⟩, rfl, rfl⟩
  have hF := elim_next hK35
  clear hK35
  refine post_next ?_
  refine aw_seq ?_
  refine aw_region ?_
  refine ras ?_
  refine reg_nil ?_
  refine post_imp (s' := ⟨19, [(4, some (.pv (.int .i64 (-1))))], [], 0, [], [], 0, []⟩) (imps [] ⟨by kernel_rfl, trivial⟩ trivial) ?_
  refine post_next ?_
  refine aw_ret ?_
  obtain rfl := Option.some.inj hF
  exact prt
theorem word_is_1_ok {a0 : List UInt8} {c0 : List UInt8} {r : Bool} (hF : word_is_1 a0 c0 = some r) : Abs.Fn globs_Tryd Tryd.prog 75 [.str a0, .vp (eS c0)] [.p (.bool r)] := by
  unfold word_is_1 at hF
  refine fn_of_body (n := 7) Tryd.func75 rfl rfl rfl ?_
  intro w O
  refine aw_seq ?_
  refine aw_region ?_
  refine ras ?_
  refine reg_nil ?_
  refine post_imp (s' := ⟨7, [(0, some (.pv (.str a0))), (1, some (.pv (.vp (eS c0))))], [], 0, [], [], 0, []⟩) (imps [] ⟨by kernel_rfl, by kernel_rfl, trivial⟩ trivial) ?_
  refine post_next ?_
  refine aw_seq ?_
  refine aw_region ?_
  refine rmv ?_
  refine rgp (op_load_vp (p := .str c0) rfl rfl rfl Tryd_one_9 rfl rfl) ?_
  refine rgp (op_str rfl rfl rfl rfl rfl rfl) ?_
  refine ras ?_
  refine reg_nil ?_
  refine post_imp (s' := ⟨7, [(3, some (.pv (.bool (a0 == c0))))], [], 0, [], [], 0, []⟩) (imps [] ⟨by kernel_rfl, trivial⟩ trivial) ?_
  refine post_next ?_
  refine aw_ret ?_
  obtain rfl := Option.some.inj hF
  exact prt
theorem word_Find_ok {a0 : List UInt8} {r : Int} (hF : word_Find a0 = some r) : Abs.Fn globs_Tryd Tryd.prog 45 [.str a0] [.p (.int .i64 r)] := by
  unfold word_Find at hF
  refine fn_of_body (n := 8) Tryd.func45 rfl rfl rfl ?_
  intro w O
  refine aw_seq ?_
  refine aw_region ?_
  refine ras ?_
  refine reg_nil ?_
  refine post_imp (s' := ⟨8, [(0, some (.pv (.str a0)))], [], 0, [], [], 0, []⟩) (imps [] ⟨by kernel_rfl, trivial⟩ trivial) ?_
  refine post_next ?_
  refine aw_seq ?_
  refine dr_start ⟨_, _, _⟩ rfl ?_
  refine dr_cons { dst := some 3, val := some (.pv (.vs 1 (List.map eS glob_2))) } (fun m h => step_on (guard_no rfl) (op_glob_slice (l := glob_2) (f := eS) rfl globm_2 Tryd_arr_87 globe_2 (fun _ => rfl) rfl rfl rfl rfl) rfl) ⟨trivial, trivial, trivial⟩ ?_
  refine drm ?_
  obtain ⟨y1, h2, hF⟩ := bind_some hF
  refine dr_cons { need := [(4, .pv (.str a0))], dst := some 5, val := some (.pv (.fn 75 [.vp (eS y1)])) } (fun m h => step_on (guard_no rfl) (op_call 0 rfl (caps := []) (args := [.str a0]) (rs := [.p (.fn 75 [.vp (eS y1)])]) rfl rfl (evl_cons h.1.1 evl_nil) Tryd_cal_59 (word_is_ok h2) rfl rfl rfl) rfl) ⟨⟨rfl, trivial⟩, trivial, trivial⟩ ?_
  obtain ⟨y4, h5, hF⟩ := bind_some hF
  refine dr_cons { need := [(5, .pv (.fn 75 [.vp (eS y1)])), (3, .pv (.vs 1 (List.map eS glob_2)))], dst := some 6, val := some (.pv (.int .i64 y4)) } (fun m h => step_on (guard_no rfl) (op_call 0 rfl (caps := []) (args := [.vs 1 (List.map eS glob_2), .fn 75 [.vp (eS y1)]]) (rs := [.p (.int .i64 y4)]) rfl rfl (evl_cons h.1.2.1 (evl_cons h.1.1 evl_nil)) Tryd_cal_58 (slices_IndexFunc_string_ok (q1_f := 75) (q1_c := [.vp (eS y1)]) (q1_b := Tryd_cal_75) (q1_h := fun _ r h => (word_is_1_ok h)) h5) rfl rfl rfl) rfl) ⟨⟨rfl, rfl, trivial⟩, trivial, trivial⟩ ?_
  refine dr_cons { need := [(6, .pv (.int .i64 y4))], dst := some 7, val := some (.pv (.int .i64 (w_i64 (y4 + 1)))) } (fun m h => step_on (guard_no rfl) (op_int (k := .i64) (m := y4) (n := 1) rfl h.1.1 rfl rfl rfl rfl) rfl) ⟨⟨rfl, trivial⟩, trivial, trivial⟩ ?_
  refine dr_cons { need := [(7, .pv (.int .i64 (w_i64 (y4 + 1))))], dst := some 2, val := some (.pv (.int .i64 (w_i64 (y4 + 1)))) } (fun m h => step_on (guard_no rfl) (op_assign rfl h.1.1 rfl rfl) rfl) ⟨⟨rfl, trivial⟩, trivial, trivial⟩ ?_
  refine dr_nil Tryd_mixed rfl (by kernel_rfl) ?_
  refine post_imp (s' := ⟨8, [(2, some (.pv (.int .i64 (w_i64 (y4 + 1)))))], [], 0, [], [], 0, []⟩) (imps [] ⟨by kernel_rfl, trivial⟩ trivial) ?_
  refine post_next ?_
  refine aw_ret ?_
  obtain rfl := Option.some.inj hF
  exact prt
theorem word_Name_ok {a0 : List UInt8} {r : Bool} (hF : word_Name a0 = some r) : Abs.Fn globs_Tryd Tryd.prog 27 [.str a0] [.p (.bool r)] := by
  unfold word_Name at hF
  refine fn_of_body (n := 37) Tryd.func27 rfl rfl rfl ?_
  intro w O
  refine aw_seq ?_
  refine aw_region ?_
  refine ras ?_
  refine reg_nil ?_
  refine post_imp (s' := ⟨37, [(0, some (.pv (.str a0)))], [], 0, [], [], 0, []⟩) (imps [] ⟨by kernel_rfl, trivial⟩ trivial) ?_
  refine post_next ?_
  iterate 2 (refine aw_seq ?_)
  obtain ⟨x7, hF, hK9⟩ := bind_some hF
  refine aw_cut (fun s1 => s1 = ⟨37, [(0, some (.pv (.str a0))), (17, some (.pv (.bool x7)))], [], 0, [], [], 0, []⟩) ?_ ?_
  · refine aw_region ?_
    refine rmv ?_
    refine rgp (op_str rfl rfl rfl rfl rfl rfl) ?_
    refine rmv ?_
    rcases ite_some hF with ⟨hb1, hF⟩ | ⟨hb1, hF⟩
    · refine rgo_t hb1 ?_
      iterate 2 (refine rgo_t hb1 ?_)
      refine rpt hb1 ?_
      refine rmv ?_
      iterate 4 (refine rgo_t rfl ?_)
      refine rpt rfl ?_
      refine reg_nil ?_
      cases hF
      exact post_cut _ rfl (imps [] ⟨by kernel_rfl, by kernel_rfl, trivial⟩ trivial)
    refine rgn hb1 (op_move rfl rfl rfl rfl) ?_
    refine rgn hb1 (op_len_str rfl rfl Tryd_und_9 rfl rfl) ?_
    refine rgn hb1 (op_int (k := .i64) (m := (a0.length : Int)) (n := 20) rfl rfl rfl rfl rfl rfl) ?_
    refine rpf hb1 ?_
    refine rmv ?_
    rcases ite_some hF with ⟨hb2, hF⟩ | ⟨hb2, hF⟩
    · refine rgo_t hb2 ?_
      iterate 3 (refine rgo_t hb2 ?_)
      refine rpt hb2 ?_
      refine reg_nil ?_
      cases hF
      exact post_cut _ rfl (imps [] ⟨by kernel_rfl, by kernel_rfl, trivial⟩ trivial)
    refine rgn hb2 (op_move rfl rfl rfl rfl) ?_
    obtain ⟨y3, h4, hF⟩ := bind_some hF
    refine rgn hb2 (op_index_str (k := .i64) rfl rfl rfl h4 Tryd_und_9 rfl rfl) ?_
    obtain ⟨y5, h6, hF⟩ := bind_some hF
    refine rgn hb2 (op_call 0 rfl (caps := []) (args := [.int .u8 (y3.toNat : Int)]) (rs := [.p (.bool y5)]) rfl rfl rfl Tryd_cal_43 (word_Letter_ok h6) rfl rfl rfl) ?_
    refine rgn hb2 (op_not rfl rfl rfl rfl) ?_
    refine rpf hb2 ?_
    refine reg_nil ?_
    cases hF
    exact post_cut _ rfl (imps [] ⟨by kernel_rfl, by kernel_rfl, trivial⟩ trivial)
  rintro _ rfl
  have hF := hK9
  clear hK9
  refine post_next ?_
  rcases ite_some hF with ⟨hb10, hF⟩ | ⟨hb10, hF⟩
  · refine aw_cond_t rfl hb10 ?_
    refine aw_seq ?_
    refine aw_region ?_
    refine ras ?_
    refine reg_nil ?_
    refine post_imp (s' := ⟨37, [(2, some (.pv (.bool false)))], [], 0, [], [], 0, []⟩) (imps [] ⟨by kernel_rfl, trivial⟩ trivial) ?_
    refine post_next ?_
    refine aw_ret ?_
    refine post_then_ret ?_
    obtain rfl := Option.some.inj hF
    exact prt
  refine aw_cond_f rfl hb10 ?_
  refine aw_skip ?_
  refine post_next ?_
  iterate 2 (refine aw_seq ?_)
  refine aw_region ?_
  refine rmv ?_
  obtain ⟨u13, h14, hF⟩ := bind_some hF
  refine rgp (op_strBytes (E := eI_u8) rfl rfl Tryd_und_9 Tryd_und_55 Tryd_und_5 h14 rfl rfl rfl) ?_
  refine rgp (op_len_vs (n := (bytesL a0).length) rfl rfl (List.length_map ..) Tryd_slc_55 rfl rfl) ?_
  refine rmv ?_
  refine reg_nil ?_
  refine post_imp (s' := ⟨37, [(0, some (.pv (.str a0))), (19, some (.pv (.vs 1 (List.map eI_u8 (bytesL a0))))), (20, some (.pv (.int .i64 ((bytesL a0).length : Int)))), (21, some (.pv (.int .i64 0)))], [], 0, [], [], 0, []⟩) (imps [] ⟨by kernel_rfl, by kernel_rfl, by kernel_rfl, by kernel_rfl, trivial⟩ trivial) ?_
  refine post_next ?_
  obtain ⟨lr66, hF, hK67⟩ := bind_some hF
  refine aw_for (((((bytesL a0).length : Int) : Int) - (0)).toNat + 1) (fun s1 => ∃ q, lr66 = .next q ∧ s1 = ⟨37, [(0, some (.pv (.str a0)))], [], 0, [], [], 0, []⟩) ?_ ?_
  · refine rnd_loop (α := Int) (fun q => ⟨37, [(0, some (.pv (.str a0))), (19, some (.pv (.vs 1 (List.map eI_u8 (bytesL a0))))), (20, some (.pv (.int .i64 ((bytesL a0).length : Int)))), (21, some (.pv (.int .i64 q)))], [], 0, [], [], 0, []⟩) (fun k q => word_Name_L1 a0 k q = some lr66) 0 (imps [] ⟨by kernel_rfl, by kernel_rfl, by kernel_rfl, by kernel_rfl, trivial⟩ trivial) hF (fun q h => by cases h) ?_
    clear hF
    rintro k x31 hF ih
    refine rnd_succ ?_
    refine aw_seq ?_
    refine aw_region ?_
    refine rgp (op_int (k := .i64) (m := x31) (n := ((bytesL a0).length : Int)) rfl rfl rfl rfl rfl rfl) ?_
    refine reg_nil ?_
    refine post_imp (s' := ⟨37, [(0, some (.pv (.str a0))), (19, some (.pv (.vs 1 (List.map eI_u8 (bytesL a0))))), (20, some (.pv (.int .i64 ((bytesL a0).length : Int)))), (21, some (.pv (.int .i64 x31))), (22, some (.pv (.bool (decide (x31 < ((bytesL a0).length : Int))))))], [], 0, [], [], 0, []⟩) (imps [] ⟨by kernel_rfl, by kernel_rfl, by kernel_rfl, by kernel_rfl, by kernel_rfl, trivial⟩ trivial) ?_
    refine post_next ?_
    refine aw_seq ?_
    rcases ite_some hF with ⟨hb49, hF⟩ | ⟨hb49, hF⟩
    · refine aw_cond_t rfl hb49 ?_
      refine aw_skip ?_
      refine post_next ?_
      refine aw_seq ?_
      refine aw_block ?_
      refine aw_seq ?_
      refine aw_region ?_
      obtain ⟨y52, h53, hF⟩ := bind_some hF
      refine rgp (op_index_vs (k := .i64) rfl rfl rfl (idx_map eI_u8 h53) Tryd_slc_55 rfl rfl) ?_
      refine rgp (op_load_vp (p := .int .u8 y52) rfl rfl rfl Tryd_one_5 rfl rfl) ?_
      refine ras ?_
      refine reg_nil ?_
      refine post_imp (s' := ⟨37, [(0, some (.pv (.str a0))), (4, some (.pv (.int .u8 y52))), (19, some (.pv (.vs 1 (List.map eI_u8 (bytesL a0))))), (20, some (.pv (.int .i64 ((bytesL a0).length : Int)))), (21, some (.pv (.int .i64 x31)))], [], 0, [], [], 0, []⟩) (imps [] ⟨by kernel_rfl, by kernel_rfl, by kernel_rfl, by kernel_rfl, by kernel_rfl, trivial⟩ trivial) ?_
      refine post_next ?_
      refine aw_seq ?_
      obtain ⟨x61, hF, hK63⟩ := bind_some hF
      refine aw_cut (fun s1 => s1 = ⟨37, [(0, some (.pv (.str a0))), (19, some (.pv (.vs 1 (List.map eI_u8 (bytesL a0))))), (20, some (.pv (.int .i64 ((bytesL a0).length : Int)))), (21, some (.pv (.int .i64 x31))), (32, some (.pv (.bool x61)))], [], 0, [], [], 0, []⟩) ?_ ?_
      · refine aw_region ?_
        refine rmv ?_
        obtain ⟨y56, h57, hF⟩ := bind_some hF
        refine rgp (op_call 0 rfl (caps := []) (args := [.int .u8 y52]) (rs := [.p (.bool y56)]) rfl rfl rfl Tryd_cal_43 (word_Letter_ok h57) rfl rfl rfl) ?_
        refine rgp (op_not rfl rfl rfl rfl) ?_
        refine rmv ?_
        rcases ite_some hF with ⟨hb58, hF⟩ | ⟨hb58, hF⟩
        · refine rgn hb58 (op_move rfl rfl rfl rfl) ?_
          obtain ⟨y59, h60, hF⟩ := bind_some hF
          refine rgn hb58 (op_call 0 rfl (caps := []) (args := [.int .u8 y52]) (rs := [.p (.bool y59)]) rfl rfl rfl Tryd_cal_44 (word_Digit_ok h60) rfl rfl rfl) ?_
          refine rgn hb58 (op_not rfl rfl rfl rfl) ?_
          refine rpt hb58 ?_
          refine reg_nil ?_
          cases hF
          exact post_cut _ rfl (imps [] ⟨by kernel_rfl, by kernel_rfl, by kernel_rfl, by kernel_rfl, by kernel_rfl, trivial⟩ trivial)
        iterate 3 (refine rgo_f hb58 ?_)
        refine rpf hb58 ?_
        refine reg_nil ?_
        cases hF
        exact post_cut _ rfl (imps [] ⟨by kernel_rfl, by kernel_rfl, by kernel_rfl, by kernel_rfl, by kernel_rfl, trivial⟩ trivial)
      rintro _ rfl
      have hF := hK63
      clear hK63
      refine post_next ?_
      rcases ite_some hF with ⟨hb64, hF⟩ | ⟨hb64, hF⟩
      · refine aw_cond_t rfl hb64 ?_
        refine aw_seq ?_
        refine aw_region ?_
        refine ras ?_
        refine reg_nil ?_
        refine post_imp (s' := ⟨37, [(2, some (.pv (.bool false)))], [], 0, [], [], 0, []⟩) (imps [] ⟨by kernel_rfl, trivial⟩ trivial) ?_
        refine post_next ?_
        refine aw_ret ?_
        refine post_block_ret ?_
        iterate 2 (refine post_then_ret ?_)
        refine post_lp_ret ?_
        obtain rfl := Option.some.inj hF
        have hF := elim_stop hK67
        refine post_then_ret ?_
        obtain rfl := Option.some.inj hF
        exact prt
      refine aw_cond_f rfl hb64 ?_
      refine aw_skip ?_
      refine post_block_normal ?_
      refine post_next ?_
      refine aw_region ?_
      refine rgp (op_int (k := .i64) (m := x31) (n := 1) rfl rfl rfl rfl rfl rfl) ?_
      refine rmv ?_
      refine reg_nil ?_
      refine post_round ?_
      exact rnd_back (ih (w_i64 (x31 + 1)) hF) (imps [] ⟨by kernel_rfl, by kernel_rfl, by kernel_rfl, by kernel_rfl, trivial⟩ trivial)
    refine aw_cond_f rfl hb49 ?_
    refine aw_exit ?_
    iterate 2 (refine post_then_exit ?_)
    obtain rfl := Option.some.inj hF
    exact post_lp_break _ ⟨_, rfl, rfl⟩ (imps [] ⟨by kernel_rfl, trivial⟩ trivial)
  rintro _ ⟨⟨⟩, rfl, rfl⟩
  have hF := elim_next hK67
  clear hK67
  refine post_next ?_
  refine aw_seq ?_
  refine aw_region ?_
  refine rmv ?_
  obtain ⟨y68, h69, hF⟩ := bind_some hF
  refine rgp (op_call 0 rfl (caps := []) (args := [.str a0]) (rs := [.p (.int .i64 y68)]) rfl rfl rfl Tryd_cal_45 (word_Find_ok h69) rfl rfl rfl) ?_
  refine rgp (op_int (k := .i64) (m := y68) (n := 0) rfl rfl rfl rfl rfl rfl) ?_
  refine ras ?_
  refine reg_nil ?_
  refine post_imp (s' := ⟨37, [(2, some (.pv (.bool (y68 == 0))))], [], 0, [], [], 0, []⟩) (imps [] ⟨by kernel_rfl, trivial⟩ trivial) ?_
  refine post_next ?_
  refine aw_ret ?_
  obtain rfl := Option.some.inj hF
  exact prt
theorem event_hear_w_ok {a1 : List UInt8} {a2 : List UInt8} {b0 : GEvent} {r : Bool × GEvent} (hF : event_hear_w a1 a2 b0 = some r) : Abs.FnW globs_Tryd Tryd.prog 38 [.lp 0 0, .pv (.str a1), .pv (.str a2)] [(0, some (.box 27 (bxv (eGEvent b0))))] 1 [(0, 0)] [.pv (.bool r.1)] [(0, some (.box 27 (bxv (eGEvent r.2))))] 1 := by
  unfold event_hear_w at hF
  refine fnW_of_body (n := 59) (m := 1) [0] Tryd.func38 rfl rfl rfl ?_
  intro c w O θ hcx
  refine aw_seq ?_
  refine aw_region ?_
  refine ras ?_
  refine reg_nil ?_
  refine post_imp (s' := ⟨59, [(0, some (.lp 0 0)), (1, some (.pv (.str a1))), (2, some (.pv (.str a2)))], [(0, some (.box 27 (bxv (eGEvent b0))))], 1, [], [], 0, [0]⟩) (imps [0] ⟨by kernel_rfl, by kernel_rfl, by kernel_rfl, trivial⟩ ⟨by kernel_rfl, trivial⟩) ?_
  refine post_next ?_
  iterate 2 (refine aw_seq ?_)
  refine aw_region ?_
  refine rmv ?_
  obtain ⟨y3, h4, hF⟩ := bind_some hF
  refine rgp (op_index_str (k := .i64) rfl rfl rfl h4 Tryd_und_9 rfl rfl) ?_
  refine reg_nil ?_
  refine post_imp (s' := ⟨59, [(0, some (.lp 0 0)), (1, some (.pv (.str a1))), (2, some (.pv (.str a2))), (14, some (.pv (.int .u8 (y3.toNat : Int))))], [(0, some (.box 27 (bxv (eGEvent b0))))], 1, [], [], 0, [0]⟩) (imps [0] ⟨by kernel_rfl, by kernel_rfl, by kernel_rfl, by kernel_rfl, trivial⟩ ⟨by kernel_rfl, trivial⟩) ?_
  refine post_next ?_
  refine aw_block ?_
  refine aw_seq ?_
  refine aw_region ?_
  refine rgp (op_int (k := .u8) (m := (y3.toNat : Int)) (n := 35) rfl rfl rfl rfl rfl rfl) ?_
  refine ras ?_
  refine reg_nil ?_
  refine post_imp (s' := ⟨59, [(0, some (.lp 0 0)), (1, some (.pv (.str a1))), (2, some (.pv (.str a2))), (14, some (.pv (.int .u8 (y3.toNat : Int)))), (15, some (.pv (.bool ((y3.toNat : Int) == 35))))], [(0, some (.box 27 (bxv (eGEvent b0))))], 1, [], [], 0, [0]⟩) (imps [0] ⟨by kernel_rfl, by kernel_rfl, by kernel_rfl, by kernel_rfl, by kernel_rfl, trivial⟩ ⟨by kernel_rfl, trivial⟩) ?_
  refine post_next ?_
  rcases ite_some hF with ⟨hb5, hF⟩ | ⟨hb5, hF⟩
  · refine aw_cond_t rfl hb5 ?_
    refine aw_seq ?_
    refine aw_region ?_
    refine rmv ?_
    obtain ⟨y8, h9, hF⟩ := bind_some hF
    refine rgp (op_call 1 rfl (caps := []) (args := [.str a2]) (rs := [.p (.int .i64 y8.1), .p (.bool y8.2)]) rfl rfl rfl Tryd_cal_54 (event_number_ok h9) rfl rfl rfl) ?_
    refine rmv ?_
    iterate 2 (refine rgp (op_extract rfl rfl rfl rfl rfl) ?_)
    iterate 2 (refine ras ?_)
    refine reg_nil ?_
    refine post_imp (s' := ⟨59, [(0, some (.lp 0 0)), (1, some (.pv (.str a1))), (7, some (.pv (.int .i64 y8.1))), (8, some (.pv (.bool y8.2)))], [(0, some (.box 27 (bxv (eGEvent b0))))], 1, [], [], 0, [0]⟩) (imps [0] ⟨by kernel_rfl, by kernel_rfl, by kernel_rfl, by kernel_rfl, trivial⟩ ⟨by kernel_rfl, trivial⟩) ?_
    refine post_next ?_
    refine aw_seq ?_
    refine aw_region ?_
    iterate 2 (refine rmv ?_)
    obtain ⟨y10, h11, hF⟩ := bind_some hF
    refine rgp (op_index_str (k := .i64) rfl rfl rfl h11 Tryd_und_9 rfl rfl) ?_
    obtain ⟨y12, h13, hF⟩ := bind_some hF
    refine rgp (op_callP (args := [.lp 0 0, .pv (.int .u8 (y10.toNat : Int))]) (id := 0) (T := 27) (cells := eGEvent b0) rfl rfl rfl rfl rfl Tryd_cal_26 (event_slot_w_ok h13) rfl rfl rfl) ?_
    refine rmv ?_
    refine rgp (op_nilCheck rfl rfl rfl rfl rfl) ?_
    obtain ⟨y15, h14, hF⟩ := bind_some hF
    refine rgp (op_store_lpV (cells' := bxv (eGEvent y15)) (n := 1) rfl rfl rfl rfl rfl (or_one Tryd_one_3) (by rw [Tryd_one_3]; rfl) (Nat.le_of_ble_eq_true (setc_27_ok h14).1) (setc_27_ok h14).2 rfl rfl) ?_
    refine reg_nil ?_
    refine post_imp (s' := ⟨59, [(0, some (.lp 0 0)), (8, some (.pv (.bool y8.2)))], [(0, some (.box 27 (bxv (eGEvent y15))))], 1, [], [], 0, [0]⟩) (imps [0] ⟨by kernel_rfl, by kernel_rfl, trivial⟩ ⟨by kernel_rfl, trivial⟩) ?_
    refine post_next ?_
    refine aw_seq ?_
    refine aw_region ?_
    refine rmv ?_
    refine ras ?_
    refine reg_nil ?_
    refine post_imp (s' := ⟨59, [(0, some (.lp 0 0)), (6, some (.pv (.bool y8.2)))], [(0, some (.box 27 (bxv (eGEvent y15))))], 1, [], [], 0, [0]⟩) (imps [0] ⟨by kernel_rfl, by kernel_rfl, trivial⟩ ⟨by kernel_rfl, trivial⟩) ?_
    refine post_next ?_
    refine aw_ret ?_
    refine post_block_ret ?_
    refine post_then_ret ?_
    refine post_imp (s' := ⟨59, [(0, some (.lp 0 0)), (6, some (.pv (.bool y8.2)))], [(0, some (.box 27 (bxv (eGEvent y15))))], 1, [], [], 0, [0]⟩) (imps [0] ⟨by kernel_rfl, by kernel_rfl, trivial⟩ ⟨by kernel_rfl, trivial⟩) ?_
    obtain rfl := Option.some.inj hF
    exact post_retW hcx rfl (.cons _ _ _ _ (.tmp _ _ rfl) .nil) rfl (.inl rfl)
  refine aw_cond_f rfl hb5 ?_
  refine aw_seq ?_
  refine aw_region ?_
  refine rgp (op_int (k := .u8) (m := (y3.toNat : Int)) (n := 36) rfl rfl rfl rfl rfl rfl) ?_
  refine ras ?_
  refine reg_nil ?_
  refine post_imp (s' := ⟨59, [(0, some (.lp 0 0)), (1, some (.pv (.str a1))), (2, some (.pv (.str a2))), (14, some (.pv (.int .u8 (y3.toNat : Int)))), (29, some (.pv (.bool ((y3.toNat : Int) == 36))))], [(0, some (.box 27 (bxv (eGEvent b0))))], 1, [], [], 0, [0]⟩) (imps [0] ⟨by kernel_rfl, by kernel_rfl, by kernel_rfl, by kernel_rfl, by kernel_rfl, trivial⟩ ⟨by kernel_rfl, trivial⟩) ?_
  refine post_next ?_
  rcases ite_some hF with ⟨hb16, hF⟩ | ⟨hb16, hF⟩
  · refine aw_cond_t rfl hb16 ?_
    refine aw_seq ?_
    refine aw_region ?_
    iterate 2 (refine rmv ?_)
    refine rgp (op_nilCheck rfl rfl rfl rfl rfl) ?_
    refine rgp (op_field_lp rfl rfl Tryd_fld_27_3 rfl rfl) ?_
    refine rgp (op_store_lp (n := 1) rfl rfl rfl rfl rfl (or_one Tryd_one_9) (by rw [Tryd_one_9]; rfl) rfl rfl rfl) ?_
    refine reg_nil ?_
    refine post_imp (s' := ⟨59, [(0, some (.lp 0 0)), (2, some (.pv (.str a2)))], [(0, some (.box 27 (bxv (eGEvent ({ b0 with fName := a2 } : GEvent)))))], 1, [], [], 0, [0]⟩) (imps [0] ⟨by kernel_rfl, by kernel_rfl, trivial⟩ ⟨by kernel_rfl, trivial⟩) ?_
    refine post_next ?_
    refine aw_seq ?_
    refine aw_region ?_
    refine rmv ?_
    obtain ⟨y17, h18, hF⟩ := bind_some hF
    refine rgp (op_call 1 rfl (caps := []) (args := [.str a2]) (rs := [.p (.bool y17)]) rfl rfl rfl Tryd_cal_27 (word_Name_ok h18) rfl rfl rfl) ?_
    refine ras ?_
    refine reg_nil ?_
    refine post_imp (s' := ⟨59, [(0, some (.lp 0 0)), (6, some (.pv (.bool y17)))], [(0, some (.box 27 (bxv (eGEvent ({ b0 with fName := a2 } : GEvent)))))], 1, [], [], 0, [0]⟩) (imps [0] ⟨by kernel_rfl, by kernel_rfl, trivial⟩ ⟨by kernel_rfl, trivial⟩) ?_
    refine post_next ?_
    refine aw_ret ?_
    refine post_block_ret ?_
    refine post_then_ret ?_
    refine post_imp (s' := ⟨59, [(0, some (.lp 0 0)), (6, some (.pv (.bool y17)))], [(0, some (.box 27 (bxv (eGEvent ({ b0 with fName := a2 } : GEvent)))))], 1, [], [], 0, [0]⟩) (imps [0] ⟨by kernel_rfl, by kernel_rfl, trivial⟩ ⟨by kernel_rfl, trivial⟩) ?_
    obtain rfl := Option.some.inj hF
    exact post_retW hcx rfl (.cons _ _ _ _ (.tmp _ _ rfl) .nil) rfl (.inl rfl)
  refine aw_cond_f rfl hb16 ?_
  refine aw_seq ?_
  refine aw_region ?_
  refine rgp (op_int (k := .u8) (m := (y3.toNat : Int)) (n := 64) rfl rfl rfl rfl rfl rfl) ?_
  refine ras ?_
  refine reg_nil ?_
  refine post_imp (s' := ⟨59, [(0, some (.lp 0 0)), (1, some (.pv (.str a1))), (2, some (.pv (.str a2))), (37, some (.pv (.bool ((y3.toNat : Int) == 64))))], [(0, some (.box 27 (bxv (eGEvent b0))))], 1, [], [], 0, [0]⟩) (imps [0] ⟨by kernel_rfl, by kernel_rfl, by kernel_rfl, by kernel_rfl, trivial⟩ ⟨by kernel_rfl, trivial⟩) ?_
  refine post_next ?_
  rcases ite_some hF with ⟨hb19, hF⟩ | ⟨hb19, hF⟩
  · refine aw_cond_t rfl hb19 ?_
    refine aw_seq ?_
    refine aw_region ?_
    refine rmv ?_
    obtain ⟨y22, h23, hF⟩ := bind_some hF
    refine rgp (op_call 1 rfl (caps := []) (args := [.str a2, .str [64]]) (rs := [.p (.str y22.1), .p (.bool y22.2)]) rfl rfl rfl Tryd_cal_55 (strings_CutPrefix_ok h23) rfl rfl rfl) ?_
    refine rmv ?_
    iterate 2 (refine rgp (op_extract rfl rfl rfl rfl rfl) ?_)
    iterate 2 (refine ras ?_)
    refine reg_nil ?_
    refine post_imp (s' := ⟨59, [(0, some (.lp 0 0)), (9, some (.pv (.str y22.1))), (10, some (.pv (.bool y22.2)))], [(0, some (.box 27 (bxv (eGEvent b0))))], 1, [], [], 0, [0]⟩) (imps [0] ⟨by kernel_rfl, by kernel_rfl, by kernel_rfl, trivial⟩ ⟨by kernel_rfl, trivial⟩) ?_
    refine post_next ?_
    refine aw_seq ?_
    refine aw_region ?_
    refine rmv ?_
    obtain ⟨y26, h27, hF⟩ := bind_some hF
    refine rgp (op_call 1 rfl (caps := []) (args := [.str y22.1]) (rs := [.p (.int .i64 y26.1), .p (.bool y26.2)]) rfl rfl rfl Tryd_cal_54 (event_number_ok h27) rfl rfl rfl) ?_
    refine rmv ?_
    iterate 2 (refine rgp (op_extract rfl rfl rfl rfl rfl) ?_)
    iterate 2 (refine ras ?_)
    refine reg_nil ?_
    refine post_imp (s' := ⟨59, [(0, some (.lp 0 0)), (10, some (.pv (.bool y22.2))), (11, some (.pv (.int .i64 y26.1))), (12, some (.pv (.bool y26.2)))], [(0, some (.box 27 (bxv (eGEvent b0))))], 1, [], [], 0, [0]⟩) (imps [0] ⟨by kernel_rfl, by kernel_rfl, by kernel_rfl, by kernel_rfl, trivial⟩ ⟨by kernel_rfl, trivial⟩) ?_
    refine post_next ?_
    refine aw_seq ?_
    refine aw_region ?_
    iterate 3 (refine rmv ?_)
    refine rgp (op_build (zs := (eGVal zGVal)) (r := eGVal ({ fRef := y22.2, fN := y26.1 } : GVal)) rfl Tryd_zer_24 (by exact ⟨rfl, rfl, trivial⟩) Tryd_plc_24 rfl rfl rfl rfl) ?_
    refine rgp (op_nilCheck rfl rfl rfl rfl rfl) ?_
    refine rgp (op_field_lp rfl rfl Tryd_fld_27_4 rfl rfl) ?_
    refine rgp (op_store_lp (n := 2) rfl rfl rfl rfl rfl (or_agg Tryd_agg_24) (by rw [Tryd_non_24]; rfl) rfl rfl rfl) ?_
    refine reg_nil ?_
    refine post_imp (s' := ⟨59, [(0, some (.lp 0 0)), (12, some (.pv (.bool y26.2)))], [(0, some (.box 27 (bxv (eGEvent ({ b0 with fV := ({ fRef := y22.2, fN := y26.1 } : GVal) } : GEvent)))))], 1, [], [], 0, [0]⟩) (imps [0] ⟨by kernel_rfl, by kernel_rfl, trivial⟩ ⟨by kernel_rfl, trivial⟩) ?_
    refine post_next ?_
    refine aw_seq ?_
    refine aw_region ?_
    refine rmv ?_
    refine ras ?_
    refine reg_nil ?_
    refine post_imp (s' := ⟨59, [(0, some (.lp 0 0)), (6, some (.pv (.bool y26.2)))], [(0, some (.box 27 (bxv (eGEvent ({ b0 with fV := ({ fRef := y22.2, fN := y26.1 } : GVal) } : GEvent)))))], 1, [], [], 0, [0]⟩) (imps [0] ⟨by kernel_rfl, by kernel_rfl, trivial⟩ ⟨by kernel_rfl, trivial⟩) ?_
    refine post_next ?_
    refine aw_ret ?_
    refine post_block_ret ?_
    refine post_then_ret ?_
    refine post_imp (s' := ⟨59, [(0, some (.lp 0 0)), (6, some (.pv (.bool y26.2)))], [(0, some (.box 27 (bxv (eGEvent ({ b0 with fV := ({ fRef := y22.2, fN := y26.1 } : GVal) } : GEvent)))))], 1, [], [], 0, [0]⟩) (imps [0] ⟨by kernel_rfl, by kernel_rfl, trivial⟩ ⟨by kernel_rfl, trivial⟩) ?_
    obtain rfl := Option.some.inj hF
    exact post_retW hcx rfl (.cons _ _ _ _ (.tmp _ _ rfl) .nil) rfl (.inl rfl)
  refine aw_cond_f rfl hb19 ?_
  refine aw_skip ?_
  refine post_block_normal ?_
  refine post_next ?_
  refine aw_seq ?_
  refine aw_region ?_
  iterate 2 (refine rmv ?_)
  refine rgp (op_str rfl rfl rfl rfl rfl rfl) ?_
  refine ras ?_
  refine reg_nil ?_
  refine post_imp (s' := ⟨59, [(0, some (.lp 0 0)), (6, some (.pv (.bool (a1 == a2))))], [(0, some (.box 27 (bxv (eGEvent b0))))], 1, [], [], 0, [0]⟩) (imps [0] ⟨by kernel_rfl, by kernel_rfl, trivial⟩ ⟨by kernel_rfl, trivial⟩) ?_
  refine post_next ?_
  refine aw_ret ?_
  refine post_imp (s' := ⟨59, [(0, some (.lp 0 0)), (6, some (.pv (.bool (a1 == a2))))], [(0, some (.box 27 (bxv (eGEvent b0))))], 1, [], [], 0, [0]⟩) (imps [0] ⟨by kernel_rfl, by kernel_rfl, trivial⟩ ⟨by kernel_rfl, trivial⟩) ?_
  obtain rfl := Option.some.inj hF
  exact post_retW hcx rfl (.cons _ _ _ _ (.tmp _ _ rfl) .nil) rfl (.inl rfl)
theorem event_read_ok {a0 : Int} {a1 : List UInt8} {r : GEvent × Bool} (hF : event_read a0 a1 = some r) : Abs.Fn globs_Tryd Tryd.prog 19 [.int .i64 a0, .str a1] [.p (.agg (eGEvent r.1)), .p (.bool r.2)] := by
  unfold event_read at hF
  refine fn_of_body (n := 41) Tryd.func19 rfl rfl rfl ?_
  intro w O
  refine aw_seq ?_
  refine aw_region ?_
  refine rgp (op_alloc 0 rfl (ps := (eGEvent zGEvent)) rfl Tryd_zer_27 (by exact ⟨rfl, rfl, rfl, rfl, rfl, rfl, rfl, rfl, rfl, rfl, trivial⟩) rfl rfl) ?_
  refine ras ?_
  refine reg_nil ?_
  refine post_imp (s' := ⟨41, [(0, some (.pv (.int .i64 a0))), (1, some (.pv (.str a1))), (4, some (.lp 0 0))], [(0, some (.box 27 (bxv (eGEvent zGEvent))))], 1, [], [], 0, []⟩) (imps [0] ⟨by kernel_rfl, by kernel_rfl, by kernel_rfl, trivial⟩ ⟨by kernel_rfl, trivial⟩) ?_
  refine post_next ?_
  refine aw_seq ?_
  refine aw_region ?_
  refine rmv ?_
  refine rgp (op_build (zs := (eGEvent zGEvent)) (r := eGEvent ({ fKind := a0, fWho := 0, fObj := 0, fName := [], fV := zGVal, fOwn := (⟨0, 0, 0, 0⟩ : A4 Int) } : GEvent)) rfl Tryd_zer_27 (by exact ⟨rfl, rfl, rfl, rfl, rfl, rfl, rfl, rfl, rfl, rfl, trivial⟩) Tryd_plc_27 rfl rfl rfl rfl) ?_
  refine rgp (op_alloc 1 rfl (ps := (eGEvent zGEvent)) rfl Tryd_zer_27 (by exact ⟨rfl, rfl, rfl, rfl, rfl, rfl, rfl, rfl, rfl, rfl, trivial⟩) rfl rfl) ?_
  refine rgp (op_store_lp (n := 10) rfl rfl rfl rfl rfl (or_agg Tryd_agg_27) (by rw [Tryd_non_27]; rfl) rfl rfl rfl) ?_
  refine reg_nil ?_
  refine post_imp (s' := ⟨41, [(0, some (.pv (.int .i64 a0))), (1, some (.pv (.str a1))), (4, some (.lp 0 0)), (6, some (.lp 1 0))], [(0, some (.box 27 (bxv (eGEvent zGEvent)))), (1, some (.box 27 (bxv (eGEvent ({ fKind := a0, fWho := 0, fObj := 0, fName := [], fV := zGVal, fOwn := (⟨0, 0, 0, 0⟩ : A4 Int) } : GEvent)))))], 2, [], [], 0, []⟩) (imps [0, 1] ⟨by kernel_rfl, by kernel_rfl, by kernel_rfl, by kernel_rfl, trivial⟩ ⟨by kernel_rfl, by kernel_rfl, trivial⟩) ?_
  refine post_next ?_
  refine aw_seq ?_
  refine aw_region ?_
  refine rmv ?_
  obtain ⟨y7, h8, hF⟩ := bind_some hF
  refine rgp (op_call 2 rfl (caps := []) (args := [.str a1, .str [32]]) (rs := [.p (.vs 1 (List.map eS y7))]) rfl rfl rfl Tryd_cal_37 (strings_Split_ok h8) rfl rfl rfl) ?_
  refine rmv ?_
  obtain ⟨y9, h10, hF⟩ := bind_some hF
  refine rgp (op_call 2 rfl (caps := []) (args := [.int .i64 a0]) (rs := [.p (.str y9)]) rfl rfl rfl Tryd_cal_24 (event_pattern_ok h10) rfl rfl rfl) ?_
  obtain ⟨y11, h12, hF⟩ := bind_some hF
  refine rgp (op_call 2 rfl (caps := []) (args := [.str y9]) (rs := [.p (.vs 1 (List.map eS y11))]) rfl rfl rfl Tryd_cal_25 (Fn.frozen (strings_Fields_ok h12)) rfl rfl rfl) ?_
  iterate 2 (refine ras ?_)
  refine reg_nil ?_
  refine post_imp (s' := ⟨41, [(4, some (.lp 0 0)), (6, some (.lp 1 0)), (7, some (.pv (.vs 1 (List.map eS y7)))), (8, some (.pv (.vs 1 (List.map eS y11))))], [(0, some (.box 27 (bxv (eGEvent zGEvent)))), (1, some (.box 27 (bxv (eGEvent ({ fKind := a0, fWho := 0, fObj := 0, fName := [], fV := zGVal, fOwn := (⟨0, 0, 0, 0⟩ : A4 Int) } : GEvent)))))], 2, [], [], 0, []⟩) (imps [0, 1] ⟨by kernel_rfl, by kernel_rfl, by kernel_rfl, by kernel_rfl, trivial⟩ ⟨by kernel_rfl, by kernel_rfl, trivial⟩) ?_
  refine post_next ?_
  iterate 2 (refine aw_seq ?_)
  refine aw_region ?_
  refine rmv ?_
  refine rgp (op_len_vs (n := y7.length) rfl rfl (List.length_map ..) Tryd_slc_41 rfl rfl) ?_
  refine rmv ?_
  refine rgp (op_len_vs (n := y11.length) rfl rfl (List.length_map ..) Tryd_slc_41 rfl rfl) ?_
  refine rgp (op_int (k := .i64) (m := (y7.length : Int)) (n := (y11.length : Int)) rfl rfl rfl rfl rfl rfl) ?_
  refine reg_nil ?_
  refine post_imp (s' := ⟨41, [(4, some (.lp 0 0)), (6, some (.lp 1 0)), (7, some (.pv (.vs 1 (List.map eS y7)))), (8, some (.pv (.vs 1 (List.map eS y11)))), (22, some (.pv (.bool ((y7.length : Int) != (y11.length : Int)))))], [(0, some (.box 27 (bxv (eGEvent zGEvent)))), (1, some (.box 27 (bxv (eGEvent ({ fKind := a0, fWho := 0, fObj := 0, fName := [], fV := zGVal, fOwn := (⟨0, 0, 0, 0⟩ : A4 Int) } : GEvent)))))], 2, [], [], 0, []⟩) (imps [0, 1] ⟨by kernel_rfl, by kernel_rfl, by kernel_rfl, by kernel_rfl, by kernel_rfl, trivial⟩ ⟨by kernel_rfl, by kernel_rfl, trivial⟩) ?_
  refine post_next ?_
  rcases ite_some hF with ⟨hb13, hF⟩ | ⟨hb13, hF⟩
  · refine aw_cond_t rfl hb13 ?_
    refine aw_seq ?_
    refine aw_region ?_
    refine rgp (op_build (zs := (eGEvent zGEvent)) (r := eGEvent ({ fKind := 0, fWho := 0, fObj := 0, fName := [], fV := zGVal, fOwn := (⟨0, 0, 0, 0⟩ : A4 Int) } : GEvent)) rfl Tryd_zer_27 (by exact ⟨rfl, rfl, rfl, rfl, rfl, rfl, rfl, rfl, rfl, rfl, trivial⟩) Tryd_plc_27 rfl rfl rfl rfl) ?_
    refine rgp (op_store_lp (n := 10) rfl rfl rfl rfl rfl (or_agg Tryd_agg_27) (by rw [Tryd_non_27]; rfl) rfl rfl rfl) ?_
    refine ras ?_
    refine reg_nil ?_
    refine post_imp (s' := ⟨41, [(4, some (.lp 0 0)), (5, some (.pv (.bool false)))], [(0, some (.box 27 (bxv (eGEvent ({ fKind := 0, fWho := 0, fObj := 0, fName := [], fV := zGVal, fOwn := (⟨0, 0, 0, 0⟩ : A4 Int) } : GEvent)))))], 1, [], [], 0, []⟩) (imps [0] ⟨by kernel_rfl, by kernel_rfl, trivial⟩ ⟨by kernel_rfl, trivial⟩) ?_
    refine post_next ?_
    refine aw_ret ?_
    refine post_then_ret ?_
    obtain rfl := Option.some.inj hF
    exact post_ret rfl rfl (.cons _ _ _ _ _ (.agg _ _ _ _ _ 10 _ _ rfl rfl Tryd_agg_27 rfl rfl rfl) (.p _) (.cons _ _ _ _ _ (.tmp _ _ rfl) (.p _) .nil)) (.inl rfl)
  refine aw_cond_f rfl hb13 ?_
  refine aw_skip ?_
  refine post_next ?_
  iterate 2 (refine aw_seq ?_)
  refine aw_region ?_
  refine rmv ?_
  refine rgp (op_len_vs (n := y11.length) rfl rfl (List.length_map ..) Tryd_slc_41 rfl rfl) ?_
  refine rmv ?_
  refine reg_nil ?_
  refine post_imp (s' := ⟨41, [(4, some (.lp 0 0)), (6, some (.lp 1 0)), (7, some (.pv (.vs 1 (List.map eS y7)))), (24, some (.pv (.vs 1 (List.map eS y11)))), (25, some (.pv (.int .i64 (y11.length : Int)))), (26, some (.pv (.int .i64 0)))], [(0, some (.box 27 (bxv (eGEvent zGEvent)))), (1, some (.box 27 (bxv (eGEvent ({ fKind := a0, fWho := 0, fObj := 0, fName := [], fV := zGVal, fOwn := (⟨0, 0, 0, 0⟩ : A4 Int) } : GEvent)))))], 2, [], [], 0, []⟩) (imps [0, 1] ⟨by kernel_rfl, by kernel_rfl, by kernel_rfl, by kernel_rfl, by kernel_rfl, by kernel_rfl, trivial⟩ ⟨by kernel_rfl, by kernel_rfl, trivial⟩) ?_
  refine post_next ?_
  obtain ⟨lr63, hF, hK64⟩ := bind_some hF
  refine aw_for ((((y11.length : Int) : Int) - (0)).toNat + 1) (fun s1 => ∃ q, lr63 = .next q ∧ s1 = ⟨41, [(4, some (.lp 0 0)), (6, some (.lp 1 0))], [(0, some (.box 27 (bxv (eGEvent zGEvent)))), (1, some (.box 27 (bxv (eGEvent q))))], 2, [], [], 0, []⟩) ?_ ?_
  · refine rnd_loop (α := GEvent × Int) (fun q => ⟨41, [(4, some (.lp 0 0)), (6, some (.lp 1 0)), (7, some (.pv (.vs 1 (List.map eS y7)))), (24, some (.pv (.vs 1 (List.map eS y11)))), (25, some (.pv (.int .i64 (y11.length : Int)))), (26, some (.pv (.int .i64 q.2)))], [(0, some (.box 27 (bxv (eGEvent zGEvent)))), (1, some (.box 27 (bxv (eGEvent q.1))))], 2, [], [], 0, []⟩) (fun k q => event_read_L1 y7 y11 k q.1 q.2 = some lr63) (({ fKind := a0, fWho := 0, fObj := 0, fName := [], fV := zGVal, fOwn := (⟨0, 0, 0, 0⟩ : A4 Int) } : GEvent), 0) (imps [0, 1] ⟨by kernel_rfl, by kernel_rfl, by kernel_rfl, by kernel_rfl, by kernel_rfl, by kernel_rfl, trivial⟩ ⟨by kernel_rfl, by kernel_rfl, trivial⟩) hF (fun q h => by cases h) ?_
    clear hF
    rintro k ⟨x28, x29⟩ hF ih
    refine rnd_succ ?_
    refine aw_seq ?_
    refine aw_region ?_
    refine rgp (op_int (k := .i64) (m := x29) (n := (y11.length : Int)) rfl rfl rfl rfl rfl rfl) ?_
    refine reg_nil ?_
    refine post_imp (s' := ⟨41, [(4, some (.lp 0 0)), (6, some (.lp 1 0)), (7, some (.pv (.vs 1 (List.map eS y7)))), (24, some (.pv (.vs 1 (List.map eS y11)))), (25, some (.pv (.int .i64 (y11.length : Int)))), (26, some (.pv (.int .i64 x29))), (27, some (.pv (.bool (decide (x29 < (y11.length : Int))))))], [(0, some (.box 27 (bxv (eGEvent zGEvent)))), (1, some (.box 27 (bxv (eGEvent x28))))], 2, [], [], 0, []⟩) (imps [0, 1] ⟨by kernel_rfl, by kernel_rfl, by kernel_rfl, by kernel_rfl, by kernel_rfl, by kernel_rfl, by kernel_rfl, trivial⟩ ⟨by kernel_rfl, by kernel_rfl, trivial⟩) ?_
    refine post_next ?_
    refine aw_seq ?_
    rcases ite_some hF with ⟨hb46, hF⟩ | ⟨hb46, hF⟩
    · refine aw_cond_t rfl hb46 ?_
      refine aw_skip ?_
      refine post_next ?_
      refine aw_seq ?_
      refine aw_block ?_
      refine aw_seq ?_
      refine aw_region ?_
      refine rmv ?_
      obtain ⟨y49, h50, hF⟩ := bind_some hF
      refine rgp (op_index_vs (k := .i64) rfl rfl rfl (idx_map eS h50) Tryd_slc_41 rfl rfl) ?_
      refine rgp (op_load_vp (p := .str y49) rfl rfl rfl Tryd_one_9 rfl rfl) ?_
      iterate 2 (refine ras ?_)
      refine reg_nil ?_
      refine post_imp (s' := ⟨41, [(4, some (.lp 0 0)), (6, some (.lp 1 0)), (7, some (.pv (.vs 1 (List.map eS y7)))), (9, some (.pv (.int .i64 x29))), (10, some (.pv (.str y49))), (24, some (.pv (.vs 1 (List.map eS y11)))), (25, some (.pv (.int .i64 (y11.length : Int)))), (26, some (.pv (.int .i64 x29)))], [(0, some (.box 27 (bxv (eGEvent zGEvent)))), (1, some (.box 27 (bxv (eGEvent x28))))], 2, [], [], 0, []⟩) (imps [0, 1] ⟨by kernel_rfl, by kernel_rfl, by kernel_rfl, by kernel_rfl, by kernel_rfl, by kernel_rfl, by kernel_rfl, by kernel_rfl, trivial⟩ ⟨by kernel_rfl, by kernel_rfl, trivial⟩) ?_
      refine post_next ?_
      refine aw_seq ?_
      refine aw_region ?_
      iterate 3 (refine rmv ?_)
      obtain ⟨y55, h56, hF⟩ := bind_some hF
      refine rgp (op_index_vs (k := .i64) rfl rfl rfl (idx_map eS h56) Tryd_slc_41 rfl rfl) ?_
      refine rgp (op_load_vp (p := .str y55) rfl rfl rfl Tryd_one_9 rfl rfl) ?_
      obtain ⟨y57, h58, hF⟩ := bind_some hF
      refine rgp (op_callW (args := [.lp 0 0, .pv (.str y49), .pv (.str y55)]) [1] [1] [] 2 rfl rfl rfl rfl rfl Tryd_cal_38 (event_hear_w_ok h58) rfl (by decide) ⟨rfl, trivial⟩ rfl (by decide) ⟨.inl rfl, trivial⟩ (by kernel_rfl) (by kernel_rfl) rfl rfl rfl rfl) ?_
      refine rgp (op_not rfl rfl rfl rfl) ?_
      refine reg_nil ?_
      refine post_imp (s' := ⟨41, [(4, some (.lp 0 0)), (6, some (.lp 1 0)), (7, some (.pv (.vs 1 (List.map eS y7)))), (24, some (.pv (.vs 1 (List.map eS y11)))), (25, some (.pv (.int .i64 (y11.length : Int)))), (26, some (.pv (.int .i64 x29))), (37, some (.pv (.bool (!y57.1))))], [(0, some (.box 27 (bxv (eGEvent zGEvent)))), (1, some (.box 27 (bxv (eGEvent y57.2))))], 2, [], [], 0, []⟩) (imps [0, 1] ⟨by kernel_rfl, by kernel_rfl, by kernel_rfl, by kernel_rfl, by kernel_rfl, by kernel_rfl, by kernel_rfl, trivial⟩ ⟨by kernel_rfl, by kernel_rfl, trivial⟩) ?_
      refine post_next ?_
      rcases ite_some hF with ⟨hb59, hF⟩ | ⟨hb59, hF⟩
      · refine aw_cond_t rfl hb59 ?_
        refine aw_seq ?_
        refine aw_region ?_
        refine rgp (op_build (zs := (eGEvent zGEvent)) (r := eGEvent ({ fKind := 0, fWho := 0, fObj := 0, fName := [], fV := zGVal, fOwn := (⟨0, 0, 0, 0⟩ : A4 Int) } : GEvent)) rfl Tryd_zer_27 (by exact ⟨rfl, rfl, rfl, rfl, rfl, rfl, rfl, rfl, rfl, rfl, trivial⟩) Tryd_plc_27 rfl rfl rfl rfl) ?_
        refine rgp (op_store_lp (n := 10) rfl rfl rfl rfl rfl (or_agg Tryd_agg_27) (by rw [Tryd_non_27]; rfl) rfl rfl rfl) ?_
        refine ras ?_
        refine reg_nil ?_
        refine post_imp (s' := ⟨41, [(4, some (.lp 0 0)), (5, some (.pv (.bool false)))], [(0, some (.box 27 (bxv (eGEvent ({ fKind := 0, fWho := 0, fObj := 0, fName := [], fV := zGVal, fOwn := (⟨0, 0, 0, 0⟩ : A4 Int) } : GEvent)))))], 1, [], [], 0, []⟩) (imps [0] ⟨by kernel_rfl, by kernel_rfl, trivial⟩ ⟨by kernel_rfl, trivial⟩) ?_
        refine post_next ?_
        refine aw_ret ?_
        refine post_block_ret ?_
        iterate 2 (refine post_then_ret ?_)
        refine post_lp_ret ?_
        obtain rfl := Option.some.inj hF
        have hF := elim_stop hK64
        refine post_then_ret ?_
        obtain rfl := Option.some.inj hF
        exact post_ret rfl rfl (.cons _ _ _ _ _ (.agg _ _ _ _ _ 10 _ _ rfl rfl Tryd_agg_27 rfl rfl rfl) (.p _) (.cons _ _ _ _ _ (.tmp _ _ rfl) (.p _) .nil)) (.inl rfl)
      refine aw_cond_f rfl hb59 ?_
      refine aw_skip ?_
      refine post_block_normal ?_
      refine post_next ?_
      refine aw_region ?_
      refine rgp (op_int (k := .i64) (m := x29) (n := 1) rfl rfl rfl rfl rfl rfl) ?_
      refine rmv ?_
      refine reg_nil ?_
      refine post_round ?_
      exact rnd_back (ih (y57.2, w_i64 (x29 + 1)) hF) (imps [0, 1] ⟨by kernel_rfl, by kernel_rfl, by kernel_rfl, by kernel_rfl, by kernel_rfl, by kernel_rfl, trivial⟩ ⟨by kernel_rfl, by kernel_rfl, trivial⟩)
    refine aw_cond_f rfl hb46 ?_
    refine aw_exit ?_
    iterate 2 (refine post_then_exit ?_)
    obtain rfl := Option.some.inj hF
    exact post_lp_break _ ⟨_, rfl, rfl⟩ (imps [0, 1] ⟨by kernel_rfl, by kernel_rfl, trivial⟩ ⟨by kernel_rfl, by kernel_rfl, trivial⟩)
  rintro _ ⟨x62, rfl, rfl⟩
  have hF := elim_next hK64
  clear hK64
  refine post_next ?_
  refine aw_seq ?_
  refine aw_region ?_
  refine rgp (op_load_lp_agg (ps := eGEvent x62) rfl rfl rfl rfl rfl rfl Tryd_agg_27 rfl rfl) ?_
  refine rgp (op_store_lp (n := 10) rfl rfl rfl rfl rfl (or_agg Tryd_agg_27) (by rw [Tryd_non_27]; rfl) rfl rfl rfl) ?_
  refine ras ?_
  refine reg_nil ?_
  refine post_imp (s' := ⟨41, [(4, some (.lp 0 0)), (5, some (.pv (.bool true)))], [(0, some (.box 27 (bxv (eGEvent x62))))], 1, [], [], 0, []⟩) (imps [0] ⟨by kernel_rfl, by kernel_rfl, trivial⟩ ⟨by kernel_rfl, trivial⟩) ?_
  refine post_next ?_
  refine aw_ret ?_
  obtain rfl := Option.some.inj hF
  exact post_ret rfl rfl (.cons _ _ _ _ _ (.agg _ _ _ _ _ 10 _ _ rfl rfl Tryd_agg_27 rfl rfl rfl) (.p _) (.cons _ _ _ _ _ (.tmp _ _ rfl) (.p _) .nil)) (.inl rfl)
theorem event_Read_ok {a0 : List UInt8} {r : GEvent × Bool} (hF : event_Read a0 = some r) : Abs.Fn globs_Tryd Tryd.prog 7 [.str a0] [.p (.agg (eGEvent r.1)), .p (.bool r.2)] := by
  unfold event_Read at hF
  refine fn_of_body (n := 20) Tryd.func7 rfl rfl rfl ?_
  intro w O
  refine aw_seq ?_
  refine aw_region ?_
  refine rgp (op_alloc 0 rfl (ps := (eGEvent zGEvent)) rfl Tryd_zer_27 (by exact ⟨rfl, rfl, rfl, rfl, rfl, rfl, rfl, rfl, rfl, rfl, trivial⟩) rfl rfl) ?_
  refine ras ?_
  refine reg_nil ?_
  refine post_imp (s' := ⟨20, [(0, some (.pv (.str a0))), (2, some (.lp 0 0))], [(0, some (.box 27 (bxv (eGEvent zGEvent))))], 1, [], [], 0, []⟩) (imps [0] ⟨by kernel_rfl, by kernel_rfl, trivial⟩ ⟨by kernel_rfl, trivial⟩) ?_
  refine post_next ?_
  iterate 2 (refine aw_seq ?_)
  refine aw_region ?_
  refine ras ?_
  refine reg_nil ?_
  refine post_imp (s' := ⟨20, [(0, some (.pv (.str a0))), (2, some (.lp 0 0)), (4, some (.pv (.int .i64 1)))], [(0, some (.box 27 (bxv (eGEvent zGEvent))))], 1, [], [], 0, []⟩) (imps [0] ⟨by kernel_rfl, by kernel_rfl, by kernel_rfl, trivial⟩ ⟨by kernel_rfl, trivial⟩) ?_
  refine post_next ?_
  obtain ⟨lr22, hF, hK23⟩ := bind_some hF
  refine aw_for 8 (fun s1 => ∃ q, lr22 = .next q ∧ s1 = ⟨20, [(2, some (.lp 0 0))], [(0, some (.box 27 (bxv (eGEvent zGEvent))))], 1, [], [], 0, []⟩) ?_ ?_
  · refine rnd_loop (α := Int) (fun q => ⟨20, [(0, some (.pv (.str a0))), (2, some (.lp 0 0)), (4, some (.pv (.int .i64 q)))], [(0, some (.box 27 (bxv (eGEvent zGEvent))))], 1, [], [], 0, []⟩) (fun k q => event_Read_L1 a0 k q = some lr22) 1 (imps [0] ⟨by kernel_rfl, by kernel_rfl, by kernel_rfl, trivial⟩ ⟨by kernel_rfl, trivial⟩) hF (fun q h => by cases h) ?_
    clear hF
    rintro k x7 hF ih
    refine rnd_succ ?_
    iterate 2 (refine aw_seq ?_)
    refine aw_region ?_
    refine rmv ?_
    refine rgp (op_int (k := .i64) (m := x7) (n := 6) rfl rfl rfl rfl rfl rfl) ?_
    refine reg_nil ?_
    refine post_imp (s' := ⟨20, [(0, some (.pv (.str a0))), (2, some (.lp 0 0)), (4, some (.pv (.int .i64 x7))), (8, some (.pv (.bool (decide (x7 ≤ 6)))))], [(0, some (.box 27 (bxv (eGEvent zGEvent))))], 1, [], [], 0, []⟩) (imps [0] ⟨by kernel_rfl, by kernel_rfl, by kernel_rfl, by kernel_rfl, trivial⟩ ⟨by kernel_rfl, trivial⟩) ?_
    refine post_next ?_
    rcases ite_some hF with ⟨hb15, hF⟩ | ⟨hb15, hF⟩
    · refine aw_cond_t rfl hb15 ?_
      refine aw_skip ?_
      refine post_next ?_
      refine aw_seq ?_
      refine aw_block ?_
      refine aw_seq ?_
      refine aw_region ?_
      iterate 2 (refine rmv ?_)
      obtain ⟨y18, h19, hF⟩ := bind_some hF
      refine rgp (op_call 1 rfl (caps := []) (args := [.int .i64 x7, .str a0]) (rs := [.p (.agg (eGEvent y18.1)), .p (.bool y18.2)]) rfl rfl rfl Tryd_cal_19 (event_read_ok h19) rfl rfl rfl) ?_
      refine rmv ?_
      iterate 2 (refine rgp (op_extract rfl rfl rfl rfl rfl) ?_)
      refine rgp (op_alloc 1 rfl (ps := (eGEvent zGEvent)) rfl Tryd_zer_27 (by exact ⟨rfl, rfl, rfl, rfl, rfl, rfl, rfl, rfl, rfl, rfl, trivial⟩) rfl rfl) ?_
      refine rgp (op_store_lp (n := 10) rfl rfl rfl rfl rfl (or_agg Tryd_agg_27) (by rw [Tryd_non_27]; rfl) rfl rfl rfl) ?_
      refine ras ?_
      refine reg_nil ?_
      refine post_imp (s' := ⟨20, [(0, some (.pv (.str a0))), (2, some (.lp 0 0)), (4, some (.pv (.int .i64 x7))), (5, some (.lp 1 0)), (6, some (.pv (.bool y18.2)))], [(0, some (.box 27 (bxv (eGEvent zGEvent)))), (1, some (.box 27 (bxv (eGEvent y18.1))))], 2, [], [], 0, []⟩) (imps [0, 1] ⟨by kernel_rfl, by kernel_rfl, by kernel_rfl, by kernel_rfl, by kernel_rfl, trivial⟩ ⟨by kernel_rfl, by kernel_rfl, trivial⟩) ?_
      refine post_next ?_
      refine aw_seq ?_
      refine aw_region ?_
      refine rmv ?_
      refine reg_nil ?_
      refine post_imp (s' := ⟨20, [(0, some (.pv (.str a0))), (2, some (.lp 0 0)), (4, some (.pv (.int .i64 x7))), (5, some (.lp 1 0)), (17, some (.pv (.bool y18.2)))], [(0, some (.box 27 (bxv (eGEvent zGEvent)))), (1, some (.box 27 (bxv (eGEvent y18.1))))], 2, [], [], 0, []⟩) (imps [0, 1] ⟨by kernel_rfl, by kernel_rfl, by kernel_rfl, by kernel_rfl, by kernel_rfl, trivial⟩ ⟨by kernel_rfl, by kernel_rfl, trivial⟩) ?_
      refine post_next ?_
      rcases ite_some hF with ⟨hb20, hF⟩ | ⟨hb20, hF⟩
      · refine aw_cond_t rfl hb20 ?_
        refine aw_seq ?_
        refine aw_region ?_
        refine rgp (op_load_lp_agg (ps := eGEvent y18.1) rfl rfl rfl rfl rfl rfl Tryd_agg_27 rfl rfl) ?_
        refine rgp (op_store_lp (n := 10) rfl rfl rfl rfl rfl (or_agg Tryd_agg_27) (by rw [Tryd_non_27]; rfl) rfl rfl rfl) ?_
        refine ras ?_
        refine reg_nil ?_
        refine post_imp (s' := ⟨20, [(2, some (.lp 0 0)), (3, some (.pv (.bool true)))], [(0, some (.box 27 (bxv (eGEvent y18.1))))], 1, [], [], 0, []⟩) (imps [0] ⟨by kernel_rfl, by kernel_rfl, trivial⟩ ⟨by kernel_rfl, trivial⟩) ?_
        refine post_next ?_
        refine aw_ret ?_
        refine post_block_ret ?_
        iterate 2 (refine post_then_ret ?_)
        refine post_lp_ret ?_
        obtain rfl := Option.some.inj hF
        have hF := elim_stop hK23
        refine post_then_ret ?_
        obtain rfl := Option.some.inj hF
        exact post_ret rfl rfl (.cons _ _ _ _ _ (.agg _ _ _ _ _ 10 _ _ rfl rfl Tryd_agg_27 rfl rfl rfl) (.p _) (.cons _ _ _ _ _ (.tmp _ _ rfl) (.p _) .nil)) (.inl rfl)
      refine aw_cond_f rfl hb20 ?_
      refine aw_skip ?_
      refine post_block_normal ?_
      refine post_next ?_
      refine aw_region ?_
      refine rmv ?_
      refine rgp (op_int (k := .i64) (m := x7) (n := 1) rfl rfl rfl rfl rfl rfl) ?_
      refine ras ?_
      refine reg_nil ?_
      refine post_round ?_
      exact rnd_back (ih (w_i64 (x7 + 1)) hF) (imps [0] ⟨by kernel_rfl, by kernel_rfl, by kernel_rfl, trivial⟩ ⟨by kernel_rfl, trivial⟩)
    refine aw_cond_f rfl hb15 ?_
    refine aw_exit ?_
    iterate 2 (refine post_then_exit ?_)
    obtain rfl := Option.some.inj hF
    exact post_lp_break _ ⟨_, rfl, rfl⟩ (imps [0] ⟨by kernel_rfl, trivial⟩ ⟨by kernel_rfl, trivial⟩)
  rintro _ ⟨⟨⟩, rfl, rfl⟩
  have hF := elim_next hK23
  clear hK23
  refine post_next ?_
  refine aw_seq ?_
  refine aw_region ?_
  refine rgp (op_build (zs := (eGEvent zGEvent)) (r := eGEvent ({ fKind := 0, fWho := 0, fObj := 0, fName := [], fV := zGVal, fOwn := (⟨0, 0, 0, 0⟩ : A4 Int) } : GEvent)) rfl Tryd_zer_27 (by exact ⟨rfl, rfl, rfl, rfl, rfl, rfl, rfl, rfl, rfl, rfl, trivial⟩) Tryd_plc_27 rfl rfl rfl rfl) ?_
  refine rgp (op_store_lp (n := 10) rfl rfl rfl rfl rfl (or_agg Tryd_agg_27) (by rw [Tryd_non_27]; rfl) rfl rfl rfl) ?_
  refine ras ?_
  refine reg_nil ?_
  refine post_imp (s' := ⟨20, [(2, some (.lp 0 0)), (3, some (.pv (.bool false)))], [(0, some (.box 27 (bxv (eGEvent ({ fKind := 0, fWho := 0, fObj := 0, fName := [], fV := zGVal, fOwn := (⟨0, 0, 0, 0⟩ : A4 Int) } : GEvent)))))], 1, [], [], 0, []⟩) (imps [0] ⟨by kernel_rfl, by kernel_rfl, trivial⟩ ⟨by kernel_rfl, trivial⟩) ?_
  refine post_next ?_
  refine aw_ret ?_
  obtain rfl := Option.some.inj hF
  exact post_ret rfl rfl (.cons _ _ _ _ _ (.agg _ _ _ _ _ 10 _ _ rfl rfl Tryd_agg_27 rfl rfl rfl) (.p _) (.cons _ _ _ _ _ (.tmp _ _ rfl) (.p _) .nil)) (.inl rfl)
theorem law42_awake_ok  {r : Bool} (hF : law42_awake = some r) : Abs.Fn globs_Tryd Tryd.prog 6 [] [.p (.bool r)] := by
  unfold law42_awake at hF
  refine fn_of_body (n := 14) Tryd.func6 rfl rfl rfl ?_
  intro w O
  refine aw_seq ?_
  refine aw_region ?_
  refine ras ?_
  refine reg_nil ?_
  refine post_imp (s' := ⟨14, [], [], 0, [], [], 0, []⟩) (imps [] trivial trivial) ?_
  refine post_next ?_
  refine aw_seq ?_
  refine aw_region ?_
  obtain ⟨y3, h4, hF⟩ := bind_some hF
  refine rgp (op_call 0 rfl (caps := []) (args := [.str [112, 117, 116, 32, 50, 32, 110, 101, 120, 116, 32, 98, 121, 32, 49, 32, 64, 51]]) (rs := [.p (.agg (eGEvent y3.1)), .p (.bool y3.2)]) rfl rfl rfl Tryd_cal_7 (event_Read_ok h4) rfl rfl rfl) ?_
  refine rmv ?_
  iterate 2 (refine rgp (op_extract rfl rfl rfl rfl rfl) ?_)
  refine rgp (op_alloc 0 rfl (ps := (eGEvent zGEvent)) rfl Tryd_zer_27 (by exact ⟨rfl, rfl, rfl, rfl, rfl, rfl, rfl, rfl, rfl, rfl, trivial⟩) rfl rfl) ?_
  refine rgp (op_store_lp (n := 10) rfl rfl rfl rfl rfl (or_agg Tryd_agg_27) (by rw [Tryd_non_27]; rfl) rfl rfl rfl) ?_
  refine ras ?_
  refine reg_nil ?_
  refine post_imp (s' := ⟨14, [(1, some (.lp 0 0)), (2, some (.pv (.bool y3.2)))], [(0, some (.box 27 (bxv (eGEvent y3.1))))], 1, [], [], 0, []⟩) (imps [0] ⟨by kernel_rfl, by kernel_rfl, trivial⟩ ⟨by kernel_rfl, trivial⟩) ?_
  refine post_next ?_
  refine aw_seq ?_
  refine aw_region ?_
  iterate 2 (refine rmv ?_)
  rcases ite_some hF with ⟨hb5, hF⟩ | ⟨hb5, hF⟩
  · refine rgn hb5 (op_load_lp_agg (ps := eGEvent y3.1) rfl rfl rfl rfl rfl rfl Tryd_agg_27 rfl rfl) ?_
    refine rgn hb5 (op_build (zs := (eGVal zGVal)) (r := eGVal ({ fRef := true, fN := 3 } : GVal)) rfl Tryd_zer_24 (by exact ⟨rfl, rfl, trivial⟩) Tryd_plc_24 rfl rfl rfl rfl) ?_
    refine rgn hb5 (op_build (zs := (eGEvent zGEvent)) (r := eGEvent ({ fKind := 2, fWho := 1, fObj := 2, fName := [110, 101, 120, 116], fV := ({ fRef := true, fN := 3 } : GVal), fOwn := (⟨0, 0, 0, 0⟩ : A4 Int) } : GEvent)) rfl Tryd_zer_27 (by exact ⟨rfl, rfl, rfl, rfl, rfl, rfl, rfl, rfl, rfl, rfl, trivial⟩) Tryd_plc_27 rfl rfl rfl rfl) ?_
    refine rgn hb5 (op_eqAgg_eql (r := bGEvent y3.1 ({ fKind := 2, fWho := 1, fObj := 2, fName := [110, 101, 120, 116], fV := ({ fRef := true, fN := 3 } : GVal), fOwn := (⟨0, 0, 0, 0⟩ : A4 Int) } : GEvent)) rfl rfl rfl Tryd_eqt_27 rfl rfl rfl rfl rfl) ?_
    refine rpt hb5 ?_
    refine ras ?_
    refine reg_nil ?_
    refine post_imp (s' := ⟨14, [(0, some (.pv (.bool (bGEvent y3.1 ({ fKind := 2, fWho := 1, fObj := 2, fName := [110, 101, 120, 116], fV := ({ fRef := true, fN := 3 } : GVal), fOwn := (⟨0, 0, 0, 0⟩ : A4 Int) } : GEvent)))))], [], 0, [], [], 0, []⟩) (imps [] ⟨by kernel_rfl, trivial⟩ trivial) ?_
    refine post_next ?_
    refine aw_ret ?_
    obtain rfl := Option.some.inj hF
    exact prt
  iterate 4 (refine rgo_f hb5 ?_)
  refine rpf hb5 ?_
  refine ras ?_
  refine reg_nil ?_
  refine post_imp (s' := ⟨14, [(0, some (.pv (.bool false)))], [], 0, [], [], 0, []⟩) (imps [] ⟨by kernel_rfl, trivial⟩ trivial) ?_
  refine post_next ?_
  refine aw_ret ?_
  obtain rfl := Option.some.inj hF
  exact prt
theorem event_Right_ok {a0 : GEvent} {r : Bool} (hF : event_Right a0 = some r) : Abs.Fn globs_Tryd Tryd.prog 12 [.agg (eGEvent a0)] [.p (.bool r)] := by
  unfold event_Right at hF
  refine fn_of_body (n := 53) Tryd.func12 rfl rfl rfl ?_
  intro w O
  refine aw_seq ?_
  refine aw_region ?_
  refine rgp (op_box 0 rfl rfl rfl rfl rfl rfl) ?_
  refine ras ?_
  refine reg_nil ?_
  refine post_imp (s' := ⟨53, [(1, some (.lp 0 0))], [(0, some (.box 27 (bxv (eGEvent a0))))], 1, [], [], 0, []⟩) (imps [0] ⟨by kernel_rfl, trivial⟩ ⟨by kernel_rfl, trivial⟩) ?_
  refine post_next ?_
  iterate 2 (refine aw_seq ?_)
  refine aw_region ?_
  refine rgp (op_field_lp rfl rfl Tryd_fld_27_0 rfl rfl) ?_
  refine rgp (op_load_lp (v := .pv (.int .i64 a0.fKind)) rfl rfl rfl rfl Tryd_one_3 rfl rfl) ?_
  obtain ⟨y3, h4, hF⟩ := bind_some hF
  refine rgp (op_call 1 rfl (caps := []) (args := [.int .i64 a0.fKind]) (rs := [.p (.str y3)]) rfl rfl rfl Tryd_cal_24 (event_pattern_ok h4) rfl rfl rfl) ?_
  refine rgp (op_str rfl rfl rfl rfl rfl rfl) ?_
  refine reg_nil ?_
  refine post_imp (s' := ⟨53, [(1, some (.lp 0 0)), (9, some (.pv (.bool (y3 == []))))], [(0, some (.box 27 (bxv (eGEvent a0))))], 1, [], [], 0, []⟩) (imps [0] ⟨by kernel_rfl, by kernel_rfl, trivial⟩ ⟨by kernel_rfl, trivial⟩) ?_
  refine post_next ?_
  rcases ite_some hF with ⟨hb5, hF⟩ | ⟨hb5, hF⟩
  · refine aw_cond_t rfl hb5 ?_
    refine aw_seq ?_
    refine aw_region ?_
    refine ras ?_
    refine reg_nil ?_
    refine post_imp (s' := ⟨53, [(2, some (.pv (.bool false)))], [], 0, [], [], 0, []⟩) (imps [] ⟨by kernel_rfl, trivial⟩ trivial) ?_
    refine post_next ?_
    refine aw_ret ?_
    refine post_then_ret ?_
    obtain rfl := Option.some.inj hF
    exact prt
  refine aw_cond_f rfl hb5 ?_
  refine aw_skip ?_
  refine post_next ?_
  refine aw_seq ?_
  refine aw_region ?_
  refine rgp (op_field_lp rfl rfl Tryd_fld_27_0 rfl rfl) ?_
  refine rgp (op_load_lp (v := .pv (.int .i64 a0.fKind)) rfl rfl rfl rfl Tryd_one_3 rfl rfl) ?_
  refine rgp (op_build (zs := (eGEvent zGEvent)) (r := eGEvent ({ fKind := a0.fKind, fWho := 0, fObj := 0, fName := [], fV := zGVal, fOwn := (⟨0, 0, 0, 0⟩ : A4 Int) } : GEvent)) rfl Tryd_zer_27 (by exact ⟨rfl, rfl, rfl, rfl, rfl, rfl, rfl, rfl, rfl, rfl, trivial⟩) Tryd_plc_27 rfl rfl rfl rfl) ?_
  refine rgp (op_alloc 1 rfl (ps := (eGEvent zGEvent)) rfl Tryd_zer_27 (by exact ⟨rfl, rfl, rfl, rfl, rfl, rfl, rfl, rfl, rfl, rfl, trivial⟩) rfl rfl) ?_
  refine rgp (op_store_lp (n := 10) rfl rfl rfl rfl rfl (or_agg Tryd_agg_27) (by rw [Tryd_non_27]; rfl) rfl rfl rfl) ?_
  refine reg_nil ?_
  refine post_imp (s' := ⟨53, [(1, some (.lp 0 0)), (3, some (.lp 1 0))], [(0, some (.box 27 (bxv (eGEvent a0)))), (1, some (.box 27 (bxv (eGEvent ({ fKind := a0.fKind, fWho := 0, fObj := 0, fName := [], fV := zGVal, fOwn := (⟨0, 0, 0, 0⟩ : A4 Int) } : GEvent)))))], 2, [], [], 0, []⟩) (imps [0, 1] ⟨by kernel_rfl, by kernel_rfl, trivial⟩ ⟨by kernel_rfl, by kernel_rfl, trivial⟩) ?_
  refine post_next ?_
  iterate 2 (refine aw_seq ?_)
  refine aw_region ?_
  refine rgp (op_field_lp rfl rfl Tryd_fld_27_0 rfl rfl) ?_
  refine rgp (op_load_lp (v := .pv (.int .i64 a0.fKind)) rfl rfl rfl rfl Tryd_one_3 rfl rfl) ?_
  obtain ⟨y10, h11, hF⟩ := bind_some hF
  refine rgp (op_call 2 rfl (caps := []) (args := [.int .i64 a0.fKind]) (rs := [.p (.str y10)]) rfl rfl rfl Tryd_cal_24 (event_pattern_ok h11) rfl rfl rfl) ?_
  obtain ⟨y12, h13, hF⟩ := bind_some hF
  refine rgp (op_call 2 rfl (caps := []) (args := [.str y10]) (rs := [.p (.vs 1 (List.map eS y12))]) rfl rfl rfl Tryd_cal_25 (Fn.frozen (strings_Fields_ok h13)) rfl rfl rfl) ?_
  refine rgp (op_len_vs (n := y12.length) rfl rfl (List.length_map ..) Tryd_slc_41 rfl rfl) ?_
  refine rmv ?_
  refine reg_nil ?_
  refine post_imp (s' := ⟨53, [(1, some (.lp 0 0)), (3, some (.lp 1 0)), (16, some (.pv (.vs 1 (List.map eS y12)))), (17, some (.pv (.int .i64 (y12.length : Int)))), (18, some (.pv (.int .i64 0)))], [(0, some (.box 27 (bxv (eGEvent a0)))), (1, some (.box 27 (bxv (eGEvent ({ fKind := a0.fKind, fWho := 0, fObj := 0, fName := [], fV := zGVal, fOwn := (⟨0, 0, 0, 0⟩ : A4 Int) } : GEvent)))))], 2, [], [], 0, []⟩) (imps [0, 1] ⟨by kernel_rfl, by kernel_rfl, by kernel_rfl, by kernel_rfl, by kernel_rfl, trivial⟩ ⟨by kernel_rfl, by kernel_rfl, trivial⟩) ?_
  refine post_next ?_
  obtain ⟨lr111, hF, hK112⟩ := bind_some hF
  refine aw_for ((((y12.length : Int) : Int) - (0)).toNat + 1) (fun s1 => ∃ q, lr111 = .next q ∧ s1 = ⟨53, [(1, some (.lp 0 0)), (3, some (.lp 1 0))], [(0, some (.box 27 (bxv (eGEvent a0)))), (1, some (.box 27 (bxv (eGEvent q))))], 2, [], [], 0, []⟩) ?_ ?_
  · refine rnd_loop (α := GEvent × Int) (fun q => ⟨53, [(1, some (.lp 0 0)), (3, some (.lp 1 0)), (16, some (.pv (.vs 1 (List.map eS y12)))), (17, some (.pv (.int .i64 (y12.length : Int)))), (18, some (.pv (.int .i64 q.2)))], [(0, some (.box 27 (bxv (eGEvent a0)))), (1, some (.box 27 (bxv (eGEvent q.1))))], 2, [], [], 0, []⟩) (fun k q => event_Right_L1 a0 y12 k q.1 q.2 = some lr111) (({ fKind := a0.fKind, fWho := 0, fObj := 0, fName := [], fV := zGVal, fOwn := (⟨0, 0, 0, 0⟩ : A4 Int) } : GEvent), 0) (imps [0, 1] ⟨by kernel_rfl, by kernel_rfl, by kernel_rfl, by kernel_rfl, by kernel_rfl, trivial⟩ ⟨by kernel_rfl, by kernel_rfl, trivial⟩) hF (fun q h => by cases h) ?_
    clear hF
    rintro k ⟨x44, x45⟩ hF ih
    refine rnd_succ ?_
    refine aw_seq ?_
    refine aw_region ?_
    refine rgp (op_int (k := .i64) (m := x45) (n := (y12.length : Int)) rfl rfl rfl rfl rfl rfl) ?_
    refine reg_nil ?_
    refine post_imp (s' := ⟨53, [(1, some (.lp 0 0)), (3, some (.lp 1 0)), (16, some (.pv (.vs 1 (List.map eS y12)))), (17, some (.pv (.int .i64 (y12.length : Int)))), (18, some (.pv (.int .i64 x45))), (19, some (.pv (.bool (decide (x45 < (y12.length : Int))))))], [(0, some (.box 27 (bxv (eGEvent a0)))), (1, some (.box 27 (bxv (eGEvent x44))))], 2, [], [], 0, []⟩) (imps [0, 1] ⟨by kernel_rfl, by kernel_rfl, by kernel_rfl, by kernel_rfl, by kernel_rfl, by kernel_rfl, trivial⟩ ⟨by kernel_rfl, by kernel_rfl, trivial⟩) ?_
    refine post_next ?_
    refine aw_seq ?_
    rcases ite_some hF with ⟨hb78, hF⟩ | ⟨hb78, hF⟩
    · refine aw_cond_t rfl hb78 ?_
      refine aw_skip ?_
      refine post_next ?_
      refine aw_seq ?_
      refine aw_join hF (fun q => ⟨53, [(1, some (.lp 0 0)), (3, some (.lp 1 0)), (16, some (.pv (.vs 1 (List.map eS y12)))), (17, some (.pv (.int .i64 (y12.length : Int)))), (18, some (.pv (.int .i64 x45)))], [(0, some (.box 27 (bxv (eGEvent a0)))), (1, some (.box 27 (bxv (eGEvent q))))], 2, [], [], 0, []⟩) ?_ ?_
      · refine aw_block ?_
        refine aw_seq ?_
        refine aw_region ?_
        obtain ⟨y81, h82, hF⟩ := go_bind hF
        refine rgp (op_index_vs (k := .i64) rfl rfl rfl (idx_map eS h82) Tryd_slc_41 rfl rfl) ?_
        refine rgp (op_load_vp (p := .str y81) rfl rfl rfl Tryd_one_9 rfl rfl) ?_
        refine ras ?_
        refine reg_nil ?_
        refine post_imp (s' := ⟨53, [(1, some (.lp 0 0)), (3, some (.lp 1 0)), (5, some (.pv (.str y81))), (16, some (.pv (.vs 1 (List.map eS y12)))), (17, some (.pv (.int .i64 (y12.length : Int)))), (18, some (.pv (.int .i64 x45)))], [(0, some (.box 27 (bxv (eGEvent a0)))), (1, some (.box 27 (bxv (eGEvent x44))))], 2, [], [], 0, []⟩) (imps [0, 1] ⟨by kernel_rfl, by kernel_rfl, by kernel_rfl, by kernel_rfl, by kernel_rfl, by kernel_rfl, trivial⟩ ⟨by kernel_rfl, by kernel_rfl, trivial⟩) ?_
        refine post_next ?_
        refine aw_seq ?_
        refine aw_region ?_
        refine rmv ?_
        obtain ⟨y85, h86, hF⟩ := go_bind hF
        refine rgp (op_index_str (k := .i64) rfl rfl rfl h86 Tryd_und_9 rfl rfl) ?_
        refine reg_nil ?_
        refine post_imp (s' := ⟨53, [(1, some (.lp 0 0)), (3, some (.lp 1 0)), (5, some (.pv (.str y81))), (16, some (.pv (.vs 1 (List.map eS y12)))), (17, some (.pv (.int .i64 (y12.length : Int)))), (18, some (.pv (.int .i64 x45))), (23, some (.pv (.int .u8 (y85.toNat : Int))))], [(0, some (.box 27 (bxv (eGEvent a0)))), (1, some (.box 27 (bxv (eGEvent x44))))], 2, [], [], 0, []⟩) (imps [0, 1] ⟨by kernel_rfl, by kernel_rfl, by kernel_rfl, by kernel_rfl, by kernel_rfl, by kernel_rfl, by kernel_rfl, trivial⟩ ⟨by kernel_rfl, by kernel_rfl, trivial⟩) ?_
        refine post_next ?_
        refine aw_block ?_
        refine aw_seq ?_
        refine aw_region ?_
        refine rgp (op_int (k := .u8) (m := (y85.toNat : Int)) (n := 35) rfl rfl rfl rfl rfl rfl) ?_
        refine ras ?_
        refine reg_nil ?_
        refine post_imp (s' := ⟨53, [(1, some (.lp 0 0)), (3, some (.lp 1 0)), (5, some (.pv (.str y81))), (16, some (.pv (.vs 1 (List.map eS y12)))), (17, some (.pv (.int .i64 (y12.length : Int)))), (18, some (.pv (.int .i64 x45))), (23, some (.pv (.int .u8 (y85.toNat : Int)))), (24, some (.pv (.bool ((y85.toNat : Int) == 35))))], [(0, some (.box 27 (bxv (eGEvent a0)))), (1, some (.box 27 (bxv (eGEvent x44))))], 2, [], [], 0, []⟩) (imps [0, 1] ⟨by kernel_rfl, by kernel_rfl, by kernel_rfl, by kernel_rfl, by kernel_rfl, by kernel_rfl, by kernel_rfl, by kernel_rfl, trivial⟩ ⟨by kernel_rfl, by kernel_rfl, trivial⟩) ?_
        refine post_next ?_
        rcases go_ite hF with ⟨hb87, hF⟩ | ⟨hb87, hF⟩
        · refine aw_cond_t rfl hb87 ?_
          refine dr_start ⟨_, _, _⟩ rfl ?_
          refine drm ?_
          obtain ⟨y88, h89, hF⟩ := go_bind hF
          refine dr_cons { need := [(26, .pv (.str y81))], dst := some 27, val := some (.pv (.int .u8 (y88.toNat : Int))) } (fun m h => step_on (guard_no rfl) (op_index_str (k := .i64) rfl h.1.1 rfl h89 Tryd_und_9 rfl rfl) rfl) ⟨⟨rfl, trivial⟩, trivial, trivial⟩ ?_
          obtain ⟨y90, h91, hF⟩ := go_bind hF
          refine dr_cons { need := [(27, .pv (.int .u8 (y88.toNat : Int))), (3, .lp 1 0)], hneed := [(1, .box 27 (bxv (eGEvent x44)))], dst := some 28, val := some (.lp 1 y90) } (fun m h => step_on (guard_no rfl) (op_callP (args := [.lp 0 0, .pv (.int .u8 (y88.toNat : Int))]) (id := 1) (T := 27) (cells := eGEvent x44) rfl rfl (evl_cons h.1.2.1 (evl_cons h.1.1 evl_nil)) rfl rfl Tryd_cal_26 (event_slot_w_ok h91) h.2.1.1 rfl rfl) rfl) ⟨⟨rfl, rfl, trivial⟩, ⟨rfl, trivial⟩, trivial⟩ ?_
          refine drm ?_
          obtain ⟨y92, h93, hF⟩ := go_bind hF
          refine dr_cons { need := [(29, .pv (.str y81))], dst := some 30, val := some (.pv (.int .u8 (y92.toNat : Int))) } (fun m h => step_on (guard_no rfl) (op_index_str (k := .i64) rfl h.1.1 rfl h93 Tryd_und_9 rfl rfl) rfl) ⟨⟨rfl, trivial⟩, trivial, trivial⟩ ?_
          obtain ⟨y94, h95, hF⟩ := go_bind hF
          refine dr_cons { need := [(30, .pv (.int .u8 (y92.toNat : Int))), (1, .lp 0 0)], hneed := [(0, .box 27 (bxv (eGEvent a0)))], dst := some 31, val := some (.lp 0 y94) } (fun m h => step_on (guard_no rfl) (op_callP (args := [.lp 0 0, .pv (.int .u8 (y92.toNat : Int))]) (id := 0) (T := 27) (cells := eGEvent a0) rfl rfl (evl_cons h.1.2.1 (evl_cons h.1.1 evl_nil)) rfl rfl Tryd_cal_26 (event_slot_w_ok h95) h.2.1.1 rfl rfl) rfl) ⟨⟨rfl, rfl, trivial⟩, ⟨rfl, trivial⟩, trivial⟩ ?_
          refine dr_cons { need := [(31, .lp 0 y94)], dst := some 32, val := some (.lp 0 y94) } (fun m h => step_on (guard_no rfl) (op_nilCheck rfl h.1.1 rfl rfl rfl) rfl) ⟨⟨rfl, trivial⟩, trivial, trivial⟩ ?_
          obtain ⟨y97, h96, hF⟩ := go_bind hF
          refine dr_cons { need := [(32, .lp 0 y94)], hneed := [(0, .box 27 (bxv (eGEvent a0)))], dst := some 33, val := some (.pv (.int .i64 y97)) } (fun m h => step_on (guard_no rfl) (op_load_lp (v := .pv (.int .i64 y97)) rfl h.1.1 h.2.1.1 (getc_27_ok h96) Tryd_one_3 rfl rfl) rfl) ⟨⟨rfl, trivial⟩, ⟨rfl, trivial⟩, trivial⟩ ?_
          refine dr_cons { need := [(28, .lp 1 y90)], dst := some 34, val := some (.lp 1 y90) } (fun m h => step_on (guard_no rfl) (op_nilCheck rfl h.1.1 rfl rfl rfl) rfl) ⟨⟨rfl, trivial⟩, trivial, trivial⟩ ?_
          obtain ⟨y99, h98, hF⟩ := go_bind hF
          refine dr_cons { need := [(34, .lp 1 y90), (33, .pv (.int .i64 y97))], hneed := [(1, .box 27 (bxv (eGEvent x44)))], upd := [(1, some (.box 27 (bxv (eGEvent y99))))] } (fun m h => step_on (guard_no rfl) (op_store_lpV (cells' := bxv (eGEvent y99)) (n := 1) rfl h.1.1 h.1.2.1 rfl h.2.1.1 (or_one Tryd_one_3) (by rw [Tryd_one_3]; rfl) (Nat.le_of_ble_eq_true (setc_27_ok h98).1) (setc_27_ok h98).2 rfl rfl) rfl) ⟨⟨rfl, rfl, trivial⟩, ⟨rfl, trivial⟩, trivial⟩ ?_
          refine dr_nil Tryd_mixed rfl (by kernel_rfl) ?_
          refine post_imp (s' := ⟨53, [(1, some (.lp 0 0)), (3, some (.lp 1 0)), (16, some (.pv (.vs 1 (List.map eS y12)))), (17, some (.pv (.int .i64 (y12.length : Int)))), (18, some (.pv (.int .i64 x45)))], [(0, some (.box 27 (bxv (eGEvent a0)))), (1, some (.box 27 (bxv (eGEvent y99))))], 2, [], [], 0, []⟩) (imps [0, 1] ⟨by kernel_rfl, by kernel_rfl, by kernel_rfl, by kernel_rfl, by kernel_rfl, trivial⟩ ⟨by kernel_rfl, by kernel_rfl, trivial⟩) ?_
          iterate 2 (refine post_block_normal ?_)
          exact post_cut _ ⟨y99, rfl, hF⟩ (imps [0, 1] ⟨by kernel_rfl, by kernel_rfl, by kernel_rfl, by kernel_rfl, by kernel_rfl, trivial⟩ ⟨by kernel_rfl, by kernel_rfl, trivial⟩)
        refine aw_cond_f rfl hb87 ?_
        refine aw_seq ?_
        refine aw_region ?_
        refine rgp (op_int (k := .u8) (m := (y85.toNat : Int)) (n := 36) rfl rfl rfl rfl rfl rfl) ?_
        refine ras ?_
        refine reg_nil ?_
        refine post_imp (s' := ⟨53, [(1, some (.lp 0 0)), (3, some (.lp 1 0)), (16, some (.pv (.vs 1 (List.map eS y12)))), (17, some (.pv (.int .i64 (y12.length : Int)))), (18, some (.pv (.int .i64 x45))), (23, some (.pv (.int .u8 (y85.toNat : Int)))), (35, some (.pv (.bool ((y85.toNat : Int) == 36))))], [(0, some (.box 27 (bxv (eGEvent a0)))), (1, some (.box 27 (bxv (eGEvent x44))))], 2, [], [], 0, []⟩) (imps [0, 1] ⟨by kernel_rfl, by kernel_rfl, by kernel_rfl, by kernel_rfl, by kernel_rfl, by kernel_rfl, by kernel_rfl, trivial⟩ ⟨by kernel_rfl, by kernel_rfl, trivial⟩) ?_
        refine post_next ?_
        rcases go_ite hF with ⟨hb100, hF⟩ | ⟨hb100, hF⟩
        · refine aw_cond_t rfl hb100 ?_
          refine aw_seq ?_
          refine aw_region ?_
          refine rgp (op_field_lp rfl rfl Tryd_fld_27_3 rfl rfl) ?_
          refine rgp (op_load_lp (v := .pv (.str a0.fName)) rfl rfl rfl rfl Tryd_one_9 rfl rfl) ?_
          refine rgp (op_field_lp rfl rfl Tryd_fld_27_3 rfl rfl) ?_
          refine rgp (op_store_lp (n := 1) rfl rfl rfl rfl rfl (or_one Tryd_one_9) (by rw [Tryd_one_9]; rfl) rfl rfl rfl) ?_
          refine reg_nil ?_
          refine post_imp (s' := ⟨53, [(1, some (.lp 0 0)), (3, some (.lp 1 0)), (16, some (.pv (.vs 1 (List.map eS y12)))), (17, some (.pv (.int .i64 (y12.length : Int)))), (18, some (.pv (.int .i64 x45)))], [(0, some (.box 27 (bxv (eGEvent a0)))), (1, some (.box 27 (bxv (eGEvent ({ x44 with fName := a0.fName } : GEvent)))))], 2, [], [], 0, []⟩) (imps [0, 1] ⟨by kernel_rfl, by kernel_rfl, by kernel_rfl, by kernel_rfl, by kernel_rfl, trivial⟩ ⟨by kernel_rfl, by kernel_rfl, trivial⟩) ?_
          refine post_next ?_
          refine aw_seq ?_
          refine aw_region ?_
          refine rgp (op_field_lp rfl rfl Tryd_fld_27_3 rfl rfl) ?_
          refine rgp (op_load_lp (v := .pv (.str a0.fName)) rfl rfl rfl rfl Tryd_one_9 rfl rfl) ?_
          obtain ⟨y103, h104, hF⟩ := go_bind hF
          refine rgp (op_call 2 rfl (caps := []) (args := [.str a0.fName]) (rs := [.p (.bool y103)]) rfl rfl rfl Tryd_cal_27 (word_Name_ok h104) rfl rfl rfl) ?_
          refine rgp (op_not rfl rfl rfl rfl) ?_
          refine reg_nil ?_
          refine post_imp (s' := ⟨53, [(1, some (.lp 0 0)), (3, some (.lp 1 0)), (16, some (.pv (.vs 1 (List.map eS y12)))), (17, some (.pv (.int .i64 (y12.length : Int)))), (18, some (.pv (.int .i64 x45))), (43, some (.pv (.bool (!y103))))], [(0, some (.box 27 (bxv (eGEvent a0)))), (1, some (.box 27 (bxv (eGEvent ({ x44 with fName := a0.fName } : GEvent)))))], 2, [], [], 0, []⟩) (imps [0, 1] ⟨by kernel_rfl, by kernel_rfl, by kernel_rfl, by kernel_rfl, by kernel_rfl, by kernel_rfl, trivial⟩ ⟨by kernel_rfl, by kernel_rfl, trivial⟩) ?_
          refine post_next ?_
          rcases go_ite hF with ⟨hb105, hF⟩ | ⟨hb105, hF⟩
          · refine aw_cond_t rfl hb105 ?_
            refine aw_seq ?_
            refine aw_region ?_
            refine ras ?_
            refine reg_nil ?_
            refine post_imp (s' := ⟨53, [(2, some (.pv (.bool false)))], [], 0, [], [], 0, []⟩) (imps [] ⟨by kernel_rfl, trivial⟩ trivial) ?_
            refine post_next ?_
            refine aw_ret ?_
            iterate 2 (refine post_block_ret ?_)
            refine post_cut_ret ?_
            replace hF := go_stop hF
            iterate 2 (refine post_then_ret ?_)
            refine post_lp_ret ?_
            obtain rfl := Option.some.inj hF
            have hF := elim_stop hK112
            refine post_then_ret ?_
            obtain rfl := Option.some.inj hF
            exact prt
          refine aw_cond_f rfl hb105 ?_
          refine aw_skip ?_
          iterate 2 (refine post_block_normal ?_)
          exact post_cut _ ⟨({ x44 with fName := a0.fName } : GEvent), rfl, hF⟩ (imps [0, 1] ⟨by kernel_rfl, by kernel_rfl, by kernel_rfl, by kernel_rfl, by kernel_rfl, trivial⟩ ⟨by kernel_rfl, by kernel_rfl, trivial⟩)
        refine aw_cond_f rfl hb100 ?_
        refine aw_seq ?_
        refine aw_region ?_
        refine rgp (op_int (k := .u8) (m := (y85.toNat : Int)) (n := 64) rfl rfl rfl rfl rfl rfl) ?_
        refine ras ?_
        refine reg_nil ?_
        refine post_imp (s' := ⟨53, [(1, some (.lp 0 0)), (3, some (.lp 1 0)), (16, some (.pv (.vs 1 (List.map eS y12)))), (17, some (.pv (.int .i64 (y12.length : Int)))), (18, some (.pv (.int .i64 x45))), (44, some (.pv (.bool ((y85.toNat : Int) == 64))))], [(0, some (.box 27 (bxv (eGEvent a0)))), (1, some (.box 27 (bxv (eGEvent x44))))], 2, [], [], 0, []⟩) (imps [0, 1] ⟨by kernel_rfl, by kernel_rfl, by kernel_rfl, by kernel_rfl, by kernel_rfl, by kernel_rfl, trivial⟩ ⟨by kernel_rfl, by kernel_rfl, trivial⟩) ?_
        refine post_next ?_
        rcases go_ite hF with ⟨hb106, hF⟩ | ⟨hb106, hF⟩
        · refine aw_cond_t rfl hb106 ?_
          refine aw_region ?_
          refine rgp (op_field_lp rfl rfl Tryd_fld_27_4 rfl rfl) ?_
          refine rgp (op_load_lp_agg (ps := eGVal a0.fV) rfl rfl rfl rfl rfl rfl Tryd_agg_24 rfl rfl) ?_
          refine rgp (op_field_lp rfl rfl Tryd_fld_27_4 rfl rfl) ?_
          refine rgp (op_store_lp (n := 2) rfl rfl rfl rfl rfl (or_agg Tryd_agg_24) (by rw [Tryd_non_24]; rfl) rfl rfl rfl) ?_
          refine reg_nil ?_
          refine post_imp (s' := ⟨53, [(1, some (.lp 0 0)), (3, some (.lp 1 0)), (16, some (.pv (.vs 1 (List.map eS y12)))), (17, some (.pv (.int .i64 (y12.length : Int)))), (18, some (.pv (.int .i64 x45)))], [(0, some (.box 27 (bxv (eGEvent a0)))), (1, some (.box 27 (bxv (eGEvent ({ x44 with fV := a0.fV } : GEvent)))))], 2, [], [], 0, []⟩) (imps [0, 1] ⟨by kernel_rfl, by kernel_rfl, by kernel_rfl, by kernel_rfl, by kernel_rfl, trivial⟩ ⟨by kernel_rfl, by kernel_rfl, trivial⟩) ?_
          iterate 2 (refine post_block_normal ?_)
          exact post_cut _ ⟨({ x44 with fV := a0.fV } : GEvent), rfl, hF⟩ (imps [0, 1] ⟨by kernel_rfl, by kernel_rfl, by kernel_rfl, by kernel_rfl, by kernel_rfl, trivial⟩ ⟨by kernel_rfl, by kernel_rfl, trivial⟩)
        refine aw_cond_f rfl hb106 ?_
        refine aw_skip ?_
        iterate 2 (refine post_block_normal ?_)
        exact post_cut _ ⟨x44, rfl, hF⟩ (imps [0, 1] ⟨by kernel_rfl, by kernel_rfl, by kernel_rfl, by kernel_rfl, by kernel_rfl, trivial⟩ ⟨by kernel_rfl, by kernel_rfl, trivial⟩)
      rintro x107 hF
      refine post_next ?_
      refine aw_region ?_
      refine rgp (op_int (k := .i64) (m := x45) (n := 1) rfl rfl rfl rfl rfl rfl) ?_
      refine rmv ?_
      refine reg_nil ?_
      refine post_round ?_
      exact rnd_back (ih (x107, w_i64 (x45 + 1)) hF) (imps [0, 1] ⟨by kernel_rfl, by kernel_rfl, by kernel_rfl, by kernel_rfl, by kernel_rfl, trivial⟩ ⟨by kernel_rfl, by kernel_rfl, trivial⟩)
    refine aw_cond_f rfl hb78 ?_
    refine aw_exit ?_
    iterate 2 (refine post_then_exit ?_)
    obtain rfl := Option.some.inj hF
    exact post_lp_break _ ⟨_, rfl, rfl⟩ (imps [0, 1] ⟨by kernel_rfl, by kernel_rfl, trivial⟩ ⟨by kernel_rfl, by kernel_rfl, trivial⟩)
  rintro _ ⟨x110, rfl, rfl⟩
  have hF := elim_next hK112
  clear hK112
  refine post_next ?_
  refine aw_seq ?_
  refine aw_region ?_
  refine rgp (op_load_lp_agg (ps := eGEvent x110) rfl rfl rfl rfl rfl rfl Tryd_agg_27 rfl rfl) ?_
  refine rgp (op_load_lp_agg (ps := eGEvent a0) rfl rfl rfl rfl rfl rfl Tryd_agg_27 rfl rfl) ?_
  refine rgp (op_eqAgg_eql (r := bGEvent x110 a0) rfl rfl rfl Tryd_eqt_27 rfl rfl rfl rfl rfl) ?_
  refine ras ?_
  refine reg_nil ?_
  refine post_imp (s' := ⟨53, [(2, some (.pv (.bool (bGEvent x110 a0))))], [], 0, [], [], 0, []⟩) (imps [] ⟨by kernel_rfl, trivial⟩ trivial) ?_
  refine post_next ?_
  refine aw_ret ?_
  obtain rfl := Option.some.inj hF
  exact prt
theorem ref42_small_ok {a0 : Int} {r : Bool} (hF : ref42_small a0 = some r) : Abs.Fn globs_Tryd Tryd.prog 36 [.int .i64 a0] [.p (.bool r)] := by
  unfold ref42_small at hF
  refine fn_of_body (n := 9) Tryd.func36 rfl rfl rfl ?_
  intro w O
  refine aw_seq ?_
  refine aw_region ?_
  refine ras ?_
  refine reg_nil ?_
  refine post_imp (s' := ⟨9, [(0, some (.pv (.int .i64 a0)))], [], 0, [], [], 0, []⟩) (imps [] ⟨by kernel_rfl, trivial⟩ trivial) ?_
  refine post_next ?_
  refine aw_seq ?_
  refine aw_region ?_
  refine rmv ?_
  refine rgp (op_int (k := .i64) (m := a0) (n := (-999999999)) rfl rfl rfl rfl rfl rfl) ?_
  refine rmv ?_
  rcases ite_some hF with ⟨hb1, hF⟩ | ⟨hb1, hF⟩
  · refine rgn hb1 (op_move rfl rfl rfl rfl) ?_
    refine rgn hb1 (op_int (k := .i64) (m := a0) (n := 999999999) rfl rfl rfl rfl rfl rfl) ?_
    refine rpt hb1 ?_
    refine ras ?_
    refine reg_nil ?_
    refine post_imp (s' := ⟨9, [(2, some (.pv (.bool (decide (a0 ≤ 999999999)))))], [], 0, [], [], 0, []⟩) (imps [] ⟨by kernel_rfl, trivial⟩ trivial) ?_
    refine post_next ?_
    refine aw_ret ?_
    obtain rfl := Option.some.inj hF
    exact prt
  iterate 2 (refine rgo_f hb1 ?_)
  refine rpf hb1 ?_
  refine ras ?_
  refine reg_nil ?_
  refine post_imp (s' := ⟨9, [(2, some (.pv (.bool false)))], [], 0, [], [], 0, []⟩) (imps [] ⟨by kernel_rfl, trivial⟩ trivial) ?_
  refine post_next ?_
  refine aw_ret ?_
  obtain rfl := Option.some.inj hF
  exact prt
theorem ref42_Small_ok {a0 : GEvent} {r : Bool} (hF : ref42_Small a0 = some r) : Abs.Fn globs_Tryd Tryd.prog 18 [.agg (eGEvent a0)] [.p (.bool r)] := by
  unfold ref42_Small at hF
  refine fn_of_body (n := 41) Tryd.func18 rfl rfl rfl ?_
  intro w O
  refine aw_seq ?_
  refine aw_region ?_
  refine rgp (op_box 0 rfl rfl rfl rfl rfl rfl) ?_
  refine ras ?_
  refine reg_nil ?_
  refine post_imp (s' := ⟨41, [(1, some (.lp 0 0))], [(0, some (.box 27 (bxv (eGEvent a0))))], 1, [], [], 0, []⟩) (imps [0] ⟨by kernel_rfl, trivial⟩ ⟨by kernel_rfl, trivial⟩) ?_
  refine post_next ?_
  refine aw_seq ?_
  refine aw_region ?_
  refine rgp (op_field_lp rfl rfl Tryd_fld_27_1 rfl rfl) ?_
  refine rgp (op_load_lp (v := .pv (.int .i64 a0.fWho)) rfl rfl rfl rfl Tryd_one_3 rfl rfl) ?_
  obtain ⟨y1, h2, hF⟩ := bind_some hF
  refine rgp (op_call 1 rfl (caps := []) (args := [.int .i64 a0.fWho]) (rs := [.p (.bool y1)]) rfl rfl rfl Tryd_cal_36 (ref42_small_ok h2) rfl rfl rfl) ?_
  refine rmv ?_
  rcases ite_some hF with ⟨hb3, hF⟩ | ⟨hb3, hF⟩
  · refine rgn hb3 (op_field_lp rfl rfl Tryd_fld_27_2 rfl rfl) ?_
    refine rgn hb3 (op_load_lp (v := .pv (.int .i64 a0.fObj)) rfl rfl rfl rfl Tryd_one_3 rfl rfl) ?_
    obtain ⟨y4, h5, hF⟩ := bind_some hF
    refine rgn hb3 (op_call 1 rfl (caps := []) (args := [.int .i64 a0.fObj]) (rs := [.p (.bool y4)]) rfl rfl rfl Tryd_cal_36 (ref42_small_ok h5) rfl rfl rfl) ?_
    refine rpt hb3 ?_
    refine rmv ?_
    rcases ite_some hF with ⟨hb6, hF⟩ | ⟨hb6, hF⟩
    · refine rgn hb6 (op_field_lp rfl rfl Tryd_fld_27_4 rfl rfl) ?_
      refine rgn hb6 (op_field_lp rfl rfl Tryd_fld_24_1 rfl rfl) ?_
      refine rgn hb6 (op_load_lp (v := .pv (.int .i64 a0.fV.fN)) rfl rfl rfl rfl Tryd_one_3 rfl rfl) ?_
      obtain ⟨y7, h8, hF⟩ := bind_some hF
      refine rgn hb6 (op_call 1 rfl (caps := []) (args := [.int .i64 a0.fV.fN]) (rs := [.p (.bool y7)]) rfl rfl rfl Tryd_cal_36 (ref42_small_ok h8) rfl rfl rfl) ?_
      refine rpt hb6 ?_
      refine rmv ?_
      rcases ite_some hF with ⟨hb9, hF⟩ | ⟨hb9, hF⟩
      · refine rgn hb9 (op_field_lp rfl rfl Tryd_fld_27_5 rfl rfl) ?_
        refine rgn hb9 (op_arr_lp (k := .i64) (m := 0) (n := 4) rfl rfl rfl Tryd_arr_25 rfl rfl rfl rfl) ?_
        refine rgn hb9 (op_load_lp (v := .pv (.int .i64 a0.fOwn.a0)) rfl rfl rfl rfl Tryd_one_3 rfl rfl) ?_
        obtain ⟨y10, h11, hF⟩ := bind_some hF
        refine rgn hb9 (op_call 1 rfl (caps := []) (args := [.int .i64 a0.fOwn.a0]) (rs := [.p (.bool y10)]) rfl rfl rfl Tryd_cal_36 (ref42_small_ok h11) rfl rfl rfl) ?_
        refine rpt hb9 ?_
        refine rmv ?_
        rcases ite_some hF with ⟨hb12, hF⟩ | ⟨hb12, hF⟩
        · refine rgn hb12 (op_field_lp rfl rfl Tryd_fld_27_5 rfl rfl) ?_
          refine rgn hb12 (op_arr_lp (k := .i64) (m := 1) (n := 4) rfl rfl rfl Tryd_arr_25 rfl rfl rfl rfl) ?_
          refine rgn hb12 (op_load_lp (v := .pv (.int .i64 a0.fOwn.a1)) rfl rfl rfl rfl Tryd_one_3 rfl rfl) ?_
          obtain ⟨y13, h14, hF⟩ := bind_some hF
          refine rgn hb12 (op_call 1 rfl (caps := []) (args := [.int .i64 a0.fOwn.a1]) (rs := [.p (.bool y13)]) rfl rfl rfl Tryd_cal_36 (ref42_small_ok h14) rfl rfl rfl) ?_
          refine rpt hb12 ?_
          refine rmv ?_
          rcases ite_some hF with ⟨hb15, hF⟩ | ⟨hb15, hF⟩
          · refine rgn hb15 (op_field_lp rfl rfl Tryd_fld_27_5 rfl rfl) ?_
            refine rgn hb15 (op_arr_lp (k := .i64) (m := 2) (n := 4) rfl rfl rfl Tryd_arr_25 rfl rfl rfl rfl) ?_
            refine rgn hb15 (op_load_lp (v := .pv (.int .i64 a0.fOwn.a2)) rfl rfl rfl rfl Tryd_one_3 rfl rfl) ?_
            obtain ⟨y16, h17, hF⟩ := bind_some hF
            refine rgn hb15 (op_call 1 rfl (caps := []) (args := [.int .i64 a0.fOwn.a2]) (rs := [.p (.bool y16)]) rfl rfl rfl Tryd_cal_36 (ref42_small_ok h17) rfl rfl rfl) ?_
            refine rpt hb15 ?_
            refine rmv ?_
            rcases ite_some hF with ⟨hb18, hF⟩ | ⟨hb18, hF⟩
            · refine rgn hb18 (op_field_lp rfl rfl Tryd_fld_27_5 rfl rfl) ?_
              refine rgn hb18 (op_arr_lp (k := .i64) (m := 3) (n := 4) rfl rfl rfl Tryd_arr_25 rfl rfl rfl rfl) ?_
              refine rgn hb18 (op_load_lp (v := .pv (.int .i64 a0.fOwn.a3)) rfl rfl rfl rfl Tryd_one_3 rfl rfl) ?_
              obtain ⟨y19, h20, hF⟩ := bind_some hF
              refine rgn hb18 (op_call 1 rfl (caps := []) (args := [.int .i64 a0.fOwn.a3]) (rs := [.p (.bool y19)]) rfl rfl rfl Tryd_cal_36 (ref42_small_ok h20) rfl rfl rfl) ?_
              refine rpt hb18 ?_
              refine ras ?_
              refine reg_nil ?_
              refine post_imp (s' := ⟨41, [(2, some (.pv (.bool y19)))], [], 0, [], [], 0, []⟩) (imps [] ⟨by kernel_rfl, trivial⟩ trivial) ?_
              refine post_next ?_
              refine aw_ret ?_
              obtain rfl := Option.some.inj hF
              exact prt
            iterate 4 (refine rgo_f hb18 ?_)
            refine rpf hb18 ?_
            refine ras ?_
            refine reg_nil ?_
            refine post_imp (s' := ⟨41, [(2, some (.pv (.bool false)))], [], 0, [], [], 0, []⟩) (imps [] ⟨by kernel_rfl, trivial⟩ trivial) ?_
            refine post_next ?_
            refine aw_ret ?_
            obtain rfl := Option.some.inj hF
            exact prt
          iterate 4 (refine rgo_f hb15 ?_)
          refine rpf hb15 ?_
          refine rmv ?_
          iterate 4 (refine rgo_f rfl ?_)
          refine rpf rfl ?_
          refine ras ?_
          refine reg_nil ?_
          refine post_imp (s' := ⟨41, [(2, some (.pv (.bool false)))], [], 0, [], [], 0, []⟩) (imps [] ⟨by kernel_rfl, trivial⟩ trivial) ?_
          refine post_next ?_
          refine aw_ret ?_
          obtain rfl := Option.some.inj hF
          exact prt
        iterate 4 (refine rgo_f hb12 ?_)
        refine rpf hb12 ?_
        refine rmv ?_
        iterate 4 (refine rgo_f rfl ?_)
        refine rpf rfl ?_
        refine rmv ?_
        iterate 4 (refine rgo_f rfl ?_)
        refine rpf rfl ?_
        refine ras ?_
        refine reg_nil ?_
        refine post_imp (s' := ⟨41, [(2, some (.pv (.bool false)))], [], 0, [], [], 0, []⟩) (imps [] ⟨by kernel_rfl, trivial⟩ trivial) ?_
        refine post_next ?_
        refine aw_ret ?_
        obtain rfl := Option.some.inj hF
        exact prt
      iterate 4 (refine rgo_f hb9 ?_)
      refine rpf hb9 ?_
      refine rmv ?_
      iterate 4 (refine rgo_f rfl ?_)
      refine rpf rfl ?_
      refine rmv ?_
      iterate 4 (refine rgo_f rfl ?_)
      refine rpf rfl ?_
      refine rmv ?_
      iterate 4 (refine rgo_f rfl ?_)
      refine rpf rfl ?_
      refine ras ?_
      refine reg_nil ?_
      refine post_imp (s' := ⟨41, [(2, some (.pv (.bool false)))], [], 0, [], [], 0, []⟩) (imps [] ⟨by kernel_rfl, trivial⟩ trivial) ?_
      refine post_next ?_
      refine aw_ret ?_
      obtain rfl := Option.some.inj hF
      exact prt
    iterate 4 (refine rgo_f hb6 ?_)
    refine rpf hb6 ?_
    refine rmv ?_
    iterate 4 (refine rgo_f rfl ?_)
    refine rpf rfl ?_
    refine rmv ?_
    iterate 4 (refine rgo_f rfl ?_)
    refine rpf rfl ?_
    refine rmv ?_
    iterate 4 (refine rgo_f rfl ?_)
    refine rpf rfl ?_
    refine rmv ?_
    iterate 4 (refine rgo_f rfl ?_)
    refine rpf rfl ?_
    refine ras ?_
    refine reg_nil ?_
    refine post_imp (s' := ⟨41, [(2, some (.pv (.bool false)))], [], 0, [], [], 0, []⟩) (imps [] ⟨by kernel_rfl, trivial⟩ trivial) ?_
    refine post_next ?_
    refine aw_ret ?_
    obtain rfl := Option.some.inj hF
    exact prt
  iterate 3 (refine rgo_f hb3 ?_)
  refine rpf hb3 ?_
  refine rmv ?_
  iterate 4 (refine rgo_f rfl ?_)
  refine rpf rfl ?_
  refine rmv ?_
  iterate 4 (refine rgo_f rfl ?_)
  refine rpf rfl ?_
  refine rmv ?_
  iterate 4 (refine rgo_f rfl ?_)
  refine rpf rfl ?_
  refine rmv ?_
  iterate 4 (refine rgo_f rfl ?_)
  refine rpf rfl ?_
  refine rmv ?_
  iterate 4 (refine rgo_f rfl ?_)
  refine rpf rfl ?_
  refine ras ?_
  refine reg_nil ?_
  refine post_imp (s' := ⟨41, [(2, some (.pv (.bool false)))], [], 0, [], [], 0, []⟩) (imps [] ⟨by kernel_rfl, trivial⟩ trivial) ?_
  refine post_next ?_
  refine aw_ret ?_
  obtain rfl := Option.some.inj hF
  exact prt
theorem event_spell_ok {a0 : GEvent} {a1 : List UInt8} {r : (List UInt8)} (hF : event_spell a0 a1 = some r) : Abs.Fn globs_Tryd Tryd.prog 49 [.agg (eGEvent a0), .str a1] [.p (.str r)] := by
  unfold event_spell at hF
  refine fn_of_body (n := 34) Tryd.func49 rfl rfl rfl ?_
  intro w O
  refine aw_seq ?_
  refine aw_region ?_
  refine rgp (op_box 0 rfl rfl rfl rfl rfl rfl) ?_
  refine ras ?_
  refine reg_nil ?_
  refine post_imp (s' := ⟨34, [(1, some (.pv (.str a1))), (2, some (.lp 0 0))], [(0, some (.box 27 (bxv (eGEvent a0))))], 1, [], [], 0, []⟩) (imps [0] ⟨by kernel_rfl, by kernel_rfl, trivial⟩ ⟨by kernel_rfl, trivial⟩) ?_
  refine post_next ?_
  iterate 2 (refine aw_seq ?_)
  refine aw_region ?_
  refine rmv ?_
  obtain ⟨y3, h4, hF⟩ := bind_some hF
  refine rgp (op_index_str (k := .i64) rfl rfl rfl h4 Tryd_und_9 rfl rfl) ?_
  refine reg_nil ?_
  refine post_imp (s' := ⟨34, [(1, some (.pv (.str a1))), (2, some (.lp 0 0)), (6, some (.pv (.int .u8 (y3.toNat : Int))))], [(0, some (.box 27 (bxv (eGEvent a0))))], 1, [], [], 0, []⟩) (imps [0] ⟨by kernel_rfl, by kernel_rfl, by kernel_rfl, trivial⟩ ⟨by kernel_rfl, trivial⟩) ?_
  refine post_next ?_
  refine aw_block ?_
  refine aw_seq ?_
  refine aw_region ?_
  refine rgp (op_int (k := .u8) (m := (y3.toNat : Int)) (n := 35) rfl rfl rfl rfl rfl rfl) ?_
  refine ras ?_
  refine reg_nil ?_
  refine post_imp (s' := ⟨34, [(1, some (.pv (.str a1))), (2, some (.lp 0 0)), (6, some (.pv (.int .u8 (y3.toNat : Int)))), (7, some (.pv (.bool ((y3.toNat : Int) == 35))))], [(0, some (.box 27 (bxv (eGEvent a0))))], 1, [], [], 0, []⟩) (imps [0] ⟨by kernel_rfl, by kernel_rfl, by kernel_rfl, by kernel_rfl, trivial⟩ ⟨by kernel_rfl, trivial⟩) ?_
  refine post_next ?_
  rcases ite_some hF with ⟨hb5, hF⟩ | ⟨hb5, hF⟩
  · refine aw_cond_t rfl hb5 ?_
    refine aw_seq ?_
    refine aw_region ?_
    refine rmv ?_
    obtain ⟨y6, h7, hF⟩ := bind_some hF
    refine rgp (op_index_str (k := .i64) rfl rfl rfl h7 Tryd_und_9 rfl rfl) ?_
    obtain ⟨y8, h9, hF⟩ := bind_some hF
    refine rgp (op_callP (args := [.lp 0 0, .pv (.int .u8 (y6.toNat : Int))]) (id := 0) (T := 27) (cells := eGEvent a0) rfl rfl rfl rfl rfl Tryd_cal_26 (event_slot_w_ok h9) rfl rfl rfl) ?_
    refine rgp (op_nilCheck rfl rfl rfl rfl rfl) ?_
    obtain ⟨y11, h10, hF⟩ := bind_some hF
    refine rgp (op_load_lp (v := .pv (.int .i64 y11)) rfl rfl rfl (getc_27_ok h10) Tryd_one_3 rfl rfl) ?_
    obtain ⟨y12, h13, hF⟩ := bind_some hF
    refine rgp (op_call 1 rfl (caps := []) (args := [.int .i64 y11]) (rs := [.p (.str y12)]) rfl rfl rfl Tryd_cal_61 (word_Digits_ok h13) rfl rfl rfl) ?_
    refine ras ?_
    refine reg_nil ?_
    refine post_imp (s' := ⟨34, [(4, some (.pv (.str y12)))], [], 0, [], [], 0, []⟩) (imps [] ⟨by kernel_rfl, trivial⟩ trivial) ?_
    refine post_next ?_
    refine aw_ret ?_
    refine post_block_ret ?_
    refine post_then_ret ?_
    obtain rfl := Option.some.inj hF
    exact prt
  refine aw_cond_f rfl hb5 ?_
  refine aw_seq ?_
  refine aw_region ?_
  refine rgp (op_int (k := .u8) (m := (y3.toNat : Int)) (n := 36) rfl rfl rfl rfl rfl rfl) ?_
  refine ras ?_
  refine reg_nil ?_
  refine post_imp (s' := ⟨34, [(1, some (.pv (.str a1))), (2, some (.lp 0 0)), (6, some (.pv (.int .u8 (y3.toNat : Int)))), (15, some (.pv (.bool ((y3.toNat : Int) == 36))))], [(0, some (.box 27 (bxv (eGEvent a0))))], 1, [], [], 0, []⟩) (imps [0] ⟨by kernel_rfl, by kernel_rfl, by kernel_rfl, by kernel_rfl, trivial⟩ ⟨by kernel_rfl, trivial⟩) ?_
  refine post_next ?_
  rcases ite_some hF with ⟨hb14, hF⟩ | ⟨hb14, hF⟩
  · refine aw_cond_t rfl hb14 ?_
    refine aw_seq ?_
    refine aw_region ?_
    refine rgp (op_field_lp rfl rfl Tryd_fld_27_3 rfl rfl) ?_
    refine rgp (op_load_lp (v := .pv (.str a0.fName)) rfl rfl rfl rfl Tryd_one_9 rfl rfl) ?_
    refine ras ?_
    refine reg_nil ?_
    refine post_imp (s' := ⟨34, [(4, some (.pv (.str a0.fName)))], [], 0, [], [], 0, []⟩) (imps [] ⟨by kernel_rfl, trivial⟩ trivial) ?_
    refine post_next ?_
    refine aw_ret ?_
    refine post_block_ret ?_
    refine post_then_ret ?_
    obtain rfl := Option.some.inj hF
    exact prt
  refine aw_cond_f rfl hb14 ?_
  refine aw_seq ?_
  refine aw_region ?_
  refine rgp (op_int (k := .u8) (m := (y3.toNat : Int)) (n := 64) rfl rfl rfl rfl rfl rfl) ?_
  refine ras ?_
  refine reg_nil ?_
  refine post_imp (s' := ⟨34, [(1, some (.pv (.str a1))), (2, some (.lp 0 0)), (19, some (.pv (.bool ((y3.toNat : Int) == 64))))], [(0, some (.box 27 (bxv (eGEvent a0))))], 1, [], [], 0, []⟩) (imps [0] ⟨by kernel_rfl, by kernel_rfl, by kernel_rfl, trivial⟩ ⟨by kernel_rfl, trivial⟩) ?_
  refine post_next ?_
  rcases ite_some hF with ⟨hb15, hF⟩ | ⟨hb15, hF⟩
  · refine aw_cond_t rfl hb15 ?_
    iterate 2 (refine aw_seq ?_)
    refine aw_region ?_
    refine rgp (op_field_lp rfl rfl Tryd_fld_27_4 rfl rfl) ?_
    refine rgp (op_field_lp rfl rfl Tryd_fld_24_0 rfl rfl) ?_
    refine rgp (op_load_lp (v := .pv (.bool a0.fV.fRef)) rfl rfl rfl rfl Tryd_one_4 rfl rfl) ?_
    refine reg_nil ?_
    refine post_imp (s' := ⟨34, [(2, some (.lp 0 0)), (23, some (.pv (.bool a0.fV.fRef)))], [(0, some (.box 27 (bxv (eGEvent a0))))], 1, [], [], 0, []⟩) (imps [0] ⟨by kernel_rfl, by kernel_rfl, trivial⟩ ⟨by kernel_rfl, trivial⟩) ?_
    refine post_next ?_
    rcases ite_some hF with ⟨hb16, hF⟩ | ⟨hb16, hF⟩
    · refine aw_cond_t rfl hb16 ?_
      refine aw_seq ?_
      refine aw_region ?_
      refine rgp (op_field_lp rfl rfl Tryd_fld_27_4 rfl rfl) ?_
      refine rgp (op_field_lp rfl rfl Tryd_fld_24_1 rfl rfl) ?_
      refine rgp (op_load_lp (v := .pv (.int .i64 a0.fV.fN)) rfl rfl rfl rfl Tryd_one_3 rfl rfl) ?_
      obtain ⟨y17, h18, hF⟩ := bind_some hF
      refine rgp (op_call 1 rfl (caps := []) (args := [.int .i64 a0.fV.fN]) (rs := [.p (.str y17)]) rfl rfl rfl Tryd_cal_61 (word_Digits_ok h18) rfl rfl rfl) ?_
      obtain ⟨u19, h20, hF⟩ := bind_some hF
      refine rgp (op_concat rfl rfl rfl (room_str h20) rfl rfl) ?_
      refine ras ?_
      refine reg_nil ?_
      refine post_imp (s' := ⟨34, [(4, some (.pv (.str ([64] ++ y17))))], [], 0, [], [], 0, []⟩) (imps [] ⟨by kernel_rfl, trivial⟩ trivial) ?_
      refine post_next ?_
      refine aw_ret ?_
      refine post_then_ret ?_
      refine post_block_ret ?_
      refine post_then_ret ?_
      obtain rfl := Option.some.inj hF
      exact prt
    refine aw_cond_f rfl hb16 ?_
    refine aw_skip ?_
    refine post_next ?_
    refine aw_seq ?_
    refine aw_region ?_
    refine rgp (op_field_lp rfl rfl Tryd_fld_27_4 rfl rfl) ?_
    refine rgp (op_field_lp rfl rfl Tryd_fld_24_1 rfl rfl) ?_
    refine rgp (op_load_lp (v := .pv (.int .i64 a0.fV.fN)) rfl rfl rfl rfl Tryd_one_3 rfl rfl) ?_
    obtain ⟨y21, h22, hF⟩ := bind_some hF
    refine rgp (op_call 1 rfl (caps := []) (args := [.int .i64 a0.fV.fN]) (rs := [.p (.str y21)]) rfl rfl rfl Tryd_cal_61 (word_Digits_ok h22) rfl rfl rfl) ?_
    refine ras ?_
    refine reg_nil ?_
    refine post_imp (s' := ⟨34, [(4, some (.pv (.str y21)))], [], 0, [], [], 0, []⟩) (imps [] ⟨by kernel_rfl, trivial⟩ trivial) ?_
    refine post_next ?_
    refine aw_ret ?_
    refine post_block_ret ?_
    refine post_then_ret ?_
    obtain rfl := Option.some.inj hF
    exact prt
  refine aw_cond_f rfl hb15 ?_
  refine aw_skip ?_
  refine post_block_normal ?_
  refine post_next ?_
  refine aw_seq ?_
  refine aw_region ?_
  refine rmv ?_
  refine ras ?_
  refine reg_nil ?_
  refine post_imp (s' := ⟨34, [(4, some (.pv (.str a1)))], [], 0, [], [], 0, []⟩) (imps [] ⟨by kernel_rfl, trivial⟩ trivial) ?_
  refine post_next ?_
  refine aw_ret ?_
  obtain rfl := Option.some.inj hF
  exact prt
theorem strings_Join_ok {a0 : List (List UInt8)} {a1 r : List UInt8} (hF : strings_Join a0 a1 = some r) : Abs.Fn globs_Tryd Tryd.prog 62 [.vs 1 (List.map eS a0), .str a1] [.p (.str r)] := fn_join Tryd.strings_Join_none Tryd.strings_Join hF
theorem event_line_ok {a0 : List (List UInt8)} {r : (List UInt8)} (hF : event_line a0 = some r) : Abs.Fn globs_Tryd Tryd.prog 50 [.vs 1 (List.map eS a0)] [.p (.str r)] := by
  unfold event_line at hF
  refine fn_of_body (n := 5) Tryd.func50 rfl rfl rfl ?_
  intro w O
  refine aw_seq ?_
  refine aw_region ?_
  refine ras ?_
  refine reg_nil ?_
  refine post_imp (s' := ⟨5, [(0, some (.pv (.vs 1 (List.map eS a0))))], [], 0, [], [], 0, []⟩) (imps [] ⟨by kernel_rfl, trivial⟩ trivial) ?_
  refine post_next ?_
  refine aw_seq ?_
  refine aw_region ?_
  refine rmv ?_
  obtain ⟨y1, h2, hF⟩ := bind_some hF
  refine rgp (op_call 0 rfl (caps := []) (args := [.vs 1 (List.map eS a0), .str [32]]) (rs := [.p (.str y1)]) rfl rfl rfl Tryd_cal_62 (strings_Join_ok h2) rfl rfl rfl) ?_
  refine ras ?_
  refine reg_nil ?_
  refine post_imp (s' := ⟨5, [(2, some (.pv (.str y1)))], [], 0, [], [], 0, []⟩) (imps [] ⟨by kernel_rfl, trivial⟩ trivial) ?_
  refine post_next ?_
  refine aw_ret ?_
  obtain rfl := Option.some.inj hF
  exact prt
theorem event_write_ok {a0 : GEvent} {r : (List UInt8)} (hF : event_write a0 = some r) : Abs.Fn globs_Tryd Tryd.prog 30 [.agg (eGEvent a0)] [.p (.str r)] := by
  unfold event_write at hF
  refine fn_of_body (n := 24) Tryd.func30 rfl rfl rfl ?_
  intro w O
  refine aw_seq ?_
  refine aw_region ?_
  refine rgp (op_box 0 rfl rfl rfl rfl rfl rfl) ?_
  refine ras ?_
  refine reg_nil ?_
  refine post_imp (s' := ⟨24, [(1, some (.lp 0 0))], [(0, some (.box 27 (bxv (eGEvent a0))))], 1, [], [], 0, []⟩) (imps [0] ⟨by kernel_rfl, trivial⟩ ⟨by kernel_rfl, trivial⟩) ?_
  refine post_next ?_
  refine aw_seq ?_
  refine aw_region ?_
  refine ras ?_
  refine reg_imp (imp_nil_own 3 9 1 1 rfl rfl) ?_
  refine reg_nil ?_
  refine post_imp (s' := ⟨24, [(1, some (.lp 0 0)), (3, some (.ls 1))], [(0, some (.box 27 (bxv (eGEvent a0)))), (1, some (.row 9 1 (List.map eS [])))], 2, [], [], 0, []⟩) (imps [0, 1] ⟨by kernel_rfl, by kernel_rfl, trivial⟩ ⟨by kernel_rfl, by kernel_rfl, trivial⟩) ?_
  refine post_next ?_
  iterate 2 (refine aw_seq ?_)
  refine aw_region ?_
  refine rgp (op_field_lp rfl rfl Tryd_fld_27_0 rfl rfl) ?_
  refine rgp (op_load_lp (v := .pv (.int .i64 a0.fKind)) rfl rfl rfl rfl Tryd_one_3 rfl rfl) ?_
  obtain ⟨y5, h6, hF⟩ := bind_some hF
  refine rgp (op_call 2 rfl (caps := []) (args := [.int .i64 a0.fKind]) (rs := [.p (.str y5)]) rfl rfl rfl Tryd_cal_24 (event_pattern_ok h6) rfl rfl rfl) ?_
  obtain ⟨y7, h8, hF⟩ := bind_some hF
  refine rgp (op_call 2 rfl (caps := []) (args := [.str y5]) (rs := [.p (.vs 1 (List.map eS y7))]) rfl rfl rfl Tryd_cal_25 (Fn.frozen (strings_Fields_ok h8)) rfl rfl rfl) ?_
  refine rgp (op_len_vs (n := y7.length) rfl rfl (List.length_map ..) Tryd_slc_41 rfl rfl) ?_
  refine rmv ?_
  refine reg_nil ?_
  refine post_imp (s' := ⟨24, [(1, some (.lp 0 0)), (3, some (.ls 1)), (9, some (.pv (.vs 1 (List.map eS y7)))), (10, some (.pv (.int .i64 (y7.length : Int)))), (11, some (.pv (.int .i64 0)))], [(0, some (.box 27 (bxv (eGEvent a0)))), (1, some (.row 9 1 (List.map eS [])))], 2, [], [], 0, []⟩) (imps [0, 1] ⟨by kernel_rfl, by kernel_rfl, by kernel_rfl, by kernel_rfl, by kernel_rfl, trivial⟩ ⟨by kernel_rfl, by kernel_rfl, trivial⟩) ?_
  refine post_next ?_
  obtain ⟨x54, hF, hK55⟩ := bind_some hF
  refine aw_for ((((y7.length : Int) : Int) - (0)).toNat + 1) (fun s1 => s1 = ⟨24, [(3, some (.ls 0))], [(0, some (.row 9 1 (List.map eS x54)))], 1, [], [], 0, []⟩) ?_ ?_
  · refine rnd_loop (α := (List (List UInt8)) × Int) (fun q => ⟨24, [(1, some (.lp 0 0)), (3, some (.ls 1)), (9, some (.pv (.vs 1 (List.map eS y7)))), (10, some (.pv (.int .i64 (y7.length : Int)))), (11, some (.pv (.int .i64 q.2)))], [(0, some (.box 27 (bxv (eGEvent a0)))), (1, some (.row 9 1 (List.map eS q.1)))], 2, [], [], 0, []⟩) (fun k q => event_write_L1 a0 y7 k q.1 q.2 = some x54) ([], 0) (imps [0, 1] ⟨by kernel_rfl, by kernel_rfl, by kernel_rfl, by kernel_rfl, by kernel_rfl, trivial⟩ ⟨by kernel_rfl, by kernel_rfl, trivial⟩) hF (fun q h => by cases h) ?_
    clear hF
    rintro k ⟨x22, x23⟩ hF ih
    refine rnd_succ ?_
    refine aw_seq ?_
    refine aw_region ?_
    refine rgp (op_int (k := .i64) (m := x23) (n := (y7.length : Int)) rfl rfl rfl rfl rfl rfl) ?_
    refine reg_nil ?_
    refine post_imp (s' := ⟨24, [(1, some (.lp 0 0)), (3, some (.ls 1)), (9, some (.pv (.vs 1 (List.map eS y7)))), (10, some (.pv (.int .i64 (y7.length : Int)))), (11, some (.pv (.int .i64 x23))), (12, some (.pv (.bool (decide (x23 < (y7.length : Int))))))], [(0, some (.box 27 (bxv (eGEvent a0)))), (1, some (.row 9 1 (List.map eS x22)))], 2, [], [], 0, []⟩) (imps [0, 1] ⟨by kernel_rfl, by kernel_rfl, by kernel_rfl, by kernel_rfl, by kernel_rfl, by kernel_rfl, trivial⟩ ⟨by kernel_rfl, by kernel_rfl, trivial⟩) ?_
    refine post_next ?_
    refine aw_seq ?_
    rcases ite_some hF with ⟨hb39, hF⟩ | ⟨hb39, hF⟩
    · refine aw_cond_t rfl hb39 ?_
      refine aw_skip ?_
      refine post_next ?_
      refine aw_seq ?_
      refine aw_block ?_
      refine aw_seq ?_
      refine aw_region ?_
      obtain ⟨y42, h43, hF⟩ := bind_some hF
      refine rgp (op_index_vs (k := .i64) rfl rfl rfl (idx_map eS h43) Tryd_slc_41 rfl rfl) ?_
      refine rgp (op_load_vp (p := .str y42) rfl rfl rfl Tryd_one_9 rfl rfl) ?_
      refine ras ?_
      refine reg_nil ?_
      refine post_imp (s' := ⟨24, [(1, some (.lp 0 0)), (3, some (.ls 1)), (5, some (.pv (.str y42))), (9, some (.pv (.vs 1 (List.map eS y7)))), (10, some (.pv (.int .i64 (y7.length : Int)))), (11, some (.pv (.int .i64 x23)))], [(0, some (.box 27 (bxv (eGEvent a0)))), (1, some (.row 9 1 (List.map eS x22)))], 2, [], [], 0, []⟩) (imps [0, 1] ⟨by kernel_rfl, by kernel_rfl, by kernel_rfl, by kernel_rfl, by kernel_rfl, by kernel_rfl, trivial⟩ ⟨by kernel_rfl, by kernel_rfl, trivial⟩) ?_
      refine post_next ?_
      refine aw_region ?_
      refine rmv ?_
      refine rgp (op_load_lp_agg (ps := eGEvent a0) rfl rfl rfl rfl rfl rfl Tryd_agg_27 rfl rfl) ?_
      refine rmv ?_
      obtain ⟨y48, h49, hF⟩ := bind_some hF
      refine rgp (op_call 2 rfl (caps := []) (args := [.agg (eGEvent a0), .str y42]) (rs := [.p (.str y48)]) rfl rfl rfl Tryd_cal_49 (event_spell_ok h49) rfl rfl rfl) ?_
      refine rgp (op_lit (rows := List.map eS ([y48] : List (List UInt8))) (zs := [.str []]) rfl rfl Tryd_slc_41 Tryd_zer_9 (by exact ⟨rfl, trivial⟩) rfl rfl rfl rfl rfl rfl rfl rfl) ?_
      obtain ⟨u50, h51, hF⟩ := bind_some hF
      refine rgp (op_append 2 rfl rfl rfl rfl rfl Tryd_slc_41 Tryd_elm_9 Tryd_zer_9 rfl rfl rfl (room_map (f := eS) (g := eS) h51) (List.map_append (f := eS) (l₁ := x22) (l₂ := [y48])).symm rfl rfl) ?_
      refine ras ?_
      refine reg_nil ?_
      refine post_imp (s' := ⟨24, [(1, some (.lp 0 0)), (3, some (.ls 1)), (9, some (.pv (.vs 1 (List.map eS y7)))), (10, some (.pv (.int .i64 (y7.length : Int)))), (11, some (.pv (.int .i64 x23)))], [(0, some (.box 27 (bxv (eGEvent a0)))), (1, some (.row 9 1 (List.map eS (x22 ++ [y48]))))], 2, [], [], 0, []⟩) (imps [0, 2] ⟨by kernel_rfl, by kernel_rfl, by kernel_rfl, by kernel_rfl, by kernel_rfl, trivial⟩ ⟨by kernel_rfl, by kernel_rfl, trivial⟩) ?_
      refine post_block_normal ?_
      refine post_next ?_
      refine aw_region ?_
      refine rgp (op_int (k := .i64) (m := x23) (n := 1) rfl rfl rfl rfl rfl rfl) ?_
      refine rmv ?_
      refine reg_nil ?_
      refine post_round ?_
      exact rnd_back (ih ((x22 ++ [y48]), w_i64 (x23 + 1)) hF) (imps [0, 1] ⟨by kernel_rfl, by kernel_rfl, by kernel_rfl, by kernel_rfl, by kernel_rfl, trivial⟩ ⟨by kernel_rfl, by kernel_rfl, trivial⟩)
    refine aw_cond_f rfl hb39 ?_
    refine aw_exit ?_
    iterate 2 (refine post_then_exit ?_)
    obtain rfl := Option.some.inj hF
    exact post_lp_break _ rfl (imps [1] ⟨by kernel_rfl, trivial⟩ ⟨by kernel_rfl, trivial⟩)
  rintro _ rfl
  have hF := hK55
  clear hK55
  refine post_next ?_
  refine aw_seq ?_
  refine aw_region ?_
  refine rmv ?_
  obtain ⟨y56, h57, hF⟩ := bind_some hF
  refine rgp (op_callB 1 rfl (caps := []) (args := [.vs 1 (List.map eS x54)]) [(0, some (.row 9 1 (List.map eS x54)))] rfl rfl rfl (FzH.spec ⟨rfl, trivial⟩) rfl rfl Tryd_cal_50 (event_line_ok h57) rfl rfl rfl) ?_
  refine ras ?_
  refine reg_nil ?_
  refine post_imp (s' := ⟨24, [(2, some (.pv (.str y56)))], [], 0, [], [], 0, []⟩) (imps [] ⟨by kernel_rfl, trivial⟩ trivial) ?_
  refine post_next ?_
  refine aw_ret ?_
  obtain rfl := Option.some.inj hF
  exact prt
theorem event_Text_ok {a0 : GEvent} {r : (List UInt8)} (hF : event_Text a0 = some r) : Abs.Fn globs_Tryd Tryd.prog 14 [.agg (eGEvent a0)] [.p (.str r)] := by
  unfold event_Text at hF
  refine fn_of_body (n := 8) Tryd.func14 rfl rfl rfl ?_
  intro w O
  refine aw_seq ?_
  refine aw_region ?_
  refine rgp (op_box 0 rfl rfl rfl rfl rfl rfl) ?_
  refine ras ?_
  refine reg_nil ?_
  refine post_imp (s' := ⟨8, [(1, some (.lp 0 0))], [(0, some (.box 27 (bxv (eGEvent a0))))], 1, [], [], 0, []⟩) (imps [0] ⟨by kernel_rfl, trivial⟩ ⟨by kernel_rfl, trivial⟩) ?_
  refine post_next ?_
  iterate 2 (refine aw_seq ?_)
  refine aw_region ?_
  refine rgp (op_load_lp_agg (ps := eGEvent a0) rfl rfl rfl rfl rfl rfl Tryd_agg_27 rfl rfl) ?_
  obtain ⟨y3, h4, hF⟩ := bind_some hF
  refine rgp (op_call 1 rfl (caps := []) (args := [.agg (eGEvent a0)]) (rs := [.p (.bool y3)]) rfl rfl rfl Tryd_cal_12 (event_Right_ok h4) rfl rfl rfl) ?_
  refine rgp (op_not rfl rfl rfl rfl) ?_
  refine reg_nil ?_
  refine post_imp (s' := ⟨8, [(1, some (.lp 0 0)), (5, some (.pv (.bool (!y3))))], [(0, some (.box 27 (bxv (eGEvent a0))))], 1, [], [], 0, []⟩) (imps [0] ⟨by kernel_rfl, by kernel_rfl, trivial⟩ ⟨by kernel_rfl, trivial⟩) ?_
  refine post_next ?_
  rcases ite_some hF with ⟨hb5, hF⟩ | ⟨hb5, hF⟩
  · refine aw_cond_t rfl hb5 ?_
    refine aw_seq ?_
    refine aw_region ?_
    refine ras ?_
    refine reg_nil ?_
    refine post_imp (s' := ⟨8, [(2, some (.pv (.str [])))], [], 0, [], [], 0, []⟩) (imps [] ⟨by kernel_rfl, trivial⟩ trivial) ?_
    refine post_next ?_
    refine aw_ret ?_
    refine post_then_ret ?_
    obtain rfl := Option.some.inj hF
    exact prt
  refine aw_cond_f rfl hb5 ?_
  refine aw_skip ?_
  refine post_next ?_
  refine aw_seq ?_
  refine aw_region ?_
  refine rgp (op_load_lp_agg (ps := eGEvent a0) rfl rfl rfl rfl rfl rfl Tryd_agg_27 rfl rfl) ?_
  obtain ⟨y6, h7, hF⟩ := bind_some hF
  refine rgp (op_call 1 rfl (caps := []) (args := [.agg (eGEvent a0)]) (rs := [.p (.str y6)]) rfl rfl rfl Tryd_cal_30 (event_write_ok h7) rfl rfl rfl) ?_
  refine ras ?_
  refine reg_nil ?_
  refine post_imp (s' := ⟨8, [(2, some (.pv (.str y6)))], [], 0, [], [], 0, []⟩) (imps [] ⟨by kernel_rfl, trivial⟩ trivial) ?_
  refine post_next ?_
  refine aw_ret ?_
  obtain rfl := Option.some.inj hF
  exact prt
theorem event_All_ok {a0 : List GEvent} {r : (List UInt8)} (hF : event_All a0 = some r) : Abs.Fn globs_Tryd Tryd.prog 16 [.vs 10 (List.map eGEvent a0)] [.p (.str r)] := by
  unfold event_All at hF
  refine fn_of_body (n := 20) Tryd.func16 rfl rfl rfl ?_
  intro w O
  refine aw_seq ?_
  refine aw_region ?_
  refine ras ?_
  refine reg_nil ?_
  refine post_imp (s' := ⟨20, [(0, some (.pv (.vs 10 (List.map eGEvent a0))))], [], 0, [], [], 0, []⟩) (imps [] ⟨by kernel_rfl, trivial⟩ trivial) ?_
  refine post_next ?_
  refine aw_seq ?_
  refine aw_region ?_
  refine rgp (op_alloc 0 rfl (ps := [.nilp, .nils]) rfl Tryd_zer_57 (by exact ⟨rfl, rfl, trivial⟩) rfl rfl) ?_
  refine reg_imp (imp_nil_box 0 1 57 5 1 1 rfl rfl rfl) ?_
  refine reg_imp (imp_bp 0 rfl) ?_
  refine reg_nil ?_
  refine post_imp (s' := ⟨20, [(0, some (.pv (.vs 10 (List.map eGEvent a0)))), (3, some (.lp 0 0))], [(0, some (.box 57 [.bp 0, .ls 1])), (1, some (.row 5 1 (List.map eI_u8 [])))], 2, [], [], 0, []⟩) (imps [0, 1] ⟨by kernel_rfl, by kernel_rfl, trivial⟩ ⟨by kernel_rfl, by kernel_rfl, trivial⟩) ?_
  refine post_next ?_
  iterate 2 (refine aw_seq ?_)
  refine aw_region ?_
  refine rmv ?_
  refine rgp (op_len_vs (n := a0.length) rfl rfl (List.length_map ..) Tryd_slc_30 rfl rfl) ?_
  refine rmv ?_
  refine reg_nil ?_
  refine post_imp (s' := ⟨20, [(3, some (.lp 0 0)), (6, some (.pv (.vs 10 (List.map eGEvent a0)))), (7, some (.pv (.int .i64 (a0.length : Int)))), (8, some (.pv (.int .i64 0)))], [(0, some (.box 57 [.bp 0, .ls 1])), (1, some (.row 5 1 (List.map eI_u8 [])))], 2, [], [], 0, []⟩) (imps [0, 1] ⟨by kernel_rfl, by kernel_rfl, by kernel_rfl, by kernel_rfl, trivial⟩ ⟨by kernel_rfl, by kernel_rfl, trivial⟩) ?_
  refine post_next ?_
  obtain ⟨x76, hF, hK77⟩ := bind_some hF
  refine aw_for ((((a0.length : Int) : Int) - (0)).toNat + 1) (fun s1 => s1 = ⟨20, [(3, some (.lp 0 0))], [(0, some (.box 57 [.bp 0, .ls 1])), (1, some (.row 5 1 (List.map eI_u8 x76)))], 2, [], [], 0, []⟩) ?_ ?_
  · refine rnd_loop (α := (List Int) × Int) (fun q => ⟨20, [(3, some (.lp 0 0)), (6, some (.pv (.vs 10 (List.map eGEvent a0)))), (7, some (.pv (.int .i64 (a0.length : Int)))), (8, some (.pv (.int .i64 q.2)))], [(0, some (.box 57 [.bp 0, .ls 1])), (1, some (.row 5 1 (List.map eI_u8 q.1)))], 2, [], [], 0, []⟩) (fun k q => event_All_L1 a0 k q.1 q.2 = some x76) ([], 0) (imps [0, 1] ⟨by kernel_rfl, by kernel_rfl, by kernel_rfl, by kernel_rfl, trivial⟩ ⟨by kernel_rfl, by kernel_rfl, trivial⟩) hF (fun q h => by cases h) ?_
    clear hF
    rintro k ⟨x24, x25⟩ hF ih
    refine rnd_succ ?_
    refine aw_seq ?_
    refine aw_region ?_
    refine rgp (op_int (k := .i64) (m := x25) (n := (a0.length : Int)) rfl rfl rfl rfl rfl rfl) ?_
    refine reg_nil ?_
    refine post_imp (s' := ⟨20, [(3, some (.lp 0 0)), (6, some (.pv (.vs 10 (List.map eGEvent a0)))), (7, some (.pv (.int .i64 (a0.length : Int)))), (8, some (.pv (.int .i64 x25))), (9, some (.pv (.bool (decide (x25 < (a0.length : Int))))))], [(0, some (.box 57 [.bp 0, .ls 1])), (1, some (.row 5 1 (List.map eI_u8 x24)))], 2, [], [], 0, []⟩) (imps [0, 1] ⟨by kernel_rfl, by kernel_rfl, by kernel_rfl, by kernel_rfl, by kernel_rfl, trivial⟩ ⟨by kernel_rfl, by kernel_rfl, trivial⟩) ?_
    refine post_next ?_
    refine aw_seq ?_
    rcases ite_some hF with ⟨hb51, hF⟩ | ⟨hb51, hF⟩
    · refine aw_cond_t rfl hb51 ?_
      refine aw_skip ?_
      refine post_next ?_
      refine aw_seq ?_
      obtain ⟨x71, hF, hK73⟩ := bind_some hF
      refine aw_cut (fun s1 => s1 = ⟨20, [(3, some (.lp 0 0)), (6, some (.pv (.vs 10 (List.map eGEvent a0)))), (7, some (.pv (.int .i64 (a0.length : Int)))), (8, some (.pv (.int .i64 x25)))], [(0, some (.box 57 [.bp 0, .ls 1])), (1, some (.row 5 1 (List.map eI_u8 x71)))], 2, [], [], 0, []⟩) ?_ ?_
      · refine aw_block ?_
        refine aw_seq ?_
        refine aw_region ?_
        obtain ⟨y54, h55, hF⟩ := bind_some hF
        refine rgp (op_index_vs (k := .i64) rfl rfl rfl (idx_map eGEvent h55) Tryd_slc_30 rfl rfl) ?_
        refine rgp (op_load_vp_agg (ps := eGEvent y54) rfl rfl rfl rfl Tryd_agg_27 rfl rfl) ?_
        refine rgp (op_alloc 2 rfl (ps := (eGEvent zGEvent)) rfl Tryd_zer_27 (by exact ⟨rfl, rfl, rfl, rfl, rfl, rfl, rfl, rfl, rfl, rfl, trivial⟩) rfl rfl) ?_
        refine rgp (op_store_lp (n := 10) rfl rfl rfl rfl rfl (or_agg Tryd_agg_27) (by rw [Tryd_non_27]; rfl) rfl rfl rfl) ?_
        refine reg_nil ?_
        refine post_imp (s' := ⟨20, [(3, some (.lp 0 0)), (5, some (.lp 2 0)), (6, some (.pv (.vs 10 (List.map eGEvent a0)))), (7, some (.pv (.int .i64 (a0.length : Int)))), (8, some (.pv (.int .i64 x25)))], [(0, some (.box 57 [.bp 0, .ls 1])), (1, some (.row 5 1 (List.map eI_u8 x24))), (2, some (.box 27 (bxv (eGEvent y54))))], 3, [], [], 0, []⟩) (imps [0, 1, 2] ⟨by kernel_rfl, by kernel_rfl, by kernel_rfl, by kernel_rfl, by kernel_rfl, trivial⟩ ⟨by kernel_rfl, by kernel_rfl, by kernel_rfl, trivial⟩) ?_
        refine post_next ?_
        refine aw_seq ?_
        refine aw_region ?_
        refine rgp (op_load_lp_agg (ps := eGEvent y54) rfl rfl rfl rfl rfl rfl Tryd_agg_27 rfl rfl) ?_
        obtain ⟨y58, h59, hF⟩ := bind_some hF
        refine rgp (op_call 3 rfl (caps := []) (args := [.agg (eGEvent y54)]) (rs := [.p (.bool y58)]) rfl rfl rfl Tryd_cal_12 (event_Right_ok h59) rfl rfl rfl) ?_
        refine reg_nil ?_
        refine post_imp (s' := ⟨20, [(3, some (.lp 0 0)), (5, some (.lp 2 0)), (6, some (.pv (.vs 10 (List.map eGEvent a0)))), (7, some (.pv (.int .i64 (a0.length : Int)))), (8, some (.pv (.int .i64 x25))), (13, some (.pv (.bool y58)))], [(0, some (.box 57 [.bp 0, .ls 1])), (1, some (.row 5 1 (List.map eI_u8 x24))), (2, some (.box 27 (bxv (eGEvent y54))))], 3, [], [], 0, []⟩) (imps [0, 1, 2] ⟨by kernel_rfl, by kernel_rfl, by kernel_rfl, by kernel_rfl, by kernel_rfl, by kernel_rfl, trivial⟩ ⟨by kernel_rfl, by kernel_rfl, by kernel_rfl, trivial⟩) ?_
        refine post_next ?_
        rcases ite_some hF with ⟨hb60, hF⟩ | ⟨hb60, hF⟩
        · refine aw_cond_t rfl hb60 ?_
          refine aw_seq ?_
          refine aw_region ?_
          refine rgp (op_load_lp_agg (ps := eGEvent y54) rfl rfl rfl rfl rfl rfl Tryd_agg_27 rfl rfl) ?_
          obtain ⟨y65, h66, hF⟩ := bind_some hF
          refine rgp (op_call 3 rfl (caps := []) (args := [.agg (eGEvent y54)]) (rs := [.p (.str y65)]) rfl rfl rfl Tryd_cal_30 (event_write_ok h66) rfl rfl rfl) ?_
          obtain ⟨u67, h68, hF⟩ := bind_some hF
          refine rgp (op_callW (args := [.lp 0 0, .pv (.str y65)]) [0, 1] [0, 3] [1] 4 rfl rfl rfl rfl rfl Tryd_cal_33 (bldW_ok h68) rfl (by decide) ⟨rfl, rfl, trivial⟩ rfl (by decide) ⟨.inl rfl, .inr rfl, trivial⟩ (by kernel_rfl) (by kernel_rfl) rfl rfl rfl rfl) ?_
          refine reg_nil ?_
          refine post_imp (s' := ⟨20, [(3, some (.lp 0 0)), (6, some (.pv (.vs 10 (List.map eGEvent a0)))), (7, some (.pv (.int .i64 (a0.length : Int)))), (8, some (.pv (.int .i64 x25)))], [(0, some (.box 57 [.bp 0, .ls 1])), (1, some (.row 5 1 (List.map eI_u8 (x24 ++ bytesL y65))))], 2, [], [], 0, []⟩) (imps [0, 3] ⟨by kernel_rfl, by kernel_rfl, by kernel_rfl, by kernel_rfl, trivial⟩ ⟨by kernel_rfl, by kernel_rfl, trivial⟩) ?_
          refine post_next ?_
          refine aw_region ?_
          obtain ⟨u69, h70, hF⟩ := bind_some hF
          refine rgp (op_callW (args := [.lp 0 0, .pv (.int .u8 10)]) [0, 1] [0, 2] [1] 3 rfl rfl rfl rfl rfl Tryd_cal_34 (bldB_ok (c := 10) h70) rfl (by decide) ⟨rfl, rfl, trivial⟩ rfl (by decide) ⟨.inl rfl, .inr rfl, trivial⟩ (by kernel_rfl) (by kernel_rfl) rfl rfl rfl rfl) ?_
          refine reg_nil ?_
          refine post_imp (s' := ⟨20, [(3, some (.lp 0 0)), (6, some (.pv (.vs 10 (List.map eGEvent a0)))), (7, some (.pv (.int .i64 (a0.length : Int)))), (8, some (.pv (.int .i64 x25)))], [(0, some (.box 57 [.bp 0, .ls 1])), (1, some (.row 5 1 (List.map eI_u8 ((x24 ++ bytesL y65) ++ [10]))))], 2, [], [], 0, []⟩) (imps [0, 2] ⟨by kernel_rfl, by kernel_rfl, by kernel_rfl, by kernel_rfl, trivial⟩ ⟨by kernel_rfl, by kernel_rfl, trivial⟩) ?_
          refine post_block_normal ?_
          cases hF
          exact post_cut _ rfl (imps [0, 1] ⟨by kernel_rfl, by kernel_rfl, by kernel_rfl, by kernel_rfl, trivial⟩ ⟨by kernel_rfl, by kernel_rfl, trivial⟩)
        refine aw_cond_f rfl hb60 ?_
        refine aw_skip ?_
        refine post_block_normal ?_
        cases hF
        exact post_cut _ rfl (imps [0, 1] ⟨by kernel_rfl, by kernel_rfl, by kernel_rfl, by kernel_rfl, trivial⟩ ⟨by kernel_rfl, by kernel_rfl, trivial⟩)
      rintro _ rfl
      have hF := hK73
      clear hK73
      refine post_next ?_
      refine aw_region ?_
      refine rgp (op_int (k := .i64) (m := x25) (n := 1) rfl rfl rfl rfl rfl rfl) ?_
      refine rmv ?_
      refine reg_nil ?_
      refine post_round ?_
      exact rnd_back (ih (x71, w_i64 (x25 + 1)) hF) (imps [0, 1] ⟨by kernel_rfl, by kernel_rfl, by kernel_rfl, by kernel_rfl, trivial⟩ ⟨by kernel_rfl, by kernel_rfl, trivial⟩)
    refine aw_cond_f rfl hb51 ?_
    refine aw_exit ?_
    iterate 2 (refine post_then_exit ?_)
    obtain rfl := Option.some.inj hF
    exact post_lp_break _ rfl (imps [0, 1] ⟨by kernel_rfl, trivial⟩ ⟨by kernel_rfl, by kernel_rfl, trivial⟩)
  rintro _ rfl
  have hF := hK77
  clear hK77
  refine post_next ?_
  refine aw_seq ?_
  refine aw_region ?_
  obtain ⟨y78, h79, hF⟩ := bind_some hF
  refine rgp (op_callW (args := [.lp 0 0]) [0, 1] [] [0, 1] 2 rfl rfl rfl rfl rfl Tryd_cal_35 (bldS_ok h79) rfl (by decide) ⟨rfl, rfl, trivial⟩ rfl (by decide) trivial (by kernel_rfl) (by kernel_rfl) rfl rfl rfl rfl) ?_
  refine ras ?_
  refine reg_nil ?_
  refine post_imp (s' := ⟨20, [(2, some (.pv (.str y78)))], [], 0, [], [], 0, []⟩) (imps [] ⟨by kernel_rfl, trivial⟩ trivial) ?_
  refine post_next ?_
  refine aw_ret ?_
  obtain rfl := Option.some.inj hF
  exact prt
theorem internal_stringslite_Cut_ok {a0 : List UInt8} {a1 : List UInt8} {r : (List UInt8) × (List UInt8) × Bool} (hF : internal_stringslite_Cut a0 a1 = some r) : Abs.Fn globs_Tryd Tryd.prog 40 [.str a0, .str a1] [.p (.str r.1), .p (.str r.2.1), .p (.bool r.2.2)] := by
  unfold internal_stringslite_Cut at hF
  refine fn_of_body (n := 23) Tryd.func40 rfl rfl rfl ?_
  intro w O
  refine aw_seq ?_
  refine aw_region ?_
  iterate 3 (refine ras ?_)
  refine reg_nil ?_
  refine post_imp (s' := ⟨23, [(0, some (.pv (.str a0))), (1, some (.pv (.str a1)))], [], 0, [], [], 0, []⟩) (imps [] ⟨by kernel_rfl, by kernel_rfl, trivial⟩ trivial) ?_
  refine post_next ?_
  iterate 2 (refine aw_seq ?_)
  refine aw_region ?_
  iterate 2 (refine rmv ?_)
  obtain ⟨y3, h4, hF⟩ := bind_some hF
  refine rgp (op_call 0 rfl (caps := []) (args := [.str a0, .str a1]) (rs := [.p (.int .i64 y3)]) rfl rfl rfl Tryd_cal_56 (internal_stringslite_Index_ok h4) rfl rfl rfl) ?_
  refine ras ?_
  refine reg_nil ?_
  refine post_imp (s' := ⟨23, [(0, some (.pv (.str a0))), (1, some (.pv (.str a1))), (7, some (.pv (.int .i64 y3)))], [], 0, [], [], 0, []⟩) (imps [] ⟨by kernel_rfl, by kernel_rfl, by kernel_rfl, trivial⟩ trivial) ?_
  refine post_next ?_
  refine aw_seq ?_
  refine aw_region ?_
  refine rmv ?_
  refine rgp (op_int (k := .i64) (m := y3) (n := 0) rfl rfl rfl rfl rfl rfl) ?_
  refine reg_nil ?_
  refine post_imp (s' := ⟨23, [(0, some (.pv (.str a0))), (1, some (.pv (.str a1))), (7, some (.pv (.int .i64 y3))), (12, some (.pv (.bool (decide (y3 ≥ 0)))))], [], 0, [], [], 0, []⟩) (imps [] ⟨by kernel_rfl, by kernel_rfl, by kernel_rfl, by kernel_rfl, trivial⟩ trivial) ?_
  refine post_next ?_
  rcases ite_some hF with ⟨hb5, hF⟩ | ⟨hb5, hF⟩
  · refine aw_cond_t rfl hb5 ?_
    refine aw_seq ?_
    refine dr_start ⟨_, _, _⟩ rfl ?_
    iterate 2 (refine drm ?_)
    obtain ⟨y6, h7, hF⟩ := bind_some hF
    refine dr_cons { need := [(13, .pv (.str a0)), (14, .pv (.int .i64 y3))], dst := some 15, val := some (.pv (.str y6)) } (fun m h => step_on (guard_no rfl) (op_slice_str (nl := none) (nh := (some y3)) rfl h.1.1 rfl (evo_some h.1.2.1) Tryd_und_9 h7 rfl rfl) rfl) ⟨⟨rfl, rfl, trivial⟩, trivial, trivial⟩ ?_
    iterate 3 (refine drm ?_)
    refine dr_cons { need := [(18, .pv (.str a1))], dst := some 19, val := some (.pv (.int .i64 (a1.length : Int))) } (fun m h => step_on (guard_no rfl) (op_len_str rfl h.1.1 Tryd_und_9 rfl rfl) rfl) ⟨⟨rfl, trivial⟩, trivial, trivial⟩ ?_
    refine dr_cons { need := [(17, .pv (.int .i64 y3)), (19, .pv (.int .i64 (a1.length : Int)))], dst := some 20, val := some (.pv (.int .i64 (w_i64 (y3 + (a1.length : Int))))) } (fun m h => step_on (guard_no rfl) (op_int (k := .i64) (m := y3) (n := (a1.length : Int)) rfl h.1.1 h.1.2.1 rfl rfl rfl) rfl) ⟨⟨rfl, rfl, trivial⟩, trivial, trivial⟩ ?_
    obtain ⟨y8, h9, hF⟩ := bind_some hF
    refine dr_cons { need := [(16, .pv (.str a0)), (20, .pv (.int .i64 (w_i64 (y3 + (a1.length : Int)))))], dst := some 21, val := some (.pv (.str y8)) } (fun m h => step_on (guard_no rfl) (op_slice_str (nl := (some (w_i64 (y3 + (a1.length : Int))))) (nh := none) rfl h.1.1 (evo_some h.1.2.1) rfl Tryd_und_9 h9 rfl rfl) rfl) ⟨⟨rfl, rfl, trivial⟩, trivial, trivial⟩ ?_
    refine dr_cons { need := [(15, .pv (.str y6))], dst := some 4, val := some (.pv (.str y6)) } (fun m h => step_on (guard_no rfl) (op_assign rfl h.1.1 rfl rfl) rfl) ⟨⟨rfl, trivial⟩, trivial, trivial⟩ ?_
    refine dr_cons { need := [(21, .pv (.str y8))], dst := some 5, val := some (.pv (.str y8)) } (fun m h => step_on (guard_no rfl) (op_assign rfl h.1.1 rfl rfl) rfl) ⟨⟨rfl, trivial⟩, trivial, trivial⟩ ?_
    refine dr_cons { dst := some 6, val := some (.pv (.bool true)) } (fun m h => step_on (guard_no rfl) (op_assign rfl rfl rfl rfl) rfl) ⟨trivial, trivial, trivial⟩ ?_
    refine dr_nil Tryd_mixed rfl (by kernel_rfl) ?_
    refine post_imp (s' := ⟨23, [(4, some (.pv (.str y6))), (5, some (.pv (.str y8))), (6, some (.pv (.bool true)))], [], 0, [], [], 0, []⟩) (imps [] ⟨by kernel_rfl, by kernel_rfl, by kernel_rfl, trivial⟩ trivial) ?_
    refine post_next ?_
    refine aw_ret ?_
    refine post_then_ret ?_
    obtain rfl := Option.some.inj hF
    exact post_ret rfl rfl (.cons _ _ _ _ _ (.tmp _ _ rfl) (.p _) (.cons _ _ _ _ _ (.tmp _ _ rfl) (.p _) (.cons _ _ _ _ _ (.tmp _ _ rfl) (.p _) .nil))) (.inl rfl)
  refine aw_cond_f rfl hb5 ?_
  refine aw_skip ?_
  refine post_next ?_
  refine aw_seq ?_
  refine aw_region ?_
  refine rmv ?_
  iterate 3 (refine ras ?_)
  refine reg_nil ?_
  refine post_imp (s' := ⟨23, [(4, some (.pv (.str a0))), (5, some (.pv (.str []))), (6, some (.pv (.bool false)))], [], 0, [], [], 0, []⟩) (imps [] ⟨by kernel_rfl, by kernel_rfl, by kernel_rfl, trivial⟩ trivial) ?_
  refine post_next ?_
  refine aw_ret ?_
  obtain rfl := Option.some.inj hF
  exact post_ret rfl rfl (.cons _ _ _ _ _ (.tmp _ _ rfl) (.p _) (.cons _ _ _ _ _ (.tmp _ _ rfl) (.p _) (.cons _ _ _ _ _ (.tmp _ _ rfl) (.p _) .nil))) (.inl rfl)
theorem strings_Cut_ok {a0 : List UInt8} {a1 : List UInt8} {r : (List UInt8) × (List UInt8) × Bool} (hF : strings_Cut a0 a1 = some r) : Abs.Fn globs_Tryd Tryd.prog 23 [.str a0, .str a1] [.p (.str r.1), .p (.str r.2.1), .p (.bool r.2.2)] := by
  unfold strings_Cut at hF
  refine fn_of_body (n := 13) Tryd.func23 rfl rfl rfl ?_
  intro w O
  refine aw_seq ?_
  refine aw_region ?_
  iterate 3 (refine ras ?_)
  refine reg_nil ?_
  refine post_imp (s' := ⟨13, [(0, some (.pv (.str a0))), (1, some (.pv (.str a1)))], [], 0, [], [], 0, []⟩) (imps [] ⟨by kernel_rfl, by kernel_rfl, trivial⟩ trivial) ?_
  refine post_next ?_
  refine aw_seq ?_
  refine aw_region ?_
  iterate 2 (refine rmv ?_)
  obtain ⟨y1, h2, hF⟩ := bind_some hF
  refine rgp (op_call 0 rfl (caps := []) (args := [.str a0, .str a1]) (rs := [.p (.str y1.1), .p (.str y1.2.1), .p (.bool y1.2.2)]) rfl rfl rfl Tryd_cal_40 (internal_stringslite_Cut_ok h2) rfl rfl rfl) ?_
  iterate 3 (refine rgp (op_extract rfl rfl rfl rfl rfl) ?_)
  iterate 3 (refine ras ?_)
  refine reg_nil ?_
  refine post_imp (s' := ⟨13, [(4, some (.pv (.str y1.1))), (5, some (.pv (.str y1.2.1))), (6, some (.pv (.bool y1.2.2)))], [], 0, [], [], 0, []⟩) (imps [] ⟨by kernel_rfl, by kernel_rfl, by kernel_rfl, trivial⟩ trivial) ?_
  refine post_next ?_
  refine aw_ret ?_
  obtain rfl := Option.some.inj hF
  exact post_ret rfl rfl (.cons _ _ _ _ _ (.tmp _ _ rfl) (.p _) (.cons _ _ _ _ _ (.tmp _ _ rfl) (.p _) (.cons _ _ _ _ _ (.tmp _ _ rfl) (.p _) .nil))) (.inl rfl)
end Go.Proofs.YtccladleehbmhaaDoor
