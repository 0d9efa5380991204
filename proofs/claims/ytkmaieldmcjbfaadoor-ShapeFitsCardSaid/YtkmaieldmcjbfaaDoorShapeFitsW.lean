/- A part of the proof that the law ShapeFits gives true for every input. -/
import Derived.Test.YtkmaieldmcjbfaaDoorShapeFitsT
import Derived.Test.YtkmaieldmcjbfaaDoorShapeFitsX
import Derived.Test.YtkmaieldmcjbfaaDoorShapeFitsI
import Derived.Test.YtkmaieldmcjbfaaDoorShapeFitsW0
/- Each Go function computes its plain function. -/
namespace Go.Proofs.YtkmaieldmcjbfaaDoor
open Go.RowKit Go.Abs
set_option maxRecDepth 100000
set_option maxHeartbeats 4000000
theorem above_Below_ok {a0 : List GClass} {a1 : List UInt8} {a2 : List UInt8} {r : Bool} (hF : above_Below a0 a1 a2 = some r) : Abs.Fn globs_Tryd Tryd.prog 53 [.vs 7 (List.map eGClass a0), .str a1, .str a2] [.p (.bool r)] := by
  unfold above_Below at hF
  refine fn_of_body (n := 19) Tryd.func53 rfl rfl rfl ?_
  intro w O
  refine aw_seq ?_
  refine aw_region ?_
  refine rgp (op_alloc 0 rfl (ps := [.bool false]) rfl Tryd_zer_4 (by exact ⟨rfl, trivial⟩) rfl rfl) ?_
  refine reg_nil ?_
  refine post_imp (s' := ⟨19, [(0, some (.pv (.vs 7 (List.map eGClass a0)))), (1, some (.pv (.str a1))), (2, some (.pv (.str a2))), (6, some (.lp 0 0))], [(0, some (.box 4 [.pv (.bool false)]))], 1, [], [], 0, []⟩) (imps [0] ⟨by kernel_rfl, by kernel_rfl, by kernel_rfl, by kernel_rfl, trivial⟩ ⟨by kernel_rfl, trivial⟩) ?_
  refine post_next ?_
  refine aw_seq ?_
  refine aw_region ?_
  iterate 2 (refine rmv ?_)
  obtain ⟨y3, h4, hF⟩ := bind_some hF
  refine rgp (op_call 1 rfl (caps := []) (args := [.vs 7 (List.map eGClass a0), .str a2]) (rs := [.p (.int .i64 y3)]) rfl rfl rfl Tryd_cal_74 (table_Find_ok h4) rfl rfl rfl) ?_
  refine rgp (op_alloc 1 rfl (ps := [.int .i64 0]) rfl Tryd_zer_3 (by exact ⟨rfl, trivial⟩) rfl rfl) ?_
  refine rgp (op_store_lp (n := 1) rfl rfl rfl rfl rfl (or_one Tryd_one_3) (by rw [Tryd_one_3]; rfl) rfl rfl rfl) ?_
  refine reg_nil ?_
  refine post_imp (s' := ⟨19, [(0, some (.pv (.vs 7 (List.map eGClass a0)))), (1, some (.pv (.str a1))), (6, some (.lp 0 0)), (7, some (.lp 1 0))], [(0, some (.box 4 [.pv (.bool false)])), (1, some (.box 3 [.pv (.int .i64 y3)]))], 2, [], [], 0, []⟩) (imps [0, 1] ⟨by kernel_rfl, by kernel_rfl, by kernel_rfl, by kernel_rfl, trivial⟩ ⟨by kernel_rfl, by kernel_rfl, trivial⟩) ?_
  refine post_next ?_
  iterate 2 (refine aw_seq ?_)
  refine aw_region ?_
  iterate 2 (refine rmv ?_)
  obtain ⟨y7, h8, hF⟩ := bind_some hF
  refine rgp (op_call 2 rfl (caps := []) (args := [.vs 7 (List.map eGClass a0), .str a1]) (rs := [.clo 98 [.vp ((eL 7 eGClass) y7.1)] 9 [.str y7.2] []]) rfl rfl rfl Tryd_cal_75 (above_up_ok h8) rfl rfl rfl) ?_
  refine reg_nil ?_
  refine post_imp (s' := ⟨19, [(6, some (.lp 0 0)), (7, some (.lp 1 0)), (14, some (.fn 98 [.pv (.vp ((eL 7 eGClass) y7.1)), .lp 2 0]))], [(0, some (.box 4 [.pv (.bool false)])), (1, some (.box 3 [.pv (.int .i64 y3)])), (2, some (.box 9 [.pv (.str y7.2)]))], 3, [], [], 0, []⟩) (imps [0, 1, 2] ⟨by kernel_rfl, by kernel_rfl, by kernel_rfl, trivial⟩ ⟨by kernel_rfl, by kernel_rfl, by kernel_rfl, trivial⟩) ?_
  refine post_next ?_
  refine aw_block ?_
  refine aw_imp (s' := ⟨19, [(6, some (.lp 0 0)), (7, some (.lp 1 0)), (14, some (.fn 98 [.pv (.vp ((eL 7 eGClass) y7.1)), .lp 2 0]))], [(0, some (.box 4 [.pv (.bool false)])), (1, some (.box 3 [.pv (.int .i64 y3)])), (2, some (.box 9 [.pv (.str y7.2)]))], 3, [], [], 0, []⟩) (imps [0, 1, 2] ⟨by kernel_rfl, by kernel_rfl, by kernel_rfl, trivial⟩ ⟨by kernel_rfl, by kernel_rfl, by kernel_rfl, trivial⟩) ?_
  obtain ⟨rows15, hR16, hF⟩ := bind_some hF
  obtain ⟨lr17, hL18, hF⟩ := bind_some hF
  refine aw_rangeFunc (X := Int) (Q := Unit) (E := Unit) (pre := [.vp ((eL 7 eGClass) y7.1)]) (bx := (some (9, [.str y7.2]))) (post := []) (kt := [6, 7]) (psl := [15]) (some 2) (fun z : Int => ([.int .i64 z] : List PV)) rows15 (above_Below_B1 y3) () lr17 hL18 (fun q => ⟨19, [(6, some (.lp 0 0)), (7, some (.lp 1 0))], [(0, some (.box 4 [.pv (.bool false)])), (1, some (.box 3 [.pv (.int .i64 y3)]))], 3, [], [], 0, []⟩) (fun z => (.ret, ⟨19, [(6, some (.lp 0 0))], [(0, some (.box 4 [.pv (.bool true)]))], 1, [], [], 0, []⟩)) ⟨_, _, rfl, rfl, rfl⟩ Tryd_cal_98 (fun sp => above_up_1_it (itR_up_ok hR16 sp)) (fun _ => rfl) rfl rfl (by decide) rfl (fun x q => ⟨19, [(6, some (.lp 0 0)), (7, some (.lp 1 0)), (8, some (.pv (.int .i64 x))), (15, some (.pv (.int .i64 x)))], [(0, some (.box 4 [.pv (.bool false)])), (1, some (.box 3 [.pv (.int .i64 y3)]))], 3, [], [], 0, [6, 7]⟩) (fun q => ⟨rfl, rfl, rfl, rfl⟩) (fun z => ⟨rfl, rfl, rfl, rfl⟩) (fun z => rfl) rfl rfl ⟨rfl, rfl, trivial⟩ ⟨⟨rfl, rfl, rfl⟩, ⟨rfl, rfl, rfl⟩, trivial⟩ ?_ ?_ ?_ ?_
  · rintro l19 c20 x13 ⟨⟩ hc21
    refine aw_region ?_
    refine ras ?_
    refine reg_nil ?_
    exact post_cut1 (imps [0, 1, 2] ⟨by kernel_rfl, by kernel_rfl, by kernel_rfl, by kernel_rfl, trivial⟩ ⟨by kernel_rfl, by kernel_rfl, trivial⟩)
  · rintro l19 c20 x13 ⟨⟩ r22 hc21 hF
    refine aw_block ?_
    refine aw_seq ?_
    refine aw_region ?_
    refine rmv ?_
    refine rgp (op_load_lp (v := .pv (.int .i64 y3)) rfl rfl rfl rfl Tryd_one_3 rfl rfl) ?_
    refine rgp (op_int (k := .i64) (m := x13) (n := y3) rfl rfl rfl rfl rfl rfl) ?_
    refine reg_nil ?_
    refine post_imp (s' := ⟨19, [(6, some (.lp 0 0)), (7, some (.lp 1 0)), (18, some (.pv (.bool (x13 == y3))))], [(0, some (.box 4 [.pv (.bool false)])), (1, some (.box 3 [.pv (.int .i64 y3)]))], 2, [], [], 0, [6, 7]⟩) (imps [0, 1] ⟨by kernel_rfl, by kernel_rfl, by kernel_rfl, trivial⟩ ⟨by kernel_rfl, by kernel_rfl, trivial⟩) ?_
    refine post_next ?_
    rcases ite_some hF with ⟨hb14, hF⟩ | ⟨hb14, hF⟩
    · refine aw_cond_t rfl hb14 ?_
      refine aw_seq ?_
      refine aw_region ?_
      refine rgp (op_store_lp (n := 1) rfl rfl rfl rfl rfl (or_one Tryd_one_4) (by rw [Tryd_one_4]; rfl) rfl rfl rfl) ?_
      refine reg_nil ?_
      refine post_imp (s' := ⟨19, [(6, some (.lp 0 0))], [(0, some (.box 4 [.pv (.bool true)]))], 1, [], [], 0, [6, 7]⟩) (imps [0] ⟨by kernel_rfl, trivial⟩ ⟨by kernel_rfl, trivial⟩) ?_
      refine post_next ?_
      refine aw_ret ?_
      refine post_block_ret ?_
      obtain rfl := Option.some.inj hF
      exact post_rnd_ret () rfl rfl (imps [0] ⟨by kernel_rfl, trivial⟩ ⟨by kernel_rfl, trivial⟩)
    refine aw_cond_f rfl hb14 ?_
    refine aw_skip ?_
    refine post_block_normal ?_
    obtain rfl := Option.some.inj hF
    exact post_rnd () rfl (imps [0, 1, 1000000] ⟨by kernel_rfl, by kernel_rfl, trivial⟩ ⟨by kernel_rfl, by kernel_rfl, trivial⟩)
  · rintro ⟨⟩ rfl
    have hF := elim_next hF
    refine post_block_normal ?_
    refine post_next ?_
    refine aw_seq ?_
    refine aw_region ?_
    refine rgp (op_store_lp (n := 1) rfl rfl rfl rfl rfl (or_one Tryd_one_4) (by rw [Tryd_one_4]; rfl) rfl rfl rfl) ?_
    refine reg_nil ?_
    refine post_imp (s' := ⟨19, [(6, some (.lp 0 0))], [(0, some (.box 4 [.pv (.bool false)]))], 1, [], [], 0, []⟩) (imps [0] ⟨by kernel_rfl, trivial⟩ ⟨by kernel_rfl, trivial⟩) ?_
    refine post_next ?_
    refine aw_ret ?_
    obtain rfl := Option.some.inj hF
    exact post_ret rfl rfl (.cons _ _ _ _ _ (.one _ _ _ _ _ _ _ rfl rfl Tryd_one_4 rfl) (.p _) .nil) (.inl rfl)
  rintro ⟨⟩ rfl
  have hF := elim_stop hF
  show Post _ _ .ret _
  refine post_block_ret ?_
  refine post_then_ret ?_
  obtain rfl := Option.some.inj hF
  exact post_ret rfl rfl (.cons _ _ _ _ _ (.one _ _ _ _ _ _ _ rfl rfl Tryd_one_4 rfl) (.p _) .nil) (.inl rfl)
theorem shape_Fits_ok {a0 : List GClass} {a1 : GType} {a2 : GType} {r : Int} (hF : shape_Fits a0 a1 a2 = some r) : Abs.Fn globs_Tryd Tryd.prog 28 [.vs 7 (List.map eGClass a0), .agg (eGType a1), .agg (eGType a2)] [.p (.int .i64 r)] := by
  unfold shape_Fits at hF
  refine fn_of_body (n := 41) Tryd.func28 rfl rfl rfl ?_
  intro w O
  refine aw_seq ?_
  refine aw_region ?_
  refine rgp (op_box 0 rfl rfl rfl rfl rfl rfl) ?_
  refine rgp (op_box 1 rfl rfl rfl rfl rfl rfl) ?_
  refine ras ?_
  refine reg_nil ?_
  refine post_imp (s' := ⟨41, [(0, some (.pv (.vs 7 (List.map eGClass a0)))), (4, some (.lp 0 0)), (5, some (.lp 1 0))], [(0, some (.box 26 (bxv (eGType a1)))), (1, some (.box 26 (bxv (eGType a2))))], 2, [], [], 0, []⟩) (imps [0, 1] ⟨by kernel_rfl, by kernel_rfl, by kernel_rfl, trivial⟩ ⟨by kernel_rfl, by kernel_rfl, trivial⟩) ?_
  refine post_next ?_
  refine aw_seq ?_
  refine aw_block ?_
  refine aw_seq ?_
  obtain ⟨x2, hF, hK4⟩ := bind_some hF
  refine aw_cut (fun s1 => s1 = ⟨41, [(0, some (.pv (.vs 7 (List.map eGClass a0)))), (4, some (.lp 0 0)), (5, some (.lp 1 0)), (7, some (.pv (.bool x2)))], [(0, some (.box 26 (bxv (eGType a1)))), (1, some (.box 26 (bxv (eGType a2))))], 2, [], [], 0, []⟩) ?_ ?_
  · refine aw_region ?_
    refine rgp (op_field_lp rfl rfl Tryd_fld_26_0 rfl rfl) ?_
    refine rgp (op_load_lp (v := .pv (.int .i64 a2.fKind)) rfl rfl rfl rfl Tryd_one_3 rfl rfl) ?_
    refine rgp (op_int (k := .i64) (m := a2.fKind) (n := 1) rfl rfl rfl rfl rfl rfl) ?_
    refine rmv ?_
    rcases ite_some hF with ⟨hb1, hF⟩ | ⟨hb1, hF⟩
    · refine rgn hb1 (op_field_lp rfl rfl Tryd_fld_26_0 rfl rfl) ?_
      refine rgn hb1 (op_load_lp (v := .pv (.int .i64 a1.fKind)) rfl rfl rfl rfl Tryd_one_3 rfl rfl) ?_
      refine rgn hb1 (op_int (k := .i64) (m := a1.fKind) (n := 1) rfl rfl rfl rfl rfl rfl) ?_
      refine rpt hb1 ?_
      refine ras ?_
      refine reg_nil ?_
      cases hF
      exact post_cut _ rfl (imps [0, 1] ⟨by kernel_rfl, by kernel_rfl, by kernel_rfl, by kernel_rfl, trivial⟩ ⟨by kernel_rfl, by kernel_rfl, trivial⟩)
    iterate 3 (refine rgo_f hb1 ?_)
    refine rpf hb1 ?_
    refine ras ?_
    refine reg_nil ?_
    cases hF
    exact post_cut _ rfl (imps [0, 1] ⟨by kernel_rfl, by kernel_rfl, by kernel_rfl, by kernel_rfl, trivial⟩ ⟨by kernel_rfl, by kernel_rfl, trivial⟩)
  rintro _ rfl
  have hF := hK4
  clear hK4
  refine post_next ?_
  rcases ite_some hF with ⟨hb5, hF⟩ | ⟨hb5, hF⟩
  · refine aw_cond_t rfl hb5 ?_
    refine aw_seq ?_
    refine aw_region ?_
    refine ras ?_
    refine reg_nil ?_
    refine post_imp (s' := ⟨41, [(6, some (.pv (.int .i64 0)))], [], 0, [], [], 0, []⟩) (imps [] ⟨by kernel_rfl, trivial⟩ trivial) ?_
    refine post_next ?_
    refine aw_ret ?_
    refine post_block_ret ?_
    refine post_then_ret ?_
    obtain rfl := Option.some.inj hF
    exact prt
  refine aw_cond_f rfl hb5 ?_
  refine aw_seq ?_
  refine aw_region ?_
  refine rgp (op_field_lp rfl rfl Tryd_fld_26_0 rfl rfl) ?_
  refine rgp (op_load_lp (v := .pv (.int .i64 a2.fKind)) rfl rfl rfl rfl Tryd_one_3 rfl rfl) ?_
  refine rgp (op_int (k := .i64) (m := a2.fKind) (n := 2) rfl rfl rfl rfl rfl rfl) ?_
  refine ras ?_
  refine reg_nil ?_
  refine post_imp (s' := ⟨41, [(0, some (.pv (.vs 7 (List.map eGClass a0)))), (4, some (.lp 0 0)), (5, some (.lp 1 0)), (16, some (.pv (.bool (a2.fKind != 2))))], [(0, some (.box 26 (bxv (eGType a1)))), (1, some (.box 26 (bxv (eGType a2))))], 2, [], [], 0, []⟩) (imps [0, 1] ⟨by kernel_rfl, by kernel_rfl, by kernel_rfl, by kernel_rfl, trivial⟩ ⟨by kernel_rfl, by kernel_rfl, trivial⟩) ?_
  refine post_next ?_
  rcases ite_some hF with ⟨hb6, hF⟩ | ⟨hb6, hF⟩
  · refine aw_cond_t rfl hb6 ?_
    refine aw_seq ?_
    refine aw_region ?_
    refine ras ?_
    refine reg_nil ?_
    refine post_imp (s' := ⟨41, [(6, some (.pv (.int .i64 14)))], [], 0, [], [], 0, []⟩) (imps [] ⟨by kernel_rfl, trivial⟩ trivial) ?_
    refine post_next ?_
    refine aw_ret ?_
    refine post_block_ret ?_
    refine post_then_ret ?_
    obtain rfl := Option.some.inj hF
    exact prt
  refine aw_cond_f rfl hb6 ?_
  refine aw_seq ?_
  refine aw_region ?_
  refine rgp (op_field_lp rfl rfl Tryd_fld_26_0 rfl rfl) ?_
  refine rgp (op_load_lp (v := .pv (.int .i64 a1.fKind)) rfl rfl rfl rfl Tryd_one_3 rfl rfl) ?_
  refine rgp (op_int (k := .i64) (m := a1.fKind) (n := 3) rfl rfl rfl rfl rfl rfl) ?_
  refine ras ?_
  refine reg_nil ?_
  refine post_imp (s' := ⟨41, [(0, some (.pv (.vs 7 (List.map eGClass a0)))), (4, some (.lp 0 0)), (5, some (.lp 1 0)), (20, some (.pv (.bool (a1.fKind == 3))))], [(0, some (.box 26 (bxv (eGType a1)))), (1, some (.box 26 (bxv (eGType a2))))], 2, [], [], 0, []⟩) (imps [0, 1] ⟨by kernel_rfl, by kernel_rfl, by kernel_rfl, by kernel_rfl, trivial⟩ ⟨by kernel_rfl, by kernel_rfl, trivial⟩) ?_
  refine post_next ?_
  rcases ite_some hF with ⟨hb7, hF⟩ | ⟨hb7, hF⟩
  · refine aw_cond_t rfl hb7 ?_
    refine aw_seq ?_
    refine aw_region ?_
    refine ras ?_
    refine reg_nil ?_
    refine post_imp (s' := ⟨41, [(6, some (.pv (.int .i64 0)))], [], 0, [], [], 0, []⟩) (imps [] ⟨by kernel_rfl, trivial⟩ trivial) ?_
    refine post_next ?_
    refine aw_ret ?_
    refine post_block_ret ?_
    refine post_then_ret ?_
    obtain rfl := Option.some.inj hF
    exact prt
  refine aw_cond_f rfl hb7 ?_
  refine aw_seq ?_
  refine aw_region ?_
  refine rgp (op_field_lp rfl rfl Tryd_fld_26_0 rfl rfl) ?_
  refine rgp (op_load_lp (v := .pv (.int .i64 a1.fKind)) rfl rfl rfl rfl Tryd_one_3 rfl rfl) ?_
  refine rgp (op_int (k := .i64) (m := a1.fKind) (n := 2) rfl rfl rfl rfl rfl rfl) ?_
  refine ras ?_
  refine reg_nil ?_
  refine post_imp (s' := ⟨41, [(0, some (.pv (.vs 7 (List.map eGClass a0)))), (4, some (.lp 0 0)), (5, some (.lp 1 0)), (24, some (.pv (.bool (a1.fKind != 2))))], [(0, some (.box 26 (bxv (eGType a1)))), (1, some (.box 26 (bxv (eGType a2))))], 2, [], [], 0, []⟩) (imps [0, 1] ⟨by kernel_rfl, by kernel_rfl, by kernel_rfl, by kernel_rfl, trivial⟩ ⟨by kernel_rfl, by kernel_rfl, trivial⟩) ?_
  refine post_next ?_
  rcases ite_some hF with ⟨hb8, hF⟩ | ⟨hb8, hF⟩
  · refine aw_cond_t rfl hb8 ?_
    refine aw_seq ?_
    refine aw_region ?_
    refine ras ?_
    refine reg_nil ?_
    refine post_imp (s' := ⟨41, [(6, some (.pv (.int .i64 14)))], [], 0, [], [], 0, []⟩) (imps [] ⟨by kernel_rfl, trivial⟩ trivial) ?_
    refine post_next ?_
    refine aw_ret ?_
    refine post_block_ret ?_
    refine post_then_ret ?_
    obtain rfl := Option.some.inj hF
    exact prt
  refine aw_cond_f rfl hb8 ?_
  refine aw_seq ?_
  obtain ⟨x16, hF, hK18⟩ := bind_some hF
  refine aw_cut (fun s1 => s1 = ⟨41, [(0, some (.pv (.vs 7 (List.map eGClass a0)))), (4, some (.lp 0 0)), (5, some (.lp 1 0)), (28, some (.pv (.bool x16)))], [(0, some (.box 26 (bxv (eGType a1)))), (1, some (.box 26 (bxv (eGType a2))))], 2, [], [], 0, []⟩) ?_ ?_
  · refine aw_seq ?_
    refine aw_region ?_
    refine rgp (op_load_lp_agg (ps := eGType a1) rfl rfl rfl rfl rfl rfl Tryd_agg_26 rfl rfl) ?_
    obtain ⟨y11, h12, hF⟩ := bind_some hF
    refine rgp (op_call 2 rfl (caps := []) (args := [.agg (eGType a1)]) (rs := [.p (.bool y11)]) rfl rfl rfl Tryd_cal_24 (kind_Unique_ok h12) rfl rfl rfl) ?_
    refine ras ?_
    refine reg_nil ?_
    refine post_imp (s' := ⟨41, [(0, some (.pv (.vs 7 (List.map eGClass a0)))), (4, some (.lp 0 0)), (5, some (.lp 1 0)), (28, some (.pv (.bool y11)))], [(0, some (.box 26 (bxv (eGType a1)))), (1, some (.box 26 (bxv (eGType a2))))], 2, [], [], 0, []⟩) (imps [0, 1] ⟨by kernel_rfl, by kernel_rfl, by kernel_rfl, by kernel_rfl, trivial⟩ ⟨by kernel_rfl, by kernel_rfl, trivial⟩) ?_
    refine post_next ?_
    rcases ite_some hF with ⟨hb13, hF⟩ | ⟨hb13, hF⟩
    · refine aw_cond_t rfl hb13 ?_
      refine aw_skip ?_
      cases hF
      exact post_cut _ rfl (imps [0, 1] ⟨by kernel_rfl, by kernel_rfl, by kernel_rfl, by kernel_rfl, trivial⟩ ⟨by kernel_rfl, by kernel_rfl, trivial⟩)
    refine aw_cond_f rfl hb13 ?_
    refine aw_region ?_
    refine rgp (op_load_lp_agg (ps := eGType a2) rfl rfl rfl rfl rfl rfl Tryd_agg_26 rfl rfl) ?_
    obtain ⟨y14, h15, hF⟩ := bind_some hF
    refine rgp (op_call 2 rfl (caps := []) (args := [.agg (eGType a2)]) (rs := [.p (.bool y14)]) rfl rfl rfl Tryd_cal_24 (kind_Unique_ok h15) rfl rfl rfl) ?_
    refine ras ?_
    refine reg_nil ?_
    cases hF
    exact post_cut _ rfl (imps [0, 1] ⟨by kernel_rfl, by kernel_rfl, by kernel_rfl, by kernel_rfl, trivial⟩ ⟨by kernel_rfl, by kernel_rfl, trivial⟩)
  rintro _ rfl
  have hF := hK18
  clear hK18
  refine post_next ?_
  rcases ite_some hF with ⟨hb19, hF⟩ | ⟨hb19, hF⟩
  · refine aw_cond_t rfl hb19 ?_
    refine aw_seq ?_
    refine aw_region ?_
    refine ras ?_
    refine reg_nil ?_
    refine post_imp (s' := ⟨41, [(6, some (.pv (.int .i64 22)))], [], 0, [], [], 0, []⟩) (imps [] ⟨by kernel_rfl, trivial⟩ trivial) ?_
    refine post_next ?_
    refine aw_ret ?_
    refine post_block_ret ?_
    refine post_then_ret ?_
    obtain rfl := Option.some.inj hF
    exact prt
  refine aw_cond_f rfl hb19 ?_
  refine aw_seq ?_
  refine aw_region ?_
  refine rmv ?_
  refine rgp (op_field_lp rfl rfl Tryd_fld_26_1 rfl rfl) ?_
  refine rgp (op_load_lp (v := .pv (.str a1.fClass)) rfl rfl rfl rfl Tryd_one_9 rfl rfl) ?_
  refine rgp (op_field_lp rfl rfl Tryd_fld_26_1 rfl rfl) ?_
  refine rgp (op_load_lp (v := .pv (.str a2.fClass)) rfl rfl rfl rfl Tryd_one_9 rfl rfl) ?_
  obtain ⟨y22, h23, hF⟩ := bind_some hF
  refine rgp (op_call 2 rfl (caps := []) (args := [.vs 7 (List.map eGClass a0), .str a1.fClass, .str a2.fClass]) (rs := [.p (.bool y22)]) rfl rfl rfl Tryd_cal_53 (above_Below_ok h23) rfl rfl rfl) ?_
  refine rgp (op_not rfl rfl rfl rfl) ?_
  refine ras ?_
  refine reg_nil ?_
  refine post_imp (s' := ⟨41, [(33, some (.pv (.bool (!y22))))], [], 0, [], [], 0, []⟩) (imps [] ⟨by kernel_rfl, trivial⟩ trivial) ?_
  refine post_next ?_
  rcases ite_some hF with ⟨hb24, hF⟩ | ⟨hb24, hF⟩
  · refine aw_cond_t rfl hb24 ?_
    refine aw_seq ?_
    refine aw_region ?_
    refine ras ?_
    refine reg_nil ?_
    refine post_imp (s' := ⟨41, [(6, some (.pv (.int .i64 15)))], [], 0, [], [], 0, []⟩) (imps [] ⟨by kernel_rfl, trivial⟩ trivial) ?_
    refine post_next ?_
    refine aw_ret ?_
    refine post_block_ret ?_
    refine post_then_ret ?_
    obtain rfl := Option.some.inj hF
    exact prt
  refine aw_cond_f rfl hb24 ?_
  refine aw_skip ?_
  refine post_block_normal ?_
  refine post_next ?_
  refine aw_seq ?_
  refine aw_region ?_
  refine ras ?_
  refine reg_nil ?_
  refine post_imp (s' := ⟨41, [(6, some (.pv (.int .i64 0)))], [], 0, [], [], 0, []⟩) (imps [] ⟨by kernel_rfl, trivial⟩ trivial) ?_
  refine post_next ?_
  refine aw_ret ?_
  obtain rfl := Option.some.inj hF
  exact prt
theorem ref05_Unique_ok {a0 : GType} {r : Bool} (hF : ref05_Unique a0 = some r) : Abs.Fn globs_Tryd Tryd.prog 25 [.agg (eGType a0)] [.p (.bool r)] := by
  unfold ref05_Unique at hF
  refine fn_of_body (n := 13) Tryd.func25 rfl rfl rfl ?_
  intro w O
  refine aw_seq ?_
  refine aw_region ?_
  refine rgp (op_box 0 rfl rfl rfl rfl rfl rfl) ?_
  refine ras ?_
  refine reg_nil ?_
  refine post_imp (s' := ⟨13, [(1, some (.lp 0 0))], [(0, some (.box 26 (bxv (eGType a0))))], 1, [], [], 0, []⟩) (imps [0] ⟨by kernel_rfl, trivial⟩ ⟨by kernel_rfl, trivial⟩) ?_
  refine post_next ?_
  refine aw_seq ?_
  refine aw_region ?_
  refine rgp (op_field_lp rfl rfl Tryd_fld_26_0 rfl rfl) ?_
  refine rgp (op_load_lp (v := .pv (.int .i64 a0.fKind)) rfl rfl rfl rfl Tryd_one_3 rfl rfl) ?_
  refine rgp (op_int (k := .i64) (m := a0.fKind) (n := 2) rfl rfl rfl rfl rfl rfl) ?_
  refine rmv ?_
  rcases ite_some hF with ⟨hb1, hF⟩ | ⟨hb1, hF⟩
  · refine rgn hb1 (op_field_lp rfl rfl Tryd_fld_26_3 rfl rfl) ?_
    refine rgn hb1 (op_arr_lp (k := .i64) (m := 0) (n := 4) rfl rfl rfl Tryd_arr_24 rfl rfl rfl rfl) ?_
    refine rgn hb1 (op_field_lp rfl rfl Tryd_fld_23_0 rfl rfl) ?_
    refine rgn hb1 (op_load_lp (v := .pv (.int .i64 a0.fOwn.a0.fKind)) rfl rfl rfl rfl Tryd_one_3 rfl rfl) ?_
    refine rgn hb1 (op_int (k := .i64) (m := a0.fOwn.a0.fKind) (n := 6) rfl rfl rfl rfl rfl rfl) ?_
    refine rpt hb1 ?_
    refine ras ?_
    refine reg_nil ?_
    refine post_imp (s' := ⟨13, [(2, some (.pv (.bool (a0.fOwn.a0.fKind == 6))))], [], 0, [], [], 0, []⟩) (imps [] ⟨by kernel_rfl, trivial⟩ trivial) ?_
    refine post_next ?_
    refine aw_ret ?_
    obtain rfl := Option.some.inj hF
    exact prt
  iterate 5 (refine rgo_f hb1 ?_)
  refine rpf hb1 ?_
  refine ras ?_
  refine reg_nil ?_
  refine post_imp (s' := ⟨13, [(2, some (.pv (.bool false)))], [], 0, [], [], 0, []⟩) (imps [] ⟨by kernel_rfl, trivial⟩ trivial) ?_
  refine post_next ?_
  refine aw_ret ?_
  obtain rfl := Option.some.inj hF
  exact prt
theorem ref13_Find_ok {a0 : List GClass} {a1 : List UInt8} {r : Int} (hF : ref13_Find a0 a1 = some r) : Abs.Fn globs_Tryd Tryd.prog 76 [.vs 7 (List.map eGClass a0), .str a1] [.p (.int .i64 r)] := by
  unfold ref13_Find at hF
  refine fn_of_body (n := 20) Tryd.func76 rfl rfl rfl ?_
  intro w O
  refine aw_seq ?_
  refine aw_region ?_
  refine ras ?_
  refine reg_nil ?_
  refine post_imp (s' := ⟨20, [(0, some (.pv (.vs 7 (List.map eGClass a0)))), (1, some (.pv (.str a1)))], [], 0, [], [], 0, []⟩) (imps [] ⟨by kernel_rfl, by kernel_rfl, trivial⟩ trivial) ?_
  refine post_next ?_
  iterate 2 (refine aw_seq ?_)
  refine aw_region ?_
  refine ras ?_
  refine reg_nil ?_
  refine post_imp (s' := ⟨20, [(0, some (.pv (.vs 7 (List.map eGClass a0)))), (1, some (.pv (.str a1))), (5, some (.pv (.int .i64 0)))], [], 0, [], [], 0, []⟩) (imps [] ⟨by kernel_rfl, by kernel_rfl, by kernel_rfl, trivial⟩ trivial) ?_
  refine post_next ?_
  obtain ⟨lr22, hF, hK23⟩ := bind_some hF
  refine aw_for ((((a0.length : Int) : Int) - (0)).toNat + 1) (fun s1 => ∃ q, lr22 = .next q ∧ s1 = ⟨20, [], [], 0, [], [], 0, []⟩) ?_ ?_
  · refine rnd_loop (α := Int) (fun q => ⟨20, [(0, some (.pv (.vs 7 (List.map eGClass a0)))), (1, some (.pv (.str a1))), (5, some (.pv (.int .i64 q)))], [], 0, [], [], 0, []⟩) (fun k q => ref13_Find_L1 a0 a1 k q = some lr22) 0 (imps [] ⟨by kernel_rfl, by kernel_rfl, by kernel_rfl, trivial⟩ trivial) hF (fun q h => by cases h) ?_
    clear hF
    rintro k x7 hF ih
    refine rnd_succ ?_
    iterate 2 (refine aw_seq ?_)
    refine aw_region ?_
    iterate 2 (refine rmv ?_)
    refine rgp (op_len_vs (n := a0.length) rfl rfl (List.length_map ..) Tryd_slc_58 rfl rfl) ?_
    refine rgp (op_int (k := .i64) (m := x7) (n := (a0.length : Int)) rfl rfl rfl rfl rfl rfl) ?_
    refine reg_nil ?_
    refine post_imp (s' := ⟨20, [(0, some (.pv (.vs 7 (List.map eGClass a0)))), (1, some (.pv (.str a1))), (5, some (.pv (.int .i64 x7))), (9, some (.pv (.bool (decide (x7 < (a0.length : Int))))))], [], 0, [], [], 0, []⟩) (imps [] ⟨by kernel_rfl, by kernel_rfl, by kernel_rfl, by kernel_rfl, trivial⟩ trivial) ?_
    refine post_next ?_
    rcases ite_some hF with ⟨hb15, hF⟩ | ⟨hb15, hF⟩
    · refine aw_cond_t rfl hb15 ?_
      refine aw_skip ?_
      refine post_next ?_
      refine aw_seq ?_
      refine aw_block ?_
      refine aw_seq ?_
      refine aw_region ?_
      iterate 2 (refine rmv ?_)
      obtain ⟨y18, h19, hF⟩ := bind_some hF
      refine rgp (op_index_vs (k := .i64) rfl rfl rfl (idx_map eGClass h19) Tryd_slc_58 rfl rfl) ?_
      refine rgp (op_field_vp rfl rfl Tryd_fld_39_0 rfl rfl) ?_
      refine rgp (op_load_vp (p := .str y18.fName) rfl rfl rfl Tryd_one_9 rfl rfl) ?_
      refine rmv ?_
      refine rgp (op_str rfl rfl rfl rfl rfl rfl) ?_
      refine reg_nil ?_
      refine post_imp (s' := ⟨20, [(0, some (.pv (.vs 7 (List.map eGClass a0)))), (1, some (.pv (.str a1))), (5, some (.pv (.int .i64 x7))), (18, some (.pv (.bool (y18.fName == a1))))], [], 0, [], [], 0, []⟩) (imps [] ⟨by kernel_rfl, by kernel_rfl, by kernel_rfl, by kernel_rfl, trivial⟩ trivial) ?_
      refine post_next ?_
      rcases ite_some hF with ⟨hb20, hF⟩ | ⟨hb20, hF⟩
      · refine aw_cond_t rfl hb20 ?_
        refine aw_seq ?_
        refine aw_region ?_
        refine rmv ?_
        refine ras ?_
        refine reg_nil ?_
        refine post_imp (s' := ⟨20, [(4, some (.pv (.int .i64 x7)))], [], 0, [], [], 0, []⟩) (imps [] ⟨by kernel_rfl, trivial⟩ trivial) ?_
        refine post_next ?_
        refine aw_ret ?_
        refine post_block_ret ?_
        iterate 2 (refine post_then_ret ?_)
        refine post_lp_ret ?_
        obtain rfl := Option.some.inj hF
        have hF := elim_stop hK23
        refine post_then_ret ?_
        obtain rfl := Option.some.inj hF
        exact prt
      refine aw_cond_f rfl hb20 ?_
      refine aw_skip ?_
      refine post_block_normal ?_
      refine post_next ?_
      refine aw_region ?_
      refine rmv ?_
      refine rgp (op_int (k := .i64) (m := x7) (n := 1) rfl rfl rfl rfl rfl rfl) ?_
      refine ras ?_
      refine reg_nil ?_
      refine post_round ?_
      exact rnd_back (ih (w_i64 (x7 + 1)) hF) (imps [] ⟨by kernel_rfl, by kernel_rfl, by kernel_rfl, trivial⟩ trivial)
    refine aw_cond_f rfl hb15 ?_
    refine aw_exit ?_
    iterate 2 (refine post_then_exit ?_)
    obtain rfl := Option.some.inj hF
    exact post_lp_break _ ⟨_, rfl, rfl⟩ (imps [] trivial trivial)
  rintro _ ⟨⟨⟩, rfl, rfl⟩
  have hF := elim_next hK23
  clear hK23
  refine post_next ?_
  refine aw_seq ?_
  refine aw_region ?_
  refine ras ?_
  refine reg_nil ?_
  refine post_imp (s' := ⟨20, [(4, some (.pv (.int .i64 (-1))))], [], 0, [], [], 0, []⟩) (imps [] ⟨by kernel_rfl, trivial⟩ trivial) ?_
  refine post_next ?_
  refine aw_ret ?_
  obtain rfl := Option.some.inj hF
  exact prt
theorem ref14_has_ok {a0 : List Int} {a1 : Int} {r : Bool} (hF : ref14_has a0 a1 = some r) : Abs.Fn globs_Tryd Tryd.prog 77 [.vs 1 (List.map eI a0), .int .i64 a1] [.p (.bool r)] := by
  unfold ref14_has at hF
  refine fn_of_body (n := 18) Tryd.func77 rfl rfl rfl ?_
  intro w O
  refine aw_seq ?_
  refine aw_region ?_
  refine ras ?_
  refine reg_nil ?_
  refine post_imp (s' := ⟨18, [(0, some (.pv (.vs 1 (List.map eI a0)))), (1, some (.pv (.int .i64 a1)))], [], 0, [], [], 0, []⟩) (imps [] ⟨by kernel_rfl, by kernel_rfl, trivial⟩ trivial) ?_
  refine post_next ?_
  iterate 2 (refine aw_seq ?_)
  refine aw_region ?_
  refine ras ?_
  refine reg_nil ?_
  refine post_imp (s' := ⟨18, [(0, some (.pv (.vs 1 (List.map eI a0)))), (1, some (.pv (.int .i64 a1))), (5, some (.pv (.int .i64 0)))], [], 0, [], [], 0, []⟩) (imps [] ⟨by kernel_rfl, by kernel_rfl, by kernel_rfl, trivial⟩ trivial) ?_
  refine post_next ?_
  obtain ⟨lr22, hF, hK23⟩ := bind_some hF
  refine aw_for ((((a0.length : Int) : Int) - (0)).toNat + 1) (fun s1 => ∃ q, lr22 = .next q ∧ s1 = ⟨18, [], [], 0, [], [], 0, []⟩) ?_ ?_
  · refine rnd_loop (α := Int) (fun q => ⟨18, [(0, some (.pv (.vs 1 (List.map eI a0)))), (1, some (.pv (.int .i64 a1))), (5, some (.pv (.int .i64 q)))], [], 0, [], [], 0, []⟩) (fun k q => ref14_has_L1 a0 a1 k q = some lr22) 0 (imps [] ⟨by kernel_rfl, by kernel_rfl, by kernel_rfl, trivial⟩ trivial) hF (fun q h => by cases h) ?_
    clear hF
    rintro k x7 hF ih
    refine rnd_succ ?_
    iterate 2 (refine aw_seq ?_)
    refine aw_region ?_
    iterate 2 (refine rmv ?_)
    refine rgp (op_len_vs (n := a0.length) rfl rfl (List.length_map ..) Tryd_slc_104 rfl rfl) ?_
    refine rgp (op_int (k := .i64) (m := x7) (n := (a0.length : Int)) rfl rfl rfl rfl rfl rfl) ?_
    refine reg_nil ?_
    refine post_imp (s' := ⟨18, [(0, some (.pv (.vs 1 (List.map eI a0)))), (1, some (.pv (.int .i64 a1))), (5, some (.pv (.int .i64 x7))), (9, some (.pv (.bool (decide (x7 < (a0.length : Int))))))], [], 0, [], [], 0, []⟩) (imps [] ⟨by kernel_rfl, by kernel_rfl, by kernel_rfl, by kernel_rfl, trivial⟩ trivial) ?_
    refine post_next ?_
    rcases ite_some hF with ⟨hb15, hF⟩ | ⟨hb15, hF⟩
    · refine aw_cond_t rfl hb15 ?_
      refine aw_skip ?_
      refine post_next ?_
      refine aw_seq ?_
      refine aw_block ?_
      refine aw_seq ?_
      refine aw_region ?_
      iterate 2 (refine rmv ?_)
      obtain ⟨y18, h19, hF⟩ := bind_some hF
      refine rgp (op_index_vs (k := .i64) rfl rfl rfl (idx_map eI h19) Tryd_slc_104 rfl rfl) ?_
      refine rgp (op_load_vp (p := .int .i64 y18) rfl rfl rfl Tryd_one_3 rfl rfl) ?_
      refine rmv ?_
      refine rgp (op_int (k := .i64) (m := y18) (n := a1) rfl rfl rfl rfl rfl rfl) ?_
      refine reg_nil ?_
      refine post_imp (s' := ⟨18, [(0, some (.pv (.vs 1 (List.map eI a0)))), (1, some (.pv (.int .i64 a1))), (5, some (.pv (.int .i64 x7))), (17, some (.pv (.bool (y18 == a1))))], [], 0, [], [], 0, []⟩) (imps [] ⟨by kernel_rfl, by kernel_rfl, by kernel_rfl, by kernel_rfl, trivial⟩ trivial) ?_
      refine post_next ?_
      rcases ite_some hF with ⟨hb20, hF⟩ | ⟨hb20, hF⟩
      · refine aw_cond_t rfl hb20 ?_
        refine aw_seq ?_
        refine aw_region ?_
        refine ras ?_
        refine reg_nil ?_
        refine post_imp (s' := ⟨18, [(4, some (.pv (.bool true)))], [], 0, [], [], 0, []⟩) (imps [] ⟨by kernel_rfl, trivial⟩ trivial) ?_
        refine post_next ?_
        refine aw_ret ?_
        refine post_block_ret ?_
        iterate 2 (refine post_then_ret ?_)
        refine post_lp_ret ?_
        obtain rfl := Option.some.inj hF
        have hF := elim_stop hK23
        refine post_then_ret ?_
        obtain rfl := Option.some.inj hF
        exact prt
      refine aw_cond_f rfl hb20 ?_
      refine aw_skip ?_
      refine post_block_normal ?_
      refine post_next ?_
      refine aw_region ?_
      refine rmv ?_
      refine rgp (op_int (k := .i64) (m := x7) (n := 1) rfl rfl rfl rfl rfl rfl) ?_
      refine ras ?_
      refine reg_nil ?_
      refine post_round ?_
      exact rnd_back (ih (w_i64 (x7 + 1)) hF) (imps [] ⟨by kernel_rfl, by kernel_rfl, by kernel_rfl, trivial⟩ trivial)
    refine aw_cond_f rfl hb15 ?_
    refine aw_exit ?_
    iterate 2 (refine post_then_exit ?_)
    obtain rfl := Option.some.inj hF
    exact post_lp_break _ ⟨_, rfl, rfl⟩ (imps [] trivial trivial)
  rintro _ ⟨⟨⟩, rfl, rfl⟩
  have hF := elim_next hK23
  clear hK23
  refine post_next ?_
  refine aw_seq ?_
  refine aw_region ?_
  refine ras ?_
  refine reg_nil ?_
  refine post_imp (s' := ⟨18, [(4, some (.pv (.bool false)))], [], 0, [], [], 0, []⟩) (imps [] ⟨by kernel_rfl, trivial⟩ trivial) ?_
  refine post_next ?_
  refine aw_ret ?_
  obtain rfl := Option.some.inj hF
  exact prt
theorem ref14_Chain_ok {a0 : List GClass} {a1 : List UInt8} {r : (List Int)} (hF : ref14_Chain a0 a1 = some r) : Abs.Fn globs_Tryd Tryd.prog 78 [.vs 7 (List.map eGClass a0), .str a1] [.own 3 1 (List.map eI r)] := by
  unfold ref14_Chain at hF
  refine fn_of_body (n := 37) Tryd.func78 rfl rfl rfl ?_
  intro w O
  refine aw_seq ?_
  refine aw_region ?_
  refine ras ?_
  refine reg_nil ?_
  refine post_imp (s' := ⟨37, [(0, some (.pv (.vs 7 (List.map eGClass a0)))), (1, some (.pv (.str a1)))], [], 0, [], [], 0, []⟩) (imps [] ⟨by kernel_rfl, by kernel_rfl, trivial⟩ trivial) ?_
  refine post_next ?_
  refine aw_seq ?_
  refine aw_region ?_
  refine ras ?_
  refine reg_imp (imp_nil_own 5 3 1 0 rfl rfl) ?_
  refine reg_nil ?_
  refine post_imp (s' := ⟨37, [(0, some (.pv (.vs 7 (List.map eGClass a0)))), (1, some (.pv (.str a1))), (5, some (.ls 0))], [(0, some (.row 3 1 (List.map eI [])))], 1, [], [], 0, []⟩) (imps [0] ⟨by kernel_rfl, by kernel_rfl, by kernel_rfl, trivial⟩ ⟨by kernel_rfl, trivial⟩) ?_
  refine post_next ?_
  refine aw_seq ?_
  refine aw_region ?_
  iterate 2 (refine rmv ?_)
  obtain ⟨y3, h4, hF⟩ := bind_some hF
  refine rgp (op_call 1 rfl (caps := []) (args := [.vs 7 (List.map eGClass a0), .str a1]) (rs := [.p (.int .i64 y3)]) rfl rfl rfl Tryd_cal_76 (ref13_Find_ok h4) rfl rfl rfl) ?_
  refine ras ?_
  refine reg_nil ?_
  refine post_imp (s' := ⟨37, [(0, some (.pv (.vs 7 (List.map eGClass a0)))), (5, some (.ls 0)), (6, some (.pv (.int .i64 y3)))], [(0, some (.row 3 1 (List.map eI [])))], 1, [], [], 0, []⟩) (imps [0] ⟨by kernel_rfl, by kernel_rfl, by kernel_rfl, trivial⟩ ⟨by kernel_rfl, trivial⟩) ?_
  refine post_next ?_
  refine aw_seq ?_
  obtain ⟨lr72, hF, hK73⟩ := bind_some hF
  refine aw_for (a0.length + 2) (fun s1 => ∃ q, lr72 = .next q ∧ s1 = ⟨37, [(5, some (.ls 0))], [(0, some (.row 3 1 (List.map eI q)))], 1, [], [], 0, []⟩) ?_ ?_
  · refine rnd_loop (α := (List Int) × Int) (fun q => ⟨37, [(0, some (.pv (.vs 7 (List.map eGClass a0)))), (5, some (.ls 0)), (6, some (.pv (.int .i64 q.2)))], [(0, some (.row 3 1 (List.map eI q.1)))], 1, [], [], 0, []⟩) (fun k q => ref14_Chain_L1 a0 k q.1 q.2 = some lr72) ([], y3) (imps [0] ⟨by kernel_rfl, by kernel_rfl, by kernel_rfl, trivial⟩ ⟨by kernel_rfl, trivial⟩) hF (fun q h => by cases h) ?_
    clear hF
    rintro k ⟨x25, x26⟩ hF ih
    refine rnd_succ ?_
    iterate 2 (refine aw_seq ?_)
    obtain ⟨x52, hF, hK54⟩ := bind_some hF
    refine aw_cut (fun s1 => s1 = ⟨37, [(0, some (.pv (.vs 7 (List.map eGClass a0)))), (5, some (.ls 0)), (6, some (.pv (.int .i64 x26))), (17, some (.pv (.bool x52)))], [(0, some (.row 3 1 (List.map eI x25)))], 1, [], [], 0, []⟩) ?_ ?_
    · refine aw_region ?_
      refine rmv ?_
      refine rgp (op_int (k := .i64) (m := x26) (n := 0) rfl rfl rfl rfl rfl rfl) ?_
      refine rmv ?_
      rcases ite_some hF with ⟨hb49, hF⟩ | ⟨hb49, hF⟩
      · refine rgn hb49 (op_move rfl rfl rfl rfl) ?_
        refine rgn hb49 (op_move rfl rfl rfl rfl) ?_
        obtain ⟨y50, h51, hF⟩ := bind_some hF
        refine rgn hb49 (op_callB 1 rfl (caps := []) (args := [.vs 1 (List.map eI x25), .int .i64 x26]) [(0, some (.row 3 1 (List.map eI x25)))] rfl rfl rfl (FzH.spec ⟨rfl, trivial⟩) rfl rfl Tryd_cal_77 (ref14_has_ok h51) rfl rfl rfl) ?_
        refine rgn hb49 (op_not rfl rfl rfl rfl) ?_
        refine rpt hb49 ?_
        refine reg_nil ?_
        cases hF
        exact post_cut _ rfl (imps [0] ⟨by kernel_rfl, by kernel_rfl, by kernel_rfl, by kernel_rfl, trivial⟩ ⟨by kernel_rfl, trivial⟩)
      iterate 4 (refine rgo_f hb49 ?_)
      refine rpf hb49 ?_
      refine reg_nil ?_
      cases hF
      exact post_cut _ rfl (imps [0] ⟨by kernel_rfl, by kernel_rfl, by kernel_rfl, by kernel_rfl, trivial⟩ ⟨by kernel_rfl, trivial⟩)
    rintro _ rfl
    have hF := hK54
    clear hK54
    refine post_next ?_
    rcases ite_some hF with ⟨hb55, hF⟩ | ⟨hb55, hF⟩
    · refine aw_cond_t rfl hb55 ?_
      refine aw_skip ?_
      refine post_next ?_
      refine aw_block ?_
      refine aw_seq ?_
      refine aw_region ?_
      iterate 2 (refine rmv ?_)
      refine rgp (op_lit (rows := List.map eI ([x26] : List Int)) (zs := [.int .i64 0]) rfl rfl Tryd_slc_104 Tryd_zer_3 (by exact ⟨rfl, trivial⟩) rfl rfl rfl rfl rfl rfl rfl rfl) ?_
      obtain ⟨u58, h59, hF⟩ := bind_some hF
      refine rgp (op_append 1 rfl rfl rfl rfl rfl Tryd_slc_104 Tryd_elm_3 Tryd_zer_3 rfl rfl rfl (room_map (f := eI) (g := eI) h59) (List.map_append (f := eI) (l₁ := x25) (l₂ := [x26])).symm rfl rfl) ?_
      refine ras ?_
      refine reg_nil ?_
      refine post_imp (s' := ⟨37, [(0, some (.pv (.vs 7 (List.map eGClass a0)))), (5, some (.ls 0)), (6, some (.pv (.int .i64 x26)))], [(0, some (.row 3 1 (List.map eI (x25 ++ [x26]))))], 1, [], [], 0, []⟩) (imps [1] ⟨by kernel_rfl, by kernel_rfl, by kernel_rfl, trivial⟩ ⟨by kernel_rfl, trivial⟩) ?_
      refine post_next ?_
      iterate 2 (refine aw_seq ?_)
      refine aw_region ?_
      iterate 2 (refine rmv ?_)
      obtain ⟨y62, h63, hF⟩ := bind_some hF
      refine rgp (op_index_vs (k := .i64) rfl rfl rfl (idx_map eGClass h63) Tryd_slc_58 rfl rfl) ?_
      refine rgp (op_field_vp rfl rfl Tryd_fld_39_2 rfl rfl) ?_
      refine rgp (op_load_vp (p := .str y62.fSuper) rfl rfl rfl Tryd_one_9 rfl rfl) ?_
      refine rgp (op_str rfl rfl rfl rfl rfl rfl) ?_
      refine reg_nil ?_
      refine post_imp (s' := ⟨37, [(0, some (.pv (.vs 7 (List.map eGClass a0)))), (5, some (.ls 0)), (6, some (.pv (.int .i64 x26))), (27, some (.pv (.bool (y62.fSuper == []))))], [(0, some (.row 3 1 (List.map eI (x25 ++ [x26]))))], 1, [], [], 0, []⟩) (imps [0] ⟨by kernel_rfl, by kernel_rfl, by kernel_rfl, by kernel_rfl, trivial⟩ ⟨by kernel_rfl, trivial⟩) ?_
      refine post_next ?_
      rcases ite_some hF with ⟨hb64, hF⟩ | ⟨hb64, hF⟩
      · refine aw_cond_t rfl hb64 ?_
        refine aw_seq ?_
        refine aw_region ?_
        refine rmv ?_
        refine ras ?_
        refine reg_nil ?_
        refine post_imp (s' := ⟨37, [(4, some (.ls 0))], [(0, some (.row 3 1 (List.map eI (x25 ++ [x26]))))], 1, [], [], 0, []⟩) (imps [0] ⟨by kernel_rfl, trivial⟩ ⟨by kernel_rfl, trivial⟩) ?_
        refine post_next ?_
        refine aw_ret ?_
        refine post_then_ret ?_
        refine post_block_ret ?_
        refine post_then_ret ?_
        refine post_lp_ret ?_
        obtain rfl := Option.some.inj hF
        have hF := elim_stop hK73
        refine post_then_ret ?_
        obtain rfl := Option.some.inj hF
        exact post_ret rfl rfl (.cons _ _ _ _ _ (.tmp _ _ rfl) (.own _ _ _ _ rfl nolent3) .nil) (.inl rfl)
      refine aw_cond_f rfl hb64 ?_
      refine aw_skip ?_
      refine post_next ?_
      refine aw_region ?_
      iterate 3 (refine rmv ?_)
      obtain ⟨y65, h66, hF⟩ := bind_some hF
      refine rgp (op_index_vs (k := .i64) rfl rfl rfl (idx_map eGClass h66) Tryd_slc_58 rfl rfl) ?_
      refine rgp (op_field_vp rfl rfl Tryd_fld_39_2 rfl rfl) ?_
      refine rgp (op_load_vp (p := .str y65.fSuper) rfl rfl rfl Tryd_one_9 rfl rfl) ?_
      obtain ⟨y67, h68, hF⟩ := bind_some hF
      refine rgp (op_call 1 rfl (caps := []) (args := [.vs 7 (List.map eGClass a0), .str y65.fSuper]) (rs := [.p (.int .i64 y67)]) rfl rfl rfl Tryd_cal_76 (ref13_Find_ok h68) rfl rfl rfl) ?_
      refine ras ?_
      refine reg_nil ?_
      refine post_imp (s' := ⟨37, [(0, some (.pv (.vs 7 (List.map eGClass a0)))), (5, some (.ls 0)), (6, some (.pv (.int .i64 y67)))], [(0, some (.row 3 1 (List.map eI (x25 ++ [x26]))))], 1, [], [], 0, []⟩) (imps [0] ⟨by kernel_rfl, by kernel_rfl, by kernel_rfl, trivial⟩ ⟨by kernel_rfl, trivial⟩) ?_
      refine post_block_normal ?_
      refine post_round ?_
      exact rnd_back (ih ((x25 ++ [x26]), y67) hF) (imps [0] ⟨by kernel_rfl, by kernel_rfl, by kernel_rfl, trivial⟩ ⟨by kernel_rfl, trivial⟩)
    refine aw_cond_f rfl hb55 ?_
    refine aw_exit ?_
    iterate 2 (refine post_then_exit ?_)
    obtain rfl := Option.some.inj hF
    exact post_lp_break _ ⟨_, rfl, rfl⟩ (imps [0] ⟨by kernel_rfl, trivial⟩ ⟨by kernel_rfl, trivial⟩)
  rintro _ ⟨x71, rfl, rfl⟩
  have hF := elim_next hK73
  clear hK73
  refine post_next ?_
  refine aw_seq ?_
  refine aw_region ?_
  refine rmv ?_
  refine ras ?_
  refine reg_nil ?_
  refine post_imp (s' := ⟨37, [(4, some (.ls 0))], [(0, some (.row 3 1 (List.map eI x71)))], 1, [], [], 0, []⟩) (imps [0] ⟨by kernel_rfl, trivial⟩ ⟨by kernel_rfl, trivial⟩) ?_
  refine post_next ?_
  refine aw_ret ?_
  obtain rfl := Option.some.inj hF
  exact post_ret rfl rfl (.cons _ _ _ _ _ (.tmp _ _ rfl) (.own _ _ _ _ rfl nolent3) .nil) (.inl rfl)
theorem ref14_Below_ok {a0 : List GClass} {a1 : List UInt8} {a2 : List UInt8} {r : Bool} (hF : ref14_Below a0 a1 a2 = some r) : Abs.Fn globs_Tryd Tryd.prog 54 [.vs 7 (List.map eGClass a0), .str a1, .str a2] [.p (.bool r)] := by
  unfold ref14_Below at hF
  refine fn_of_body (n := 20) Tryd.func54 rfl rfl rfl ?_
  intro w O
  refine aw_seq ?_
  refine aw_region ?_
  refine ras ?_
  refine reg_nil ?_
  refine post_imp (s' := ⟨20, [(0, some (.pv (.vs 7 (List.map eGClass a0)))), (1, some (.pv (.str a1))), (2, some (.pv (.str a2)))], [], 0, [], [], 0, []⟩) (imps [] ⟨by kernel_rfl, by kernel_rfl, by kernel_rfl, trivial⟩ trivial) ?_
  refine post_next ?_
  refine aw_seq ?_
  refine aw_region ?_
  iterate 2 (refine rmv ?_)
  obtain ⟨y3, h4, hF⟩ := bind_some hF
  refine rgp (op_call 0 rfl (caps := []) (args := [.vs 7 (List.map eGClass a0), .str a2]) (rs := [.p (.int .i64 y3)]) rfl rfl rfl Tryd_cal_76 (ref13_Find_ok h4) rfl rfl rfl) ?_
  refine ras ?_
  refine reg_nil ?_
  refine post_imp (s' := ⟨20, [(0, some (.pv (.vs 7 (List.map eGClass a0)))), (1, some (.pv (.str a1))), (7, some (.pv (.int .i64 y3)))], [], 0, [], [], 0, []⟩) (imps [] ⟨by kernel_rfl, by kernel_rfl, by kernel_rfl, trivial⟩ trivial) ?_
  refine post_next ?_
  refine aw_seq ?_
  refine aw_region ?_
  refine rmv ?_
  refine rgp (op_int (k := .i64) (m := y3) (n := 0) rfl rfl rfl rfl rfl rfl) ?_
  refine rmv ?_
  rcases ite_some hF with ⟨hb5, hF⟩ | ⟨hb5, hF⟩
  · refine rgn hb5 (op_move rfl rfl rfl rfl) ?_
    refine rgn hb5 (op_move rfl rfl rfl rfl) ?_
    obtain ⟨y6, h7, hF⟩ := bind_some hF
    refine rgn hb5 (op_call 0 rfl (caps := []) (args := [.vs 7 (List.map eGClass a0), .str a1]) (rs := [.p (.vs 1 (List.map eI y6))]) rfl rfl rfl Tryd_cal_78 (Fn.frozen (ref14_Chain_ok h7)) rfl rfl rfl) ?_
    refine rgn hb5 (op_move rfl rfl rfl rfl) ?_
    obtain ⟨y8, h9, hF⟩ := bind_some hF
    refine rgn hb5 (op_call 0 rfl (caps := []) (args := [.vs 1 (List.map eI y6), .int .i64 y3]) (rs := [.p (.bool y8)]) rfl rfl rfl Tryd_cal_77 (ref14_has_ok h9) rfl rfl rfl) ?_
    refine rpt hb5 ?_
    refine ras ?_
    refine reg_nil ?_
    refine post_imp (s' := ⟨20, [(6, some (.pv (.bool y8)))], [], 0, [], [], 0, []⟩) (imps [] ⟨by kernel_rfl, trivial⟩ trivial) ?_
    refine post_next ?_
    refine aw_ret ?_
    obtain rfl := Option.some.inj hF
    exact prt
  iterate 5 (refine rgo_f hb5 ?_)
  refine rpf hb5 ?_
  refine ras ?_
  refine reg_nil ?_
  refine post_imp (s' := ⟨20, [(6, some (.pv (.bool false)))], [], 0, [], [], 0, []⟩) (imps [] ⟨by kernel_rfl, trivial⟩ trivial) ?_
  refine post_next ?_
  refine aw_ret ?_
  obtain rfl := Option.some.inj hF
  exact prt
theorem ref19_Fits_ok {a0 : List GClass} {a1 : GType} {a2 : GType} {r : Int} (hF : ref19_Fits a0 a1 a2 = some r) : Abs.Fn globs_Tryd Tryd.prog 29 [.vs 7 (List.map eGClass a0), .agg (eGType a1), .agg (eGType a2)] [.p (.int .i64 r)] := by
  unfold ref19_Fits at hF
  refine fn_of_body (n := 65) Tryd.func29 rfl rfl rfl ?_
  intro w O
  refine aw_seq ?_
  refine aw_region ?_
  refine rgp (op_box 0 rfl rfl rfl rfl rfl rfl) ?_
  refine rgp (op_box 1 rfl rfl rfl rfl rfl rfl) ?_
  refine ras ?_
  refine reg_nil ?_
  refine post_imp (s' := ⟨65, [(0, some (.pv (.vs 7 (List.map eGClass a0)))), (4, some (.lp 0 0)), (5, some (.lp 1 0))], [(0, some (.box 26 (bxv (eGType a1)))), (1, some (.box 26 (bxv (eGType a2))))], 2, [], [], 0, []⟩) (imps [0, 1] ⟨by kernel_rfl, by kernel_rfl, by kernel_rfl, trivial⟩ ⟨by kernel_rfl, by kernel_rfl, trivial⟩) ?_
  refine post_next ?_
  refine aw_seq ?_
  refine dr_start ⟨_, _, _⟩ rfl ?_
  refine dr_cons { need := [(4, .lp 0 0)], hneed := [(0, .box 26 (bxv (eGType a1)))], dst := some 10, val := some (.pv (.agg (eGType a1))) } (fun m h => step_on (guard_no rfl) (op_load_lp_agg (ps := eGType a1) rfl h.1.1 h.2.1.1 rfl rfl rfl Tryd_agg_26 rfl rfl) rfl) ⟨⟨rfl, trivial⟩, ⟨rfl, trivial⟩, trivial⟩ ?_
  obtain ⟨y5, h6, hF⟩ := bind_some hF
  refine dr_cons { need := [(10, .pv (.agg (eGType a1)))], dst := some 11, val := some (.pv (.bool y5)) } (fun m h => step_on (guard_no rfl) (op_call 2 rfl (caps := []) (args := [.agg (eGType a1)]) (rs := [.p (.bool y5)]) rfl rfl (evl_cons h.1.1 evl_nil) Tryd_cal_25 (ref05_Unique_ok h6) rfl rfl rfl) rfl) ⟨⟨rfl, trivial⟩, trivial, trivial⟩ ?_
  refine dr_cons { need := [(5, .lp 1 0)], hneed := [(1, .box 26 (bxv (eGType a2)))], dst := some 12, val := some (.pv (.agg (eGType a2))) } (fun m h => step_on (guard_no rfl) (op_load_lp_agg (ps := eGType a2) rfl h.1.1 h.2.1.1 rfl rfl rfl Tryd_agg_26 rfl rfl) rfl) ⟨⟨rfl, trivial⟩, ⟨rfl, trivial⟩, trivial⟩ ?_
  obtain ⟨y7, h8, hF⟩ := bind_some hF
  refine dr_cons { need := [(12, .pv (.agg (eGType a2)))], dst := some 13, val := some (.pv (.bool y7)) } (fun m h => step_on (guard_no rfl) (op_call 2 rfl (caps := []) (args := [.agg (eGType a2)]) (rs := [.p (.bool y7)]) rfl rfl (evl_cons h.1.1 evl_nil) Tryd_cal_25 (ref05_Unique_ok h8) rfl rfl rfl) rfl) ⟨⟨rfl, trivial⟩, trivial, trivial⟩ ?_
  refine dr_cons { need := [(11, .pv (.bool y5))], dst := some 7, val := some (.pv (.bool y5)) } (fun m h => step_on (guard_no rfl) (op_assign rfl h.1.1 rfl rfl) rfl) ⟨⟨rfl, trivial⟩, trivial, trivial⟩ ?_
  refine dr_cons { need := [(13, .pv (.bool y7))], dst := some 8, val := some (.pv (.bool y7)) } (fun m h => step_on (guard_no rfl) (op_assign rfl h.1.1 rfl rfl) rfl) ⟨⟨rfl, trivial⟩, trivial, trivial⟩ ?_
  refine dr_nil Tryd_mixed rfl (by kernel_rfl) ?_
  refine post_imp (s' := ⟨65, [(0, some (.pv (.vs 7 (List.map eGClass a0)))), (4, some (.lp 0 0)), (5, some (.lp 1 0)), (7, some (.pv (.bool y5))), (8, some (.pv (.bool y7)))], [(0, some (.box 26 (bxv (eGType a1)))), (1, some (.box 26 (bxv (eGType a2))))], 2, [], [], 0, []⟩) (imps [0, 1] ⟨by kernel_rfl, by kernel_rfl, by kernel_rfl, by kernel_rfl, by kernel_rfl, trivial⟩ ⟨by kernel_rfl, by kernel_rfl, trivial⟩) ?_
  refine post_next ?_
  refine aw_seq ?_
  obtain ⟨x10, hF, hK12⟩ := bind_some hF
  refine aw_cut (fun s1 => s1 = ⟨65, [(0, some (.pv (.vs 7 (List.map eGClass a0)))), (4, some (.lp 0 0)), (5, some (.lp 1 0)), (7, some (.pv (.bool y5))), (8, some (.pv (.bool y7))), (9, some (.pv (.bool x10)))], [(0, some (.box 26 (bxv (eGType a1)))), (1, some (.box 26 (bxv (eGType a2))))], 2, [], [], 0, []⟩) ?_ ?_
  · refine aw_region ?_
    refine rgp (op_field_lp rfl rfl Tryd_fld_26_0 rfl rfl) ?_
    refine rgp (op_load_lp (v := .pv (.int .i64 a1.fKind)) rfl rfl rfl rfl Tryd_one_3 rfl rfl) ?_
    refine rgp (op_int (k := .i64) (m := a1.fKind) (n := 2) rfl rfl rfl rfl rfl rfl) ?_
    refine rmv ?_
    rcases ite_some hF with ⟨hb9, hF⟩ | ⟨hb9, hF⟩
    · refine rgn hb9 (op_field_lp rfl rfl Tryd_fld_26_0 rfl rfl) ?_
      refine rgn hb9 (op_load_lp (v := .pv (.int .i64 a2.fKind)) rfl rfl rfl rfl Tryd_one_3 rfl rfl) ?_
      refine rgn hb9 (op_int (k := .i64) (m := a2.fKind) (n := 2) rfl rfl rfl rfl rfl rfl) ?_
      refine rpt hb9 ?_
      refine ras ?_
      refine reg_nil ?_
      cases hF
      exact post_cut _ rfl (imps [0, 1] ⟨by kernel_rfl, by kernel_rfl, by kernel_rfl, by kernel_rfl, by kernel_rfl, by kernel_rfl, trivial⟩ ⟨by kernel_rfl, by kernel_rfl, trivial⟩)
    iterate 3 (refine rgo_f hb9 ?_)
    refine rpf hb9 ?_
    refine ras ?_
    refine reg_nil ?_
    cases hF
    exact post_cut _ rfl (imps [0, 1] ⟨by kernel_rfl, by kernel_rfl, by kernel_rfl, by kernel_rfl, by kernel_rfl, by kernel_rfl, trivial⟩ ⟨by kernel_rfl, by kernel_rfl, trivial⟩)
  rintro _ rfl
  have hF := hK12
  clear hK12
  refine post_next ?_
  iterate 2 (refine aw_seq ?_)
  obtain ⟨x17, hF, hK19⟩ := bind_some hF
  refine aw_cut (fun s1 => s1 = ⟨65, [(0, some (.pv (.vs 7 (List.map eGClass a0)))), (4, some (.lp 0 0)), (5, some (.lp 1 0)), (7, some (.pv (.bool y5))), (8, some (.pv (.bool y7))), (9, some (.pv (.bool x10))), (39, some (.pv (.bool x17)))], [(0, some (.box 26 (bxv (eGType a1)))), (1, some (.box 26 (bxv (eGType a2))))], 2, [], [], 0, []⟩) ?_ ?_
  · refine aw_region ?_
    refine rgp (op_field_lp rfl rfl Tryd_fld_26_0 rfl rfl) ?_
    refine rgp (op_load_lp (v := .pv (.int .i64 a1.fKind)) rfl rfl rfl rfl Tryd_one_3 rfl rfl) ?_
    refine rgp (op_int (k := .i64) (m := a1.fKind) (n := 1) rfl rfl rfl rfl rfl rfl) ?_
    refine rmv ?_
    rcases ite_some hF with ⟨hb13, hF⟩ | ⟨hb13, hF⟩
    · refine rgn hb13 (op_field_lp rfl rfl Tryd_fld_26_0 rfl rfl) ?_
      refine rgn hb13 (op_load_lp (v := .pv (.int .i64 a2.fKind)) rfl rfl rfl rfl Tryd_one_3 rfl rfl) ?_
      refine rgn hb13 (op_int (k := .i64) (m := a2.fKind) (n := 1) rfl rfl rfl rfl rfl rfl) ?_
      refine rpt hb13 ?_
      refine rmv ?_
      rcases ite_some hF with ⟨hb14, hF⟩ | ⟨hb14, hF⟩
      · refine rgo_t hb14 ?_
        iterate 3 (refine rgo_t hb14 ?_)
        iterate 3 (refine rgu ?_)
        refine rgo_t hb14 ?_
        refine rpt hb14 ?_
        refine reg_nil ?_
        cases hF
        exact post_cut _ rfl (imps [0, 1] ⟨by kernel_rfl, by kernel_rfl, by kernel_rfl, by kernel_rfl, by kernel_rfl, by kernel_rfl, by kernel_rfl, trivial⟩ ⟨by kernel_rfl, by kernel_rfl, trivial⟩)
      refine rgn hb14 (op_field_lp rfl rfl Tryd_fld_26_0 rfl rfl) ?_
      refine rgn hb14 (op_load_lp (v := .pv (.int .i64 a1.fKind)) rfl rfl rfl rfl Tryd_one_3 rfl rfl) ?_
      refine rgn hb14 (op_int (k := .i64) (m := a1.fKind) (n := 3) rfl rfl rfl rfl rfl rfl) ?_
      refine rgn hb14 (op_move rfl rfl rfl rfl) ?_
      rcases ite_some hF with ⟨hb15, hF⟩ | ⟨hb15, hF⟩
      · refine rgn hb15 (op_field_lp rfl rfl Tryd_fld_26_0 rfl rfl) ?_
        refine rgn hb15 (op_load_lp (v := .pv (.int .i64 a2.fKind)) rfl rfl rfl rfl Tryd_one_3 rfl rfl) ?_
        refine rgn hb15 (op_int (k := .i64) (m := a2.fKind) (n := 2) rfl rfl rfl rfl rfl rfl) ?_
        refine rgn hb14 (op_pick_t rfl rfl hb15 rfl rfl rfl) ?_
        refine rpf hb14 ?_
        refine reg_nil ?_
        cases hF
        exact post_cut _ rfl (imps [0, 1] ⟨by kernel_rfl, by kernel_rfl, by kernel_rfl, by kernel_rfl, by kernel_rfl, by kernel_rfl, by kernel_rfl, trivial⟩ ⟨by kernel_rfl, by kernel_rfl, trivial⟩)
      iterate 3 (refine rgo_f hb15 ?_)
      refine rgn hb14 (op_pick_f rfl rfl hb15 rfl rfl rfl) ?_
      refine rpf hb14 ?_
      refine reg_nil ?_
      cases hF
      exact post_cut _ rfl (imps [0, 1] ⟨by kernel_rfl, by kernel_rfl, by kernel_rfl, by kernel_rfl, by kernel_rfl, by kernel_rfl, by kernel_rfl, trivial⟩ ⟨by kernel_rfl, by kernel_rfl, trivial⟩)
    iterate 3 (refine rgo_f hb13 ?_)
    refine rpf hb13 ?_
    refine rmv ?_
    refine rgn rfl (op_field_lp rfl rfl Tryd_fld_26_0 rfl rfl) ?_
    refine rgn rfl (op_load_lp (v := .pv (.int .i64 a1.fKind)) rfl rfl rfl rfl Tryd_one_3 rfl rfl) ?_
    refine rgn rfl (op_int (k := .i64) (m := a1.fKind) (n := 3) rfl rfl rfl rfl rfl rfl) ?_
    refine rgn rfl (op_move rfl rfl rfl rfl) ?_
    rcases ite_some hF with ⟨hb16, hF⟩ | ⟨hb16, hF⟩
    · refine rgn hb16 (op_field_lp rfl rfl Tryd_fld_26_0 rfl rfl) ?_
      refine rgn hb16 (op_load_lp (v := .pv (.int .i64 a2.fKind)) rfl rfl rfl rfl Tryd_one_3 rfl rfl) ?_
      refine rgn hb16 (op_int (k := .i64) (m := a2.fKind) (n := 2) rfl rfl rfl rfl rfl rfl) ?_
      refine rgn rfl (op_pick_t rfl rfl hb16 rfl rfl rfl) ?_
      refine rpf rfl ?_
      refine reg_nil ?_
      cases hF
      exact post_cut _ rfl (imps [0, 1] ⟨by kernel_rfl, by kernel_rfl, by kernel_rfl, by kernel_rfl, by kernel_rfl, by kernel_rfl, by kernel_rfl, trivial⟩ ⟨by kernel_rfl, by kernel_rfl, trivial⟩)
    iterate 3 (refine rgo_f hb16 ?_)
    refine rgn rfl (op_pick_f rfl rfl hb16 rfl rfl rfl) ?_
    refine rpf rfl ?_
    refine reg_nil ?_
    cases hF
    exact post_cut _ rfl (imps [0, 1] ⟨by kernel_rfl, by kernel_rfl, by kernel_rfl, by kernel_rfl, by kernel_rfl, by kernel_rfl, by kernel_rfl, trivial⟩ ⟨by kernel_rfl, by kernel_rfl, trivial⟩)
  rintro _ rfl
  have hF := hK19
  clear hK19
  refine post_next ?_
  rcases ite_some hF with ⟨hb20, hF⟩ | ⟨hb20, hF⟩
  · refine aw_cond_t rfl hb20 ?_
    refine aw_seq ?_
    refine aw_region ?_
    refine ras ?_
    refine reg_nil ?_
    refine post_imp (s' := ⟨65, [(6, some (.pv (.int .i64 0)))], [], 0, [], [], 0, []⟩) (imps [] ⟨by kernel_rfl, trivial⟩ trivial) ?_
    refine post_next ?_
    refine aw_ret ?_
    refine post_then_ret ?_
    obtain rfl := Option.some.inj hF
    exact prt
  refine aw_cond_f rfl hb20 ?_
  refine aw_skip ?_
  refine post_next ?_
  iterate 2 (refine aw_seq ?_)
  obtain ⟨x26, hF, hK28⟩ := bind_some hF
  refine aw_cut (fun s1 => s1 = ⟨65, [(7, some (.pv (.bool y5))), (8, some (.pv (.bool y7))), (9, some (.pv (.bool x10))), (56, some (.pv (.bool x26)))], [], 0, [], [], 0, []⟩) ?_ ?_
  · refine aw_region ?_
    iterate 2 (refine rmv ?_)
    rcases ite_some hF with ⟨hb21, hF⟩ | ⟨hb21, hF⟩
    · refine rgn hb21 (op_move rfl rfl rfl rfl) ?_
      refine rgn hb21 (op_not rfl rfl rfl rfl) ?_
      refine rpt hb21 ?_
      refine rmv ?_
      rcases ite_some hF with ⟨hb22, hF⟩ | ⟨hb22, hF⟩
      · refine rgn hb22 (op_move rfl rfl rfl rfl) ?_
        refine rgn hb22 (op_not rfl rfl rfl rfl) ?_
        refine rpt hb22 ?_
        refine rmv ?_
        rcases ite_some hF with ⟨hb23, hF⟩ | ⟨hb23, hF⟩
        · refine rgn hb23 (op_move rfl rfl rfl rfl) ?_
          refine rgn hb23 (op_field_lp rfl rfl Tryd_fld_26_1 rfl rfl) ?_
          refine rgn hb23 (op_load_lp (v := .pv (.str a1.fClass)) rfl rfl rfl rfl Tryd_one_9 rfl rfl) ?_
          refine rgn hb23 (op_field_lp rfl rfl Tryd_fld_26_1 rfl rfl) ?_
          refine rgn hb23 (op_load_lp (v := .pv (.str a2.fClass)) rfl rfl rfl rfl Tryd_one_9 rfl rfl) ?_
          obtain ⟨y24, h25, hF⟩ := bind_some hF
          refine rgn hb23 (op_call 2 rfl (caps := []) (args := [.vs 7 (List.map eGClass a0), .str a1.fClass, .str a2.fClass]) (rs := [.p (.bool y24)]) rfl rfl rfl Tryd_cal_54 (ref14_Below_ok h25) rfl rfl rfl) ?_
          refine rpt hb23 ?_
          refine reg_nil ?_
          cases hF
          exact post_cut _ rfl (imps [] ⟨by kernel_rfl, by kernel_rfl, by kernel_rfl, by kernel_rfl, trivial⟩ trivial)
        iterate 6 (refine rgo_f hb23 ?_)
        refine rpf hb23 ?_
        refine reg_nil ?_
        cases hF
        exact post_cut _ rfl (imps [] ⟨by kernel_rfl, by kernel_rfl, by kernel_rfl, by kernel_rfl, trivial⟩ trivial)
      iterate 2 (refine rgo_f hb22 ?_)
      refine rpf hb22 ?_
      refine rmv ?_
      iterate 6 (refine rgo_f rfl ?_)
      refine rpf rfl ?_
      refine reg_nil ?_
      cases hF
      exact post_cut _ rfl (imps [] ⟨by kernel_rfl, by kernel_rfl, by kernel_rfl, by kernel_rfl, trivial⟩ trivial)
    iterate 2 (refine rgo_f hb21 ?_)
    refine rpf hb21 ?_
    refine rmv ?_
    iterate 2 (refine rgo_f rfl ?_)
    refine rpf rfl ?_
    refine rmv ?_
    iterate 6 (refine rgo_f rfl ?_)
    refine rpf rfl ?_
    refine reg_nil ?_
    cases hF
    exact post_cut _ rfl (imps [] ⟨by kernel_rfl, by kernel_rfl, by kernel_rfl, by kernel_rfl, trivial⟩ trivial)
  rintro _ rfl
  have hF := hK28
  clear hK28
  refine post_next ?_
  rcases ite_some hF with ⟨hb29, hF⟩ | ⟨hb29, hF⟩
  · refine aw_cond_t rfl hb29 ?_
    refine aw_seq ?_
    refine aw_region ?_
    refine ras ?_
    refine reg_nil ?_
    refine post_imp (s' := ⟨65, [(6, some (.pv (.int .i64 0)))], [], 0, [], [], 0, []⟩) (imps [] ⟨by kernel_rfl, trivial⟩ trivial) ?_
    refine post_next ?_
    refine aw_ret ?_
    refine post_then_ret ?_
    obtain rfl := Option.some.inj hF
    exact prt
  refine aw_cond_f rfl hb29 ?_
  refine aw_skip ?_
  refine post_next ?_
  iterate 2 (refine aw_seq ?_)
  obtain ⟨x32, hF, hK34⟩ := bind_some hF
  refine aw_cut (fun s1 => s1 = ⟨65, [(9, some (.pv (.bool x10))), (63, some (.pv (.bool x32)))], [], 0, [], [], 0, []⟩) ?_ ?_
  · refine aw_region ?_
    iterate 2 (refine rmv ?_)
    rcases ite_some hF with ⟨hb30, hF⟩ | ⟨hb30, hF⟩
    · refine rgn hb30 (op_move rfl rfl rfl rfl) ?_
      refine rgn hb30 (op_move rfl rfl rfl rfl) ?_
      rcases ite_some hF with ⟨hb31, hF⟩ | ⟨hb31, hF⟩
      · refine rgo_t hb31 ?_
        refine rgn hb30 (op_pick_t rfl rfl hb31 rfl rfl rfl) ?_
        refine rpt hb30 ?_
        refine reg_nil ?_
        cases hF
        exact post_cut _ rfl (imps [] ⟨by kernel_rfl, by kernel_rfl, trivial⟩ trivial)
      refine rgn hb31 (op_move rfl rfl rfl rfl) ?_
      refine rgn hb30 (op_pick_f rfl rfl hb31 rfl rfl rfl) ?_
      refine rpt hb30 ?_
      refine reg_nil ?_
      cases hF
      exact post_cut _ rfl (imps [] ⟨by kernel_rfl, by kernel_rfl, trivial⟩ trivial)
    iterate 2 (refine rgo_f hb30 ?_)
    refine rgu ?_
    refine rgo_f hb30 ?_
    refine rpf hb30 ?_
    refine reg_nil ?_
    cases hF
    exact post_cut _ rfl (imps [] ⟨by kernel_rfl, by kernel_rfl, trivial⟩ trivial)
  rintro _ rfl
  have hF := hK34
  clear hK34
  refine post_next ?_
  rcases ite_some hF with ⟨hb35, hF⟩ | ⟨hb35, hF⟩
  · refine aw_cond_t rfl hb35 ?_
    refine aw_seq ?_
    refine aw_region ?_
    refine ras ?_
    refine reg_nil ?_
    refine post_imp (s' := ⟨65, [(6, some (.pv (.int .i64 22)))], [], 0, [], [], 0, []⟩) (imps [] ⟨by kernel_rfl, trivial⟩ trivial) ?_
    refine post_next ?_
    refine aw_ret ?_
    refine post_then_ret ?_
    obtain rfl := Option.some.inj hF
    exact prt
  refine aw_cond_f rfl hb35 ?_
  refine aw_skip ?_
  refine post_next ?_
  iterate 2 (refine aw_seq ?_)
  refine aw_region ?_
  refine rmv ?_
  refine reg_nil ?_
  refine post_imp (s' := ⟨65, [(64, some (.pv (.bool x10)))], [], 0, [], [], 0, []⟩) (imps [] ⟨by kernel_rfl, trivial⟩ trivial) ?_
  refine post_next ?_
  rcases ite_some hF with ⟨hb36, hF⟩ | ⟨hb36, hF⟩
  · refine aw_cond_t rfl hb36 ?_
    refine aw_seq ?_
    refine aw_region ?_
    refine ras ?_
    refine reg_nil ?_
    refine post_imp (s' := ⟨65, [(6, some (.pv (.int .i64 15)))], [], 0, [], [], 0, []⟩) (imps [] ⟨by kernel_rfl, trivial⟩ trivial) ?_
    refine post_next ?_
    refine aw_ret ?_
    refine post_then_ret ?_
    obtain rfl := Option.some.inj hF
    exact prt
  refine aw_cond_f rfl hb36 ?_
  refine aw_skip ?_
  refine post_next ?_
  refine aw_seq ?_
  refine aw_region ?_
  refine ras ?_
  refine reg_nil ?_
  refine post_imp (s' := ⟨65, [(6, some (.pv (.int .i64 14)))], [], 0, [], [], 0, []⟩) (imps [] ⟨by kernel_rfl, trivial⟩ trivial) ?_
  refine post_next ?_
  refine aw_ret ?_
  obtain rfl := Option.some.inj hF
  exact prt
theorem shape_Gives_ok {a0 : List GClass} {a1 : GType} {a2 : GType} {r : Int} (hF : shape_Gives a0 a1 a2 = some r) : Abs.Fn globs_Tryd Tryd.prog 30 [.vs 7 (List.map eGClass a0), .agg (eGType a1), .agg (eGType a2)] [.p (.int .i64 r)] := by
  unfold shape_Gives at hF
  refine fn_of_body (n := 26) Tryd.func30 rfl rfl rfl ?_
  intro w O
  refine aw_seq ?_
  refine aw_region ?_
  refine rgp (op_box 0 rfl rfl rfl rfl rfl rfl) ?_
  refine rgp (op_box 1 rfl rfl rfl rfl rfl rfl) ?_
  refine ras ?_
  refine reg_nil ?_
  refine post_imp (s' := ⟨26, [(0, some (.pv (.vs 7 (List.map eGClass a0)))), (4, some (.lp 0 0)), (5, some (.lp 1 0))], [(0, some (.box 26 (bxv (eGType a1)))), (1, some (.box 26 (bxv (eGType a2))))], 2, [], [], 0, []⟩) (imps [0, 1] ⟨by kernel_rfl, by kernel_rfl, by kernel_rfl, trivial⟩ ⟨by kernel_rfl, by kernel_rfl, trivial⟩) ?_
  refine post_next ?_
  refine aw_seq ?_
  refine aw_block ?_
  refine aw_seq ?_
  obtain ⟨x2, hF, hK4⟩ := bind_some hF
  refine aw_cut (fun s1 => s1 = ⟨26, [(0, some (.pv (.vs 7 (List.map eGClass a0)))), (4, some (.lp 0 0)), (5, some (.lp 1 0)), (7, some (.pv (.bool x2)))], [(0, some (.box 26 (bxv (eGType a1)))), (1, some (.box 26 (bxv (eGType a2))))], 2, [], [], 0, []⟩) ?_ ?_
  · refine aw_seq ?_
    refine aw_region ?_
    refine rgp (op_field_lp rfl rfl Tryd_fld_26_0 rfl rfl) ?_
    refine rgp (op_load_lp (v := .pv (.int .i64 a1.fKind)) rfl rfl rfl rfl Tryd_one_3 rfl rfl) ?_
    refine rgp (op_int (k := .i64) (m := a1.fKind) (n := 2) rfl rfl rfl rfl rfl rfl) ?_
    refine ras ?_
    refine reg_nil ?_
    refine post_imp (s' := ⟨26, [(0, some (.pv (.vs 7 (List.map eGClass a0)))), (4, some (.lp 0 0)), (5, some (.lp 1 0)), (7, some (.pv (.bool (a1.fKind != 2))))], [(0, some (.box 26 (bxv (eGType a1)))), (1, some (.box 26 (bxv (eGType a2))))], 2, [], [], 0, []⟩) (imps [0, 1] ⟨by kernel_rfl, by kernel_rfl, by kernel_rfl, by kernel_rfl, trivial⟩ ⟨by kernel_rfl, by kernel_rfl, trivial⟩) ?_
    refine post_next ?_
    rcases ite_some hF with ⟨hb1, hF⟩ | ⟨hb1, hF⟩
    · refine aw_cond_t rfl hb1 ?_
      refine aw_skip ?_
      cases hF
      exact post_cut _ rfl (imps [0, 1] ⟨by kernel_rfl, by kernel_rfl, by kernel_rfl, by kernel_rfl, trivial⟩ ⟨by kernel_rfl, by kernel_rfl, trivial⟩)
    refine aw_cond_f rfl hb1 ?_
    refine aw_region ?_
    refine rgp (op_field_lp rfl rfl Tryd_fld_26_0 rfl rfl) ?_
    refine rgp (op_load_lp (v := .pv (.int .i64 a2.fKind)) rfl rfl rfl rfl Tryd_one_3 rfl rfl) ?_
    refine rgp (op_int (k := .i64) (m := a2.fKind) (n := 2) rfl rfl rfl rfl rfl rfl) ?_
    refine ras ?_
    refine reg_nil ?_
    cases hF
    exact post_cut _ rfl (imps [0, 1] ⟨by kernel_rfl, by kernel_rfl, by kernel_rfl, by kernel_rfl, trivial⟩ ⟨by kernel_rfl, by kernel_rfl, trivial⟩)
  rintro _ rfl
  have hF := hK4
  clear hK4
  refine post_next ?_
  rcases ite_some hF with ⟨hb5, hF⟩ | ⟨hb5, hF⟩
  · refine aw_cond_t rfl hb5 ?_
    refine aw_seq ?_
    refine aw_region ?_
    refine ras ?_
    refine reg_nil ?_
    refine post_imp (s' := ⟨26, [(6, some (.pv (.int .i64 14)))], [], 0, [], [], 0, []⟩) (imps [] ⟨by kernel_rfl, trivial⟩ trivial) ?_
    refine post_next ?_
    refine aw_ret ?_
    refine post_block_ret ?_
    refine post_then_ret ?_
    obtain rfl := Option.some.inj hF
    exact prt
  refine aw_cond_f rfl hb5 ?_
  refine aw_seq ?_
  refine aw_region ?_
  refine rgp (op_load_lp_agg (ps := eGType a1) rfl rfl rfl rfl rfl rfl Tryd_agg_26 rfl rfl) ?_
  obtain ⟨y8, h9, hF⟩ := bind_some hF
  refine rgp (op_call 2 rfl (caps := []) (args := [.agg (eGType a1)]) (rs := [.p (.bool y8)]) rfl rfl rfl Tryd_cal_24 (kind_Unique_ok h9) rfl rfl rfl) ?_
  refine rgp (op_not rfl rfl rfl rfl) ?_
  refine ras ?_
  refine reg_nil ?_
  refine post_imp (s' := ⟨26, [(0, some (.pv (.vs 7 (List.map eGClass a0)))), (4, some (.lp 0 0)), (5, some (.lp 1 0)), (14, some (.pv (.bool (!y8))))], [(0, some (.box 26 (bxv (eGType a1)))), (1, some (.box 26 (bxv (eGType a2))))], 2, [], [], 0, []⟩) (imps [0, 1] ⟨by kernel_rfl, by kernel_rfl, by kernel_rfl, by kernel_rfl, trivial⟩ ⟨by kernel_rfl, by kernel_rfl, trivial⟩) ?_
  refine post_next ?_
  rcases ite_some hF with ⟨hb10, hF⟩ | ⟨hb10, hF⟩
  · refine aw_cond_t rfl hb10 ?_
    refine aw_seq ?_
    refine aw_region ?_
    refine ras ?_
    refine reg_nil ?_
    refine post_imp (s' := ⟨26, [(6, some (.pv (.int .i64 22)))], [], 0, [], [], 0, []⟩) (imps [] ⟨by kernel_rfl, trivial⟩ trivial) ?_
    refine post_next ?_
    refine aw_ret ?_
    refine post_block_ret ?_
    refine post_then_ret ?_
    obtain rfl := Option.some.inj hF
    exact prt
  refine aw_cond_f rfl hb10 ?_
  refine aw_seq ?_
  refine aw_region ?_
  refine rmv ?_
  refine rgp (op_field_lp rfl rfl Tryd_fld_26_1 rfl rfl) ?_
  refine rgp (op_load_lp (v := .pv (.str a1.fClass)) rfl rfl rfl rfl Tryd_one_9 rfl rfl) ?_
  refine rgp (op_field_lp rfl rfl Tryd_fld_26_1 rfl rfl) ?_
  refine rgp (op_load_lp (v := .pv (.str a2.fClass)) rfl rfl rfl rfl Tryd_one_9 rfl rfl) ?_
  obtain ⟨y13, h14, hF⟩ := bind_some hF
  refine rgp (op_call 2 rfl (caps := []) (args := [.vs 7 (List.map eGClass a0), .str a1.fClass, .str a2.fClass]) (rs := [.p (.bool y13)]) rfl rfl rfl Tryd_cal_53 (above_Below_ok h14) rfl rfl rfl) ?_
  refine rgp (op_not rfl rfl rfl rfl) ?_
  refine ras ?_
  refine reg_nil ?_
  refine post_imp (s' := ⟨26, [(18, some (.pv (.bool (!y13))))], [], 0, [], [], 0, []⟩) (imps [] ⟨by kernel_rfl, trivial⟩ trivial) ?_
  refine post_next ?_
  rcases ite_some hF with ⟨hb15, hF⟩ | ⟨hb15, hF⟩
  · refine aw_cond_t rfl hb15 ?_
    refine aw_seq ?_
    refine aw_region ?_
    refine ras ?_
    refine reg_nil ?_
    refine post_imp (s' := ⟨26, [(6, some (.pv (.int .i64 15)))], [], 0, [], [], 0, []⟩) (imps [] ⟨by kernel_rfl, trivial⟩ trivial) ?_
    refine post_next ?_
    refine aw_ret ?_
    refine post_block_ret ?_
    refine post_then_ret ?_
    obtain rfl := Option.some.inj hF
    exact prt
  refine aw_cond_f rfl hb15 ?_
  refine aw_skip ?_
  refine post_block_normal ?_
  refine post_next ?_
  refine aw_seq ?_
  refine aw_region ?_
  refine ras ?_
  refine reg_nil ?_
  refine post_imp (s' := ⟨26, [(6, some (.pv (.int .i64 0)))], [], 0, [], [], 0, []⟩) (imps [] ⟨by kernel_rfl, trivial⟩ trivial) ?_
  refine post_next ?_
  refine aw_ret ?_
  obtain rfl := Option.some.inj hF
  exact prt
theorem ref19_Gives_ok {a0 : List GClass} {a1 : GType} {a2 : GType} {r : Int} (hF : ref19_Gives a0 a1 a2 = some r) : Abs.Fn globs_Tryd Tryd.prog 31 [.vs 7 (List.map eGClass a0), .agg (eGType a1), .agg (eGType a2)] [.p (.int .i64 r)] := by
  unfold ref19_Gives at hF
  refine fn_of_body (n := 25) Tryd.func31 rfl rfl rfl ?_
  intro w O
  refine aw_seq ?_
  refine aw_region ?_
  refine rgp (op_box 0 rfl rfl rfl rfl rfl rfl) ?_
  refine rgp (op_box 1 rfl rfl rfl rfl rfl rfl) ?_
  refine ras ?_
  refine reg_nil ?_
  refine post_imp (s' := ⟨25, [(0, some (.pv (.vs 7 (List.map eGClass a0)))), (4, some (.lp 0 0)), (5, some (.lp 1 0))], [(0, some (.box 26 (bxv (eGType a1)))), (1, some (.box 26 (bxv (eGType a2))))], 2, [], [], 0, []⟩) (imps [0, 1] ⟨by kernel_rfl, by kernel_rfl, by kernel_rfl, trivial⟩ ⟨by kernel_rfl, by kernel_rfl, trivial⟩) ?_
  refine post_next ?_
  iterate 2 (refine aw_seq ?_)
  obtain ⟨x2, hF, hK4⟩ := bind_some hF
  refine aw_cut (fun s1 => s1 = ⟨25, [(0, some (.pv (.vs 7 (List.map eGClass a0)))), (4, some (.lp 0 0)), (5, some (.lp 1 0)), (14, some (.pv (.bool x2)))], [(0, some (.box 26 (bxv (eGType a1)))), (1, some (.box 26 (bxv (eGType a2))))], 2, [], [], 0, []⟩) ?_ ?_
  · refine aw_region ?_
    refine rgp (op_field_lp rfl rfl Tryd_fld_26_0 rfl rfl) ?_
    refine rgp (op_load_lp (v := .pv (.int .i64 a1.fKind)) rfl rfl rfl rfl Tryd_one_3 rfl rfl) ?_
    refine rgp (op_int (k := .i64) (m := a1.fKind) (n := 2) rfl rfl rfl rfl rfl rfl) ?_
    refine rmv ?_
    rcases ite_some hF with ⟨hb1, hF⟩ | ⟨hb1, hF⟩
    · refine rgo_t hb1 ?_
      iterate 2 (refine rgo_t hb1 ?_)
      refine rpt hb1 ?_
      refine reg_nil ?_
      cases hF
      exact post_cut _ rfl (imps [0, 1] ⟨by kernel_rfl, by kernel_rfl, by kernel_rfl, by kernel_rfl, trivial⟩ ⟨by kernel_rfl, by kernel_rfl, trivial⟩)
    refine rgn hb1 (op_field_lp rfl rfl Tryd_fld_26_0 rfl rfl) ?_
    refine rgn hb1 (op_load_lp (v := .pv (.int .i64 a2.fKind)) rfl rfl rfl rfl Tryd_one_3 rfl rfl) ?_
    refine rgn hb1 (op_int (k := .i64) (m := a2.fKind) (n := 2) rfl rfl rfl rfl rfl rfl) ?_
    refine rpf hb1 ?_
    refine reg_nil ?_
    cases hF
    exact post_cut _ rfl (imps [0, 1] ⟨by kernel_rfl, by kernel_rfl, by kernel_rfl, by kernel_rfl, trivial⟩ ⟨by kernel_rfl, by kernel_rfl, trivial⟩)
  rintro _ rfl
  have hF := hK4
  clear hK4
  refine post_next ?_
  rcases ite_some hF with ⟨hb5, hF⟩ | ⟨hb5, hF⟩
  · refine aw_cond_t rfl hb5 ?_
    refine aw_seq ?_
    refine aw_region ?_
    refine ras ?_
    refine reg_nil ?_
    refine post_imp (s' := ⟨25, [(6, some (.pv (.int .i64 14)))], [], 0, [], [], 0, []⟩) (imps [] ⟨by kernel_rfl, trivial⟩ trivial) ?_
    refine post_next ?_
    refine aw_ret ?_
    refine post_then_ret ?_
    obtain rfl := Option.some.inj hF
    exact prt
  refine aw_cond_f rfl hb5 ?_
  refine aw_skip ?_
  refine post_next ?_
  iterate 2 (refine aw_seq ?_)
  refine aw_region ?_
  refine rgp (op_load_lp_agg (ps := eGType a1) rfl rfl rfl rfl rfl rfl Tryd_agg_26 rfl rfl) ?_
  obtain ⟨y8, h9, hF⟩ := bind_some hF
  refine rgp (op_call 2 rfl (caps := []) (args := [.agg (eGType a1)]) (rs := [.p (.bool y8)]) rfl rfl rfl Tryd_cal_25 (ref05_Unique_ok h9) rfl rfl rfl) ?_
  refine rgp (op_not rfl rfl rfl rfl) ?_
  refine reg_nil ?_
  refine post_imp (s' := ⟨25, [(0, some (.pv (.vs 7 (List.map eGClass a0)))), (4, some (.lp 0 0)), (5, some (.lp 1 0)), (17, some (.pv (.bool (!y8))))], [(0, some (.box 26 (bxv (eGType a1)))), (1, some (.box 26 (bxv (eGType a2))))], 2, [], [], 0, []⟩) (imps [0, 1] ⟨by kernel_rfl, by kernel_rfl, by kernel_rfl, by kernel_rfl, trivial⟩ ⟨by kernel_rfl, by kernel_rfl, trivial⟩) ?_
  refine post_next ?_
  rcases ite_some hF with ⟨hb10, hF⟩ | ⟨hb10, hF⟩
  · refine aw_cond_t rfl hb10 ?_
    refine aw_seq ?_
    refine aw_region ?_
    refine ras ?_
    refine reg_nil ?_
    refine post_imp (s' := ⟨25, [(6, some (.pv (.int .i64 22)))], [], 0, [], [], 0, []⟩) (imps [] ⟨by kernel_rfl, trivial⟩ trivial) ?_
    refine post_next ?_
    refine aw_ret ?_
    refine post_then_ret ?_
    obtain rfl := Option.some.inj hF
    exact prt
  refine aw_cond_f rfl hb10 ?_
  refine aw_skip ?_
  refine post_next ?_
  iterate 2 (refine aw_seq ?_)
  refine aw_region ?_
  refine rmv ?_
  refine rgp (op_field_lp rfl rfl Tryd_fld_26_1 rfl rfl) ?_
  refine rgp (op_load_lp (v := .pv (.str a1.fClass)) rfl rfl rfl rfl Tryd_one_9 rfl rfl) ?_
  refine rgp (op_field_lp rfl rfl Tryd_fld_26_1 rfl rfl) ?_
  refine rgp (op_load_lp (v := .pv (.str a2.fClass)) rfl rfl rfl rfl Tryd_one_9 rfl rfl) ?_
  obtain ⟨y13, h14, hF⟩ := bind_some hF
  refine rgp (op_call 2 rfl (caps := []) (args := [.vs 7 (List.map eGClass a0), .str a1.fClass, .str a2.fClass]) (rs := [.p (.bool y13)]) rfl rfl rfl Tryd_cal_54 (ref14_Below_ok h14) rfl rfl rfl) ?_
  refine rgp (op_not rfl rfl rfl rfl) ?_
  refine reg_nil ?_
  refine post_imp (s' := ⟨25, [(24, some (.pv (.bool (!y13))))], [], 0, [], [], 0, []⟩) (imps [] ⟨by kernel_rfl, trivial⟩ trivial) ?_
  refine post_next ?_
  rcases ite_some hF with ⟨hb15, hF⟩ | ⟨hb15, hF⟩
  · refine aw_cond_t rfl hb15 ?_
    refine aw_seq ?_
    refine aw_region ?_
    refine ras ?_
    refine reg_nil ?_
    refine post_imp (s' := ⟨25, [(6, some (.pv (.int .i64 15)))], [], 0, [], [], 0, []⟩) (imps [] ⟨by kernel_rfl, trivial⟩ trivial) ?_
    refine post_next ?_
    refine aw_ret ?_
    refine post_then_ret ?_
    obtain rfl := Option.some.inj hF
    exact prt
  refine aw_cond_f rfl hb15 ?_
  refine aw_skip ?_
  refine post_next ?_
  refine aw_seq ?_
  refine aw_region ?_
  refine ras ?_
  refine reg_nil ?_
  refine post_imp (s' := ⟨25, [(6, some (.pv (.int .i64 0)))], [], 0, [], [], 0, []⟩) (imps [] ⟨by kernel_rfl, trivial⟩ trivial) ?_
  refine post_next ?_
  refine aw_ret ?_
  obtain rfl := Option.some.inj hF
  exact prt
theorem law19_ShapeFits_ok {a0 : List GClass} {a1 : GType} {a2 : GType} {r : Bool} (hF : law19_ShapeFits a0 a1 a2 = some r) : Abs.Fn globs_Tryd Tryd.prog 8 [.vs 7 (List.map eGClass a0), .agg (eGType a1), .agg (eGType a2)] [.p (.bool r)] := by
  unfold law19_ShapeFits at hF
  refine fn_of_body (n := 34) Tryd.func8 rfl rfl rfl ?_
  intro w O
  refine aw_seq ?_
  refine aw_region ?_
  refine rgp (op_box 0 rfl rfl rfl rfl rfl rfl) ?_
  refine rgp (op_box 1 rfl rfl rfl rfl rfl rfl) ?_
  refine ras ?_
  refine reg_nil ?_
  refine post_imp (s' := ⟨34, [(0, some (.pv (.vs 7 (List.map eGClass a0)))), (4, some (.lp 0 0)), (5, some (.lp 1 0))], [(0, some (.box 26 (bxv (eGType a1)))), (1, some (.box 26 (bxv (eGType a2))))], 2, [], [], 0, []⟩) (imps [0, 1] ⟨by kernel_rfl, by kernel_rfl, by kernel_rfl, trivial⟩ ⟨by kernel_rfl, by kernel_rfl, trivial⟩) ?_
  refine post_next ?_
  iterate 2 (refine aw_seq ?_)
  refine aw_region ?_
  refine rmv ?_
  refine rgp (op_len_vs (n := a0.length) rfl rfl (List.length_map ..) Tryd_slc_58 rfl rfl) ?_
  refine rgp (op_int (k := .i64) (m := (a0.length : Int)) (n := 40) rfl rfl rfl rfl rfl rfl) ?_
  refine reg_nil ?_
  refine post_imp (s' := ⟨34, [(0, some (.pv (.vs 7 (List.map eGClass a0)))), (4, some (.lp 0 0)), (5, some (.lp 1 0)), (9, some (.pv (.bool (decide ((a0.length : Int) > 40)))))], [(0, some (.box 26 (bxv (eGType a1)))), (1, some (.box 26 (bxv (eGType a2))))], 2, [], [], 0, []⟩) (imps [0, 1] ⟨by kernel_rfl, by kernel_rfl, by kernel_rfl, by kernel_rfl, trivial⟩ ⟨by kernel_rfl, by kernel_rfl, trivial⟩) ?_
  refine post_next ?_
  rcases ite_some hF with ⟨hb1, hF⟩ | ⟨hb1, hF⟩
  · refine aw_cond_t rfl hb1 ?_
    refine aw_seq ?_
    refine aw_region ?_
    obtain ⟨y2, h3, hF⟩ := bind_some hF
    refine rgp (op_call 2 rfl (caps := []) (args := []) (rs := [.p (.bool y2)]) rfl rfl rfl Tryd_cal_18 (law19_awake_ok h3) rfl rfl rfl) ?_
    refine ras ?_
    refine reg_nil ?_
    refine post_imp (s' := ⟨34, [(6, some (.pv (.bool y2)))], [], 0, [], [], 0, []⟩) (imps [] ⟨by kernel_rfl, trivial⟩ trivial) ?_
    refine post_next ?_
    refine aw_ret ?_
    refine post_then_ret ?_
    obtain rfl := Option.some.inj hF
    exact prt
  refine aw_cond_f rfl hb1 ?_
  refine aw_skip ?_
  refine post_next ?_
  refine aw_seq ?_
  refine dr_start ⟨_, _, _⟩ rfl ?_
  refine drm ?_
  refine dr_cons { need := [(4, .lp 0 0)], hneed := [(0, .box 26 (bxv (eGType a1)))], dst := some 12, val := some (.pv (.agg (eGType a1))) } (fun m h => step_on (guard_no rfl) (op_load_lp_agg (ps := eGType a1) rfl h.1.1 h.2.1.1 rfl rfl rfl Tryd_agg_26 rfl rfl) rfl) ⟨⟨rfl, trivial⟩, ⟨rfl, trivial⟩, trivial⟩ ?_
  refine dr_cons { need := [(5, .lp 1 0)], hneed := [(1, .box 26 (bxv (eGType a2)))], dst := some 13, val := some (.pv (.agg (eGType a2))) } (fun m h => step_on (guard_no rfl) (op_load_lp_agg (ps := eGType a2) rfl h.1.1 h.2.1.1 rfl rfl rfl Tryd_agg_26 rfl rfl) rfl) ⟨⟨rfl, trivial⟩, ⟨rfl, trivial⟩, trivial⟩ ?_
  obtain ⟨y4, h5, hF⟩ := bind_some hF
  refine dr_cons { need := [(13, .pv (.agg (eGType a2))), (12, .pv (.agg (eGType a1))), (11, .pv (.vs 7 (List.map eGClass a0)))], dst := some 14, val := some (.pv (.int .i64 y4)) } (fun m h => step_on (guard_no rfl) (op_call 2 rfl (caps := []) (args := [.vs 7 (List.map eGClass a0), .agg (eGType a1), .agg (eGType a2)]) (rs := [.p (.int .i64 y4)]) rfl rfl (evl_cons h.1.2.2.1 (evl_cons h.1.2.1 (evl_cons h.1.1 evl_nil))) Tryd_cal_28 (shape_Fits_ok h5) rfl rfl rfl) rfl) ⟨⟨rfl, rfl, rfl, trivial⟩, trivial, trivial⟩ ?_
  refine drm ?_
  refine dr_cons { need := [(4, .lp 0 0)], hneed := [(0, .box 26 (bxv (eGType a1)))], dst := some 16, val := some (.pv (.agg (eGType a1))) } (fun m h => step_on (guard_no rfl) (op_load_lp_agg (ps := eGType a1) rfl h.1.1 h.2.1.1 rfl rfl rfl Tryd_agg_26 rfl rfl) rfl) ⟨⟨rfl, trivial⟩, ⟨rfl, trivial⟩, trivial⟩ ?_
  refine dr_cons { need := [(5, .lp 1 0)], hneed := [(1, .box 26 (bxv (eGType a2)))], dst := some 17, val := some (.pv (.agg (eGType a2))) } (fun m h => step_on (guard_no rfl) (op_load_lp_agg (ps := eGType a2) rfl h.1.1 h.2.1.1 rfl rfl rfl Tryd_agg_26 rfl rfl) rfl) ⟨⟨rfl, trivial⟩, ⟨rfl, trivial⟩, trivial⟩ ?_
  obtain ⟨y6, h7, hF⟩ := bind_some hF
  refine dr_cons { need := [(17, .pv (.agg (eGType a2))), (16, .pv (.agg (eGType a1))), (15, .pv (.vs 7 (List.map eGClass a0)))], dst := some 18, val := some (.pv (.int .i64 y6)) } (fun m h => step_on (guard_no rfl) (op_call 2 rfl (caps := []) (args := [.vs 7 (List.map eGClass a0), .agg (eGType a1), .agg (eGType a2)]) (rs := [.p (.int .i64 y6)]) rfl rfl (evl_cons h.1.2.2.1 (evl_cons h.1.2.1 (evl_cons h.1.1 evl_nil))) Tryd_cal_29 (ref19_Fits_ok h7) rfl rfl rfl) rfl) ⟨⟨rfl, rfl, rfl, trivial⟩, trivial, trivial⟩ ?_
  refine dr_cons { need := [(14, .pv (.int .i64 y4)), (18, .pv (.int .i64 y6))], dst := some 19, val := some (.pv (.bool (y4 == y6))) } (fun m h => step_on (guard_no rfl) (op_int (k := .i64) (m := y4) (n := y6) rfl h.1.1 h.1.2.1 rfl rfl rfl) rfl) ⟨⟨rfl, rfl, trivial⟩, trivial, trivial⟩ ?_
  refine drm ?_
  rcases ite_some hF with ⟨hb8, hF⟩ | ⟨hb8, hF⟩
  · refine dr_cons { need := [(20, .pv (.bool (y4 == y6))), (0, .pv (.vs 7 (List.map eGClass a0)))], dst := some 21, val := some (.pv (.vs 7 (List.map eGClass a0))) } (fun m h => step_on (guard_on rfl rfl rfl h.1.1 hb8) (op_move rfl h.1.2.1 rfl rfl) rfl) ⟨⟨rfl, rfl, trivial⟩, trivial, trivial⟩ ?_
    refine dr_cons { need := [(20, .pv (.bool (y4 == y6))), (4, .lp 0 0)], hneed := [(0, .box 26 (bxv (eGType a1)))], dst := some 22, val := some (.pv (.agg (eGType a1))) } (fun m h => step_on (guard_on rfl rfl rfl h.1.1 hb8) (op_load_lp_agg (ps := eGType a1) rfl h.1.2.1 h.2.1.1 rfl rfl rfl Tryd_agg_26 rfl rfl) rfl) ⟨⟨rfl, rfl, trivial⟩, ⟨rfl, trivial⟩, trivial⟩ ?_
    refine dr_cons { need := [(20, .pv (.bool (y4 == y6))), (5, .lp 1 0)], hneed := [(1, .box 26 (bxv (eGType a2)))], dst := some 23, val := some (.pv (.agg (eGType a2))) } (fun m h => step_on (guard_on rfl rfl rfl h.1.1 hb8) (op_load_lp_agg (ps := eGType a2) rfl h.1.2.1 h.2.1.1 rfl rfl rfl Tryd_agg_26 rfl rfl) rfl) ⟨⟨rfl, rfl, trivial⟩, ⟨rfl, trivial⟩, trivial⟩ ?_
    obtain ⟨y9, h10, hF⟩ := bind_some hF
    refine dr_cons { need := [(20, .pv (.bool (y4 == y6))), (23, .pv (.agg (eGType a2))), (22, .pv (.agg (eGType a1))), (21, .pv (.vs 7 (List.map eGClass a0)))], dst := some 24, val := some (.pv (.int .i64 y9)) } (fun m h => step_on (guard_on rfl rfl rfl h.1.1 hb8) (op_call 2 rfl (caps := []) (args := [.vs 7 (List.map eGClass a0), .agg (eGType a1), .agg (eGType a2)]) (rs := [.p (.int .i64 y9)]) rfl rfl (evl_cons h.1.2.2.2.1 (evl_cons h.1.2.2.1 (evl_cons h.1.2.1 evl_nil))) Tryd_cal_30 (shape_Gives_ok h10) rfl rfl rfl) rfl) ⟨⟨rfl, rfl, rfl, rfl, trivial⟩, trivial, trivial⟩ ?_
    refine dr_cons { need := [(20, .pv (.bool (y4 == y6))), (0, .pv (.vs 7 (List.map eGClass a0)))], dst := some 25, val := some (.pv (.vs 7 (List.map eGClass a0))) } (fun m h => step_on (guard_on rfl rfl rfl h.1.1 hb8) (op_move rfl h.1.2.1 rfl rfl) rfl) ⟨⟨rfl, rfl, trivial⟩, trivial, trivial⟩ ?_
    refine dr_cons { need := [(20, .pv (.bool (y4 == y6))), (4, .lp 0 0)], hneed := [(0, .box 26 (bxv (eGType a1)))], dst := some 26, val := some (.pv (.agg (eGType a1))) } (fun m h => step_on (guard_on rfl rfl rfl h.1.1 hb8) (op_load_lp_agg (ps := eGType a1) rfl h.1.2.1 h.2.1.1 rfl rfl rfl Tryd_agg_26 rfl rfl) rfl) ⟨⟨rfl, rfl, trivial⟩, ⟨rfl, trivial⟩, trivial⟩ ?_
    refine dr_cons { need := [(20, .pv (.bool (y4 == y6))), (5, .lp 1 0)], hneed := [(1, .box 26 (bxv (eGType a2)))], dst := some 27, val := some (.pv (.agg (eGType a2))) } (fun m h => step_on (guard_on rfl rfl rfl h.1.1 hb8) (op_load_lp_agg (ps := eGType a2) rfl h.1.2.1 h.2.1.1 rfl rfl rfl Tryd_agg_26 rfl rfl) rfl) ⟨⟨rfl, rfl, trivial⟩, ⟨rfl, trivial⟩, trivial⟩ ?_
    obtain ⟨y11, h12, hF⟩ := bind_some hF
    refine dr_cons { need := [(20, .pv (.bool (y4 == y6))), (27, .pv (.agg (eGType a2))), (26, .pv (.agg (eGType a1))), (25, .pv (.vs 7 (List.map eGClass a0)))], dst := some 28, val := some (.pv (.int .i64 y11)) } (fun m h => step_on (guard_on rfl rfl rfl h.1.1 hb8) (op_call 2 rfl (caps := []) (args := [.vs 7 (List.map eGClass a0), .agg (eGType a1), .agg (eGType a2)]) (rs := [.p (.int .i64 y11)]) rfl rfl (evl_cons h.1.2.2.2.1 (evl_cons h.1.2.2.1 (evl_cons h.1.2.1 evl_nil))) Tryd_cal_31 (ref19_Gives_ok h12) rfl rfl rfl) rfl) ⟨⟨rfl, rfl, rfl, rfl, trivial⟩, trivial, trivial⟩ ?_
    refine dr_cons { need := [(20, .pv (.bool (y4 == y6))), (24, .pv (.int .i64 y9)), (28, .pv (.int .i64 y11))], dst := some 29, val := some (.pv (.bool (y9 == y11))) } (fun m h => step_on (guard_on rfl rfl rfl h.1.1 hb8) (op_int (k := .i64) (m := y9) (n := y11) rfl h.1.2.1 h.1.2.2.1 rfl rfl rfl) rfl) ⟨⟨rfl, rfl, rfl, trivial⟩, trivial, trivial⟩ ?_
    refine dr_cons { need := [(20, .pv (.bool (y4 == y6))), (29, .pv (.bool (y9 == y11)))], dst := some 30, val := some (.pv (.bool (y9 == y11))) } (fun m h => step_on (guard_no rfl) (op_pick_t rfl h.1.1 hb8 h.1.2.1 rfl rfl) rfl) ⟨⟨rfl, rfl, trivial⟩, trivial, trivial⟩ ?_
    refine drm ?_
    rcases ite_some hF with ⟨hb13, hF⟩ | ⟨hb13, hF⟩
    · obtain ⟨y14, h15, hF⟩ := bind_some hF
      refine dr_cons { need := [(31, .pv (.bool (y9 == y11)))], dst := some 32, val := some (.pv (.bool y14)) } (fun m h => step_on (guard_on rfl rfl rfl h.1.1 hb13) (op_call 2 rfl (caps := []) (args := []) (rs := [.p (.bool y14)]) rfl rfl evl_nil Tryd_cal_18 (law19_awake_ok h15) rfl rfl rfl) rfl) ⟨⟨rfl, trivial⟩, trivial, trivial⟩ ?_
      refine dr_cons { need := [(31, .pv (.bool (y9 == y11))), (32, .pv (.bool y14))], dst := some 33, val := some (.pv (.bool y14)) } (fun m h => step_on (guard_no rfl) (op_pick_t rfl h.1.1 hb13 h.1.2.1 rfl rfl) rfl) ⟨⟨rfl, rfl, trivial⟩, trivial, trivial⟩ ?_
      refine dr_cons { need := [(33, .pv (.bool y14))], dst := some 6, val := some (.pv (.bool y14)) } (fun m h => step_on (guard_no rfl) (op_assign rfl h.1.1 rfl rfl) rfl) ⟨⟨rfl, trivial⟩, trivial, trivial⟩ ?_
      refine dr_nil Tryd_mixed rfl (by kernel_rfl) ?_
      refine post_imp (s' := ⟨34, [(6, some (.pv (.bool y14)))], [], 0, [], [], 0, []⟩) (imps [] ⟨by kernel_rfl, trivial⟩ trivial) ?_
      refine post_next ?_
      refine aw_ret ?_
      obtain rfl := Option.some.inj hF
      exact prt
    refine dro_f hb13 ?_
    refine drpf hb13 ?_
    refine dr_cons { need := [(33, .pv (.bool false))], dst := some 6, val := some (.pv (.bool false)) } (fun m h => step_on (guard_no rfl) (op_assign rfl h.1.1 rfl rfl) rfl) ⟨⟨rfl, trivial⟩, trivial, trivial⟩ ?_
    refine dr_nil Tryd_mixed rfl (by kernel_rfl) ?_
    refine post_imp (s' := ⟨34, [(6, some (.pv (.bool false)))], [], 0, [], [], 0, []⟩) (imps [] ⟨by kernel_rfl, trivial⟩ trivial) ?_
    refine post_next ?_
    refine aw_ret ?_
    obtain rfl := Option.some.inj hF
    exact prt
  iterate 9 (refine dro_f hb8 ?_)
  refine drpf hb8 ?_
  refine drm ?_
  refine dro_f rfl ?_
  refine drpf rfl ?_
  refine dr_cons { need := [(33, .pv (.bool false))], dst := some 6, val := some (.pv (.bool false)) } (fun m h => step_on (guard_no rfl) (op_assign rfl h.1.1 rfl rfl) rfl) ⟨⟨rfl, trivial⟩, trivial, trivial⟩ ?_
  refine dr_nil Tryd_mixed rfl (by kernel_rfl) ?_
  refine post_imp (s' := ⟨34, [(6, some (.pv (.bool false)))], [], 0, [], [], 0, []⟩) (imps [] ⟨by kernel_rfl, trivial⟩ trivial) ?_
  refine post_next ?_
  refine aw_ret ?_
  obtain rfl := Option.some.inj hF
  exact prt
end Go.Proofs.YtkmaieldmcjbfaaDoor
