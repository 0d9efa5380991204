/- A part of the proof that the law ShapeOrder gives true for every input. -/
import Derived.Test.YtkmaieldmcjbfaaDoorShapeOrderT
import Derived.Test.YtkmaieldmcjbfaaDoorShapeOrderX
import Derived.Test.YtkmaieldmcjbfaaDoorShapeOrderI
import Derived.Test.YtkmaieldmcjbfaaDoorShapeOrderW0
/- Each Go function computes its plain function. -/
namespace Go.Proofs.YtkmaieldmcjbfaaDoor
open Go.RowKit Go.Abs
set_option maxRecDepth 100000
set_option maxHeartbeats 4000000
theorem above_Below_ok {a0 : List GClass} {a1 : List UInt8} {a2 : List UInt8} {r : Bool} (hF : above_Below a0 a1 a2 = some r) : Abs.Fn globs_Tryd Tryd.prog 53 [.vs 7 (List.map eGClass a0), .str a1, .str a2] [.p (.bool r)] := by
  unfold above_Below at hF
  refine fn_of_body (n := 19) Tryd.func53 rfl rfl rfl ?_
  intro w O
  refine aw_seq ?_
  refine aw_region ?_
  refine rgp (op_alloc 0 rfl (ps := [.bool false]) rfl Tryd_zer_4 (by exact ⟨rfl, trivial⟩) rfl rfl) ?_
  refine reg_nil ?_
  refine post_imp (s' := ⟨19, [(0, some (.pv (.vs 7 (List.map eGClass a0)))), (1, some (.pv (.str a1))), (2, some (.pv (.str a2))), (6, some (.lp 0 0))], [(0, some (.box 4 [.pv (.bool false)]))], 1, [], [], 0, []⟩) (imps [0] ⟨by kernel_rfl, by kernel_rfl, by kernel_rfl, by kernel_rfl, trivial⟩ ⟨by kernel_rfl, trivial⟩) ?_
  refine post_next ?_
  refine aw_seq ?_
  refine aw_region ?_
  iterate 2 (refine rmv ?_)
  obtain ⟨y3, h4, hF⟩ := bind_some hF
  refine rgp (op_call 1 rfl (caps := []) (args := [.vs 7 (List.map eGClass a0), .str a2]) (rs := [.p (.int .i64 y3)]) rfl rfl rfl Tryd_cal_74 (table_Find_ok h4) rfl rfl rfl) ?_
  refine rgp (op_alloc 1 rfl (ps := [.int .i64 0]) rfl Tryd_zer_3 (by exact ⟨rfl, trivial⟩) rfl rfl) ?_
  refine rgp (op_store_lp (n := 1) rfl rfl rfl rfl rfl (or_one Tryd_one_3) (by rw [Tryd_one_3]; rfl) rfl rfl rfl) ?_
  refine reg_nil ?_
  refine post_imp (s' := ⟨19, [(0, some (.pv (.vs 7 (List.map eGClass a0)))), (1, some (.pv (.str a1))), (6, some (.lp 0 0)), (7, some (.lp 1 0))], [(0, some (.box 4 [.pv (.bool false)])), (1, some (.box 3 [.pv (.int .i64 y3)]))], 2, [], [], 0, []⟩) (imps [0, 1] ⟨by kernel_rfl, by kernel_rfl, by kernel_rfl, by kernel_rfl, trivial⟩ ⟨by kernel_rfl, by kernel_rfl, trivial⟩) ?_
  refine post_next ?_
  iterate 2 (refine aw_seq ?_)
  refine aw_region ?_
  iterate 2 (refine rmv ?_)
  obtain ⟨y7, h8, hF⟩ := bind_some hF
  refine rgp (op_call 2 rfl (caps := []) (args := [.vs 7 (List.map eGClass a0), .str a1]) (rs := [.clo 98 [.vp ((eL 7 eGClass) y7.1)] 9 [.str y7.2] []]) rfl rfl rfl Tryd_cal_75 (above_up_ok h8) rfl rfl rfl) ?_
  refine reg_nil ?_
  refine post_imp (s' := ⟨19, [(6, some (.lp 0 0)), (7, some (.lp 1 0)), (14, some (.fn 98 [.pv (.vp ((eL 7 eGClass) y7.1)), .lp 2 0]))], [(0, some (.box 4 [.pv (.bool false)])), (1, some (.box 3 [.pv (.int .i64 y3)])), (2, some (.box 9 [.pv (.str y7.2)]))], 3, [], [], 0, []⟩) (imps [0, 1, 2] ⟨by kernel_rfl, by kernel_rfl, by kernel_rfl, trivial⟩ ⟨by kernel_rfl, by kernel_rfl, by kernel_rfl, trivial⟩) ?_
  refine post_next ?_
  refine aw_block ?_
  refine aw_imp (s' := ⟨19, [(6, some (.lp 0 0)), (7, some (.lp 1 0)), (14, some (.fn 98 [.pv (.vp ((eL 7 eGClass) y7.1)), .lp 2 0]))], [(0, some (.box 4 [.pv (.bool false)])), (1, some (.box 3 [.pv (.int .i64 y3)])), (2, some (.box 9 [.pv (.str y7.2)]))], 3, [], [], 0, []⟩) (imps [0, 1, 2] ⟨by kernel_rfl, by kernel_rfl, by kernel_rfl, trivial⟩ ⟨by kernel_rfl, by kernel_rfl, by kernel_rfl, trivial⟩) ?_
  obtain ⟨rows15, hR16, hF⟩ := bind_some hF
  obtain ⟨lr17, hL18, hF⟩ := bind_some hF
  refine aw_rangeFunc (X := Int) (Q := Unit) (E := Unit) (pre := [.vp ((eL 7 eGClass) y7.1)]) (bx := (some (9, [.str y7.2]))) (post := []) (kt := [6, 7]) (psl := [15]) (some 2) (fun z : Int => ([.int .i64 z] : List PV)) rows15 (above_Below_B1 y3) () lr17 hL18 (fun q => ⟨19, [(6, some (.lp 0 0)), (7, some (.lp 1 0))], [(0, some (.box 4 [.pv (.bool false)])), (1, some (.box 3 [.pv (.int .i64 y3)]))], 3, [], [], 0, []⟩) (fun z => (.ret, ⟨19, [(6, some (.lp 0 0))], [(0, some (.box 4 [.pv (.bool true)]))], 1, [], [], 0, []⟩)) ⟨_, _, rfl, rfl, rfl⟩ Tryd_cal_98 (fun sp => above_up_1_it (itR_up_ok hR16 sp)) (fun _ => rfl) rfl rfl (by decide) rfl (fun x q => ⟨19, [(6, some (.lp 0 0)), (7, some (.lp 1 0)), (8, some (.pv (.int .i64 x))), (15, some (.pv (.int .i64 x)))], [(0, some (.box 4 [.pv (.bool false)])), (1, some (.box 3 [.pv (.int .i64 y3)]))], 3, [], [], 0, [6, 7]⟩) (fun q => ⟨rfl, rfl, rfl, rfl⟩) (fun z => ⟨rfl, rfl, rfl, rfl⟩) (fun z => rfl) rfl rfl ⟨rfl, rfl, trivial⟩ ⟨⟨rfl, rfl, rfl⟩, ⟨rfl, rfl, rfl⟩, trivial⟩ ?_ ?_ ?_ ?_
  · rintro l19 c20 x13 ⟨⟩ hc21
    refine aw_region ?_
    refine ras ?_
    refine reg_nil ?_
    exact post_cut1 (imps [0, 1, 2] ⟨by kernel_rfl, by kernel_rfl, by kernel_rfl, by kernel_rfl, trivial⟩ ⟨by kernel_rfl, by kernel_rfl, trivial⟩)
  · rintro l19 c20 x13 ⟨⟩ r22 hc21 hF
    refine aw_block ?_
    refine aw_seq ?_
    refine aw_region ?_
    refine rmv ?_
    refine rgp (op_load_lp (v := .pv (.int .i64 y3)) rfl rfl rfl rfl Tryd_one_3 rfl rfl) ?_
    refine rgp (op_int (k := .i64) (m := x13) (n := y3) rfl rfl rfl rfl rfl rfl) ?_
    refine reg_nil ?_
    refine post_imp (s' := ⟨19, [(6, some (.lp 0 0)), (7, some (.lp 1 0)), (18, some (.pv (.bool (x13 == y3))))], [(0, some (.box 4 [.pv (.bool false)])), (1, some (.box 3 [.pv (.int .i64 y3)]))], 2, [], [], 0, [6, 7]⟩) (imps [0, 1] ⟨by kernel_rfl, by kernel_rfl, by kernel_rfl, trivial⟩ ⟨by kernel_rfl, by kernel_rfl, trivial⟩) ?_
    refine post_next ?_
    rcases ite_some hF with ⟨hb14, hF⟩ | ⟨hb14, hF⟩
    · refine aw_cond_t rfl hb14 ?_
      refine aw_seq ?_
      refine aw_region ?_
      refine rgp (op_store_lp (n := 1) rfl rfl rfl rfl rfl (or_one Tryd_one_4) (by rw [Tryd_one_4]; rfl) rfl rfl rfl) ?_
      refine reg_nil ?_
      refine post_imp (s' := ⟨19, [(6, some (.lp 0 0))], [(0, some (.box 4 [.pv (.bool true)]))], 1, [], [], 0, [6, 7]⟩) (imps [0] ⟨by kernel_rfl, trivial⟩ ⟨by kernel_rfl, trivial⟩) ?_
      refine post_next ?_
      refine aw_ret ?_
      refine post_block_ret ?_
      obtain rfl := Option.some.inj hF
      exact post_rnd_ret () rfl rfl (imps [0] ⟨by kernel_rfl, trivial⟩ ⟨by kernel_rfl, trivial⟩)
    refine aw_cond_f rfl hb14 ?_
    refine aw_skip ?_
    refine post_block_normal ?_
    obtain rfl := Option.some.inj hF
    exact post_rnd () rfl (imps [0, 1, 1000000] ⟨by kernel_rfl, by kernel_rfl, trivial⟩ ⟨by kernel_rfl, by kernel_rfl, trivial⟩)
  · rintro ⟨⟩ rfl
    have hF := elim_next hF
    refine post_block_normal ?_
    refine post_next ?_
    refine aw_seq ?_
    refine aw_region ?_
    refine rgp (op_store_lp (n := 1) rfl rfl rfl rfl rfl (or_one Tryd_one_4) (by rw [Tryd_one_4]; rfl) rfl rfl rfl) ?_
    refine reg_nil ?_
    refine post_imp (s' := ⟨19, [(6, some (.lp 0 0))], [(0, some (.box 4 [.pv (.bool false)]))], 1, [], [], 0, []⟩) (imps [0] ⟨by kernel_rfl, trivial⟩ ⟨by kernel_rfl, trivial⟩) ?_
    refine post_next ?_
    refine aw_ret ?_
    obtain rfl := Option.some.inj hF
    exact post_ret rfl rfl (.cons _ _ _ _ _ (.one _ _ _ _ _ _ _ rfl rfl Tryd_one_4 rfl) (.p _) .nil) (.inl rfl)
  rintro ⟨⟩ rfl
  have hF := elim_stop hF
  show Post _ _ .ret _
  refine post_block_ret ?_
  refine post_then_ret ?_
  obtain rfl := Option.some.inj hF
  exact post_ret rfl rfl (.cons _ _ _ _ _ (.one _ _ _ _ _ _ _ rfl rfl Tryd_one_4 rfl) (.p _) .nil) (.inl rfl)
theorem shape_Fits_ok {a0 : List GClass} {a1 : GType} {a2 : GType} {r : Int} (hF : shape_Fits a0 a1 a2 = some r) : Abs.Fn globs_Tryd Tryd.prog 28 [.vs 7 (List.map eGClass a0), .agg (eGType a1), .agg (eGType a2)] [.p (.int .i64 r)] := by
  unfold shape_Fits at hF
  refine fn_of_body (n := 41) Tryd.func28 rfl rfl rfl ?_
  intro w O
  refine aw_seq ?_
  refine aw_region ?_
  refine rgp (op_box 0 rfl rfl rfl rfl rfl rfl) ?_
  refine rgp (op_box 1 rfl rfl rfl rfl rfl rfl) ?_
  refine ras ?_
  refine reg_nil ?_
  refine post_imp (s' := ⟨41, [(0, some (.pv (.vs 7 (List.map eGClass a0)))), (4, some (.lp 0 0)), (5, some (.lp 1 0))], [(0, some (.box 26 (bxv (eGType a1)))), (1, some (.box 26 (bxv (eGType a2))))], 2, [], [], 0, []⟩) (imps [0, 1] ⟨by kernel_rfl, by kernel_rfl, by kernel_rfl, trivial⟩ ⟨by kernel_rfl, by kernel_rfl, trivial⟩) ?_
  refine post_next ?_
  refine aw_seq ?_
  refine aw_block ?_
  refine aw_seq ?_
  obtain ⟨x2, hF, hK4⟩ := bind_some hF
  refine aw_cut (fun s1 => s1 = ⟨41, [(0, some (.pv (.vs 7 (List.map eGClass a0)))), (4, some (.lp 0 0)), (5, some (.lp 1 0)), (7, some (.pv (.bool x2)))], [(0, some (.box 26 (bxv (eGType a1)))), (1, some (.box 26 (bxv (eGType a2))))], 2, [], [], 0, []⟩) ?_ ?_
  · refine aw_region ?_
    refine rgp (op_field_lp rfl rfl Tryd_fld_26_0 rfl rfl) ?_
    refine rgp (op_load_lp (v := .pv (.int .i64 a2.fKind)) rfl rfl rfl rfl Tryd_one_3 rfl rfl) ?_
    refine rgp (op_int (k := .i64) (m := a2.fKind) (n := 1) rfl rfl rfl rfl rfl rfl) ?_
    refine rmv ?_
    rcases ite_some hF with ⟨hb1, hF⟩ | ⟨hb1, hF⟩
    · refine rgn hb1 (op_field_lp rfl rfl Tryd_fld_26_0 rfl rfl) ?_
      refine rgn hb1 (op_load_lp (v := .pv (.int .i64 a1.fKind)) rfl rfl rfl rfl Tryd_one_3 rfl rfl) ?_
      refine rgn hb1 (op_int (k := .i64) (m := a1.fKind) (n := 1) rfl rfl rfl rfl rfl rfl) ?_
      refine rpt hb1 ?_
      refine ras ?_
      refine reg_nil ?_
      cases hF
      exact post_cut _ rfl (imps [0, 1] ⟨by kernel_rfl, by kernel_rfl, by kernel_rfl, by kernel_rfl, trivial⟩ ⟨by kernel_rfl, by kernel_rfl, trivial⟩)
    iterate 3 (refine rgo_f hb1 ?_)
    refine rpf hb1 ?_
    refine ras ?_
    refine reg_nil ?_
    cases hF
    exact post_cut _ rfl (imps [0, 1] ⟨by kernel_rfl, by kernel_rfl, by kernel_rfl, by kernel_rfl, trivial⟩ ⟨by kernel_rfl, by kernel_rfl, trivial⟩)
  rintro _ rfl
  have hF := hK4
  clear hK4
  refine post_next ?_
  rcases ite_some hF with ⟨hb5, hF⟩ | ⟨hb5, hF⟩
  · refine aw_cond_t rfl hb5 ?_
    refine aw_seq ?_
    refine aw_region ?_
    refine ras ?_
    refine reg_nil ?_
    refine post_imp (s' := ⟨41, [(6, some (.pv (.int .i64 0)))], [], 0, [], [], 0, []⟩) (imps [] ⟨by kernel_rfl, trivial⟩ trivial) ?_
    refine post_next ?_
    refine aw_ret ?_
    refine post_block_ret ?_
    refine post_then_ret ?_
    obtain rfl := Option.some.inj hF
    exact prt
  refine aw_cond_f rfl hb5 ?_
  refine aw_seq ?_
  refine aw_region ?_
  refine rgp (op_field_lp rfl rfl Tryd_fld_26_0 rfl rfl) ?_
  refine rgp (op_load_lp (v := .pv (.int .i64 a2.fKind)) rfl rfl rfl rfl Tryd_one_3 rfl rfl) ?_
  refine rgp (op_int (k := .i64) (m := a2.fKind) (n := 2) rfl rfl rfl rfl rfl rfl) ?_
  refine ras ?_
  refine reg_nil ?_
  refine post_imp (s' := ⟨41, [(0, some (.pv (.vs 7 (List.map eGClass a0)))), (4, some (.lp 0 0)), (5, some (.lp 1 0)), (16, some (.pv (.bool (a2.fKind != 2))))], [(0, some (.box 26 (bxv (eGType a1)))), (1, some (.box 26 (bxv (eGType a2))))], 2, [], [], 0, []⟩) (imps [0, 1] ⟨by kernel_rfl, by kernel_rfl, by kernel_rfl, by kernel_rfl, trivial⟩ ⟨by kernel_rfl, by kernel_rfl, trivial⟩) ?_
  refine post_next ?_
  rcases ite_some hF with ⟨hb6, hF⟩ | ⟨hb6, hF⟩
  · refine aw_cond_t rfl hb6 ?_
    refine aw_seq ?_
    refine aw_region ?_
    refine ras ?_
    refine reg_nil ?_
    refine post_imp (s' := ⟨41, [(6, some (.pv (.int .i64 14)))], [], 0, [], [], 0, []⟩) (imps [] ⟨by kernel_rfl, trivial⟩ trivial) ?_
    refine post_next ?_
    refine aw_ret ?_
    refine post_block_ret ?_
    refine post_then_ret ?_
    obtain rfl := Option.some.inj hF
    exact prt
  refine aw_cond_f rfl hb6 ?_
  refine aw_seq ?_
  refine aw_region ?_
  refine rgp (op_field_lp rfl rfl Tryd_fld_26_0 rfl rfl) ?_
  refine rgp (op_load_lp (v := .pv (.int .i64 a1.fKind)) rfl rfl rfl rfl Tryd_one_3 rfl rfl) ?_
  refine rgp (op_int (k := .i64) (m := a1.fKind) (n := 3) rfl rfl rfl rfl rfl rfl) ?_
  refine ras ?_
  refine reg_nil ?_
  refine post_imp (s' := ⟨41, [(0, some (.pv (.vs 7 (List.map eGClass a0)))), (4, some (.lp 0 0)), (5, some (.lp 1 0)), (20, some (.pv (.bool (a1.fKind == 3))))], [(0, some (.box 26 (bxv (eGType a1)))), (1, some (.box 26 (bxv (eGType a2))))], 2, [], [], 0, []⟩) (imps [0, 1] ⟨by kernel_rfl, by kernel_rfl, by kernel_rfl, by kernel_rfl, trivial⟩ ⟨by kernel_rfl, by kernel_rfl, trivial⟩) ?_
  refine post_next ?_
  rcases ite_some hF with ⟨hb7, hF⟩ | ⟨hb7, hF⟩
  · refine aw_cond_t rfl hb7 ?_
    refine aw_seq ?_
    refine aw_region ?_
    refine ras ?_
    refine reg_nil ?_
    refine post_imp (s' := ⟨41, [(6, some (.pv (.int .i64 0)))], [], 0, [], [], 0, []⟩) (imps [] ⟨by kernel_rfl, trivial⟩ trivial) ?_
    refine post_next ?_
    refine aw_ret ?_
    refine post_block_ret ?_
    refine post_then_ret ?_
    obtain rfl := Option.some.inj hF
    exact prt
  refine aw_cond_f rfl hb7 ?_
  refine aw_seq ?_
  refine aw_region ?_
  refine rgp (op_field_lp rfl rfl Tryd_fld_26_0 rfl rfl) ?_
  refine rgp (op_load_lp (v := .pv (.int .i64 a1.fKind)) rfl rfl rfl rfl Tryd_one_3 rfl rfl) ?_
  refine rgp (op_int (k := .i64) (m := a1.fKind) (n := 2) rfl rfl rfl rfl rfl rfl) ?_
  refine ras ?_
  refine reg_nil ?_
  refine post_imp (s' := ⟨41, [(0, some (.pv (.vs 7 (List.map eGClass a0)))), (4, some (.lp 0 0)), (5, some (.lp 1 0)), (24, some (.pv (.bool (a1.fKind != 2))))], [(0, some (.box 26 (bxv (eGType a1)))), (1, some (.box 26 (bxv (eGType a2))))], 2, [], [], 0, []⟩) (imps [0, 1] ⟨by kernel_rfl, by kernel_rfl, by kernel_rfl, by kernel_rfl, trivial⟩ ⟨by kernel_rfl, by kernel_rfl, trivial⟩) ?_
  refine post_next ?_
  rcases ite_some hF with ⟨hb8, hF⟩ | ⟨hb8, hF⟩
  · refine aw_cond_t rfl hb8 ?_
    refine aw_seq ?_
    refine aw_region ?_
    refine ras ?_
    refine reg_nil ?_
    refine post_imp (s' := ⟨41, [(6, some (.pv (.int .i64 14)))], [], 0, [], [], 0, []⟩) (imps [] ⟨by kernel_rfl, trivial⟩ trivial) ?_
    refine post_next ?_
    refine aw_ret ?_
    refine post_block_ret ?_
    refine post_then_ret ?_
    obtain rfl := Option.some.inj hF
    exact prt
  refine aw_cond_f rfl hb8 ?_
  refine aw_seq ?_
  obtain ⟨x16, hF, hK18⟩ := bind_some hF
  refine aw_cut (fun s1 => s1 = ⟨41, [(0, some (.pv (.vs 7 (List.map eGClass a0)))), (4, some (.lp 0 0)), (5, some (.lp 1 0)), (28, some (.pv (.bool x16)))], [(0, some (.box 26 (bxv (eGType a1)))), (1, some (.box 26 (bxv (eGType a2))))], 2, [], [], 0, []⟩) ?_ ?_
  · refine aw_seq ?_
    refine aw_region ?_
    refine rgp (op_load_lp_agg (ps := eGType a1) rfl rfl rfl rfl rfl rfl Tryd_agg_26 rfl rfl) ?_
    obtain ⟨y11, h12, hF⟩ := bind_some hF
    refine rgp (op_call 2 rfl (caps := []) (args := [.agg (eGType a1)]) (rs := [.p (.bool y11)]) rfl rfl rfl Tryd_cal_24 (kind_Unique_ok h12) rfl rfl rfl) ?_
    refine ras ?_
    refine reg_nil ?_
    refine post_imp (s' := ⟨41, [(0, some (.pv (.vs 7 (List.map eGClass a0)))), (4, some (.lp 0 0)), (5, some (.lp 1 0)), (28, some (.pv (.bool y11)))], [(0, some (.box 26 (bxv (eGType a1)))), (1, some (.box 26 (bxv (eGType a2))))], 2, [], [], 0, []⟩) (imps [0, 1] ⟨by kernel_rfl, by kernel_rfl, by kernel_rfl, by kernel_rfl, trivial⟩ ⟨by kernel_rfl, by kernel_rfl, trivial⟩) ?_
    refine post_next ?_
    rcases ite_some hF with ⟨hb13, hF⟩ | ⟨hb13, hF⟩
    · refine aw_cond_t rfl hb13 ?_
      refine aw_skip ?_
      cases hF
      exact post_cut _ rfl (imps [0, 1] ⟨by kernel_rfl, by kernel_rfl, by kernel_rfl, by kernel_rfl, trivial⟩ ⟨by kernel_rfl, by kernel_rfl, trivial⟩)
    refine aw_cond_f rfl hb13 ?_
    refine aw_region ?_
    refine rgp (op_load_lp_agg (ps := eGType a2) rfl rfl rfl rfl rfl rfl Tryd_agg_26 rfl rfl) ?_
    obtain ⟨y14, h15, hF⟩ := bind_some hF
    refine rgp (op_call 2 rfl (caps := []) (args := [.agg (eGType a2)]) (rs := [.p (.bool y14)]) rfl rfl rfl Tryd_cal_24 (kind_Unique_ok h15) rfl rfl rfl) ?_
    refine ras ?_
    refine reg_nil ?_
    cases hF
    exact post_cut _ rfl (imps [0, 1] ⟨by kernel_rfl, by kernel_rfl, by kernel_rfl, by kernel_rfl, trivial⟩ ⟨by kernel_rfl, by kernel_rfl, trivial⟩)
  rintro _ rfl
  have hF := hK18
  clear hK18
  refine post_next ?_
  rcases ite_some hF with ⟨hb19, hF⟩ | ⟨hb19, hF⟩
  · refine aw_cond_t rfl hb19 ?_
    refine aw_seq ?_
    refine aw_region ?_
    refine ras ?_
    refine reg_nil ?_
    refine post_imp (s' := ⟨41, [(6, some (.pv (.int .i64 22)))], [], 0, [], [], 0, []⟩) (imps [] ⟨by kernel_rfl, trivial⟩ trivial) ?_
    refine post_next ?_
    refine aw_ret ?_
    refine post_block_ret ?_
    refine post_then_ret ?_
    obtain rfl := Option.some.inj hF
    exact prt
  refine aw_cond_f rfl hb19 ?_
  refine aw_seq ?_
  refine aw_region ?_
  refine rmv ?_
  refine rgp (op_field_lp rfl rfl Tryd_fld_26_1 rfl rfl) ?_
  refine rgp (op_load_lp (v := .pv (.str a1.fClass)) rfl rfl rfl rfl Tryd_one_9 rfl rfl) ?_
  refine rgp (op_field_lp rfl rfl Tryd_fld_26_1 rfl rfl) ?_
  refine rgp (op_load_lp (v := .pv (.str a2.fClass)) rfl rfl rfl rfl Tryd_one_9 rfl rfl) ?_
  obtain ⟨y22, h23, hF⟩ := bind_some hF
  refine rgp (op_call 2 rfl (caps := []) (args := [.vs 7 (List.map eGClass a0), .str a1.fClass, .str a2.fClass]) (rs := [.p (.bool y22)]) rfl rfl rfl Tryd_cal_53 (above_Below_ok h23) rfl rfl rfl) ?_
  refine rgp (op_not rfl rfl rfl rfl) ?_
  refine ras ?_
  refine reg_nil ?_
  refine post_imp (s' := ⟨41, [(33, some (.pv (.bool (!y22))))], [], 0, [], [], 0, []⟩) (imps [] ⟨by kernel_rfl, trivial⟩ trivial) ?_
  refine post_next ?_
  rcases ite_some hF with ⟨hb24, hF⟩ | ⟨hb24, hF⟩
  · refine aw_cond_t rfl hb24 ?_
    refine aw_seq ?_
    refine aw_region ?_
    refine ras ?_
    refine reg_nil ?_
    refine post_imp (s' := ⟨41, [(6, some (.pv (.int .i64 15)))], [], 0, [], [], 0, []⟩) (imps [] ⟨by kernel_rfl, trivial⟩ trivial) ?_
    refine post_next ?_
    refine aw_ret ?_
    refine post_block_ret ?_
    refine post_then_ret ?_
    obtain rfl := Option.some.inj hF
    exact prt
  refine aw_cond_f rfl hb24 ?_
  refine aw_skip ?_
  refine post_block_normal ?_
  refine post_next ?_
  refine aw_seq ?_
  refine aw_region ?_
  refine ras ?_
  refine reg_nil ?_
  refine post_imp (s' := ⟨41, [(6, some (.pv (.int .i64 0)))], [], 0, [], [], 0, []⟩) (imps [] ⟨by kernel_rfl, trivial⟩ trivial) ?_
  refine post_next ?_
  refine aw_ret ?_
  obtain rfl := Option.some.inj hF
  exact prt
theorem shape_Gives_ok {a0 : List GClass} {a1 : GType} {a2 : GType} {r : Int} (hF : shape_Gives a0 a1 a2 = some r) : Abs.Fn globs_Tryd Tryd.prog 30 [.vs 7 (List.map eGClass a0), .agg (eGType a1), .agg (eGType a2)] [.p (.int .i64 r)] := by
  unfold shape_Gives at hF
  refine fn_of_body (n := 26) Tryd.func30 rfl rfl rfl ?_
  intro w O
  refine aw_seq ?_
  refine aw_region ?_
  refine rgp (op_box 0 rfl rfl rfl rfl rfl rfl) ?_
  refine rgp (op_box 1 rfl rfl rfl rfl rfl rfl) ?_
  refine ras ?_
  refine reg_nil ?_
  refine post_imp (s' := ⟨26, [(0, some (.pv (.vs 7 (List.map eGClass a0)))), (4, some (.lp 0 0)), (5, some (.lp 1 0))], [(0, some (.box 26 (bxv (eGType a1)))), (1, some (.box 26 (bxv (eGType a2))))], 2, [], [], 0, []⟩) (imps [0, 1] ⟨by kernel_rfl, by kernel_rfl, by kernel_rfl, trivial⟩ ⟨by kernel_rfl, by kernel_rfl, trivial⟩) ?_
  refine post_next ?_
  refine aw_seq ?_
  refine aw_block ?_
  refine aw_seq ?_
  obtain ⟨x2, hF, hK4⟩ := bind_some hF
  refine aw_cut (fun s1 => s1 = ⟨26, [(0, some (.pv (.vs 7 (List.map eGClass a0)))), (4, some (.lp 0 0)), (5, some (.lp 1 0)), (7, some (.pv (.bool x2)))], [(0, some (.box 26 (bxv (eGType a1)))), (1, some (.box 26 (bxv (eGType a2))))], 2, [], [], 0, []⟩) ?_ ?_
  · refine aw_seq ?_
    refine aw_region ?_
    refine rgp (op_field_lp rfl rfl Tryd_fld_26_0 rfl rfl) ?_
    refine rgp (op_load_lp (v := .pv (.int .i64 a1.fKind)) rfl rfl rfl rfl Tryd_one_3 rfl rfl) ?_
    refine rgp (op_int (k := .i64) (m := a1.fKind) (n := 2) rfl rfl rfl rfl rfl rfl) ?_
    refine ras ?_
    refine reg_nil ?_
    refine post_imp (s' := ⟨26, [(0, some (.pv (.vs 7 (List.map eGClass a0)))), (4, some (.lp 0 0)), (5, some (.lp 1 0)), (7, some (.pv (.bool (a1.fKind != 2))))], [(0, some (.box 26 (bxv (eGType a1)))), (1, some (.box 26 (bxv (eGType a2))))], 2, [], [], 0, []⟩) (imps [0, 1] ⟨by kernel_rfl, by kernel_rfl, by kernel_rfl, by kernel_rfl, trivial⟩ ⟨by kernel_rfl, by kernel_rfl, trivial⟩) ?_
    refine post_next ?_
    rcases ite_some hF with ⟨hb1, hF⟩ | ⟨hb1, hF⟩
    · refine aw_cond_t rfl hb1 ?_
      refine aw_skip ?_
      cases hF
      exact post_cut _ rfl (imps [0, 1] ⟨by kernel_rfl, by kernel_rfl, by kernel_rfl, by kernel_rfl, trivial⟩ ⟨by kernel_rfl, by kernel_rfl, trivial⟩)
    refine aw_cond_f rfl hb1 ?_
    refine aw_region ?_
    refine rgp (op_field_lp rfl rfl Tryd_fld_26_0 rfl rfl) ?_
    refine rgp (op_load_lp (v := .pv (.int .i64 a2.fKind)) rfl rfl rfl rfl Tryd_one_3 rfl rfl) ?_
    refine rgp (op_int (k := .i64) (m := a2.fKind) (n := 2) rfl rfl rfl rfl rfl rfl) ?_
    refine ras ?_
    refine reg_nil ?_
    cases hF
    exact post_cut _ rfl (imps [0, 1] ⟨by kernel_rfl, by kernel_rfl, by kernel_rfl, by kernel_rfl, trivial⟩ ⟨by kernel_rfl, by kernel_rfl, trivial⟩)
  rintro _ rfl
  have hF := hK4
  clear hK4
  refine post_next ?_
  rcases ite_some hF with ⟨hb5, hF⟩ | ⟨hb5, hF⟩
  · refine aw_cond_t rfl hb5 ?_
    refine aw_seq ?_
    refine aw_region ?_
    refine ras ?_
    refine reg_nil ?_
    refine post_imp (s' := ⟨26, [(6, some (.pv (.int .i64 14)))], [], 0, [], [], 0, []⟩) (imps [] ⟨by kernel_rfl, trivial⟩ trivial) ?_
    refine post_next ?_
    refine aw_ret ?_
    refine post_block_ret ?_
    refine post_then_ret ?_
    obtain rfl := Option.some.inj hF
    exact prt
  refine aw_cond_f rfl hb5 ?_
  refine aw_seq ?_
  refine aw_region ?_
  refine rgp (op_load_lp_agg (ps := eGType a1) rfl rfl rfl rfl rfl rfl Tryd_agg_26 rfl rfl) ?_
  obtain ⟨y8, h9, hF⟩ := bind_some hF
  refine rgp (op_call 2 rfl (caps := []) (args := [.agg (eGType a1)]) (rs := [.p (.bool y8)]) rfl rfl rfl Tryd_cal_24 (kind_Unique_ok h9) rfl rfl rfl) ?_
  refine rgp (op_not rfl rfl rfl rfl) ?_
  refine ras ?_
  refine reg_nil ?_
  refine post_imp (s' := ⟨26, [(0, some (.pv (.vs 7 (List.map eGClass a0)))), (4, some (.lp 0 0)), (5, some (.lp 1 0)), (14, some (.pv (.bool (!y8))))], [(0, some (.box 26 (bxv (eGType a1)))), (1, some (.box 26 (bxv (eGType a2))))], 2, [], [], 0, []⟩) (imps [0, 1] ⟨by kernel_rfl, by kernel_rfl, by kernel_rfl, by kernel_rfl, trivial⟩ ⟨by kernel_rfl, by kernel_rfl, trivial⟩) ?_
  refine post_next ?_
  rcases ite_some hF with ⟨hb10, hF⟩ | ⟨hb10, hF⟩
  · refine aw_cond_t rfl hb10 ?_
    refine aw_seq ?_
    refine aw_region ?_
    refine ras ?_
    refine reg_nil ?_
    refine post_imp (s' := ⟨26, [(6, some (.pv (.int .i64 22)))], [], 0, [], [], 0, []⟩) (imps [] ⟨by kernel_rfl, trivial⟩ trivial) ?_
    refine post_next ?_
    refine aw_ret ?_
    refine post_block_ret ?_
    refine post_then_ret ?_
    obtain rfl := Option.some.inj hF
    exact prt
  refine aw_cond_f rfl hb10 ?_
  refine aw_seq ?_
  refine aw_region ?_
  refine rmv ?_
  refine rgp (op_field_lp rfl rfl Tryd_fld_26_1 rfl rfl) ?_
  refine rgp (op_load_lp (v := .pv (.str a1.fClass)) rfl rfl rfl rfl Tryd_one_9 rfl rfl) ?_
  refine rgp (op_field_lp rfl rfl Tryd_fld_26_1 rfl rfl) ?_
  refine rgp (op_load_lp (v := .pv (.str a2.fClass)) rfl rfl rfl rfl Tryd_one_9 rfl rfl) ?_
  obtain ⟨y13, h14, hF⟩ := bind_some hF
  refine rgp (op_call 2 rfl (caps := []) (args := [.vs 7 (List.map eGClass a0), .str a1.fClass, .str a2.fClass]) (rs := [.p (.bool y13)]) rfl rfl rfl Tryd_cal_53 (above_Below_ok h14) rfl rfl rfl) ?_
  refine rgp (op_not rfl rfl rfl rfl) ?_
  refine ras ?_
  refine reg_nil ?_
  refine post_imp (s' := ⟨26, [(18, some (.pv (.bool (!y13))))], [], 0, [], [], 0, []⟩) (imps [] ⟨by kernel_rfl, trivial⟩ trivial) ?_
  refine post_next ?_
  rcases ite_some hF with ⟨hb15, hF⟩ | ⟨hb15, hF⟩
  · refine aw_cond_t rfl hb15 ?_
    refine aw_seq ?_
    refine aw_region ?_
    refine ras ?_
    refine reg_nil ?_
    refine post_imp (s' := ⟨26, [(6, some (.pv (.int .i64 15)))], [], 0, [], [], 0, []⟩) (imps [] ⟨by kernel_rfl, trivial⟩ trivial) ?_
    refine post_next ?_
    refine aw_ret ?_
    refine post_block_ret ?_
    refine post_then_ret ?_
    obtain rfl := Option.some.inj hF
    exact prt
  refine aw_cond_f rfl hb15 ?_
  refine aw_skip ?_
  refine post_block_normal ?_
  refine post_next ?_
  refine aw_seq ?_
  refine aw_region ?_
  refine ras ?_
  refine reg_nil ?_
  refine post_imp (s' := ⟨26, [(6, some (.pv (.int .i64 0)))], [], 0, [], [], 0, []⟩) (imps [] ⟨by kernel_rfl, trivial⟩ trivial) ?_
  refine post_next ?_
  refine aw_ret ?_
  obtain rfl := Option.some.inj hF
  exact prt
theorem law19_ShapeOrder_ok {a0 : List GClass} {a1 : A3 GType} {r : Bool} (hF : law19_ShapeOrder a0 a1 = some r) : Abs.Fn globs_Tryd Tryd.prog 9 [.vs 7 (List.map eGClass a0), .agg ((eA3 eGType) a1)] [.p (.bool r)] := by
  unfold law19_ShapeOrder at hF
  refine fn_of_body (n := 75) Tryd.func9 rfl rfl rfl ?_
  intro w O
  refine aw_seq ?_
  refine aw_region ?_
  refine rgp (op_box 0 rfl rfl rfl rfl rfl rfl) ?_
  refine ras ?_
  refine reg_nil ?_
  refine post_imp (s' := ⟨75, [(0, some (.pv (.vs 7 (List.map eGClass a0)))), (3, some (.lp 0 0))], [(0, some (.box 61 (bxv ((eA3 eGType) a1))))], 1, [], [], 0, []⟩) (imps [0] ⟨by kernel_rfl, by kernel_rfl, trivial⟩ ⟨by kernel_rfl, trivial⟩) ?_
  refine post_next ?_
  iterate 2 (refine aw_seq ?_)
  refine aw_region ?_
  refine rmv ?_
  refine rgp (op_len_vs (n := a0.length) rfl rfl (List.length_map ..) Tryd_slc_58 rfl rfl) ?_
  refine rgp (op_int (k := .i64) (m := (a0.length : Int)) (n := 40) rfl rfl rfl rfl rfl rfl) ?_
  refine reg_nil ?_
  refine post_imp (s' := ⟨75, [(0, some (.pv (.vs 7 (List.map eGClass a0)))), (3, some (.lp 0 0)), (10, some (.pv (.bool (decide ((a0.length : Int) > 40)))))], [(0, some (.box 61 (bxv ((eA3 eGType) a1))))], 1, [], [], 0, []⟩) (imps [0] ⟨by kernel_rfl, by kernel_rfl, by kernel_rfl, trivial⟩ ⟨by kernel_rfl, trivial⟩) ?_
  refine post_next ?_
  rcases ite_some hF with ⟨hb1, hF⟩ | ⟨hb1, hF⟩
  · refine aw_cond_t rfl hb1 ?_
    refine aw_seq ?_
    refine aw_region ?_
    obtain ⟨y2, h3, hF⟩ := bind_some hF
    refine rgp (op_call 1 rfl (caps := []) (args := []) (rs := [.p (.bool y2)]) rfl rfl rfl Tryd_cal_18 (law19_awake_ok h3) rfl rfl rfl) ?_
    refine ras ?_
    refine reg_nil ?_
    refine post_imp (s' := ⟨75, [(4, some (.pv (.bool y2)))], [], 0, [], [], 0, []⟩) (imps [] ⟨by kernel_rfl, trivial⟩ trivial) ?_
    refine post_next ?_
    refine aw_ret ?_
    refine post_then_ret ?_
    obtain rfl := Option.some.inj hF
    exact prt
  refine aw_cond_f rfl hb1 ?_
  refine aw_skip ?_
  refine post_next ?_
  refine aw_seq ?_
  refine aw_imp (imp_names 3) ?_
  refine dr_start ⟨_, _, _⟩ rfl ?_
  refine dr_cons { need := [(3, .lp 0 0)], dst := some 12, val := some (.lp 0 0) } (fun m h => step_on (guard_no rfl) (op_arr_lp (k := .i64) (m := 0) (n := 3) rfl h.1.1 rfl Tryd_arr_61 rfl rfl rfl rfl) rfl) ⟨⟨rfl, trivial⟩, trivial, trivial⟩ ?_
  refine dr_cons { need := [(12, .lp 0 0)], hneed := [(0, .box 61 (bxv ((eA3 eGType) a1)))], dst := some 13, val := some (.pv (.agg (eGType a1.a0))) } (fun m h => step_on (guard_no rfl) (op_load_lp_agg (ps := eGType a1.a0) rfl h.1.1 h.2.1.1 rfl rfl rfl Tryd_agg_26 rfl rfl) rfl) ⟨⟨rfl, trivial⟩, ⟨rfl, trivial⟩, trivial⟩ ?_
  refine dr_cons { need := [(3, .lp 0 0)], dst := some 14, val := some (.lp 0 11) } (fun m h => step_on (guard_no rfl) (op_arr_lp (k := .i64) (m := 1) (n := 3) rfl h.1.1 rfl Tryd_arr_61 rfl rfl rfl rfl) rfl) ⟨⟨rfl, trivial⟩, trivial, trivial⟩ ?_
  refine dr_cons { need := [(14, .lp 0 11)], hneed := [(0, .box 61 (bxv ((eA3 eGType) a1)))], dst := some 15, val := some (.pv (.agg (eGType a1.a1))) } (fun m h => step_on (guard_no rfl) (op_load_lp_agg (ps := eGType a1.a1) rfl h.1.1 h.2.1.1 rfl rfl rfl Tryd_agg_26 rfl rfl) rfl) ⟨⟨rfl, trivial⟩, ⟨rfl, trivial⟩, trivial⟩ ?_
  refine dr_cons { need := [(3, .lp 0 0)], dst := some 16, val := some (.lp 0 22) } (fun m h => step_on (guard_no rfl) (op_arr_lp (k := .i64) (m := 2) (n := 3) rfl h.1.1 rfl Tryd_arr_61 rfl rfl rfl rfl) rfl) ⟨⟨rfl, trivial⟩, trivial, trivial⟩ ?_
  refine dr_cons { need := [(16, .lp 0 22)], hneed := [(0, .box 61 (bxv ((eA3 eGType) a1)))], dst := some 17, val := some (.pv (.agg (eGType a1.a2))) } (fun m h => step_on (guard_no rfl) (op_load_lp_agg (ps := eGType a1.a2) rfl h.1.1 h.2.1.1 rfl rfl rfl Tryd_agg_26 rfl rfl) rfl) ⟨⟨rfl, trivial⟩, ⟨rfl, trivial⟩, trivial⟩ ?_
  refine dr_cons { names := [1], dst := some 5, val := some (.lp 1 0), upd := [(1, some (.box 26 (bxv (eGType zGType))))] } (fun m h => step_on (guard_no rfl) (op_alloc 1 (fresh_free h.2.2.1) (ps := (eGType zGType)) rfl Tryd_zer_26 (by exact ⟨rfl, rfl, rfl, rfl, rfl, rfl, rfl, rfl, rfl, rfl, rfl, trivial⟩) rfl rfl) rfl) ⟨trivial, trivial, ⟨rfl, trivial⟩⟩ ?_
  refine dr_cons { names := [2], dst := some 6, val := some (.lp 2 0), upd := [(2, some (.box 26 (bxv (eGType zGType))))] } (fun m h => step_on (guard_no rfl) (op_alloc 2 (fresh_free h.2.2.1) (ps := (eGType zGType)) rfl Tryd_zer_26 (by exact ⟨rfl, rfl, rfl, rfl, rfl, rfl, rfl, rfl, rfl, rfl, rfl, trivial⟩) rfl rfl) rfl) ⟨trivial, trivial, ⟨rfl, trivial⟩⟩ ?_
  refine dr_cons { names := [3], dst := some 7, val := some (.lp 3 0), upd := [(3, some (.box 26 (bxv (eGType zGType))))] } (fun m h => step_on (guard_no rfl) (op_alloc 3 (fresh_free h.2.2.1) (ps := (eGType zGType)) rfl Tryd_zer_26 (by exact ⟨rfl, rfl, rfl, rfl, rfl, rfl, rfl, rfl, rfl, rfl, rfl, trivial⟩) rfl rfl) rfl) ⟨trivial, trivial, ⟨rfl, trivial⟩⟩ ?_
  refine dr_cons { need := [(5, .lp 1 0), (13, .pv (.agg (eGType a1.a0)))], hneed := [(1, .box 26 (bxv (eGType zGType)))], upd := [(1, some (.box 26 (bxv (eGType a1.a0))))] } (fun m h => step_on (guard_no rfl) (op_store_lp (n := 11) rfl h.1.1 h.1.2.1 rfl h.2.1.1 (or_agg Tryd_agg_26) (by rw [Tryd_non_26]; rfl) rfl rfl rfl) rfl) ⟨⟨rfl, rfl, trivial⟩, ⟨rfl, trivial⟩, trivial⟩ ?_
  refine dr_cons { need := [(6, .lp 2 0), (15, .pv (.agg (eGType a1.a1)))], hneed := [(2, .box 26 (bxv (eGType zGType)))], upd := [(2, some (.box 26 (bxv (eGType a1.a1))))] } (fun m h => step_on (guard_no rfl) (op_store_lp (n := 11) rfl h.1.1 h.1.2.1 rfl h.2.1.1 (or_agg Tryd_agg_26) (by rw [Tryd_non_26]; rfl) rfl rfl rfl) rfl) ⟨⟨rfl, rfl, trivial⟩, ⟨rfl, trivial⟩, trivial⟩ ?_
  refine dr_cons { need := [(7, .lp 3 0), (17, .pv (.agg (eGType a1.a2)))], hneed := [(3, .box 26 (bxv (eGType zGType)))], upd := [(3, some (.box 26 (bxv (eGType a1.a2))))] } (fun m h => step_on (guard_no rfl) (op_store_lp (n := 11) rfl h.1.1 h.1.2.1 rfl h.2.1.1 (or_agg Tryd_agg_26) (by rw [Tryd_non_26]; rfl) rfl rfl rfl) rfl) ⟨⟨rfl, rfl, trivial⟩, ⟨rfl, trivial⟩, trivial⟩ ?_
  refine dr_nil Tryd_mixed rfl (by kernel_rfl) ?_
  refine post_imp (s' := ⟨75, [(0, some (.pv (.vs 7 (List.map eGClass a0)))), (5, some (.lp 0 0)), (6, some (.lp 1 0)), (7, some (.lp 2 0))], [(0, some (.box 26 (bxv (eGType a1.a0)))), (1, some (.box 26 (bxv (eGType a1.a1)))), (2, some (.box 26 (bxv (eGType a1.a2))))], 3, [], [], 0, []⟩) (imps [1, 2, 3] ⟨by kernel_rfl, by kernel_rfl, by kernel_rfl, by kernel_rfl, trivial⟩ ⟨by kernel_rfl, by kernel_rfl, by kernel_rfl, trivial⟩) ?_
  refine post_next ?_
  iterate 2 (refine aw_seq ?_)
  obtain ⟨x14, hF, hK16⟩ := bind_some hF
  refine aw_cut (fun s1 => s1 = ⟨75, [(0, some (.pv (.vs 7 (List.map eGClass a0)))), (5, some (.lp 0 0)), (6, some (.lp 1 0)), (7, some (.lp 2 0)), (36, some (.pv (.bool x14)))], [(0, some (.box 26 (bxv (eGType a1.a0)))), (1, some (.box 26 (bxv (eGType a1.a1)))), (2, some (.box 26 (bxv (eGType a1.a2))))], 3, [], [], 0, []⟩) ?_ ?_
  · refine aw_region ?_
    refine rmv ?_
    refine rgp (op_load_lp_agg (ps := eGType a1.a0) rfl rfl rfl rfl rfl rfl Tryd_agg_26 rfl rfl) ?_
    refine rgp (op_load_lp_agg (ps := eGType a1.a1) rfl rfl rfl rfl rfl rfl Tryd_agg_26 rfl rfl) ?_
    obtain ⟨y6, h7, hF⟩ := bind_some hF
    refine rgp (op_call 3 rfl (caps := []) (args := [.vs 7 (List.map eGClass a0), .agg (eGType a1.a0), .agg (eGType a1.a1)]) (rs := [.p (.int .i64 y6)]) rfl rfl rfl Tryd_cal_28 (shape_Fits_ok h7) rfl rfl rfl) ?_
    refine rgp (op_int (k := .i64) (m := y6) (n := 0) rfl rfl rfl rfl rfl rfl) ?_
    refine rmv ?_
    rcases ite_some hF with ⟨hb8, hF⟩ | ⟨hb8, hF⟩
    · refine rgn hb8 (op_move rfl rfl rfl rfl) ?_
      refine rgn hb8 (op_load_lp_agg (ps := eGType a1.a1) rfl rfl rfl rfl rfl rfl Tryd_agg_26 rfl rfl) ?_
      refine rgn hb8 (op_load_lp_agg (ps := eGType a1.a2) rfl rfl rfl rfl rfl rfl Tryd_agg_26 rfl rfl) ?_
      obtain ⟨y9, h10, hF⟩ := bind_some hF
      refine rgn hb8 (op_call 3 rfl (caps := []) (args := [.vs 7 (List.map eGClass a0), .agg (eGType a1.a1), .agg (eGType a1.a2)]) (rs := [.p (.int .i64 y9)]) rfl rfl rfl Tryd_cal_28 (shape_Fits_ok h10) rfl rfl rfl) ?_
      refine rgn hb8 (op_int (k := .i64) (m := y9) (n := 0) rfl rfl rfl rfl rfl rfl) ?_
      refine rpt hb8 ?_
      refine rmv ?_
      rcases ite_some hF with ⟨hb11, hF⟩ | ⟨hb11, hF⟩
      · refine rgn hb11 (op_move rfl rfl rfl rfl) ?_
        refine rgn hb11 (op_load_lp_agg (ps := eGType a1.a0) rfl rfl rfl rfl rfl rfl Tryd_agg_26 rfl rfl) ?_
        refine rgn hb11 (op_load_lp_agg (ps := eGType a1.a2) rfl rfl rfl rfl rfl rfl Tryd_agg_26 rfl rfl) ?_
        obtain ⟨y12, h13, hF⟩ := bind_some hF
        refine rgn hb11 (op_call 3 rfl (caps := []) (args := [.vs 7 (List.map eGClass a0), .agg (eGType a1.a0), .agg (eGType a1.a2)]) (rs := [.p (.int .i64 y12)]) rfl rfl rfl Tryd_cal_28 (shape_Fits_ok h13) rfl rfl rfl) ?_
        refine rgn hb11 (op_int (k := .i64) (m := y12) (n := 0) rfl rfl rfl rfl rfl rfl) ?_
        refine rpt hb11 ?_
        refine reg_nil ?_
        cases hF
        exact post_cut _ rfl (imps [0, 1, 2] ⟨by kernel_rfl, by kernel_rfl, by kernel_rfl, by kernel_rfl, by kernel_rfl, trivial⟩ ⟨by kernel_rfl, by kernel_rfl, by kernel_rfl, trivial⟩)
      iterate 5 (refine rgo_f hb11 ?_)
      refine rpf hb11 ?_
      refine reg_nil ?_
      cases hF
      exact post_cut _ rfl (imps [0, 1, 2] ⟨by kernel_rfl, by kernel_rfl, by kernel_rfl, by kernel_rfl, by kernel_rfl, trivial⟩ ⟨by kernel_rfl, by kernel_rfl, by kernel_rfl, trivial⟩)
    iterate 5 (refine rgo_f hb8 ?_)
    refine rpf hb8 ?_
    refine rmv ?_
    iterate 5 (refine rgo_f rfl ?_)
    refine rpf rfl ?_
    refine reg_nil ?_
    cases hF
    exact post_cut _ rfl (imps [0, 1, 2] ⟨by kernel_rfl, by kernel_rfl, by kernel_rfl, by kernel_rfl, by kernel_rfl, trivial⟩ ⟨by kernel_rfl, by kernel_rfl, by kernel_rfl, trivial⟩)
  rintro _ rfl
  have hF := hK16
  clear hK16
  refine post_next ?_
  rcases ite_some hF with ⟨hb17, hF⟩ | ⟨hb17, hF⟩
  · refine aw_cond_t rfl hb17 ?_
    refine aw_seq ?_
    refine aw_region ?_
    refine ras ?_
    refine reg_nil ?_
    refine post_imp (s' := ⟨75, [(4, some (.pv (.bool false)))], [], 0, [], [], 0, []⟩) (imps [] ⟨by kernel_rfl, trivial⟩ trivial) ?_
    refine post_next ?_
    refine aw_ret ?_
    refine post_then_ret ?_
    obtain rfl := Option.some.inj hF
    exact prt
  refine aw_cond_f rfl hb17 ?_
  refine aw_skip ?_
  refine post_next ?_
  iterate 2 (refine aw_seq ?_)
  obtain ⟨x31, hF, hK33⟩ := bind_some hF
  refine aw_cut (fun s1 => s1 = ⟨75, [(0, some (.pv (.vs 7 (List.map eGClass a0)))), (5, some (.lp 0 0)), (62, some (.pv (.bool x31)))], [(0, some (.box 26 (bxv (eGType a1.a0))))], 1, [], [], 0, []⟩) ?_ ?_
  · refine aw_region ?_
    refine rmv ?_
    refine rgp (op_load_lp_agg (ps := eGType a1.a0) rfl rfl rfl rfl rfl rfl Tryd_agg_26 rfl rfl) ?_
    refine rgp (op_load_lp_agg (ps := eGType a1.a1) rfl rfl rfl rfl rfl rfl Tryd_agg_26 rfl rfl) ?_
    obtain ⟨y20, h21, hF⟩ := bind_some hF
    refine rgp (op_call 3 rfl (caps := []) (args := [.vs 7 (List.map eGClass a0), .agg (eGType a1.a0), .agg (eGType a1.a1)]) (rs := [.p (.int .i64 y20)]) rfl rfl rfl Tryd_cal_30 (shape_Gives_ok h21) rfl rfl rfl) ?_
    refine rgp (op_int (k := .i64) (m := y20) (n := 0) rfl rfl rfl rfl rfl rfl) ?_
    refine rmv ?_
    rcases ite_some hF with ⟨hb22, hF⟩ | ⟨hb22, hF⟩
    · refine rgn hb22 (op_move rfl rfl rfl rfl) ?_
      refine rgn hb22 (op_load_lp_agg (ps := eGType a1.a0) rfl rfl rfl rfl rfl rfl Tryd_agg_26 rfl rfl) ?_
      refine rgn hb22 (op_load_lp_agg (ps := eGType a1.a1) rfl rfl rfl rfl rfl rfl Tryd_agg_26 rfl rfl) ?_
      obtain ⟨y23, h24, hF⟩ := bind_some hF
      refine rgn hb22 (op_call 3 rfl (caps := []) (args := [.vs 7 (List.map eGClass a0), .agg (eGType a1.a0), .agg (eGType a1.a1)]) (rs := [.p (.int .i64 y23)]) rfl rfl rfl Tryd_cal_28 (shape_Fits_ok h24) rfl rfl rfl) ?_
      refine rgn hb22 (op_int (k := .i64) (m := y23) (n := 22) rfl rfl rfl rfl rfl rfl) ?_
      refine rgn hb22 (op_move rfl rfl rfl rfl) ?_
      rcases ite_some hF with ⟨hb25, hF⟩ | ⟨hb25, hF⟩
      · refine rgo_t hb25 ?_
        iterate 5 (refine rgo_t hb25 ?_)
        iterate 5 (refine rgu ?_)
        refine rgo_t hb25 ?_
        refine rgn hb22 (op_pick_t rfl rfl hb25 rfl rfl rfl) ?_
        refine rpt hb22 ?_
        refine reg_nil ?_
        cases hF
        exact post_cut _ rfl (imps [0] ⟨by kernel_rfl, by kernel_rfl, by kernel_rfl, trivial⟩ ⟨by kernel_rfl, trivial⟩)
      refine rgn hb25 (op_move rfl rfl rfl rfl) ?_
      refine rgn hb25 (op_load_lp_agg (ps := eGType a1.a1) rfl rfl rfl rfl rfl rfl Tryd_agg_26 rfl rfl) ?_
      refine rgn hb25 (op_load_lp_agg (ps := eGType a1.a2) rfl rfl rfl rfl rfl rfl Tryd_agg_26 rfl rfl) ?_
      obtain ⟨y26, h27, hF⟩ := bind_some hF
      refine rgn hb25 (op_call 3 rfl (caps := []) (args := [.vs 7 (List.map eGClass a0), .agg (eGType a1.a1), .agg (eGType a1.a2)]) (rs := [.p (.int .i64 y26)]) rfl rfl rfl Tryd_cal_30 (shape_Gives_ok h27) rfl rfl rfl) ?_
      refine rgn hb25 (op_int (k := .i64) (m := y26) (n := 0) rfl rfl rfl rfl rfl rfl) ?_
      refine rgn hb25 (op_move rfl rfl rfl rfl) ?_
      rcases ite_some hF with ⟨hb28, hF⟩ | ⟨hb28, hF⟩
      · refine rgn hb28 (op_move rfl rfl rfl rfl) ?_
        refine rgn hb28 (op_load_lp_agg (ps := eGType a1.a0) rfl rfl rfl rfl rfl rfl Tryd_agg_26 rfl rfl) ?_
        refine rgn hb28 (op_load_lp_agg (ps := eGType a1.a2) rfl rfl rfl rfl rfl rfl Tryd_agg_26 rfl rfl) ?_
        obtain ⟨y29, h30, hF⟩ := bind_some hF
        refine rgn hb28 (op_call 3 rfl (caps := []) (args := [.vs 7 (List.map eGClass a0), .agg (eGType a1.a0), .agg (eGType a1.a2)]) (rs := [.p (.int .i64 y29)]) rfl rfl rfl Tryd_cal_30 (shape_Gives_ok h30) rfl rfl rfl) ?_
        refine rgn hb28 (op_int (k := .i64) (m := y29) (n := 0) rfl rfl rfl rfl rfl rfl) ?_
        refine rgn hb25 (op_pick_t rfl rfl hb28 rfl rfl rfl) ?_
        refine rgn hb22 (op_pick_f rfl rfl hb25 rfl rfl rfl) ?_
        refine rpt hb22 ?_
        refine reg_nil ?_
        cases hF
        exact post_cut _ rfl (imps [0] ⟨by kernel_rfl, by kernel_rfl, by kernel_rfl, trivial⟩ ⟨by kernel_rfl, trivial⟩)
      iterate 5 (refine rgo_f hb28 ?_)
      refine rgn hb25 (op_pick_f rfl rfl hb28 rfl rfl rfl) ?_
      refine rgn hb22 (op_pick_f rfl rfl hb25 rfl rfl rfl) ?_
      refine rpt hb22 ?_
      refine reg_nil ?_
      cases hF
      exact post_cut _ rfl (imps [0] ⟨by kernel_rfl, by kernel_rfl, by kernel_rfl, trivial⟩ ⟨by kernel_rfl, trivial⟩)
    iterate 6 (refine rgo_f hb22 ?_)
    iterate 12 (refine rgu ?_)
    refine rgo_f hb22 ?_
    refine rpf hb22 ?_
    refine reg_nil ?_
    cases hF
    exact post_cut _ rfl (imps [0] ⟨by kernel_rfl, by kernel_rfl, by kernel_rfl, trivial⟩ ⟨by kernel_rfl, trivial⟩)
  rintro _ rfl
  have hF := hK33
  clear hK33
  refine post_next ?_
  rcases ite_some hF with ⟨hb34, hF⟩ | ⟨hb34, hF⟩
  · refine aw_cond_t rfl hb34 ?_
    refine aw_seq ?_
    refine aw_region ?_
    refine ras ?_
    refine reg_nil ?_
    refine post_imp (s' := ⟨75, [(4, some (.pv (.bool false)))], [], 0, [], [], 0, []⟩) (imps [] ⟨by kernel_rfl, trivial⟩ trivial) ?_
    refine post_next ?_
    refine aw_ret ?_
    refine post_then_ret ?_
    obtain rfl := Option.some.inj hF
    exact prt
  refine aw_cond_f rfl hb34 ?_
  refine aw_skip ?_
  refine post_next ?_
  refine aw_seq ?_
  refine dr_start ⟨_, _, _⟩ rfl ?_
  refine drm ?_
  refine dr_cons { dst := some 64, val := some (.pv (.agg (eGType ({ fKind := 3, fClass := [], fN := 0, fOwn := (⟨zGOwner, zGOwner, zGOwner, zGOwner⟩ : A4 GOwner) } : GType)))) } (fun m h => step_on (guard_no rfl) (op_build (zs := (eGType zGType)) (r := eGType ({ fKind := 3, fClass := [], fN := 0, fOwn := (⟨zGOwner, zGOwner, zGOwner, zGOwner⟩ : A4 GOwner) } : GType)) rfl Tryd_zer_26 (by exact ⟨rfl, rfl, rfl, rfl, rfl, rfl, rfl, rfl, rfl, rfl, rfl, trivial⟩) Tryd_plc_26 (evs_cons rfl evs_nil) rfl rfl rfl) rfl) ⟨trivial, trivial, trivial⟩ ?_
  refine dr_cons { need := [(5, .lp 0 0)], hneed := [(0, .box 26 (bxv (eGType a1.a0)))], dst := some 65, val := some (.pv (.agg (eGType a1.a0))) } (fun m h => step_on (guard_no rfl) (op_load_lp_agg (ps := eGType a1.a0) rfl h.1.1 h.2.1.1 rfl rfl rfl Tryd_agg_26 rfl rfl) rfl) ⟨⟨rfl, trivial⟩, ⟨rfl, trivial⟩, trivial⟩ ?_
  obtain ⟨y35, h36, hF⟩ := bind_some hF
  refine dr_cons { need := [(65, .pv (.agg (eGType a1.a0))), (64, .pv (.agg (eGType ({ fKind := 3, fClass := [], fN := 0, fOwn := (⟨zGOwner, zGOwner, zGOwner, zGOwner⟩ : A4 GOwner) } : GType)))), (63, .pv (.vs 7 (List.map eGClass a0)))], dst := some 66, val := some (.pv (.int .i64 y35)) } (fun m h => step_on (guard_no rfl) (op_call 1 rfl (caps := []) (args := [.vs 7 (List.map eGClass a0), .agg (eGType ({ fKind := 3, fClass := [], fN := 0, fOwn := (⟨zGOwner, zGOwner, zGOwner, zGOwner⟩ : A4 GOwner) } : GType)), .agg (eGType a1.a0)]) (rs := [.p (.int .i64 y35)]) rfl rfl (evl_cons h.1.2.2.1 (evl_cons h.1.2.1 (evl_cons h.1.1 evl_nil))) Tryd_cal_28 (shape_Fits_ok h36) rfl rfl rfl) rfl) ⟨⟨rfl, rfl, rfl, trivial⟩, trivial, trivial⟩ ?_
  refine dr_cons { need := [(66, .pv (.int .i64 y35))], dst := some 67, val := some (.pv (.bool (y35 == 0))) } (fun m h => step_on (guard_no rfl) (op_int (k := .i64) (m := y35) (n := 0) rfl h.1.1 rfl rfl rfl rfl) rfl) ⟨⟨rfl, trivial⟩, trivial, trivial⟩ ?_
  refine dr_cons { need := [(5, .lp 0 0)], dst := some 68, val := some (.lp 0 0) } (fun m h => step_on (guard_no rfl) (op_field_lp rfl h.1.1 Tryd_fld_26_0 rfl rfl) rfl) ⟨⟨rfl, trivial⟩, trivial, trivial⟩ ?_
  refine dr_cons { need := [(68, .lp 0 0)], hneed := [(0, .box 26 (bxv (eGType a1.a0)))], dst := some 69, val := some (.pv (.int .i64 a1.a0.fKind)) } (fun m h => step_on (guard_no rfl) (op_load_lp (v := .pv (.int .i64 a1.a0.fKind)) rfl h.1.1 h.2.1.1 rfl Tryd_one_3 rfl rfl) rfl) ⟨⟨rfl, trivial⟩, ⟨rfl, trivial⟩, trivial⟩ ?_
  refine dr_cons { need := [(69, .pv (.int .i64 a1.a0.fKind))], dst := some 70, val := some (.pv (.bool (a1.a0.fKind == 2))) } (fun m h => step_on (guard_no rfl) (op_int (k := .i64) (m := a1.a0.fKind) (n := 2) rfl h.1.1 rfl rfl rfl rfl) rfl) ⟨⟨rfl, trivial⟩, trivial, trivial⟩ ?_
  refine dr_cons { need := [(67, .pv (.bool (y35 == 0))), (70, .pv (.bool (a1.a0.fKind == 2)))], dst := some 71, val := some (.pv (.bool ((y35 == 0) == (a1.a0.fKind == 2)))) } (fun m h => step_on (guard_no rfl) (op_eqBool_eql rfl h.1.1 h.1.2.1 Tryd_und_4 rfl rfl) rfl) ⟨⟨rfl, rfl, trivial⟩, trivial, trivial⟩ ?_
  refine drm ?_
  rcases ite_some hF with ⟨hb37, hF⟩ | ⟨hb37, hF⟩
  · obtain ⟨y38, h39, hF⟩ := bind_some hF
    refine dr_cons { need := [(72, .pv (.bool ((y35 == 0) == (a1.a0.fKind == 2))))], dst := some 73, val := some (.pv (.bool y38)) } (fun m h => step_on (guard_on rfl rfl rfl h.1.1 hb37) (op_call 1 rfl (caps := []) (args := []) (rs := [.p (.bool y38)]) rfl rfl evl_nil Tryd_cal_18 (law19_awake_ok h39) rfl rfl rfl) rfl) ⟨⟨rfl, trivial⟩, trivial, trivial⟩ ?_
    refine dr_cons { need := [(72, .pv (.bool ((y35 == 0) == (a1.a0.fKind == 2)))), (73, .pv (.bool y38))], dst := some 74, val := some (.pv (.bool y38)) } (fun m h => step_on (guard_no rfl) (op_pick_t rfl h.1.1 hb37 h.1.2.1 rfl rfl) rfl) ⟨⟨rfl, rfl, trivial⟩, trivial, trivial⟩ ?_
    refine dr_cons { need := [(74, .pv (.bool y38))], dst := some 4, val := some (.pv (.bool y38)) } (fun m h => step_on (guard_no rfl) (op_assign rfl h.1.1 rfl rfl) rfl) ⟨⟨rfl, trivial⟩, trivial, trivial⟩ ?_
    refine dr_nil Tryd_mixed rfl (by kernel_rfl) ?_
    refine post_imp (s' := ⟨75, [(4, some (.pv (.bool y38)))], [], 0, [], [], 0, []⟩) (imps [] ⟨by kernel_rfl, trivial⟩ trivial) ?_
    refine post_next ?_
    refine aw_ret ?_
    obtain rfl := Option.some.inj hF
    exact prt
  refine dro_f hb37 ?_
  refine drpf hb37 ?_
  refine dr_cons { need := [(74, .pv (.bool false))], dst := some 4, val := some (.pv (.bool false)) } (fun m h => step_on (guard_no rfl) (op_assign rfl h.1.1 rfl rfl) rfl) ⟨⟨rfl, trivial⟩, trivial, trivial⟩ ?_
  refine dr_nil Tryd_mixed rfl (by kernel_rfl) ?_
  refine post_imp (s' := ⟨75, [(4, some (.pv (.bool false)))], [], 0, [], [], 0, []⟩) (imps [] ⟨by kernel_rfl, trivial⟩ trivial) ?_
  refine post_next ?_
  refine aw_ret ?_
  obtain rfl := Option.some.inj hF
  exact prt
end Go.Proofs.YtkmaieldmcjbfaaDoor
