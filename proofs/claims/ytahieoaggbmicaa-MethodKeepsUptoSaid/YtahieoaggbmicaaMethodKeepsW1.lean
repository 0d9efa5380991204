/- A part of the proof that the law MethodKeeps gives true for every input. -/
import Derived.Test.YtahieoaggbmicaaMethodKeepsT
import Derived.Test.YtahieoaggbmicaaMethodKeepsX
import Derived.Test.YtahieoaggbmicaaMethodKeepsI
import Derived.Test.YtahieoaggbmicaaMethodKeepsW0
/- Each Go function computes its plain function. -/
namespace Go.Proofs.Ytahieoaggbmicaa
open Go.RowKit Go.Abs
set_option maxRecDepth 100000
set_option maxHeartbeats 4000000
abbrev ref06_form_e51 (a0 : GExpr) : Eff := { need := [(36, .pv (.bool (a0.fKind != 2))), (37, .lp 0 2)], hneed := [(0, .box 81 (bxv (eGExpr a0)))], dst := some 38, val := some (.pv (.str a0.fName)) }
abbrev ref06_form_e52 (a0 : GExpr) : Eff := { need := [(36, .pv (.bool (a0.fKind != 2))), (38, .pv (.str a0.fName))], dst := some 39, val := some (.pv (.bool (!(a0.fName == [])))) }
abbrev ref06_form_e56 (a0 : GExpr) : Eff := { need := [(42, .pv (.bool (!(a0.fName == [])))), (43, .lp 0 1)], hneed := [(0, .box 81 (bxv (eGExpr a0)))], dst := some 44, val := some (.pv (.int .i64 a0.fNum)) }
abbrev ref06_form_e57 (a0 : GExpr) : Eff := { need := [(42, .pv (.bool (!(a0.fName == [])))), (44, .pv (.int .i64 a0.fNum))], dst := some 45, val := some (.pv (.bool (decide (a0.fNum < 0)))) }
abbrev ref06_form_e58 (a0 : GExpr) : Eff := { need := [(42, .pv (.bool (!(a0.fName == [])))), (45, .pv (.bool (decide (a0.fNum < 0))))], dst := some 46, val := some (.pv (.bool (decide (a0.fNum < 0)))) }
abbrev ref06_form_e59 (a0 : GExpr) : Eff := { need := [(47, .pv (.bool (decide (a0.fNum < 0)))), (1, .lp 0 0)], dst := some 48, val := some (.lp 0 1) }
abbrev ref06_form_e60 (a0 : GExpr) : Eff := { need := [(47, .pv (.bool (decide (a0.fNum < 0)))), (48, .lp 0 1)], hneed := [(0, .box 81 (bxv (eGExpr a0)))], dst := some 49, val := some (.pv (.int .i64 a0.fNum)) }
abbrev ref06_form_e61 (a0 : GExpr) : Eff := { need := [(47, .pv (.bool (decide (a0.fNum < 0)))), (49, .pv (.int .i64 a0.fNum))], dst := some 50, val := some (.pv (.bool (decide (a0.fNum > 999999999)))) }
abbrev ref06_form_e62 (a0 : GExpr) : Eff := { need := [(47, .pv (.bool (decide (a0.fNum < 0)))), (50, .pv (.bool (decide (a0.fNum > 999999999))))], dst := some 51, val := some (.pv (.bool (decide (a0.fNum > 999999999)))) }
abbrev ref06_form_e63 (a0 : GExpr) : Eff := { need := [(52, .pv (.bool (decide (a0.fNum > 999999999)))), (1, .lp 0 0)], dst := some 53, val := some (.lp 0 0) }
abbrev ref06_form_e64 (a0 : GExpr) : Eff := { need := [(52, .pv (.bool (decide (a0.fNum > 999999999)))), (53, .lp 0 0)], hneed := [(0, .box 81 (bxv (eGExpr a0)))], dst := some 54, val := some (.pv (.int .i64 a0.fKind)) }
abbrev ref06_form_e65 (a0 : GExpr) : Eff := { need := [(52, .pv (.bool (decide (a0.fNum > 999999999)))), (54, .pv (.int .i64 a0.fKind))], dst := some 55, val := some (.pv (.bool (a0.fKind == 2))) }
abbrev ref06_form_e66 (a0 : GExpr) : Eff := { need := [(52, .pv (.bool (decide (a0.fNum > 999999999)))), (55, .pv (.bool (a0.fKind == 2)))], dst := some 56, val := some (.pv (.bool (a0.fKind == 2))) }
abbrev ref06_form_e67 (a0 : GExpr) : Eff := { need := [(56, .pv (.bool (a0.fKind == 2))), (1, .lp 0 0)], dst := some 57, val := some (.lp 0 2) }
abbrev ref06_form_e68 (a0 : GExpr) : Eff := { need := [(56, .pv (.bool (a0.fKind == 2))), (57, .lp 0 2)], hneed := [(0, .box 81 (bxv (eGExpr a0)))], dst := some 58, val := some (.pv (.str a0.fName)) }
abbrev ref06_form_e73 (a0 : GExpr) : Eff := { need := [(52, .pv (.bool (decide (a0.fNum > 999999999)))), (56, .pv (.bool (a0.fKind == 2)))], dst := some 61, val := some (.pv (.bool false)) }
abbrev ref06_form_e74 (a0 : GExpr) : Eff := { need := [(52, .pv (.bool (decide (a0.fNum > 999999999)))), (61, .pv (.bool false))], dst := some 62, val := some (.pv (.bool false)) }
abbrev ref06_form_e77  : Eff := { need := [(42, .pv (.bool false)), (1, .lp 0 0)], dst := some 43, val := some (.lp 0 1) }
abbrev ref06_form_e78 (a0 : GExpr) : Eff := { need := [(42, .pv (.bool false)), (43, .lp 0 1)], hneed := [(0, .box 81 (bxv (eGExpr a0)))], dst := some 44, val := some (.pv (.int .i64 a0.fNum)) }
abbrev ref06_form_e79 (a0 : GExpr) : Eff := { need := [(42, .pv (.bool false)), (44, .pv (.int .i64 a0.fNum))], dst := some 45, val := some (.pv (.bool (decide (a0.fNum < 0)))) }
abbrev ref06_form_e80 (a0 : GExpr) : Eff := { need := [(42, .pv (.bool false)), (45, .pv (.bool (decide (a0.fNum < 0))))], dst := some 46, val := some (.pv (.bool (decide (a0.fNum < 0)))) }
theorem ref06_form_ring : ∀ n : Nat, (∀ (a0 : GExpr) (r : Bool), ref06_form n a0 = some r → Abs.Fn Try.prog 128 [.agg (eGExpr a0)] [.p (.bool r)]) := by
  intro n
  induction n with
  | zero => exact (fun _ _ h => by simp [ref06_form] at h)
  | succ n ih =>
    have ref06_form_ih := ih
    clear ih
    intro a0 r hF
    unfold ref06_form at hF
    revert hF ref06_form_ih
    generalize ref06_form n = ref06_form_rec
    intro ref06_form_ih hF
    refine fn_of_body (n := 113) Try.func128 rfl rfl rfl ?_
    intro w O
    refine aw_seq ?_
    refine aw_region ?_
    refine rgp (op_box 0 rfl rfl rfl rfl rfl rfl) ?_
    refine ras ?_
    refine reg_nil ?_
    refine post_imp (s' := ⟨113, [(1, some (.lp 0 0))], [(0, some (.box 81 (bxv (eGExpr a0))))], 1, [], [], 0, []⟩) (imps [0] ⟨by kernel_rfl, trivial⟩ ⟨by kernel_rfl, trivial⟩) ?_
    refine post_next ?_
    iterate 2 (refine aw_seq ?_)
    obtain ⟨x32, hF, hK34⟩ := bind_some hF
    refine aw_cut (fun s1 => s1 = ⟨113, [(1, some (.lp 0 0)), (62, some (.pv (.bool x32)))], [(0, some (.box 81 (bxv (eGExpr a0))))], 1, [], [], 0, []⟩) ?_ ?_
    · refine dr_start ⟨_, _, _⟩ rfl ?_
      refine dr_cons { need := [(1, .lp 0 0)], dst := some 5, val := some (.lp 0 0) } (fun m h => step_on (guard_no rfl) (op_field_lp rfl h.1.1 Try_fld_81_0 rfl rfl) rfl) ⟨⟨rfl, trivial⟩, trivial, trivial⟩ ?_
      refine dr_cons { need := [(5, .lp 0 0)], hneed := [(0, .box 81 (bxv (eGExpr a0)))], dst := some 6, val := some (.pv (.int .i64 a0.fKind)) } (fun m h => step_on (guard_no rfl) (op_load_lp (v := .pv (.int .i64 a0.fKind)) rfl h.1.1 h.2.1.1 rfl Try_one_3 rfl rfl) rfl) ⟨⟨rfl, trivial⟩, ⟨rfl, trivial⟩, trivial⟩ ?_
      refine dr_cons { need := [(6, .pv (.int .i64 a0.fKind))], dst := some 7, val := some (.pv (.bool (decide (a0.fKind < 1)))) } (fun m h => step_on (guard_no rfl) (op_int (k := .i64) (m := a0.fKind) (n := 1) rfl h.1.1 rfl rfl rfl rfl) rfl) ⟨⟨rfl, trivial⟩, trivial, trivial⟩ ?_
      refine drm ?_
      rcases ite_some hF with ⟨hb1, hF⟩ | ⟨hb1, hF⟩
      · refine dro_t hb1 ?_
        iterate 2 (refine dro_t hb1 ?_)
        refine drpt hb1 ?_
        refine drm ?_
        iterate 7 (refine dro_t rfl ?_)
        refine drpt rfl ?_
        refine drm ?_
        iterate 4 (refine dro_t rfl ?_)
        iterate 3 (refine dru ?_)
        refine dro_t rfl ?_
        refine drpt rfl ?_
        refine drm ?_
        iterate 4 (refine dro_t rfl ?_)
        iterate 3 (refine dru ?_)
        refine dro_t rfl ?_
        refine drpt rfl ?_
        refine drm ?_
        iterate 3 (refine dro_t rfl ?_)
        refine drpt rfl ?_
        refine drm ?_
        iterate 3 (refine dro_t rfl ?_)
        refine drpt rfl ?_
        refine drm ?_
        iterate 4 (refine dro_t rfl ?_)
        iterate 4 (refine dru ?_)
        refine dro_t rfl ?_
        refine drpt rfl ?_
        refine dr_nil Try_mixed rfl (by kernel_rfl) ?_
        refine post_imp (s' := ⟨113, [(1, some (.lp 0 0)), (62, some (.pv (.bool true)))], [(0, some (.box 81 (bxv (eGExpr a0))))], 1, [], [], 0, []⟩) (imps [0] ⟨by kernel_rfl, by kernel_rfl, trivial⟩ ⟨by kernel_rfl, trivial⟩) ?_
        cases hF
        exact post_cut _ rfl (imps [0] ⟨by kernel_rfl, by kernel_rfl, trivial⟩ ⟨by kernel_rfl, trivial⟩)
      refine dr_cons { need := [(8, .pv (.bool (decide (a0.fKind < 1)))), (1, .lp 0 0)], dst := some 9, val := some (.lp 0 0) } (fun m h => step_on (guard_on rfl rfl rfl h.1.1 hb1) (op_field_lp rfl h.1.2.1 Try_fld_81_0 rfl rfl) rfl) ⟨⟨rfl, rfl, trivial⟩, trivial, trivial⟩ ?_
      refine dr_cons { need := [(8, .pv (.bool (decide (a0.fKind < 1)))), (9, .lp 0 0)], hneed := [(0, .box 81 (bxv (eGExpr a0)))], dst := some 10, val := some (.pv (.int .i64 a0.fKind)) } (fun m h => step_on (guard_on rfl rfl rfl h.1.1 hb1) (op_load_lp (v := .pv (.int .i64 a0.fKind)) rfl h.1.2.1 h.2.1.1 rfl Try_one_3 rfl rfl) rfl) ⟨⟨rfl, rfl, trivial⟩, ⟨rfl, trivial⟩, trivial⟩ ?_
      refine dr_cons { need := [(8, .pv (.bool (decide (a0.fKind < 1)))), (10, .pv (.int .i64 a0.fKind))], dst := some 11, val := some (.pv (.bool (decide (a0.fKind > 14)))) } (fun m h => step_on (guard_on rfl rfl rfl h.1.1 hb1) (op_int (k := .i64) (m := a0.fKind) (n := 14) rfl h.1.2.1 rfl rfl rfl rfl) rfl) ⟨⟨rfl, rfl, trivial⟩, trivial, trivial⟩ ?_
      refine dr_cons { need := [(8, .pv (.bool (decide (a0.fKind < 1)))), (11, .pv (.bool (decide (a0.fKind > 14))))], dst := some 12, val := some (.pv (.bool (decide (a0.fKind > 14)))) } (fun m h => step_on (guard_no rfl) (op_pick_f rfl h.1.1 hb1 h.1.2.1 rfl rfl) rfl) ⟨⟨rfl, rfl, trivial⟩, trivial, trivial⟩ ?_
      refine drm ?_
      rcases ite_some hF with ⟨hb2, hF⟩ | ⟨hb2, hF⟩
      · refine dro_t hb2 ?_
        iterate 6 (refine dro_t hb2 ?_)
        refine drpt hb2 ?_
        refine drm ?_
        iterate 4 (refine dro_t rfl ?_)
        iterate 3 (refine dru ?_)
        refine dro_t rfl ?_
        refine drpt rfl ?_
        refine drm ?_
        iterate 4 (refine dro_t rfl ?_)
        iterate 3 (refine dru ?_)
        refine dro_t rfl ?_
        refine drpt rfl ?_
        refine drm ?_
        iterate 3 (refine dro_t rfl ?_)
        refine drpt rfl ?_
        refine drm ?_
        iterate 3 (refine dro_t rfl ?_)
        refine drpt rfl ?_
        refine drm ?_
        iterate 4 (refine dro_t rfl ?_)
        iterate 4 (refine dru ?_)
        refine dro_t rfl ?_
        refine drpt rfl ?_
        refine dr_nil Try_mixed rfl (by kernel_rfl) ?_
        refine post_imp (s' := ⟨113, [(1, some (.lp 0 0)), (62, some (.pv (.bool true)))], [(0, some (.box 81 (bxv (eGExpr a0))))], 1, [], [], 0, []⟩) (imps [0] ⟨by kernel_rfl, by kernel_rfl, trivial⟩ ⟨by kernel_rfl, trivial⟩) ?_
        cases hF
        exact post_cut _ rfl (imps [0] ⟨by kernel_rfl, by kernel_rfl, trivial⟩ ⟨by kernel_rfl, trivial⟩)
      refine dr_cons { need := [(13, .pv (.bool (decide (a0.fKind > 14)))), (1, .lp 0 0)], dst := some 14, val := some (.lp 0 3) } (fun m h => step_on (guard_on rfl rfl rfl h.1.1 hb2) (op_field_lp rfl h.1.2.1 Try_fld_81_3 rfl rfl) rfl) ⟨⟨rfl, rfl, trivial⟩, trivial, trivial⟩ ?_
      refine dr_cons { need := [(13, .pv (.bool (decide (a0.fKind > 14)))), (14, .lp 0 3)], hneed := [(0, .box 81 (bxv (eGExpr a0)))], dst := some 15, val := some (.pv (.vs 4 (eLGExpr a0.fKids))) } (fun m h => step_on (guard_on rfl rfl rfl h.1.1 hb2) (op_load_lp (v := .pv (.vs 4 (eLGExpr a0.fKids))) rfl h.1.2.1 h.2.1.1 rfl Try_one_79 rfl rfl) rfl) ⟨⟨rfl, rfl, trivial⟩, ⟨rfl, trivial⟩, trivial⟩ ?_
      refine dr_cons { need := [(13, .pv (.bool (decide (a0.fKind > 14)))), (15, .pv (.vs 4 (eLGExpr a0.fKids)))], dst := some 16, val := some (.pv (.int .i64 (a0.fKids.length : Int))) } (fun m h => step_on (guard_on rfl rfl rfl h.1.1 hb2) (op_len_vs (n := a0.fKids.length) rfl h.1.2.1 (lenR eLGExpr_map) Try_slc_79 rfl rfl) rfl) ⟨⟨rfl, rfl, trivial⟩, trivial, trivial⟩ ?_
      refine dr_cons { need := [(13, .pv (.bool (decide (a0.fKind > 14)))), (1, .lp 0 0)], dst := some 17, val := some (.lp 0 0) } (fun m h => step_on (guard_on rfl rfl rfl h.1.1 hb2) (op_field_lp rfl h.1.2.1 Try_fld_81_0 rfl rfl) rfl) ⟨⟨rfl, rfl, trivial⟩, trivial, trivial⟩ ?_
      refine dr_cons { need := [(13, .pv (.bool (decide (a0.fKind > 14)))), (17, .lp 0 0)], hneed := [(0, .box 81 (bxv (eGExpr a0)))], dst := some 18, val := some (.pv (.int .i64 a0.fKind)) } (fun m h => step_on (guard_on rfl rfl rfl h.1.1 hb2) (op_load_lp (v := .pv (.int .i64 a0.fKind)) rfl h.1.2.1 h.2.1.1 rfl Try_one_3 rfl rfl) rfl) ⟨⟨rfl, rfl, trivial⟩, ⟨rfl, trivial⟩, trivial⟩ ?_
      obtain ⟨y3, h4, hF⟩ := bind_some hF
      refine dr_cons { need := [(13, .pv (.bool (decide (a0.fKind > 14)))), (18, .pv (.int .i64 a0.fKind))], dst := some 19, val := some (.pv (.int .i64 y3)) } (fun m h => step_on (guard_on rfl rfl rfl h.1.1 hb2) (op_call 1 rfl (caps := []) (args := [.int .i64 a0.fKind]) (rs := [.p (.int .i64 y3)]) rfl rfl (evl_cons h.1.2.1 evl_nil) Try_cal_130 (ref06_kids_ok h4) rfl rfl rfl) rfl) ⟨⟨rfl, rfl, trivial⟩, trivial, trivial⟩ ?_
      refine dr_cons { need := [(13, .pv (.bool (decide (a0.fKind > 14)))), (16, .pv (.int .i64 (a0.fKids.length : Int))), (19, .pv (.int .i64 y3))], dst := some 20, val := some (.pv (.bool ((a0.fKids.length : Int) != y3))) } (fun m h => step_on (guard_on rfl rfl rfl h.1.1 hb2) (op_int (k := .i64) (m := (a0.fKids.length : Int)) (n := y3) rfl h.1.2.1 h.1.2.2.1 rfl rfl rfl) rfl) ⟨⟨rfl, rfl, rfl, trivial⟩, trivial, trivial⟩ ?_
      refine dr_cons { need := [(13, .pv (.bool (decide (a0.fKind > 14)))), (20, .pv (.bool ((a0.fKids.length : Int) != y3)))], dst := some 21, val := some (.pv (.bool ((a0.fKids.length : Int) != y3))) } (fun m h => step_on (guard_no rfl) (op_pick_f rfl h.1.1 hb2 h.1.2.1 rfl rfl) rfl) ⟨⟨rfl, rfl, trivial⟩, trivial, trivial⟩ ?_
      refine drm ?_
      rcases ite_some hF with ⟨hb5, hF⟩ | ⟨hb5, hF⟩
      · refine dro_t hb5 ?_
        iterate 3 (refine dro_t hb5 ?_)
        iterate 3 (refine dru ?_)
        refine dro_t hb5 ?_
        refine drpt hb5 ?_
        refine drm ?_
        iterate 4 (refine dro_t rfl ?_)
        iterate 3 (refine dru ?_)
        refine dro_t rfl ?_
        refine drpt rfl ?_
        refine drm ?_
        iterate 3 (refine dro_t rfl ?_)
        refine drpt rfl ?_
        refine drm ?_
        iterate 3 (refine dro_t rfl ?_)
        refine drpt rfl ?_
        refine drm ?_
        iterate 4 (refine dro_t rfl ?_)
        iterate 4 (refine dru ?_)
        refine dro_t rfl ?_
        refine drpt rfl ?_
        refine dr_nil Try_mixed rfl (by kernel_rfl) ?_
        refine post_imp (s' := ⟨113, [(1, some (.lp 0 0)), (62, some (.pv (.bool true)))], [(0, some (.box 81 (bxv (eGExpr a0))))], 1, [], [], 0, []⟩) (imps [0] ⟨by kernel_rfl, by kernel_rfl, trivial⟩ ⟨by kernel_rfl, trivial⟩) ?_
        cases hF
        exact post_cut _ rfl (imps [0] ⟨by kernel_rfl, by kernel_rfl, trivial⟩ ⟨by kernel_rfl, trivial⟩)
      refine dr_cons { need := [(22, .pv (.bool ((a0.fKids.length : Int) != y3))), (1, .lp 0 0)], dst := some 23, val := some (.lp 0 0) } (fun m h => step_on (guard_on rfl rfl rfl h.1.1 hb5) (op_field_lp rfl h.1.2.1 Try_fld_81_0 rfl rfl) rfl) ⟨⟨rfl, rfl, trivial⟩, trivial, trivial⟩ ?_
      refine dr_cons { need := [(22, .pv (.bool ((a0.fKids.length : Int) != y3))), (23, .lp 0 0)], hneed := [(0, .box 81 (bxv (eGExpr a0)))], dst := some 24, val := some (.pv (.int .i64 a0.fKind)) } (fun m h => step_on (guard_on rfl rfl rfl h.1.1 hb5) (op_load_lp (v := .pv (.int .i64 a0.fKind)) rfl h.1.2.1 h.2.1.1 rfl Try_one_3 rfl rfl) rfl) ⟨⟨rfl, rfl, trivial⟩, ⟨rfl, trivial⟩, trivial⟩ ?_
      refine dr_cons { need := [(22, .pv (.bool ((a0.fKids.length : Int) != y3))), (24, .pv (.int .i64 a0.fKind))], dst := some 25, val := some (.pv (.bool (a0.fKind != 1))) } (fun m h => step_on (guard_on rfl rfl rfl h.1.1 hb5) (op_int (k := .i64) (m := a0.fKind) (n := 1) rfl h.1.2.1 rfl rfl rfl rfl) rfl) ⟨⟨rfl, rfl, trivial⟩, trivial, trivial⟩ ?_
      refine dr_cons { need := [(22, .pv (.bool ((a0.fKids.length : Int) != y3))), (25, .pv (.bool (a0.fKind != 1)))], dst := some 26, val := some (.pv (.bool (a0.fKind != 1))) } (fun m h => step_on (guard_on rfl rfl rfl h.1.1 hb5) (op_move rfl h.1.2.1 rfl rfl) rfl) ⟨⟨rfl, rfl, trivial⟩, trivial, trivial⟩ ?_
      rcases ite_some hF with ⟨hb6, hF⟩ | ⟨hb6, hF⟩
      · refine dr_cons { need := [(26, .pv (.bool (a0.fKind != 1))), (1, .lp 0 0)], dst := some 27, val := some (.lp 0 1) } (fun m h => step_on (guard_on rfl rfl rfl h.1.1 hb6) (op_field_lp rfl h.1.2.1 Try_fld_81_1 rfl rfl) rfl) ⟨⟨rfl, rfl, trivial⟩, trivial, trivial⟩ ?_
        refine dr_cons { need := [(26, .pv (.bool (a0.fKind != 1))), (27, .lp 0 1)], hneed := [(0, .box 81 (bxv (eGExpr a0)))], dst := some 28, val := some (.pv (.int .i64 a0.fNum)) } (fun m h => step_on (guard_on rfl rfl rfl h.1.1 hb6) (op_load_lp (v := .pv (.int .i64 a0.fNum)) rfl h.1.2.1 h.2.1.1 rfl Try_one_3 rfl rfl) rfl) ⟨⟨rfl, rfl, trivial⟩, ⟨rfl, trivial⟩, trivial⟩ ?_
        refine dr_cons { need := [(26, .pv (.bool (a0.fKind != 1))), (28, .pv (.int .i64 a0.fNum))], dst := some 29, val := some (.pv (.bool (a0.fNum != 0))) } (fun m h => step_on (guard_on rfl rfl rfl h.1.1 hb6) (op_int (k := .i64) (m := a0.fNum) (n := 0) rfl h.1.2.1 rfl rfl rfl rfl) rfl) ⟨⟨rfl, rfl, trivial⟩, trivial, trivial⟩ ?_
        refine dr_cons { need := [(22, .pv (.bool ((a0.fKids.length : Int) != y3))), (26, .pv (.bool (a0.fKind != 1))), (29, .pv (.bool (a0.fNum != 0)))], dst := some 30, val := some (.pv (.bool (a0.fNum != 0))) } (fun m h => step_on (guard_on rfl rfl rfl h.1.1 hb5) (op_pick_t rfl h.1.2.1 hb6 h.1.2.2.1 rfl rfl) rfl) ⟨⟨rfl, rfl, rfl, trivial⟩, trivial, trivial⟩ ?_
        refine dr_cons { need := [(22, .pv (.bool ((a0.fKids.length : Int) != y3))), (30, .pv (.bool (a0.fNum != 0)))], dst := some 31, val := some (.pv (.bool (a0.fNum != 0))) } (fun m h => step_on (guard_no rfl) (op_pick_f rfl h.1.1 hb5 h.1.2.1 rfl rfl) rfl) ⟨⟨rfl, rfl, trivial⟩, trivial, trivial⟩ ?_
        refine drm ?_
        rcases ite_some hF with ⟨hb7, hF⟩ | ⟨hb7, hF⟩
        · refine dro_t hb7 ?_
          iterate 3 (refine dro_t hb7 ?_)
          iterate 3 (refine dru ?_)
          refine dro_t hb7 ?_
          refine drpt hb7 ?_
          refine drm ?_
          iterate 3 (refine dro_t rfl ?_)
          refine drpt rfl ?_
          refine drm ?_
          iterate 3 (refine dro_t rfl ?_)
          refine drpt rfl ?_
          refine drm ?_
          iterate 4 (refine dro_t rfl ?_)
          iterate 4 (refine dru ?_)
          refine dro_t rfl ?_
          refine drpt rfl ?_
          refine dr_nil Try_mixed rfl (by kernel_rfl) ?_
          refine post_imp (s' := ⟨113, [(1, some (.lp 0 0)), (62, some (.pv (.bool true)))], [(0, some (.box 81 (bxv (eGExpr a0))))], 1, [], [], 0, []⟩) (imps [0] ⟨by kernel_rfl, by kernel_rfl, trivial⟩ ⟨by kernel_rfl, trivial⟩) ?_
          cases hF
          exact post_cut _ rfl (imps [0] ⟨by kernel_rfl, by kernel_rfl, trivial⟩ ⟨by kernel_rfl, trivial⟩)
        refine dr_cons { need := [(32, .pv (.bool (a0.fNum != 0))), (1, .lp 0 0)], dst := some 33, val := some (.lp 0 0) } (fun m h => step_on (guard_on rfl rfl rfl h.1.1 hb7) (op_field_lp rfl h.1.2.1 Try_fld_81_0 rfl rfl) rfl) ⟨⟨rfl, rfl, trivial⟩, trivial, trivial⟩ ?_
        refine dr_cons { need := [(32, .pv (.bool (a0.fNum != 0))), (33, .lp 0 0)], hneed := [(0, .box 81 (bxv (eGExpr a0)))], dst := some 34, val := some (.pv (.int .i64 a0.fKind)) } (fun m h => step_on (guard_on rfl rfl rfl h.1.1 hb7) (op_load_lp (v := .pv (.int .i64 a0.fKind)) rfl h.1.2.1 h.2.1.1 rfl Try_one_3 rfl rfl) rfl) ⟨⟨rfl, rfl, trivial⟩, ⟨rfl, trivial⟩, trivial⟩ ?_
        refine dr_cons { need := [(32, .pv (.bool (a0.fNum != 0))), (34, .pv (.int .i64 a0.fKind))], dst := some 35, val := some (.pv (.bool (a0.fKind != 2))) } (fun m h => step_on (guard_on rfl rfl rfl h.1.1 hb7) (op_int (k := .i64) (m := a0.fKind) (n := 2) rfl h.1.2.1 rfl rfl rfl rfl) rfl) ⟨⟨rfl, rfl, trivial⟩, trivial, trivial⟩ ?_
        refine dr_cons { need := [(32, .pv (.bool (a0.fNum != 0))), (35, .pv (.bool (a0.fKind != 2)))], dst := some 36, val := some (.pv (.bool (a0.fKind != 2))) } (fun m h => step_on (guard_on rfl rfl rfl h.1.1 hb7) (op_move rfl h.1.2.1 rfl rfl) rfl) ⟨⟨rfl, rfl, trivial⟩, trivial, trivial⟩ ?_
        rcases ite_some hF with ⟨hb8, hF⟩ | ⟨hb8, hF⟩
        · refine dr_cons { need := [(36, .pv (.bool (a0.fKind != 2))), (1, .lp 0 0)], dst := some 37, val := some (.lp 0 2) } (fun m h => step_on (guard_on rfl rfl rfl h.1.1 hb8) (op_field_lp rfl h.1.2.1 Try_fld_81_2 rfl rfl) rfl) ⟨⟨rfl, rfl, trivial⟩, trivial, trivial⟩ ?_
          refine dr_cons (ref06_form_e51 a0) (fun m h => step_on (guard_on rfl rfl rfl h.1.1 hb8) (op_load_lp (v := .pv (.str a0.fName)) rfl h.1.2.1 h.2.1.1 rfl Try_one_9 rfl rfl) rfl) ⟨⟨rfl, rfl, trivial⟩, ⟨rfl, trivial⟩, trivial⟩ ?_
          refine dr_cons (ref06_form_e52 a0) (fun m h => step_on (guard_on rfl rfl rfl h.1.1 hb8) (op_str rfl h.1.2.1 rfl rfl rfl rfl) rfl) ⟨⟨rfl, rfl, trivial⟩, trivial, trivial⟩ ?_
          refine dr_cons { need := [(32, .pv (.bool (a0.fNum != 0))), (36, .pv (.bool (a0.fKind != 2))), (39, .pv (.bool (!(a0.fName == []))))], dst := some 40, val := some (.pv (.bool (!(a0.fName == [])))) } (fun m h => step_on (guard_on rfl rfl rfl h.1.1 hb7) (op_pick_t rfl h.1.2.1 hb8 h.1.2.2.1 rfl rfl) rfl) ⟨⟨rfl, rfl, rfl, trivial⟩, trivial, trivial⟩ ?_
          refine dr_cons { need := [(32, .pv (.bool (a0.fNum != 0))), (40, .pv (.bool (!(a0.fName == []))))], dst := some 41, val := some (.pv (.bool (!(a0.fName == [])))) } (fun m h => step_on (guard_no rfl) (op_pick_f rfl h.1.1 hb7 h.1.2.1 rfl rfl) rfl) ⟨⟨rfl, rfl, trivial⟩, trivial, trivial⟩ ?_
          refine drm ?_
          rcases ite_some hF with ⟨hb9, hF⟩ | ⟨hb9, hF⟩
          · refine dro_t hb9 ?_
            iterate 2 (refine dro_t hb9 ?_)
            refine drpt hb9 ?_
            refine drm ?_
            iterate 3 (refine dro_t rfl ?_)
            refine drpt rfl ?_
            refine drm ?_
            iterate 4 (refine dro_t rfl ?_)
            iterate 4 (refine dru ?_)
            refine dro_t rfl ?_
            refine drpt rfl ?_
            refine dr_nil Try_mixed rfl (by kernel_rfl) ?_
            refine post_imp (s' := ⟨113, [(1, some (.lp 0 0)), (62, some (.pv (.bool true)))], [(0, some (.box 81 (bxv (eGExpr a0))))], 1, [], [], 0, []⟩) (imps [0] ⟨by kernel_rfl, by kernel_rfl, trivial⟩ ⟨by kernel_rfl, trivial⟩) ?_
            cases hF
            exact post_cut _ rfl (imps [0] ⟨by kernel_rfl, by kernel_rfl, trivial⟩ ⟨by kernel_rfl, trivial⟩)
          refine dr_cons { need := [(42, .pv (.bool (!(a0.fName == [])))), (1, .lp 0 0)], dst := some 43, val := some (.lp 0 1) } (fun m h => step_on (guard_on rfl rfl rfl h.1.1 hb9) (op_field_lp rfl h.1.2.1 Try_fld_81_1 rfl rfl) rfl) ⟨⟨rfl, rfl, trivial⟩, trivial, trivial⟩ ?_
          refine dr_cons (ref06_form_e56 a0) (fun m h => step_on (guard_on rfl rfl rfl h.1.1 hb9) (op_load_lp (v := .pv (.int .i64 a0.fNum)) rfl h.1.2.1 h.2.1.1 rfl Try_one_3 rfl rfl) rfl) ⟨⟨rfl, rfl, trivial⟩, ⟨rfl, trivial⟩, trivial⟩ ?_
          refine dr_cons (ref06_form_e57 a0) (fun m h => step_on (guard_on rfl rfl rfl h.1.1 hb9) (op_int (k := .i64) (m := a0.fNum) (n := 0) rfl h.1.2.1 rfl rfl rfl rfl) rfl) ⟨⟨rfl, rfl, trivial⟩, trivial, trivial⟩ ?_
          refine dr_cons (ref06_form_e58 a0) (fun m h => step_on (guard_no rfl) (op_pick_f rfl h.1.1 hb9 h.1.2.1 rfl rfl) rfl) ⟨⟨rfl, rfl, trivial⟩, trivial, trivial⟩ ?_
          refine drm ?_
          rcases ite_some hF with ⟨hb10, hF⟩ | ⟨hb10, hF⟩
          · refine dro_t hb10 ?_
            iterate 2 (refine dro_t hb10 ?_)
            refine drpt hb10 ?_
            refine drm ?_
            iterate 4 (refine dro_t rfl ?_)
            iterate 4 (refine dru ?_)
            refine dro_t rfl ?_
            refine drpt rfl ?_
            refine dr_nil Try_mixed rfl (by kernel_rfl) ?_
            refine post_imp (s' := ⟨113, [(1, some (.lp 0 0)), (62, some (.pv (.bool true)))], [(0, some (.box 81 (bxv (eGExpr a0))))], 1, [], [], 0, []⟩) (imps [0] ⟨by kernel_rfl, by kernel_rfl, trivial⟩ ⟨by kernel_rfl, trivial⟩) ?_
            cases hF
            exact post_cut _ rfl (imps [0] ⟨by kernel_rfl, by kernel_rfl, trivial⟩ ⟨by kernel_rfl, trivial⟩)
          refine dr_cons (ref06_form_e59 a0) (fun m h => step_on (guard_on rfl rfl rfl h.1.1 hb10) (op_field_lp rfl h.1.2.1 Try_fld_81_1 rfl rfl) rfl) ⟨⟨rfl, rfl, trivial⟩, trivial, trivial⟩ ?_
          refine dr_cons (ref06_form_e60 a0) (fun m h => step_on (guard_on rfl rfl rfl h.1.1 hb10) (op_load_lp (v := .pv (.int .i64 a0.fNum)) rfl h.1.2.1 h.2.1.1 rfl Try_one_3 rfl rfl) rfl) ⟨⟨rfl, rfl, trivial⟩, ⟨rfl, trivial⟩, trivial⟩ ?_
          refine dr_cons (ref06_form_e61 a0) (fun m h => step_on (guard_on rfl rfl rfl h.1.1 hb10) (op_int (k := .i64) (m := a0.fNum) (n := 999999999) rfl h.1.2.1 rfl rfl rfl rfl) rfl) ⟨⟨rfl, rfl, trivial⟩, trivial, trivial⟩ ?_
          refine dr_cons (ref06_form_e62 a0) (fun m h => step_on (guard_no rfl) (op_pick_f rfl h.1.1 hb10 h.1.2.1 rfl rfl) rfl) ⟨⟨rfl, rfl, trivial⟩, trivial, trivial⟩ ?_
          refine drm ?_
          rcases ite_some hF with ⟨hb11, hF⟩ | ⟨hb11, hF⟩
          · refine dro_t hb11 ?_
            iterate 3 (refine dro_t hb11 ?_)
            iterate 4 (refine dru ?_)
            refine dro_t hb11 ?_
            refine drpt hb11 ?_
            refine dr_nil Try_mixed rfl (by kernel_rfl) ?_
            refine post_imp (s' := ⟨113, [(1, some (.lp 0 0)), (62, some (.pv (.bool true)))], [(0, some (.box 81 (bxv (eGExpr a0))))], 1, [], [], 0, []⟩) (imps [0] ⟨by kernel_rfl, by kernel_rfl, trivial⟩ ⟨by kernel_rfl, trivial⟩) ?_
            cases hF
            exact post_cut _ rfl (imps [0] ⟨by kernel_rfl, by kernel_rfl, trivial⟩ ⟨by kernel_rfl, trivial⟩)
          refine dr_cons (ref06_form_e63 a0) (fun m h => step_on (guard_on rfl rfl rfl h.1.1 hb11) (op_field_lp rfl h.1.2.1 Try_fld_81_0 rfl rfl) rfl) ⟨⟨rfl, rfl, trivial⟩, trivial, trivial⟩ ?_
          refine dr_cons (ref06_form_e64 a0) (fun m h => step_on (guard_on rfl rfl rfl h.1.1 hb11) (op_load_lp (v := .pv (.int .i64 a0.fKind)) rfl h.1.2.1 h.2.1.1 rfl Try_one_3 rfl rfl) rfl) ⟨⟨rfl, rfl, trivial⟩, ⟨rfl, trivial⟩, trivial⟩ ?_
          refine dr_cons (ref06_form_e65 a0) (fun m h => step_on (guard_on rfl rfl rfl h.1.1 hb11) (op_int (k := .i64) (m := a0.fKind) (n := 2) rfl h.1.2.1 rfl rfl rfl rfl) rfl) ⟨⟨rfl, rfl, trivial⟩, trivial, trivial⟩ ?_
          refine dr_cons (ref06_form_e66 a0) (fun m h => step_on (guard_on rfl rfl rfl h.1.1 hb11) (op_move rfl h.1.2.1 rfl rfl) rfl) ⟨⟨rfl, rfl, trivial⟩, trivial, trivial⟩ ?_
          rcases ite_some hF with ⟨hb12, hF⟩ | ⟨hb12, hF⟩
          · refine dr_cons (ref06_form_e67 a0) (fun m h => step_on (guard_on rfl rfl rfl h.1.1 hb12) (op_field_lp rfl h.1.2.1 Try_fld_81_2 rfl rfl) rfl) ⟨⟨rfl, rfl, trivial⟩, trivial, trivial⟩ ?_
            refine dr_cons (ref06_form_e68 a0) (fun m h => step_on (guard_on rfl rfl rfl h.1.1 hb12) (op_load_lp (v := .pv (.str a0.fName)) rfl h.1.2.1 h.2.1.1 rfl Try_one_9 rfl rfl) rfl) ⟨⟨rfl, rfl, trivial⟩, ⟨rfl, trivial⟩, trivial⟩ ?_
            obtain ⟨y13, h14, hF⟩ := bind_some hF
            refine dr_cons { need := [(56, .pv (.bool (a0.fKind == 2))), (58, .pv (.str a0.fName))], dst := some 59, val := some (.pv (.bool y13)) } (fun m h => step_on (guard_on rfl rfl rfl h.1.1 hb12) (op_call 1 rfl (caps := []) (args := [.str a0.fName]) (rs := [.p (.bool y13)]) rfl rfl (evl_cons h.1.2.1 evl_nil) Try_cal_89 (ref02_Name_ok h14) rfl rfl rfl) rfl) ⟨⟨rfl, rfl, trivial⟩, trivial, trivial⟩ ?_
            refine dr_cons { need := [(56, .pv (.bool (a0.fKind == 2))), (59, .pv (.bool y13))], dst := some 60, val := some (.pv (.bool (!y13))) } (fun m h => step_on (guard_on rfl rfl rfl h.1.1 hb12) (op_not rfl h.1.2.1 rfl rfl) rfl) ⟨⟨rfl, rfl, trivial⟩, trivial, trivial⟩ ?_
            refine dr_cons { need := [(52, .pv (.bool (decide (a0.fNum > 999999999)))), (56, .pv (.bool (a0.fKind == 2))), (60, .pv (.bool (!y13)))], dst := some 61, val := some (.pv (.bool (!y13))) } (fun m h => step_on (guard_on rfl rfl rfl h.1.1 hb11) (op_pick_t rfl h.1.2.1 hb12 h.1.2.2.1 rfl rfl) rfl) ⟨⟨rfl, rfl, rfl, trivial⟩, trivial, trivial⟩ ?_
            refine dr_cons { need := [(52, .pv (.bool (decide (a0.fNum > 999999999)))), (61, .pv (.bool (!y13)))], dst := some 62, val := some (.pv (.bool (!y13))) } (fun m h => step_on (guard_no rfl) (op_pick_f rfl h.1.1 hb11 h.1.2.1 rfl rfl) rfl) ⟨⟨rfl, rfl, trivial⟩, trivial, trivial⟩ ?_
            refine dr_nil Try_mixed rfl (by kernel_rfl) ?_
            refine post_imp (s' := ⟨113, [(1, some (.lp 0 0)), (62, some (.pv (.bool (!y13))))], [(0, some (.box 81 (bxv (eGExpr a0))))], 1, [], [], 0, []⟩) (imps [0] ⟨by kernel_rfl, by kernel_rfl, trivial⟩ ⟨by kernel_rfl, trivial⟩) ?_
            cases hF
            exact post_cut _ rfl (imps [0] ⟨by kernel_rfl, by kernel_rfl, trivial⟩ ⟨by kernel_rfl, trivial⟩)
          iterate 4 (refine dro_f hb12 ?_)
          refine dr_cons (ref06_form_e73 a0) (fun m h => step_on (guard_on rfl rfl rfl h.1.1 hb11) (op_pick_f rfl h.1.2.1 hb12 rfl rfl rfl) rfl) ⟨⟨rfl, rfl, trivial⟩, trivial, trivial⟩ ?_
          refine dr_cons (ref06_form_e74 a0) (fun m h => step_on (guard_no rfl) (op_pick_f rfl h.1.1 hb11 h.1.2.1 rfl rfl) rfl) ⟨⟨rfl, rfl, trivial⟩, trivial, trivial⟩ ?_
          refine dr_nil Try_mixed rfl (by kernel_rfl) ?_
          refine post_imp (s' := ⟨113, [(1, some (.lp 0 0)), (62, some (.pv (.bool false)))], [(0, some (.box 81 (bxv (eGExpr a0))))], 1, [], [], 0, []⟩) (imps [0] ⟨by kernel_rfl, by kernel_rfl, trivial⟩ ⟨by kernel_rfl, trivial⟩) ?_
          cases hF
          exact post_cut _ rfl (imps [0] ⟨by kernel_rfl, by kernel_rfl, trivial⟩ ⟨by kernel_rfl, trivial⟩)
        iterate 3 (refine dro_f hb8 ?_)
        refine dr_cons { need := [(32, .pv (.bool (a0.fNum != 0))), (36, .pv (.bool (a0.fKind != 2)))], dst := some 40, val := some (.pv (.bool false)) } (fun m h => step_on (guard_on rfl rfl rfl h.1.1 hb7) (op_pick_f rfl h.1.2.1 hb8 rfl rfl rfl) rfl) ⟨⟨rfl, rfl, trivial⟩, trivial, trivial⟩ ?_
        refine dr_cons { need := [(32, .pv (.bool (a0.fNum != 0))), (40, .pv (.bool false))], dst := some 41, val := some (.pv (.bool false)) } (fun m h => step_on (guard_no rfl) (op_pick_f rfl h.1.1 hb7 h.1.2.1 rfl rfl) rfl) ⟨⟨rfl, rfl, trivial⟩, trivial, trivial⟩ ?_
        refine drm ?_
        refine dr_cons ref06_form_e77 (fun m h => step_on (guard_on rfl rfl rfl h.1.1 rfl) (op_field_lp rfl h.1.2.1 Try_fld_81_1 rfl rfl) rfl) ⟨⟨rfl, rfl, trivial⟩, trivial, trivial⟩ ?_
        refine dr_cons (ref06_form_e78 a0) (fun m h => step_on (guard_on rfl rfl rfl h.1.1 rfl) (op_load_lp (v := .pv (.int .i64 a0.fNum)) rfl h.1.2.1 h.2.1.1 rfl Try_one_3 rfl rfl) rfl) ⟨⟨rfl, rfl, trivial⟩, ⟨rfl, trivial⟩, trivial⟩ ?_
        refine dr_cons (ref06_form_e79 a0) (fun m h => step_on (guard_on rfl rfl rfl h.1.1 rfl) (op_int (k := .i64) (m := a0.fNum) (n := 0) rfl h.1.2.1 rfl rfl rfl rfl) rfl) ⟨⟨rfl, rfl, trivial⟩, trivial, trivial⟩ ?_
        refine dr_cons (ref06_form_e80 a0) (fun m h => step_on (guard_no rfl) (op_pick_f rfl h.1.1 rfl h.1.2.1 rfl rfl) rfl) ⟨⟨rfl, rfl, trivial⟩, trivial, trivial⟩ ?_
        refine drm ?_
        rcases ite_some hF with ⟨hb15, hF⟩ | ⟨hb15, hF⟩
        · refine dro_t hb15 ?_
          iterate 2 (refine dro_t hb15 ?_)
          refine drpt hb15 ?_
          refine drm ?_
          iterate 4 (refine dro_t rfl ?_)
          iterate 4 (refine dru ?_)
          refine dro_t rfl ?_
          refine drpt rfl ?_
          refine dr_nil Try_mixed rfl (by kernel_rfl) ?_
          refine post_imp (s' := ⟨113, [(1, some (.lp 0 0)), (62, some (.pv (.bool true)))], [(0, some (.box 81 (bxv (eGExpr a0))))], 1, [], [], 0, []⟩) (imps [0] ⟨by kernel_rfl, by kernel_rfl, trivial⟩ ⟨by kernel_rfl, trivial⟩) ?_
          cases hF
          exact post_cut _ rfl (imps [0] ⟨by kernel_rfl, by kernel_rfl, trivial⟩ ⟨by kernel_rfl, trivial⟩)
        refine dr_cons (ref06_form_e59 a0) (fun m h => step_on (guard_on rfl rfl rfl h.1.1 hb15) (op_field_lp rfl h.1.2.1 Try_fld_81_1 rfl rfl) rfl) ⟨⟨rfl, rfl, trivial⟩, trivial, trivial⟩ ?_
        refine dr_cons (ref06_form_e60 a0) (fun m h => step_on (guard_on rfl rfl rfl h.1.1 hb15) (op_load_lp (v := .pv (.int .i64 a0.fNum)) rfl h.1.2.1 h.2.1.1 rfl Try_one_3 rfl rfl) rfl) ⟨⟨rfl, rfl, trivial⟩, ⟨rfl, trivial⟩, trivial⟩ ?_
        refine dr_cons (ref06_form_e61 a0) (fun m h => step_on (guard_on rfl rfl rfl h.1.1 hb15) (op_int (k := .i64) (m := a0.fNum) (n := 999999999) rfl h.1.2.1 rfl rfl rfl rfl) rfl) ⟨⟨rfl, rfl, trivial⟩, trivial, trivial⟩ ?_
        refine dr_cons (ref06_form_e62 a0) (fun m h => step_on (guard_no rfl) (op_pick_f rfl h.1.1 hb15 h.1.2.1 rfl rfl) rfl) ⟨⟨rfl, rfl, trivial⟩, trivial, trivial⟩ ?_
        refine drm ?_
        rcases ite_some hF with ⟨hb16, hF⟩ | ⟨hb16, hF⟩
        · refine dro_t hb16 ?_
          iterate 3 (refine dro_t hb16 ?_)
          iterate 4 (refine dru ?_)
          refine dro_t hb16 ?_
          refine drpt hb16 ?_
          refine dr_nil Try_mixed rfl (by kernel_rfl) ?_
          refine post_imp (s' := ⟨113, [(1, some (.lp 0 0)), (62, some (.pv (.bool true)))], [(0, some (.box 81 (bxv (eGExpr a0))))], 1, [], [], 0, []⟩) (imps [0] ⟨by kernel_rfl, by kernel_rfl, trivial⟩ ⟨by kernel_rfl, trivial⟩) ?_
          cases hF
          exact post_cut _ rfl (imps [0] ⟨by kernel_rfl, by kernel_rfl, trivial⟩ ⟨by kernel_rfl, trivial⟩)
        refine dr_cons (ref06_form_e63 a0) (fun m h => step_on (guard_on rfl rfl rfl h.1.1 hb16) (op_field_lp rfl h.1.2.1 Try_fld_81_0 rfl rfl) rfl) ⟨⟨rfl, rfl, trivial⟩, trivial, trivial⟩ ?_
        refine dr_cons (ref06_form_e64 a0) (fun m h => step_on (guard_on rfl rfl rfl h.1.1 hb16) (op_load_lp (v := .pv (.int .i64 a0.fKind)) rfl h.1.2.1 h.2.1.1 rfl Try_one_3 rfl rfl) rfl) ⟨⟨rfl, rfl, trivial⟩, ⟨rfl, trivial⟩, trivial⟩ ?_
        refine dr_cons (ref06_form_e65 a0) (fun m h => step_on (guard_on rfl rfl rfl h.1.1 hb16) (op_int (k := .i64) (m := a0.fKind) (n := 2) rfl h.1.2.1 rfl rfl rfl rfl) rfl) ⟨⟨rfl, rfl, trivial⟩, trivial, trivial⟩ ?_
        refine dr_cons (ref06_form_e66 a0) (fun m h => step_on (guard_on rfl rfl rfl h.1.1 hb16) (op_move rfl h.1.2.1 rfl rfl) rfl) ⟨⟨rfl, rfl, trivial⟩, trivial, trivial⟩ ?_
        rcases ite_some hF with ⟨hb17, hF⟩ | ⟨hb17, hF⟩
        · refine dr_cons (ref06_form_e67 a0) (fun m h => step_on (guard_on rfl rfl rfl h.1.1 hb17) (op_field_lp rfl h.1.2.1 Try_fld_81_2 rfl rfl) rfl) ⟨⟨rfl, rfl, trivial⟩, trivial, trivial⟩ ?_
          refine dr_cons (ref06_form_e68 a0) (fun m h => step_on (guard_on rfl rfl rfl h.1.1 hb17) (op_load_lp (v := .pv (.str a0.fName)) rfl h.1.2.1 h.2.1.1 rfl Try_one_9 rfl rfl) rfl) ⟨⟨rfl, rfl, trivial⟩, ⟨rfl, trivial⟩, trivial⟩ ?_
          obtain ⟨y18, h19, hF⟩ := bind_some hF
          refine dr_cons { need := [(56, .pv (.bool (a0.fKind == 2))), (58, .pv (.str a0.fName))], dst := some 59, val := some (.pv (.bool y18)) } (fun m h => step_on (guard_on rfl rfl rfl h.1.1 hb17) (op_call 1 rfl (caps := []) (args := [.str a0.fName]) (rs := [.p (.bool y18)]) rfl rfl (evl_cons h.1.2.1 evl_nil) Try_cal_89 (ref02_Name_ok h19) rfl rfl rfl) rfl) ⟨⟨rfl, rfl, trivial⟩, trivial, trivial⟩ ?_
          refine dr_cons { need := [(56, .pv (.bool (a0.fKind == 2))), (59, .pv (.bool y18))], dst := some 60, val := some (.pv (.bool (!y18))) } (fun m h => step_on (guard_on rfl rfl rfl h.1.1 hb17) (op_not rfl h.1.2.1 rfl rfl) rfl) ⟨⟨rfl, rfl, trivial⟩, trivial, trivial⟩ ?_
          refine dr_cons { need := [(52, .pv (.bool (decide (a0.fNum > 999999999)))), (56, .pv (.bool (a0.fKind == 2))), (60, .pv (.bool (!y18)))], dst := some 61, val := some (.pv (.bool (!y18))) } (fun m h => step_on (guard_on rfl rfl rfl h.1.1 hb16) (op_pick_t rfl h.1.2.1 hb17 h.1.2.2.1 rfl rfl) rfl) ⟨⟨rfl, rfl, rfl, trivial⟩, trivial, trivial⟩ ?_
          refine dr_cons { need := [(52, .pv (.bool (decide (a0.fNum > 999999999)))), (61, .pv (.bool (!y18)))], dst := some 62, val := some (.pv (.bool (!y18))) } (fun m h => step_on (guard_no rfl) (op_pick_f rfl h.1.1 hb16 h.1.2.1 rfl rfl) rfl) ⟨⟨rfl, rfl, trivial⟩, trivial, trivial⟩ ?_
          refine dr_nil Try_mixed rfl (by kernel_rfl) ?_
          refine post_imp (s' := ⟨113, [(1, some (.lp 0 0)), (62, some (.pv (.bool (!y18))))], [(0, some (.box 81 (bxv (eGExpr a0))))], 1, [], [], 0, []⟩) (imps [0] ⟨by kernel_rfl, by kernel_rfl, trivial⟩ ⟨by kernel_rfl, trivial⟩) ?_
          cases hF
          exact post_cut _ rfl (imps [0] ⟨by kernel_rfl, by kernel_rfl, trivial⟩ ⟨by kernel_rfl, trivial⟩)
        iterate 4 (refine dro_f hb17 ?_)
        refine dr_cons (ref06_form_e73 a0) (fun m h => step_on (guard_on rfl rfl rfl h.1.1 hb16) (op_pick_f rfl h.1.2.1 hb17 rfl rfl rfl) rfl) ⟨⟨rfl, rfl, trivial⟩, trivial, trivial⟩ ?_
        refine dr_cons (ref06_form_e74 a0) (fun m h => step_on (guard_no rfl) (op_pick_f rfl h.1.1 hb16 h.1.2.1 rfl rfl) rfl) ⟨⟨rfl, rfl, trivial⟩, trivial, trivial⟩ ?_
        refine dr_nil Try_mixed rfl (by kernel_rfl) ?_
        refine post_imp (s' := ⟨113, [(1, some (.lp 0 0)), (62, some (.pv (.bool false)))], [(0, some (.box 81 (bxv (eGExpr a0))))], 1, [], [], 0, []⟩) (imps [0] ⟨by kernel_rfl, by kernel_rfl, trivial⟩ ⟨by kernel_rfl, trivial⟩) ?_
        cases hF
        exact post_cut _ rfl (imps [0] ⟨by kernel_rfl, by kernel_rfl, trivial⟩ ⟨by kernel_rfl, trivial⟩)
      iterate 3 (refine dro_f hb6 ?_)
      refine dr_cons { need := [(22, .pv (.bool ((a0.fKids.length : Int) != y3))), (26, .pv (.bool (a0.fKind != 1)))], dst := some 30, val := some (.pv (.bool false)) } (fun m h => step_on (guard_on rfl rfl rfl h.1.1 hb5) (op_pick_f rfl h.1.2.1 hb6 rfl rfl rfl) rfl) ⟨⟨rfl, rfl, trivial⟩, trivial, trivial⟩ ?_
      refine dr_cons { need := [(22, .pv (.bool ((a0.fKids.length : Int) != y3))), (30, .pv (.bool false))], dst := some 31, val := some (.pv (.bool false)) } (fun m h => step_on (guard_no rfl) (op_pick_f rfl h.1.1 hb5 h.1.2.1 rfl rfl) rfl) ⟨⟨rfl, rfl, trivial⟩, trivial, trivial⟩ ?_
      refine drm ?_
      refine dr_cons { need := [(32, .pv (.bool false)), (1, .lp 0 0)], dst := some 33, val := some (.lp 0 0) } (fun m h => step_on (guard_on rfl rfl rfl h.1.1 rfl) (op_field_lp rfl h.1.2.1 Try_fld_81_0 rfl rfl) rfl) ⟨⟨rfl, rfl, trivial⟩, trivial, trivial⟩ ?_
      refine dr_cons { need := [(32, .pv (.bool false)), (33, .lp 0 0)], hneed := [(0, .box 81 (bxv (eGExpr a0)))], dst := some 34, val := some (.pv (.int .i64 a0.fKind)) } (fun m h => step_on (guard_on rfl rfl rfl h.1.1 rfl) (op_load_lp (v := .pv (.int .i64 a0.fKind)) rfl h.1.2.1 h.2.1.1 rfl Try_one_3 rfl rfl) rfl) ⟨⟨rfl, rfl, trivial⟩, ⟨rfl, trivial⟩, trivial⟩ ?_
      refine dr_cons { need := [(32, .pv (.bool false)), (34, .pv (.int .i64 a0.fKind))], dst := some 35, val := some (.pv (.bool (a0.fKind != 2))) } (fun m h => step_on (guard_on rfl rfl rfl h.1.1 rfl) (op_int (k := .i64) (m := a0.fKind) (n := 2) rfl h.1.2.1 rfl rfl rfl rfl) rfl) ⟨⟨rfl, rfl, trivial⟩, trivial, trivial⟩ ?_
      refine dr_cons { need := [(32, .pv (.bool false)), (35, .pv (.bool (a0.fKind != 2)))], dst := some 36, val := some (.pv (.bool (a0.fKind != 2))) } (fun m h => step_on (guard_on rfl rfl rfl h.1.1 rfl) (op_move rfl h.1.2.1 rfl rfl) rfl) ⟨⟨rfl, rfl, trivial⟩, trivial, trivial⟩ ?_
      rcases ite_some hF with ⟨hb20, hF⟩ | ⟨hb20, hF⟩
      · refine dr_cons { need := [(36, .pv (.bool (a0.fKind != 2))), (1, .lp 0 0)], dst := some 37, val := some (.lp 0 2) } (fun m h => step_on (guard_on rfl rfl rfl h.1.1 hb20) (op_field_lp rfl h.1.2.1 Try_fld_81_2 rfl rfl) rfl) ⟨⟨rfl, rfl, trivial⟩, trivial, trivial⟩ ?_
        refine dr_cons (ref06_form_e51 a0) (fun m h => step_on (guard_on rfl rfl rfl h.1.1 hb20) (op_load_lp (v := .pv (.str a0.fName)) rfl h.1.2.1 h.2.1.1 rfl Try_one_9 rfl rfl) rfl) ⟨⟨rfl, rfl, trivial⟩, ⟨rfl, trivial⟩, trivial⟩ ?_
        refine dr_cons (ref06_form_e52 a0) (fun m h => step_on (guard_on rfl rfl rfl h.1.1 hb20) (op_str rfl h.1.2.1 rfl rfl rfl rfl) rfl) ⟨⟨rfl, rfl, trivial⟩, trivial, trivial⟩ ?_
        refine dr_cons { need := [(32, .pv (.bool false)), (36, .pv (.bool (a0.fKind != 2))), (39, .pv (.bool (!(a0.fName == []))))], dst := some 40, val := some (.pv (.bool (!(a0.fName == [])))) } (fun m h => step_on (guard_on rfl rfl rfl h.1.1 rfl) (op_pick_t rfl h.1.2.1 hb20 h.1.2.2.1 rfl rfl) rfl) ⟨⟨rfl, rfl, rfl, trivial⟩, trivial, trivial⟩ ?_
        refine dr_cons { need := [(32, .pv (.bool false)), (40, .pv (.bool (!(a0.fName == []))))], dst := some 41, val := some (.pv (.bool (!(a0.fName == [])))) } (fun m h => step_on (guard_no rfl) (op_pick_f rfl h.1.1 rfl h.1.2.1 rfl rfl) rfl) ⟨⟨rfl, rfl, trivial⟩, trivial, trivial⟩ ?_
        refine drm ?_
        rcases ite_some hF with ⟨hb21, hF⟩ | ⟨hb21, hF⟩
        · refine dro_t hb21 ?_
          iterate 2 (refine dro_t hb21 ?_)
          refine drpt hb21 ?_
          refine drm ?_
          iterate 3 (refine dro_t rfl ?_)
          refine drpt rfl ?_
          refine drm ?_
          iterate 4 (refine dro_t rfl ?_)
          iterate 4 (refine dru ?_)
          refine dro_t rfl ?_
          refine drpt rfl ?_
          refine dr_nil Try_mixed rfl (by kernel_rfl) ?_
          refine post_imp (s' := ⟨113, [(1, some (.lp 0 0)), (62, some (.pv (.bool true)))], [(0, some (.box 81 (bxv (eGExpr a0))))], 1, [], [], 0, []⟩) (imps [0] ⟨by kernel_rfl, by kernel_rfl, trivial⟩ ⟨by kernel_rfl, trivial⟩) ?_
          cases hF
          exact post_cut _ rfl (imps [0] ⟨by kernel_rfl, by kernel_rfl, trivial⟩ ⟨by kernel_rfl, trivial⟩)
        refine dr_cons { need := [(42, .pv (.bool (!(a0.fName == [])))), (1, .lp 0 0)], dst := some 43, val := some (.lp 0 1) } (fun m h => step_on (guard_on rfl rfl rfl h.1.1 hb21) (op_field_lp rfl h.1.2.1 Try_fld_81_1 rfl rfl) rfl) ⟨⟨rfl, rfl, trivial⟩, trivial, trivial⟩ ?_
        refine dr_cons (ref06_form_e56 a0) (fun m h => step_on (guard_on rfl rfl rfl h.1.1 hb21) (op_load_lp (v := .pv (.int .i64 a0.fNum)) rfl h.1.2.1 h.2.1.1 rfl Try_one_3 rfl rfl) rfl) ⟨⟨rfl, rfl, trivial⟩, ⟨rfl, trivial⟩, trivial⟩ ?_
        refine dr_cons (ref06_form_e57 a0) (fun m h => step_on (guard_on rfl rfl rfl h.1.1 hb21) (op_int (k := .i64) (m := a0.fNum) (n := 0) rfl h.1.2.1 rfl rfl rfl rfl) rfl) ⟨⟨rfl, rfl, trivial⟩, trivial, trivial⟩ ?_
        refine dr_cons (ref06_form_e58 a0) (fun m h => step_on (guard_no rfl) (op_pick_f rfl h.1.1 hb21 h.1.2.1 rfl rfl) rfl) ⟨⟨rfl, rfl, trivial⟩, trivial, trivial⟩ ?_
        refine drm ?_
        rcases ite_some hF with ⟨hb22, hF⟩ | ⟨hb22, hF⟩
        · refine dro_t hb22 ?_
          iterate 2 (refine dro_t hb22 ?_)
          refine drpt hb22 ?_
          refine drm ?_
          iterate 4 (refine dro_t rfl ?_)
          iterate 4 (refine dru ?_)
          refine dro_t rfl ?_
          refine drpt rfl ?_
          refine dr_nil Try_mixed rfl (by kernel_rfl) ?_
          refine post_imp (s' := ⟨113, [(1, some (.lp 0 0)), (62, some (.pv (.bool true)))], [(0, some (.box 81 (bxv (eGExpr a0))))], 1, [], [], 0, []⟩) (imps [0] ⟨by kernel_rfl, by kernel_rfl, trivial⟩ ⟨by kernel_rfl, trivial⟩) ?_
          cases hF
          exact post_cut _ rfl (imps [0] ⟨by kernel_rfl, by kernel_rfl, trivial⟩ ⟨by kernel_rfl, trivial⟩)
        refine dr_cons (ref06_form_e59 a0) (fun m h => step_on (guard_on rfl rfl rfl h.1.1 hb22) (op_field_lp rfl h.1.2.1 Try_fld_81_1 rfl rfl) rfl) ⟨⟨rfl, rfl, trivial⟩, trivial, trivial⟩ ?_
        refine dr_cons (ref06_form_e60 a0) (fun m h => step_on (guard_on rfl rfl rfl h.1.1 hb22) (op_load_lp (v := .pv (.int .i64 a0.fNum)) rfl h.1.2.1 h.2.1.1 rfl Try_one_3 rfl rfl) rfl) ⟨⟨rfl, rfl, trivial⟩, ⟨rfl, trivial⟩, trivial⟩ ?_
        refine dr_cons (ref06_form_e61 a0) (fun m h => step_on (guard_on rfl rfl rfl h.1.1 hb22) (op_int (k := .i64) (m := a0.fNum) (n := 999999999) rfl h.1.2.1 rfl rfl rfl rfl) rfl) ⟨⟨rfl, rfl, trivial⟩, trivial, trivial⟩ ?_
        refine dr_cons (ref06_form_e62 a0) (fun m h => step_on (guard_no rfl) (op_pick_f rfl h.1.1 hb22 h.1.2.1 rfl rfl) rfl) ⟨⟨rfl, rfl, trivial⟩, trivial, trivial⟩ ?_
        refine drm ?_
        rcases ite_some hF with ⟨hb23, hF⟩ | ⟨hb23, hF⟩
        · refine dro_t hb23 ?_
          iterate 3 (refine dro_t hb23 ?_)
          iterate 4 (refine dru ?_)
          refine dro_t hb23 ?_
          refine drpt hb23 ?_
          refine dr_nil Try_mixed rfl (by kernel_rfl) ?_
          refine post_imp (s' := ⟨113, [(1, some (.lp 0 0)), (62, some (.pv (.bool true)))], [(0, some (.box 81 (bxv (eGExpr a0))))], 1, [], [], 0, []⟩) (imps [0] ⟨by kernel_rfl, by kernel_rfl, trivial⟩ ⟨by kernel_rfl, trivial⟩) ?_
          cases hF
          exact post_cut _ rfl (imps [0] ⟨by kernel_rfl, by kernel_rfl, trivial⟩ ⟨by kernel_rfl, trivial⟩)
        refine dr_cons (ref06_form_e63 a0) (fun m h => step_on (guard_on rfl rfl rfl h.1.1 hb23) (op_field_lp rfl h.1.2.1 Try_fld_81_0 rfl rfl) rfl) ⟨⟨rfl, rfl, trivial⟩, trivial, trivial⟩ ?_
        refine dr_cons (ref06_form_e64 a0) (fun m h => step_on (guard_on rfl rfl rfl h.1.1 hb23) (op_load_lp (v := .pv (.int .i64 a0.fKind)) rfl h.1.2.1 h.2.1.1 rfl Try_one_3 rfl rfl) rfl) ⟨⟨rfl, rfl, trivial⟩, ⟨rfl, trivial⟩, trivial⟩ ?_
        refine dr_cons (ref06_form_e65 a0) (fun m h => step_on (guard_on rfl rfl rfl h.1.1 hb23) (op_int (k := .i64) (m := a0.fKind) (n := 2) rfl h.1.2.1 rfl rfl rfl rfl) rfl) ⟨⟨rfl, rfl, trivial⟩, trivial, trivial⟩ ?_
        refine dr_cons (ref06_form_e66 a0) (fun m h => step_on (guard_on rfl rfl rfl h.1.1 hb23) (op_move rfl h.1.2.1 rfl rfl) rfl) ⟨⟨rfl, rfl, trivial⟩, trivial, trivial⟩ ?_
        rcases ite_some hF with ⟨hb24, hF⟩ | ⟨hb24, hF⟩
        · refine dr_cons (ref06_form_e67 a0) (fun m h => step_on (guard_on rfl rfl rfl h.1.1 hb24) (op_field_lp rfl h.1.2.1 Try_fld_81_2 rfl rfl) rfl) ⟨⟨rfl, rfl, trivial⟩, trivial, trivial⟩ ?_
          refine dr_cons (ref06_form_e68 a0) (fun m h => step_on (guard_on rfl rfl rfl h.1.1 hb24) (op_load_lp (v := .pv (.str a0.fName)) rfl h.1.2.1 h.2.1.1 rfl Try_one_9 rfl rfl) rfl) ⟨⟨rfl, rfl, trivial⟩, ⟨rfl, trivial⟩, trivial⟩ ?_
          obtain ⟨y25, h26, hF⟩ := bind_some hF
          refine dr_cons { need := [(56, .pv (.bool (a0.fKind == 2))), (58, .pv (.str a0.fName))], dst := some 59, val := some (.pv (.bool y25)) } (fun m h => step_on (guard_on rfl rfl rfl h.1.1 hb24) (op_call 1 rfl (caps := []) (args := [.str a0.fName]) (rs := [.p (.bool y25)]) rfl rfl (evl_cons h.1.2.1 evl_nil) Try_cal_89 (ref02_Name_ok h26) rfl rfl rfl) rfl) ⟨⟨rfl, rfl, trivial⟩, trivial, trivial⟩ ?_
          refine dr_cons { need := [(56, .pv (.bool (a0.fKind == 2))), (59, .pv (.bool y25))], dst := some 60, val := some (.pv (.bool (!y25))) } (fun m h => step_on (guard_on rfl rfl rfl h.1.1 hb24) (op_not rfl h.1.2.1 rfl rfl) rfl) ⟨⟨rfl, rfl, trivial⟩, trivial, trivial⟩ ?_
          refine dr_cons { need := [(52, .pv (.bool (decide (a0.fNum > 999999999)))), (56, .pv (.bool (a0.fKind == 2))), (60, .pv (.bool (!y25)))], dst := some 61, val := some (.pv (.bool (!y25))) } (fun m h => step_on (guard_on rfl rfl rfl h.1.1 hb23) (op_pick_t rfl h.1.2.1 hb24 h.1.2.2.1 rfl rfl) rfl) ⟨⟨rfl, rfl, rfl, trivial⟩, trivial, trivial⟩ ?_
          refine dr_cons { need := [(52, .pv (.bool (decide (a0.fNum > 999999999)))), (61, .pv (.bool (!y25)))], dst := some 62, val := some (.pv (.bool (!y25))) } (fun m h => step_on (guard_no rfl) (op_pick_f rfl h.1.1 hb23 h.1.2.1 rfl rfl) rfl) ⟨⟨rfl, rfl, trivial⟩, trivial, trivial⟩ ?_
          refine dr_nil Try_mixed rfl (by kernel_rfl) ?_
          refine post_imp (s' := ⟨113, [(1, some (.lp 0 0)), (62, some (.pv (.bool (!y25))))], [(0, some (.box 81 (bxv (eGExpr a0))))], 1, [], [], 0, []⟩) (imps [0] ⟨by kernel_rfl, by kernel_rfl, trivial⟩ ⟨by kernel_rfl, trivial⟩) ?_
          cases hF
          exact post_cut _ rfl (imps [0] ⟨by kernel_rfl, by kernel_rfl, trivial⟩ ⟨by kernel_rfl, trivial⟩)
        iterate 4 (refine dro_f hb24 ?_)
        refine dr_cons (ref06_form_e73 a0) (fun m h => step_on (guard_on rfl rfl rfl h.1.1 hb23) (op_pick_f rfl h.1.2.1 hb24 rfl rfl rfl) rfl) ⟨⟨rfl, rfl, trivial⟩, trivial, trivial⟩ ?_
        refine dr_cons (ref06_form_e74 a0) (fun m h => step_on (guard_no rfl) (op_pick_f rfl h.1.1 hb23 h.1.2.1 rfl rfl) rfl) ⟨⟨rfl, rfl, trivial⟩, trivial, trivial⟩ ?_
        refine dr_nil Try_mixed rfl (by kernel_rfl) ?_
        refine post_imp (s' := ⟨113, [(1, some (.lp 0 0)), (62, some (.pv (.bool false)))], [(0, some (.box 81 (bxv (eGExpr a0))))], 1, [], [], 0, []⟩) (imps [0] ⟨by kernel_rfl, by kernel_rfl, trivial⟩ ⟨by kernel_rfl, trivial⟩) ?_
        cases hF
        exact post_cut _ rfl (imps [0] ⟨by kernel_rfl, by kernel_rfl, trivial⟩ ⟨by kernel_rfl, trivial⟩)
      iterate 3 (refine dro_f hb20 ?_)
      refine dr_cons { need := [(32, .pv (.bool false)), (36, .pv (.bool (a0.fKind != 2)))], dst := some 40, val := some (.pv (.bool false)) } (fun m h => step_on (guard_on rfl rfl rfl h.1.1 rfl) (op_pick_f rfl h.1.2.1 hb20 rfl rfl rfl) rfl) ⟨⟨rfl, rfl, trivial⟩, trivial, trivial⟩ ?_
      refine dr_cons { need := [(32, .pv (.bool false)), (40, .pv (.bool false))], dst := some 41, val := some (.pv (.bool false)) } (fun m h => step_on (guard_no rfl) (op_pick_f rfl h.1.1 rfl h.1.2.1 rfl rfl) rfl) ⟨⟨rfl, rfl, trivial⟩, trivial, trivial⟩ ?_
      refine drm ?_
      refine dr_cons ref06_form_e77 (fun m h => step_on (guard_on rfl rfl rfl h.1.1 rfl) (op_field_lp rfl h.1.2.1 Try_fld_81_1 rfl rfl) rfl) ⟨⟨rfl, rfl, trivial⟩, trivial, trivial⟩ ?_
      refine dr_cons (ref06_form_e78 a0) (fun m h => step_on (guard_on rfl rfl rfl h.1.1 rfl) (op_load_lp (v := .pv (.int .i64 a0.fNum)) rfl h.1.2.1 h.2.1.1 rfl Try_one_3 rfl rfl) rfl) ⟨⟨rfl, rfl, trivial⟩, ⟨rfl, trivial⟩, trivial⟩ ?_
      refine dr_cons (ref06_form_e79 a0) (fun m h => step_on (guard_on rfl rfl rfl h.1.1 rfl) (op_int (k := .i64) (m := a0.fNum) (n := 0) rfl h.1.2.1 rfl rfl rfl rfl) rfl) ⟨⟨rfl, rfl, trivial⟩, trivial, trivial⟩ ?_
      refine dr_cons (ref06_form_e80 a0) (fun m h => step_on (guard_no rfl) (op_pick_f rfl h.1.1 rfl h.1.2.1 rfl rfl) rfl) ⟨⟨rfl, rfl, trivial⟩, trivial, trivial⟩ ?_
      refine drm ?_
      rcases ite_some hF with ⟨hb27, hF⟩ | ⟨hb27, hF⟩
      · refine dro_t hb27 ?_
        iterate 2 (refine dro_t hb27 ?_)
        refine drpt hb27 ?_
        refine drm ?_
        iterate 4 (refine dro_t rfl ?_)
        iterate 4 (refine dru ?_)
        refine dro_t rfl ?_
        refine drpt rfl ?_
        refine dr_nil Try_mixed rfl (by kernel_rfl) ?_
        refine post_imp (s' := ⟨113, [(1, some (.lp 0 0)), (62, some (.pv (.bool true)))], [(0, some (.box 81 (bxv (eGExpr a0))))], 1, [], [], 0, []⟩) (imps [0] ⟨by kernel_rfl, by kernel_rfl, trivial⟩ ⟨by kernel_rfl, trivial⟩) ?_
        cases hF
        exact post_cut _ rfl (imps [0] ⟨by kernel_rfl, by kernel_rfl, trivial⟩ ⟨by kernel_rfl, trivial⟩)
      refine dr_cons (ref06_form_e59 a0) (fun m h => step_on (guard_on rfl rfl rfl h.1.1 hb27) (op_field_lp rfl h.1.2.1 Try_fld_81_1 rfl rfl) rfl) ⟨⟨rfl, rfl, trivial⟩, trivial, trivial⟩ ?_
      refine dr_cons (ref06_form_e60 a0) (fun m h => step_on (guard_on rfl rfl rfl h.1.1 hb27) (op_load_lp (v := .pv (.int .i64 a0.fNum)) rfl h.1.2.1 h.2.1.1 rfl Try_one_3 rfl rfl) rfl) ⟨⟨rfl, rfl, trivial⟩, ⟨rfl, trivial⟩, trivial⟩ ?_
      refine dr_cons (ref06_form_e61 a0) (fun m h => step_on (guard_on rfl rfl rfl h.1.1 hb27) (op_int (k := .i64) (m := a0.fNum) (n := 999999999) rfl h.1.2.1 rfl rfl rfl rfl) rfl) ⟨⟨rfl, rfl, trivial⟩, trivial, trivial⟩ ?_
      refine dr_cons (ref06_form_e62 a0) (fun m h => step_on (guard_no rfl) (op_pick_f rfl h.1.1 hb27 h.1.2.1 rfl rfl) rfl) ⟨⟨rfl, rfl, trivial⟩, trivial, trivial⟩ ?_
      refine drm ?_
      rcases ite_some hF with ⟨hb28, hF⟩ | ⟨hb28, hF⟩
      · refine dro_t hb28 ?_
        iterate 3 (refine dro_t hb28 ?_)
        iterate 4 (refine dru ?_)
        refine dro_t hb28 ?_
        refine drpt hb28 ?_
        refine dr_nil Try_mixed rfl (by kernel_rfl) ?_
        refine post_imp (s' := ⟨113, [(1, some (.lp 0 0)), (62, some (.pv (.bool true)))], [(0, some (.box 81 (bxv (eGExpr a0))))], 1, [], [], 0, []⟩) (imps [0] ⟨by kernel_rfl, by kernel_rfl, trivial⟩ ⟨by kernel_rfl, trivial⟩) ?_
        cases hF
        exact post_cut _ rfl (imps [0] ⟨by kernel_rfl, by kernel_rfl, trivial⟩ ⟨by kernel_rfl, trivial⟩)
      refine dr_cons (ref06_form_e63 a0) (fun m h => step_on (guard_on rfl rfl rfl h.1.1 hb28) (op_field_lp rfl h.1.2.1 Try_fld_81_0 rfl rfl) rfl) ⟨⟨rfl, rfl, trivial⟩, trivial, trivial⟩ ?_
      refine dr_cons (ref06_form_e64 a0) (fun m h => step_on (guard_on rfl rfl rfl h.1.1 hb28) (op_load_lp (v := .pv (.int .i64 a0.fKind)) rfl h.1.2.1 h.2.1.1 rfl Try_one_3 rfl rfl) rfl) ⟨⟨rfl, rfl, trivial⟩, ⟨rfl, trivial⟩, trivial⟩ ?_
      refine dr_cons (ref06_form_e65 a0) (fun m h => step_on (guard_on rfl rfl rfl h.1.1 hb28) (op_int (k := .i64) (m := a0.fKind) (n := 2) rfl h.1.2.1 rfl rfl rfl rfl) rfl) ⟨⟨rfl, rfl, trivial⟩, trivial, trivial⟩ ?_
      refine dr_cons (ref06_form_e66 a0) (fun m h => step_on (guard_on rfl rfl rfl h.1.1 hb28) (op_move rfl h.1.2.1 rfl rfl) rfl) ⟨⟨rfl, rfl, trivial⟩, trivial, trivial⟩ ?_
      rcases ite_some hF with ⟨hb29, hF⟩ | ⟨hb29, hF⟩
      · refine dr_cons (ref06_form_e67 a0) (fun m h => step_on (guard_on rfl rfl rfl h.1.1 hb29) (op_field_lp rfl h.1.2.1 Try_fld_81_2 rfl rfl) rfl) ⟨⟨rfl, rfl, trivial⟩, trivial, trivial⟩ ?_
        refine dr_cons (ref06_form_e68 a0) (fun m h => step_on (guard_on rfl rfl rfl h.1.1 hb29) (op_load_lp (v := .pv (.str a0.fName)) rfl h.1.2.1 h.2.1.1 rfl Try_one_9 rfl rfl) rfl) ⟨⟨rfl, rfl, trivial⟩, ⟨rfl, trivial⟩, trivial⟩ ?_
        obtain ⟨y30, h31, hF⟩ := bind_some hF
        refine dr_cons { need := [(56, .pv (.bool (a0.fKind == 2))), (58, .pv (.str a0.fName))], dst := some 59, val := some (.pv (.bool y30)) } (fun m h => step_on (guard_on rfl rfl rfl h.1.1 hb29) (op_call 1 rfl (caps := []) (args := [.str a0.fName]) (rs := [.p (.bool y30)]) rfl rfl (evl_cons h.1.2.1 evl_nil) Try_cal_89 (ref02_Name_ok h31) rfl rfl rfl) rfl) ⟨⟨rfl, rfl, trivial⟩, trivial, trivial⟩ ?_
        refine dr_cons { need := [(56, .pv (.bool (a0.fKind == 2))), (59, .pv (.bool y30))], dst := some 60, val := some (.pv (.bool (!y30))) } (fun m h => step_on (guard_on rfl rfl rfl h.1.1 hb29) (op_not rfl h.1.2.1 rfl rfl) rfl) ⟨⟨rfl, rfl, trivial⟩, trivial, trivial⟩ ?_
        refine dr_cons { need := [(52, .pv (.bool (decide (a0.fNum > 999999999)))), (56, .pv (.bool (a0.fKind == 2))), (60, .pv (.bool (!y30)))], dst := some 61, val := some (.pv (.bool (!y30))) } (fun m h => step_on (guard_on rfl rfl rfl h.1.1 hb28) (op_pick_t rfl h.1.2.1 hb29 h.1.2.2.1 rfl rfl) rfl) ⟨⟨rfl, rfl, rfl, trivial⟩, trivial, trivial⟩ ?_
        refine dr_cons { need := [(52, .pv (.bool (decide (a0.fNum > 999999999)))), (61, .pv (.bool (!y30)))], dst := some 62, val := some (.pv (.bool (!y30))) } (fun m h => step_on (guard_no rfl) (op_pick_f rfl h.1.1 hb28 h.1.2.1 rfl rfl) rfl) ⟨⟨rfl, rfl, trivial⟩, trivial, trivial⟩ ?_
        refine dr_nil Try_mixed rfl (by kernel_rfl) ?_
        refine post_imp (s' := ⟨113, [(1, some (.lp 0 0)), (62, some (.pv (.bool (!y30))))], [(0, some (.box 81 (bxv (eGExpr a0))))], 1, [], [], 0, []⟩) (imps [0] ⟨by kernel_rfl, by kernel_rfl, trivial⟩ ⟨by kernel_rfl, trivial⟩) ?_
        cases hF
        exact post_cut _ rfl (imps [0] ⟨by kernel_rfl, by kernel_rfl, trivial⟩ ⟨by kernel_rfl, trivial⟩)
      iterate 4 (refine dro_f hb29 ?_)
      refine dr_cons (ref06_form_e73 a0) (fun m h => step_on (guard_on rfl rfl rfl h.1.1 hb28) (op_pick_f rfl h.1.2.1 hb29 rfl rfl rfl) rfl) ⟨⟨rfl, rfl, trivial⟩, trivial, trivial⟩ ?_
      refine dr_cons (ref06_form_e74 a0) (fun m h => step_on (guard_no rfl) (op_pick_f rfl h.1.1 hb28 h.1.2.1 rfl rfl) rfl) ⟨⟨rfl, rfl, trivial⟩, trivial, trivial⟩ ?_
      refine dr_nil Try_mixed rfl (by kernel_rfl) ?_
      refine post_imp (s' := ⟨113, [(1, some (.lp 0 0)), (62, some (.pv (.bool false)))], [(0, some (.box 81 (bxv (eGExpr a0))))], 1, [], [], 0, []⟩) (imps [0] ⟨by kernel_rfl, by kernel_rfl, trivial⟩ ⟨by kernel_rfl, trivial⟩) ?_
      cases hF
      exact post_cut _ rfl (imps [0] ⟨by kernel_rfl, by kernel_rfl, trivial⟩ ⟨by kernel_rfl, trivial⟩)
    rintro _ rfl
    have hF := hK34
    clear hK34
    refine post_next ?_
    rcases ite_some hF with ⟨hb35, hF⟩ | ⟨hb35, hF⟩
    · refine aw_cond_t rfl hb35 ?_
      refine aw_seq ?_
      refine aw_region ?_
      refine ras ?_
      refine reg_nil ?_
      refine post_imp (s' := ⟨113, [(2, some (.pv (.bool false)))], [], 0, [], [], 0, []⟩) (imps [] ⟨by kernel_rfl, trivial⟩ trivial) ?_
      refine post_next ?_
      refine aw_ret ?_
      refine post_then_ret ?_
      obtain rfl := Option.some.inj hF
      exact prt
    refine aw_cond_f rfl hb35 ?_
    refine aw_skip ?_
    refine post_next ?_
    iterate 2 (refine aw_seq ?_)
    refine aw_region ?_
    refine ras ?_
    refine reg_nil ?_
    refine post_imp (s' := ⟨113, [(1, some (.lp 0 0)), (3, some (.pv (.int .i64 0)))], [(0, some (.box 81 (bxv (eGExpr a0))))], 1, [], [], 0, []⟩) (imps [0] ⟨by kernel_rfl, by kernel_rfl, trivial⟩ ⟨by kernel_rfl, trivial⟩) ?_
    refine post_next ?_
    obtain ⟨lr117, hF, hK118⟩ := bind_some hF
    refine aw_for ((((a0.fKids.length : Int) : Int) - (0)).toNat + 1) (fun s1 => ∃ q, lr117 = .next q ∧ s1 = ⟨113, [], [], 0, [], [], 0, []⟩) ?_ ?_
    · refine rnd_loop (α := Int) (fun q => ⟨113, [(1, some (.lp 0 0)), (3, some (.pv (.int .i64 q)))], [(0, some (.box 81 (bxv (eGExpr a0))))], 1, [], [], 0, []⟩) (fun k q => ref06_form_L1 a0 ref06_form_rec k q = some lr117) 0 (imps [0] ⟨by kernel_rfl, by kernel_rfl, trivial⟩ ⟨by kernel_rfl, trivial⟩) hF (fun q h => by cases h) ?_
      clear hF
      rintro k x62 hF ih
      refine rnd_succ ?_
      iterate 2 (refine aw_seq ?_)
      refine aw_region ?_
      refine rmv ?_
      refine rgp (op_field_lp rfl rfl Try_fld_81_3 rfl rfl) ?_
      refine rgp (op_load_lp (v := .pv (.vs 4 (eLGExpr a0.fKids))) rfl rfl rfl rfl Try_one_79 rfl rfl) ?_
      refine rgp (op_len_vs (n := a0.fKids.length) rfl rfl (lenR eLGExpr_map) Try_slc_79 rfl rfl) ?_
      refine rgp (op_int (k := .i64) (m := x62) (n := (a0.fKids.length : Int)) rfl rfl rfl rfl rfl rfl) ?_
      refine reg_nil ?_
      refine post_imp (s' := ⟨113, [(1, some (.lp 0 0)), (3, some (.pv (.int .i64 x62))), (67, some (.pv (.bool (decide (x62 < (a0.fKids.length : Int))))))], [(0, some (.box 81 (bxv (eGExpr a0))))], 1, [], [], 0, []⟩) (imps [0] ⟨by kernel_rfl, by kernel_rfl, by kernel_rfl, trivial⟩ ⟨by kernel_rfl, trivial⟩) ?_
      refine post_next ?_
      rcases ite_some hF with ⟨hb90, hF⟩ | ⟨hb90, hF⟩
      · refine aw_cond_t rfl hb90 ?_
        refine aw_skip ?_
        refine post_next ?_
        refine aw_seq ?_
        refine aw_block ?_
        refine aw_seq ?_
        refine aw_region ?_
        refine rgp (op_field_lp rfl rfl Try_fld_81_3 rfl rfl) ?_
        refine rgp (op_load_lp (v := .pv (.vs 4 (eLGExpr a0.fKids))) rfl rfl rfl rfl Try_one_79 rfl rfl) ?_
        refine rmv ?_
        obtain ⟨y93, h94, hF⟩ := bind_some hF
        refine rgp (op_index_vs (k := .i64) rfl rfl rfl (idxR eLGExpr_map h94) Try_slc_79 rfl rfl) ?_
        refine rgp (op_field_vp rfl rfl Try_fld_81_0 rfl rfl) ?_
        refine rgp (op_load_vp (p := .int .i64 y93.fKind) rfl rfl rfl Try_one_3 rfl rfl) ?_
        refine ras ?_
        refine reg_nil ?_
        refine post_imp (s' := ⟨113, [(1, some (.lp 0 0)), (3, some (.pv (.int .i64 x62))), (4, some (.pv (.int .i64 y93.fKind)))], [(0, some (.box 81 (bxv (eGExpr a0))))], 1, [], [], 0, []⟩) (imps [0] ⟨by kernel_rfl, by kernel_rfl, by kernel_rfl, trivial⟩ ⟨by kernel_rfl, trivial⟩) ?_
        refine post_next ?_
        refine aw_seq ?_
        obtain ⟨x112, hF, hK114⟩ := bind_some hF
        refine aw_cut (fun s1 => s1 = ⟨113, [(1, some (.lp 0 0)), (3, some (.pv (.int .i64 x62))), (112, some (.pv (.bool x112)))], [(0, some (.box 81 (bxv (eGExpr a0))))], 1, [], [], 0, []⟩) ?_ ?_
        · refine aw_region ?_
          refine rgp (op_field_lp rfl rfl Try_fld_81_3 rfl rfl) ?_
          refine rgp (op_load_lp (v := .pv (.vs 4 (eLGExpr a0.fKids))) rfl rfl rfl rfl Try_one_79 rfl rfl) ?_
          refine rmv ?_
          obtain ⟨y99, h100, hF⟩ := bind_some hF
          refine rgp (op_index_vs (k := .i64) rfl rfl rfl (idxR eLGExpr_map h100) Try_slc_79 rfl rfl) ?_
          refine rgp (op_load_vp_agg (ps := eGExpr y99) rfl rfl rfl rfl Try_agg_81 rfl rfl) ?_
          obtain ⟨y101, h102, hF⟩ := bind_some hF
          refine rgp (op_call 1 rfl (caps := []) (args := [.agg (eGExpr y99)]) (rs := [.p (.bool y101)]) rfl rfl rfl Try_cal_128 (ref06_form_ih _ _ h102) rfl rfl rfl) ?_
          refine rgp (op_not rfl rfl rfl rfl) ?_
          refine rmv ?_
          rcases ite_some hF with ⟨hb103, hF⟩ | ⟨hb103, hF⟩
          · refine rgo_t hb103 ?_
            iterate 3 (refine rgo_t hb103 ?_)
            iterate 2 (refine rgu ?_)
            iterate 2 (refine rgo_t hb103 ?_)
            iterate 2 (refine rgu ?_)
            refine rgo_t hb103 ?_
            refine rpt hb103 ?_
            refine rmv ?_
            iterate 4 (refine rgo_t rfl ?_)
            iterate 2 (refine rgu ?_)
            iterate 2 (refine rgo_t rfl ?_)
            iterate 2 (refine rgu ?_)
            iterate 2 (refine rgo_t rfl ?_)
            iterate 2 (refine rgu ?_)
            refine rgo_t rfl ?_
            refine rpt rfl ?_
            refine reg_nil ?_
            cases hF
            exact post_cut _ rfl (imps [0] ⟨by kernel_rfl, by kernel_rfl, by kernel_rfl, trivial⟩ ⟨by kernel_rfl, trivial⟩)
          refine rgn hb103 (op_field_lp rfl rfl Try_fld_81_0 rfl rfl) ?_
          refine rgn hb103 (op_load_lp (v := .pv (.int .i64 a0.fKind)) rfl rfl rfl rfl Try_one_3 rfl rfl) ?_
          refine rgn hb103 (op_int (k := .i64) (m := a0.fKind) (n := 13) rfl rfl rfl rfl rfl rfl) ?_
          refine rgn hb103 (op_move rfl rfl rfl rfl) ?_
          rcases ite_some hF with ⟨hb104, hF⟩ | ⟨hb104, hF⟩
          · refine rgn hb104 (op_move rfl rfl rfl rfl) ?_
            refine rgn hb104 (op_int (k := .i64) (m := y93.fKind) (n := 2) rfl rfl rfl rfl rfl rfl) ?_
            refine rgn hb103 (op_pick_t rfl rfl hb104 rfl rfl rfl) ?_
            refine rgn hb103 (op_move rfl rfl rfl rfl) ?_
            rcases ite_some hF with ⟨hb105, hF⟩ | ⟨hb105, hF⟩
            · refine rgn hb105 (op_move rfl rfl rfl rfl) ?_
              refine rgn hb105 (op_int (k := .i64) (m := y93.fKind) (n := 3) rfl rfl rfl rfl rfl rfl) ?_
              refine rgn hb103 (op_pick_t rfl rfl hb105 rfl rfl rfl) ?_
              refine rpf hb103 ?_
              refine rmv ?_
              rcases ite_some hF with ⟨hb106, hF⟩ | ⟨hb106, hF⟩
              · refine rgo_t hb106 ?_
                iterate 3 (refine rgo_t hb106 ?_)
                iterate 2 (refine rgu ?_)
                iterate 2 (refine rgo_t hb106 ?_)
                iterate 2 (refine rgu ?_)
                iterate 2 (refine rgo_t hb106 ?_)
                iterate 2 (refine rgu ?_)
                refine rgo_t hb106 ?_
                refine rpt hb106 ?_
                refine reg_nil ?_
                cases hF
                exact post_cut _ rfl (imps [0] ⟨by kernel_rfl, by kernel_rfl, by kernel_rfl, trivial⟩ ⟨by kernel_rfl, trivial⟩)
              refine rgn hb106 (op_field_lp rfl rfl Try_fld_81_0 rfl rfl) ?_
              refine rgn hb106 (op_load_lp (v := .pv (.int .i64 a0.fKind)) rfl rfl rfl rfl Try_one_3 rfl rfl) ?_
              refine rgn hb106 (op_int (k := .i64) (m := a0.fKind) (n := 14) rfl rfl rfl rfl rfl rfl) ?_
              refine rgn hb106 (op_move rfl rfl rfl rfl) ?_
              rcases ite_some hF with ⟨hb107, hF⟩ | ⟨hb107, hF⟩
              · refine rgn hb107 (op_move rfl rfl rfl rfl) ?_
                refine rgn hb107 (op_int (k := .i64) (m := y93.fKind) (n := 2) rfl rfl rfl rfl rfl rfl) ?_
                refine rgn hb106 (op_pick_t rfl rfl hb107 rfl rfl rfl) ?_
                refine rgn hb106 (op_move rfl rfl rfl rfl) ?_
                refine rgn hb105 (op_move rfl rfl rfl rfl) ?_
                refine rgn hb105 (op_int (k := .i64) (m := y93.fKind) (n := 3) rfl rfl rfl rfl rfl rfl) ?_
                refine rgn hb106 (op_pick_t rfl rfl hb105 rfl rfl rfl) ?_
                refine rgn hb106 (op_move rfl rfl rfl rfl) ?_
                iterate 2 (refine rgo_f hb106 ?_)
                refine rgn hb106 (op_pick_f rfl rfl hb106 rfl rfl rfl) ?_
                refine rpf hb106 ?_
                refine reg_nil ?_
                cases hF
                exact post_cut _ rfl (imps [0] ⟨by kernel_rfl, by kernel_rfl, by kernel_rfl, trivial⟩ ⟨by kernel_rfl, trivial⟩)
              iterate 2 (refine rgo_f hb107 ?_)
              refine rgn hb106 (op_pick_f rfl rfl hb107 rfl rfl rfl) ?_
              refine rgn hb106 (op_move rfl rfl rfl rfl) ?_
              iterate 2 (refine rgo_f rfl ?_)
              refine rgn hb106 (op_pick_f rfl rfl rfl rfl rfl rfl) ?_
              refine rgn hb106 (op_move rfl rfl rfl rfl) ?_
              iterate 2 (refine rgo_f rfl ?_)
              refine rgn hb106 (op_pick_f rfl rfl rfl rfl rfl rfl) ?_
              refine rpf hb106 ?_
              refine reg_nil ?_
              cases hF
              exact post_cut _ rfl (imps [0] ⟨by kernel_rfl, by kernel_rfl, by kernel_rfl, trivial⟩ ⟨by kernel_rfl, trivial⟩)
            iterate 2 (refine rgo_f hb105 ?_)
            refine rgn hb103 (op_pick_f rfl rfl hb105 rfl rfl rfl) ?_
            refine rpf hb103 ?_
            refine rmv ?_
            refine rgn rfl (op_field_lp rfl rfl Try_fld_81_0 rfl rfl) ?_
            refine rgn rfl (op_load_lp (v := .pv (.int .i64 a0.fKind)) rfl rfl rfl rfl Try_one_3 rfl rfl) ?_
            refine rgn rfl (op_int (k := .i64) (m := a0.fKind) (n := 14) rfl rfl rfl rfl rfl rfl) ?_
            refine rgn rfl (op_move rfl rfl rfl rfl) ?_
            rcases ite_some hF with ⟨hb108, hF⟩ | ⟨hb108, hF⟩
            · refine rgn hb108 (op_move rfl rfl rfl rfl) ?_
              refine rgn hb108 (op_int (k := .i64) (m := y93.fKind) (n := 2) rfl rfl rfl rfl rfl rfl) ?_
              refine rgn rfl (op_pick_t rfl rfl hb108 rfl rfl rfl) ?_
              refine rgn rfl (op_move rfl rfl rfl rfl) ?_
              iterate 2 (refine rgo_f hb105 ?_)
              refine rgn rfl (op_pick_f rfl rfl hb105 rfl rfl rfl) ?_
              refine rgn rfl (op_move rfl rfl rfl rfl) ?_
              iterate 2 (refine rgo_f rfl ?_)
              refine rgn rfl (op_pick_f rfl rfl rfl rfl rfl rfl) ?_
              refine rpf rfl ?_
              refine reg_nil ?_
              cases hF
              exact post_cut _ rfl (imps [0] ⟨by kernel_rfl, by kernel_rfl, by kernel_rfl, trivial⟩ ⟨by kernel_rfl, trivial⟩)
            iterate 2 (refine rgo_f hb108 ?_)
            refine rgn rfl (op_pick_f rfl rfl hb108 rfl rfl rfl) ?_
            refine rgn rfl (op_move rfl rfl rfl rfl) ?_
            iterate 2 (refine rgo_f rfl ?_)
            refine rgn rfl (op_pick_f rfl rfl rfl rfl rfl rfl) ?_
            refine rgn rfl (op_move rfl rfl rfl rfl) ?_
            iterate 2 (refine rgo_f rfl ?_)
            refine rgn rfl (op_pick_f rfl rfl rfl rfl rfl rfl) ?_
            refine rpf rfl ?_
            refine reg_nil ?_
            cases hF
            exact post_cut _ rfl (imps [0] ⟨by kernel_rfl, by kernel_rfl, by kernel_rfl, trivial⟩ ⟨by kernel_rfl, trivial⟩)
          iterate 2 (refine rgo_f hb104 ?_)
          refine rgn hb103 (op_pick_f rfl rfl hb104 rfl rfl rfl) ?_
          refine rgn hb103 (op_move rfl rfl rfl rfl) ?_
          iterate 2 (refine rgo_f rfl ?_)
          refine rgn hb103 (op_pick_f rfl rfl rfl rfl rfl rfl) ?_
          refine rpf hb103 ?_
          refine rmv ?_
          refine rgn rfl (op_field_lp rfl rfl Try_fld_81_0 rfl rfl) ?_
          refine rgn rfl (op_load_lp (v := .pv (.int .i64 a0.fKind)) rfl rfl rfl rfl Try_one_3 rfl rfl) ?_
          refine rgn rfl (op_int (k := .i64) (m := a0.fKind) (n := 14) rfl rfl rfl rfl rfl rfl) ?_
          refine rgn rfl (op_move rfl rfl rfl rfl) ?_
          rcases ite_some hF with ⟨hb109, hF⟩ | ⟨hb109, hF⟩
          · refine rgn hb109 (op_move rfl rfl rfl rfl) ?_
            refine rgn hb109 (op_int (k := .i64) (m := y93.fKind) (n := 2) rfl rfl rfl rfl rfl rfl) ?_
            refine rgn rfl (op_pick_t rfl rfl hb109 rfl rfl rfl) ?_
            refine rgn rfl (op_move rfl rfl rfl rfl) ?_
            rcases ite_some hF with ⟨hb110, hF⟩ | ⟨hb110, hF⟩
            · refine rgn hb110 (op_move rfl rfl rfl rfl) ?_
              refine rgn hb110 (op_int (k := .i64) (m := y93.fKind) (n := 3) rfl rfl rfl rfl rfl rfl) ?_
              refine rgn rfl (op_pick_t rfl rfl hb110 rfl rfl rfl) ?_
              refine rgn rfl (op_move rfl rfl rfl rfl) ?_
              rcases ite_some hF with ⟨hb111, hF⟩ | ⟨hb111, hF⟩
              · refine rgn hb111 (op_move rfl rfl rfl rfl) ?_
                refine rgn hb111 (op_int (k := .i64) (m := y93.fKind) (n := 4) rfl rfl rfl rfl rfl rfl) ?_
                refine rgn rfl (op_pick_t rfl rfl hb111 rfl rfl rfl) ?_
                refine rpf rfl ?_
                refine reg_nil ?_
                cases hF
                exact post_cut _ rfl (imps [0] ⟨by kernel_rfl, by kernel_rfl, by kernel_rfl, trivial⟩ ⟨by kernel_rfl, trivial⟩)
              iterate 2 (refine rgo_f hb111 ?_)
              refine rgn rfl (op_pick_f rfl rfl hb111 rfl rfl rfl) ?_
              refine rpf rfl ?_
              refine reg_nil ?_
              cases hF
              exact post_cut _ rfl (imps [0] ⟨by kernel_rfl, by kernel_rfl, by kernel_rfl, trivial⟩ ⟨by kernel_rfl, trivial⟩)
            iterate 2 (refine rgo_f hb110 ?_)
            refine rgn rfl (op_pick_f rfl rfl hb110 rfl rfl rfl) ?_
            refine rgn rfl (op_move rfl rfl rfl rfl) ?_
            iterate 2 (refine rgo_f rfl ?_)
            refine rgn rfl (op_pick_f rfl rfl rfl rfl rfl rfl) ?_
            refine rpf rfl ?_
            refine reg_nil ?_
            cases hF
            exact post_cut _ rfl (imps [0] ⟨by kernel_rfl, by kernel_rfl, by kernel_rfl, trivial⟩ ⟨by kernel_rfl, trivial⟩)
          iterate 2 (refine rgo_f hb109 ?_)
          refine rgn rfl (op_pick_f rfl rfl hb109 rfl rfl rfl) ?_
          refine rgn rfl (op_move rfl rfl rfl rfl) ?_
          iterate 2 (refine rgo_f rfl ?_)
          refine rgn rfl (op_pick_f rfl rfl rfl rfl rfl rfl) ?_
          refine rgn rfl (op_move rfl rfl rfl rfl) ?_
          iterate 2 (refine rgo_f rfl ?_)
          refine rgn rfl (op_pick_f rfl rfl rfl rfl rfl rfl) ?_
          refine rpf rfl ?_
          refine reg_nil ?_
          cases hF
          exact post_cut _ rfl (imps [0] ⟨by kernel_rfl, by kernel_rfl, by kernel_rfl, trivial⟩ ⟨by kernel_rfl, trivial⟩)
        rintro _ rfl
        have hF := hK114
        clear hK114
        refine post_next ?_
        rcases ite_some hF with ⟨hb115, hF⟩ | ⟨hb115, hF⟩
        · refine aw_cond_t rfl hb115 ?_
          refine aw_seq ?_
          refine aw_region ?_
          refine ras ?_
          refine reg_nil ?_
          refine post_imp (s' := ⟨113, [(2, some (.pv (.bool false)))], [], 0, [], [], 0, []⟩) (imps [] ⟨by kernel_rfl, trivial⟩ trivial) ?_
          refine post_next ?_
          refine aw_ret ?_
          refine post_block_ret ?_
          iterate 2 (refine post_then_ret ?_)
          refine post_lp_ret ?_
          obtain rfl := Option.some.inj hF
          have hF := elim_stop hK118
          refine post_then_ret ?_
          obtain rfl := Option.some.inj hF
          exact prt
        refine aw_cond_f rfl hb115 ?_
        refine aw_skip ?_
        refine post_block_normal ?_
        refine post_next ?_
        refine aw_region ?_
        refine rmv ?_
        refine rgp (op_int (k := .i64) (m := x62) (n := 1) rfl rfl rfl rfl rfl rfl) ?_
        refine ras ?_
        refine reg_nil ?_
        refine post_round ?_
        exact rnd_back (ih (w_i64 (x62 + 1)) hF) (imps [0] ⟨by kernel_rfl, by kernel_rfl, trivial⟩ ⟨by kernel_rfl, trivial⟩)
      refine aw_cond_f rfl hb90 ?_
      refine aw_exit ?_
      iterate 2 (refine post_then_exit ?_)
      obtain rfl := Option.some.inj hF
      exact post_lp_break _ ⟨_, rfl, rfl⟩ (imps [] trivial trivial)
    rintro _ ⟨⟨⟩, rfl, rfl⟩
    have hF := elim_next hK118
    clear hK118
    refine post_next ?_
    refine aw_seq ?_
    refine aw_region ?_
    refine ras ?_
    refine reg_nil ?_
    refine post_imp (s' := ⟨113, [(2, some (.pv (.bool true)))], [], 0, [], [], 0, []⟩) (imps [] ⟨by kernel_rfl, trivial⟩ trivial) ?_
    refine post_next ?_
    refine aw_ret ?_
    obtain rfl := Option.some.inj hF
    exact prt
theorem ref06_form_ok {n : Nat} {a0 : GExpr} {r : Bool} (hF : ref06_form n a0 = some r) : Abs.Fn Try.prog 128 [.agg (eGExpr a0)] [.p (.bool r)] := (ref06_form_ring n) _ _ hF

theorem ref06_Deep_ring : ∀ n : Nat, (∀ (a0 : GExpr) (r : Int), ref06_Deep n a0 = some r → Abs.Fn Try.prog 129 [.agg (eGExpr a0)] [.p (.int .i64 r)]) := by
  intro n
  induction n with
  | zero => exact (fun _ _ h => by simp [ref06_Deep] at h)
  | succ n ih =>
    have ref06_Deep_ih := ih
    clear ih
    intro a0 r hF
    unfold ref06_Deep at hF
    revert hF ref06_Deep_ih
    generalize ref06_Deep n = ref06_Deep_rec
    intro ref06_Deep_ih hF
    refine fn_of_body (n := 22) Try.func129 rfl rfl rfl ?_
    intro w O
    refine aw_seq ?_
    refine aw_region ?_
    refine rgp (op_box 0 rfl rfl rfl rfl rfl rfl) ?_
    refine ras ?_
    refine reg_nil ?_
    refine post_imp (s' := ⟨22, [(1, some (.lp 0 0))], [(0, some (.box 81 (bxv (eGExpr a0))))], 1, [], [], 0, []⟩) (imps [0] ⟨by kernel_rfl, trivial⟩ ⟨by kernel_rfl, trivial⟩) ?_
    refine post_next ?_
    refine aw_seq ?_
    refine aw_region ?_
    refine ras ?_
    refine reg_nil ?_
    refine post_imp (s' := ⟨22, [(1, some (.lp 0 0)), (3, some (.pv (.int .i64 0)))], [(0, some (.box 81 (bxv (eGExpr a0))))], 1, [], [], 0, []⟩) (imps [0] ⟨by kernel_rfl, by kernel_rfl, trivial⟩ ⟨by kernel_rfl, trivial⟩) ?_
    refine post_next ?_
    iterate 2 (refine aw_seq ?_)
    refine aw_region ?_
    refine ras ?_
    refine reg_nil ?_
    refine post_imp (s' := ⟨22, [(1, some (.lp 0 0)), (3, some (.pv (.int .i64 0))), (4, some (.pv (.int .i64 0)))], [(0, some (.box 81 (bxv (eGExpr a0))))], 1, [], [], 0, []⟩) (imps [0] ⟨by kernel_rfl, by kernel_rfl, by kernel_rfl, trivial⟩ ⟨by kernel_rfl, trivial⟩) ?_
    refine post_next ?_
    obtain ⟨x34, hF, hK35⟩ := bind_some hF
    refine aw_for ((((a0.fKids.length : Int) : Int) - (0)).toNat + 1) (fun s1 => s1 = ⟨22, [(3, some (.pv (.int .i64 x34)))], [], 0, [], [], 0, []⟩) ?_ ?_
    · refine rnd_loop (α := Int × Int) (fun q => ⟨22, [(1, some (.lp 0 0)), (3, some (.pv (.int .i64 q.1))), (4, some (.pv (.int .i64 q.2)))], [(0, some (.box 81 (bxv (eGExpr a0))))], 1, [], [], 0, []⟩) (fun k q => ref06_Deep_L1 a0 ref06_Deep_rec k q.1 q.2 = some x34) (0, 0) (imps [0] ⟨by kernel_rfl, by kernel_rfl, by kernel_rfl, trivial⟩ ⟨by kernel_rfl, trivial⟩) hF (fun q h => by cases h) ?_
      clear hF
      rintro k ⟨x10, x11⟩ hF ih
      refine rnd_succ ?_
      iterate 2 (refine aw_seq ?_)
      refine aw_region ?_
      refine rmv ?_
      refine rgp (op_field_lp rfl rfl Try_fld_81_3 rfl rfl) ?_
      refine rgp (op_load_lp (v := .pv (.vs 4 (eLGExpr a0.fKids))) rfl rfl rfl rfl Try_one_79 rfl rfl) ?_
      refine rgp (op_len_vs (n := a0.fKids.length) rfl rfl (lenR eLGExpr_map) Try_slc_79 rfl rfl) ?_
      refine rgp (op_int (k := .i64) (m := x11) (n := (a0.fKids.length : Int)) rfl rfl rfl rfl rfl rfl) ?_
      refine reg_nil ?_
      refine post_imp (s' := ⟨22, [(1, some (.lp 0 0)), (3, some (.pv (.int .i64 x10))), (4, some (.pv (.int .i64 x11))), (9, some (.pv (.bool (decide (x11 < (a0.fKids.length : Int))))))], [(0, some (.box 81 (bxv (eGExpr a0))))], 1, [], [], 0, []⟩) (imps [0] ⟨by kernel_rfl, by kernel_rfl, by kernel_rfl, by kernel_rfl, trivial⟩ ⟨by kernel_rfl, trivial⟩) ?_
      refine post_next ?_
      rcases ite_some hF with ⟨hb23, hF⟩ | ⟨hb23, hF⟩
      · refine aw_cond_t rfl hb23 ?_
        refine aw_skip ?_
        refine post_next ?_
        refine aw_seq ?_
        refine aw_block ?_
        refine aw_region ?_
        refine rmv ?_
        refine rgp (op_field_lp rfl rfl Try_fld_81_3 rfl rfl) ?_
        refine rgp (op_load_lp (v := .pv (.vs 4 (eLGExpr a0.fKids))) rfl rfl rfl rfl Try_one_79 rfl rfl) ?_
        refine rmv ?_
        obtain ⟨y28, h29, hF⟩ := bind_some hF
        refine rgp (op_index_vs (k := .i64) rfl rfl rfl (idxR eLGExpr_map h29) Try_slc_79 rfl rfl) ?_
        refine rgp (op_load_vp_agg (ps := eGExpr y28) rfl rfl rfl rfl Try_agg_81 rfl rfl) ?_
        obtain ⟨y30, h31, hF⟩ := bind_some hF
        refine rgp (op_call 1 rfl (caps := []) (args := [.agg (eGExpr y28)]) (rs := [.p (.int .i64 y30)]) rfl rfl rfl Try_cal_129 (ref06_Deep_ih _ _ h31) rfl rfl rfl) ?_
        refine rgp (op_max2 rfl rfl rfl rfl rfl) ?_
        refine ras ?_
        refine reg_nil ?_
        refine post_imp (s' := ⟨22, [(1, some (.lp 0 0)), (3, some (.pv (.int .i64 (if y30 > x10 then y30 else x10)))), (4, some (.pv (.int .i64 x11)))], [(0, some (.box 81 (bxv (eGExpr a0))))], 1, [], [], 0, []⟩) (imps [0] ⟨by kernel_rfl, by kernel_rfl, by kernel_rfl, trivial⟩ ⟨by kernel_rfl, trivial⟩) ?_
        refine post_block_normal ?_
        refine post_next ?_
        refine aw_region ?_
        refine rmv ?_
        refine rgp (op_int (k := .i64) (m := x11) (n := 1) rfl rfl rfl rfl rfl rfl) ?_
        refine ras ?_
        refine reg_nil ?_
        refine post_round ?_
        exact rnd_back (ih ((if y30 > x10 then y30 else x10), w_i64 (x11 + 1)) hF) (imps [0] ⟨by kernel_rfl, by kernel_rfl, by kernel_rfl, trivial⟩ ⟨by kernel_rfl, trivial⟩)
      refine aw_cond_f rfl hb23 ?_
      refine aw_exit ?_
      iterate 2 (refine post_then_exit ?_)
      obtain rfl := Option.some.inj hF
      exact post_lp_break _ rfl (imps [] ⟨by kernel_rfl, trivial⟩ trivial)
    rintro _ rfl
    have hF := hK35
    clear hK35
    refine post_next ?_
    refine aw_seq ?_
    refine aw_region ?_
    refine rmv ?_
    refine rgp (op_int (k := .i64) (m := x34) (n := 1) rfl rfl rfl rfl rfl rfl) ?_
    refine ras ?_
    refine reg_nil ?_
    refine post_imp (s' := ⟨22, [(2, some (.pv (.int .i64 (w_i64 (x34 + 1)))))], [], 0, [], [], 0, []⟩) (imps [] ⟨by kernel_rfl, trivial⟩ trivial) ?_
    refine post_next ?_
    refine aw_ret ?_
    obtain rfl := Option.some.inj hF
    exact prt
theorem ref06_Deep_ok {n : Nat} {a0 : GExpr} {r : Int} (hF : ref06_Deep n a0 = some r) : Abs.Fn Try.prog 129 [.agg (eGExpr a0)] [.p (.int .i64 r)] := (ref06_Deep_ring n) _ _ hF

theorem ref06_Right_ok {a0 : GExpr} {r : Bool} (hF : ref06_Right a0 = some r) : Abs.Fn Try.prog 127 [.agg (eGExpr a0)] [.p (.bool r)] := by
  unfold ref06_Right at hF
  refine fn_of_body (n := 10) Try.func127 rfl rfl rfl ?_
  intro w O
  refine aw_seq ?_
  refine aw_region ?_
  refine rgp (op_box 0 rfl rfl rfl rfl rfl rfl) ?_
  refine ras ?_
  refine reg_nil ?_
  refine post_imp (s' := ⟨10, [(1, some (.lp 0 0))], [(0, some (.box 81 (bxv (eGExpr a0))))], 1, [], [], 0, []⟩) (imps [0] ⟨by kernel_rfl, trivial⟩ ⟨by kernel_rfl, trivial⟩) ?_
  refine post_next ?_
  refine aw_seq ?_
  refine aw_region ?_
  refine rgp (op_load_lp_agg (ps := eGExpr a0) rfl rfl rfl rfl rfl rfl Try_agg_81 rfl rfl) ?_
  obtain ⟨y1, h2, hF⟩ := bind_some hF
  refine rgp (op_call 1 rfl (caps := []) (args := [.agg (eGExpr a0)]) (rs := [.p (.bool y1)]) rfl rfl rfl Try_cal_128 (ref06_form_ok h2) rfl rfl rfl) ?_
  refine rmv ?_
  rcases ite_some hF with ⟨hb3, hF⟩ | ⟨hb3, hF⟩
  · refine rgn hb3 (op_load_lp_agg (ps := eGExpr a0) rfl rfl rfl rfl rfl rfl Try_agg_81 rfl rfl) ?_
    obtain ⟨y4, h5, hF⟩ := bind_some hF
    refine rgn hb3 (op_call 1 rfl (caps := []) (args := [.agg (eGExpr a0)]) (rs := [.p (.int .i64 y4)]) rfl rfl rfl Try_cal_129 (ref06_Deep_ok h5) rfl rfl rfl) ?_
    refine rgn hb3 (op_int (k := .i64) (m := y4) (n := 20) rfl rfl rfl rfl rfl rfl) ?_
    refine rpt hb3 ?_
    refine ras ?_
    refine reg_nil ?_
    refine post_imp (s' := ⟨10, [(2, some (.pv (.bool (decide (y4 ≤ 20)))))], [], 0, [], [], 0, []⟩) (imps [] ⟨by kernel_rfl, trivial⟩ trivial) ?_
    refine post_next ?_
    refine aw_ret ?_
    obtain rfl := Option.some.inj hF
    exact prt
  iterate 3 (refine rgo_f hb3 ?_)
  refine rpf hb3 ?_
  refine ras ?_
  refine reg_nil ?_
  refine post_imp (s' := ⟨10, [(2, some (.pv (.bool false)))], [], 0, [], [], 0, []⟩) (imps [] ⟨by kernel_rfl, trivial⟩ trivial) ?_
  refine post_next ?_
  refine aw_ret ?_
  obtain rfl := Option.some.inj hF
  exact prt
theorem ref08_tells_ok {a0 : GStmt} {r : Bool} (hF : ref08_tells a0 = some r) : Abs.Fn Try.prog 124 [.agg (eGStmt a0)] [.p (.bool r)] := by
  unfold ref08_tells at hF
  refine fn_of_body (n := 86) Try.func124 rfl rfl rfl ?_
  intro w O
  refine aw_seq ?_
  refine aw_region ?_
  refine rgp (op_box 0 rfl rfl rfl rfl rfl rfl) ?_
  refine ras ?_
  refine reg_nil ?_
  refine post_imp (s' := ⟨86, [(1, some (.lp 0 0))], [(0, some (.box 83 (bxv (eGStmt a0))))], 1, [], [], 0, []⟩) (imps [0] ⟨by kernel_rfl, trivial⟩ ⟨by kernel_rfl, trivial⟩) ?_
  refine post_next ?_
  refine aw_seq ?_
  refine aw_region ?_
  refine rgp (op_field_lp rfl rfl Try_fld_83_0 rfl rfl) ?_
  refine rgp (op_load_lp (v := .pv (.int .i64 a0.fKind)) rfl rfl rfl rfl Try_one_3 rfl rfl) ?_
  refine ras ?_
  refine reg_nil ?_
  refine post_imp (s' := ⟨86, [(1, some (.lp 0 0)), (3, some (.pv (.int .i64 a0.fKind)))], [(0, some (.box 83 (bxv (eGStmt a0))))], 1, [], [], 0, []⟩) (imps [0] ⟨by kernel_rfl, by kernel_rfl, trivial⟩ ⟨by kernel_rfl, trivial⟩) ?_
  refine post_next ?_
  refine aw_seq ?_
  obtain ⟨x9, hF, hK11⟩ := bind_some hF
  refine aw_cut (fun s1 => s1 = ⟨86, [(1, some (.lp 0 0)), (3, some (.pv (.int .i64 a0.fKind))), (4, some (.pv (.bool x9)))], [(0, some (.box 83 (bxv (eGStmt a0))))], 1, [], [], 0, []⟩) ?_ ?_
  · refine aw_region ?_
    refine rmv ?_
    refine rgp (op_int (k := .i64) (m := a0.fKind) (n := 2) rfl rfl rfl rfl rfl rfl) ?_
    refine rmv ?_
    rcases ite_some hF with ⟨hb1, hF⟩ | ⟨hb1, hF⟩
    · refine rgo_t hb1 ?_
      refine rgo_t hb1 ?_
      refine rpt hb1 ?_
      refine rmv ?_
      iterate 2 (refine rgo_t rfl ?_)
      refine rpt rfl ?_
      refine rmv ?_
      iterate 2 (refine rgo_t rfl ?_)
      refine rpt rfl ?_
      refine rmv ?_
      iterate 2 (refine rgo_t rfl ?_)
      refine rpt rfl ?_
      refine rmv ?_
      iterate 3 (refine rgo_t rfl ?_)
      iterate 4 (refine rgu ?_)
      refine rgo_t rfl ?_
      refine rpt rfl ?_
      refine ras ?_
      refine reg_nil ?_
      cases hF
      exact post_cut _ rfl (imps [0] ⟨by kernel_rfl, by kernel_rfl, by kernel_rfl, trivial⟩ ⟨by kernel_rfl, trivial⟩)
    refine rgn hb1 (op_move rfl rfl rfl rfl) ?_
    refine rgn hb1 (op_int (k := .i64) (m := a0.fKind) (n := 4) rfl rfl rfl rfl rfl rfl) ?_
    refine rpf hb1 ?_
    refine rmv ?_
    rcases ite_some hF with ⟨hb2, hF⟩ | ⟨hb2, hF⟩
    · refine rgo_t hb2 ?_
      refine rgo_t hb2 ?_
      refine rpt hb2 ?_
      refine rmv ?_
      iterate 2 (refine rgo_t rfl ?_)
      refine rpt rfl ?_
      refine rmv ?_
      iterate 2 (refine rgo_t rfl ?_)
      refine rpt rfl ?_
      refine rmv ?_
      iterate 3 (refine rgo_t rfl ?_)
      iterate 4 (refine rgu ?_)
      refine rgo_t rfl ?_
      refine rpt rfl ?_
      refine ras ?_
      refine reg_nil ?_
      cases hF
      exact post_cut _ rfl (imps [0] ⟨by kernel_rfl, by kernel_rfl, by kernel_rfl, trivial⟩ ⟨by kernel_rfl, trivial⟩)
    refine rgn hb2 (op_move rfl rfl rfl rfl) ?_
    refine rgn hb2 (op_int (k := .i64) (m := a0.fKind) (n := 5) rfl rfl rfl rfl rfl rfl) ?_
    refine rpf hb2 ?_
    refine rmv ?_
    rcases ite_some hF with ⟨hb3, hF⟩ | ⟨hb3, hF⟩
    · refine rgo_t hb3 ?_
      refine rgo_t hb3 ?_
      refine rpt hb3 ?_
      refine rmv ?_
      iterate 2 (refine rgo_t rfl ?_)
      refine rpt rfl ?_
      refine rmv ?_
      iterate 3 (refine rgo_t rfl ?_)
      iterate 4 (refine rgu ?_)
      refine rgo_t rfl ?_
      refine rpt rfl ?_
      refine ras ?_
      refine reg_nil ?_
      cases hF
      exact post_cut _ rfl (imps [0] ⟨by kernel_rfl, by kernel_rfl, by kernel_rfl, trivial⟩ ⟨by kernel_rfl, trivial⟩)
    refine rgn hb3 (op_move rfl rfl rfl rfl) ?_
    refine rgn hb3 (op_int (k := .i64) (m := a0.fKind) (n := 7) rfl rfl rfl rfl rfl rfl) ?_
    refine rpf hb3 ?_
    refine rmv ?_
    rcases ite_some hF with ⟨hb4, hF⟩ | ⟨hb4, hF⟩
    · refine rgo_t hb4 ?_
      refine rgo_t hb4 ?_
      refine rpt hb4 ?_
      refine rmv ?_
      iterate 3 (refine rgo_t rfl ?_)
      iterate 4 (refine rgu ?_)
      refine rgo_t rfl ?_
      refine rpt rfl ?_
      refine ras ?_
      refine reg_nil ?_
      cases hF
      exact post_cut _ rfl (imps [0] ⟨by kernel_rfl, by kernel_rfl, by kernel_rfl, trivial⟩ ⟨by kernel_rfl, trivial⟩)
    refine rgn hb4 (op_move rfl rfl rfl rfl) ?_
    refine rgn hb4 (op_int (k := .i64) (m := a0.fKind) (n := 8) rfl rfl rfl rfl rfl rfl) ?_
    refine rpf hb4 ?_
    refine rmv ?_
    rcases ite_some hF with ⟨hb5, hF⟩ | ⟨hb5, hF⟩
    · refine rgo_t hb5 ?_
      iterate 2 (refine rgo_t hb5 ?_)
      iterate 4 (refine rgu ?_)
      refine rgo_t hb5 ?_
      refine rpt hb5 ?_
      refine ras ?_
      refine reg_nil ?_
      cases hF
      exact post_cut _ rfl (imps [0] ⟨by kernel_rfl, by kernel_rfl, by kernel_rfl, trivial⟩ ⟨by kernel_rfl, trivial⟩)
    refine rgn hb5 (op_move rfl rfl rfl rfl) ?_
    refine rgn hb5 (op_int (k := .i64) (m := a0.fKind) (n := 11) rfl rfl rfl rfl rfl rfl) ?_
    refine rgn hb5 (op_move rfl rfl rfl rfl) ?_
    rcases ite_some hF with ⟨hb6, hF⟩ | ⟨hb6, hF⟩
    · refine rgn hb6 (op_field_lp rfl rfl Try_fld_83_5 rfl rfl) ?_
      refine rgn hb6 (op_load_lp_agg (ps := eGExpr a0.fE) rfl rfl rfl rfl rfl rfl Try_agg_81 rfl rfl) ?_
      refine rgn hb6 (op_build (zs := (eGExpr zGExpr)) (r := eGExpr ({ fKind := 0, fNum := 0, fName := [], fKids := [] } : GExpr)) rfl Try_zer_81 (by exact ⟨rfl, rfl, rfl, trivial, trivial⟩) Try_plc_81 rfl rfl rfl rfl) ?_
      obtain ⟨y7, h8, hF⟩ := bind_some hF
      refine rgn hb6 (op_call 1 rfl (caps := []) (args := [.agg (eGExpr a0.fE), .agg (eGExpr ({ fKind := 0, fNum := 0, fName := [], fKids := [] } : GExpr))]) (rs := [.p (.bool y7)]) rfl rfl rfl Try_cal_88 (ref06_Same_ok h8) rfl rfl rfl) ?_
      refine rgn hb5 (op_pick_t rfl rfl hb6 rfl rfl rfl) ?_
      refine rpf hb5 ?_
      refine ras ?_
      refine reg_nil ?_
      cases hF
      exact post_cut _ rfl (imps [0] ⟨by kernel_rfl, by kernel_rfl, by kernel_rfl, trivial⟩ ⟨by kernel_rfl, trivial⟩)
    iterate 4 (refine rgo_f hb6 ?_)
    refine rgn hb5 (op_pick_f rfl rfl hb6 rfl rfl rfl) ?_
    refine rpf hb5 ?_
    refine ras ?_
    refine reg_nil ?_
    cases hF
    exact post_cut _ rfl (imps [0] ⟨by kernel_rfl, by kernel_rfl, by kernel_rfl, trivial⟩ ⟨by kernel_rfl, trivial⟩)
  rintro _ rfl
  have hF := hK11
  clear hK11
  refine post_next ?_
  iterate 2 (refine aw_seq ?_)
  obtain ⟨x24, hF, hK26⟩ := bind_some hF
  refine aw_cut (fun s1 => s1 = ⟨86, [(1, some (.lp 0 0)), (71, some (.pv (.bool x24)))], [(0, some (.box 83 (bxv (eGStmt a0))))], 1, [], [], 0, []⟩) ?_ ?_
  · refine aw_region ?_
    refine rmv ?_
    refine rgp (op_not rfl rfl rfl rfl) ?_
    refine rmv ?_
    rcases ite_some hF with ⟨hb12, hF⟩ | ⟨hb12, hF⟩
    · refine rgn hb12 (op_field_lp rfl rfl Try_fld_83_5 rfl rfl) ?_
      refine rgn hb12 (op_load_lp_agg (ps := eGExpr a0.fE) rfl rfl rfl rfl rfl rfl Try_agg_81 rfl rfl) ?_
      obtain ⟨y13, h14, hF⟩ := bind_some hF
      refine rgn hb12 (op_call 1 rfl (caps := []) (args := [.agg (eGExpr a0.fE)]) (rs := [.p (.bool y13)]) rfl rfl rfl Try_cal_127 (ref06_Right_ok h14) rfl rfl rfl) ?_
      refine rgn hb12 (op_not rfl rfl rfl rfl) ?_
      refine rpt hb12 ?_
      refine rmv ?_
      rcases ite_some hF with ⟨hb15, hF⟩ | ⟨hb15, hF⟩
      · refine rgo_t hb15 ?_
        iterate 2 (refine rgo_t hb15 ?_)
        iterate 4 (refine rgu ?_)
        iterate 2 (refine rgo_t hb15 ?_)
        iterate 4 (refine rgu ?_)
        iterate 2 (refine rgo_t hb15 ?_)
        iterate 4 (refine rgu ?_)
        refine rgo_t hb15 ?_
        refine rpt hb15 ?_
        refine rmv ?_
        iterate 4 (refine rgo_t rfl ?_)
        refine rpt rfl ?_
        refine reg_nil ?_
        cases hF
        exact post_cut _ rfl (imps [0] ⟨by kernel_rfl, by kernel_rfl, trivial⟩ ⟨by kernel_rfl, trivial⟩)
      refine rgn hb15 (op_move rfl rfl rfl rfl) ?_
      refine rgn hb15 (op_int (k := .i64) (m := a0.fKind) (n := 6) rfl rfl rfl rfl rfl rfl) ?_
      refine rgn hb15 (op_move rfl rfl rfl rfl) ?_
      rcases ite_some hF with ⟨hb16, hF⟩ | ⟨hb16, hF⟩
      · refine rgn hb16 (op_field_lp rfl rfl Try_fld_83_5 rfl rfl) ?_
        refine rgn hb16 (op_field_lp rfl rfl Try_fld_81_0 rfl rfl) ?_
        refine rgn hb16 (op_load_lp (v := .pv (.int .i64 a0.fE.fKind)) rfl rfl rfl rfl Try_one_3 rfl rfl) ?_
        refine rgn hb16 (op_int (k := .i64) (m := a0.fE.fKind) (n := 2) rfl rfl rfl rfl rfl rfl) ?_
        refine rgn hb15 (op_pick_t rfl rfl hb16 rfl rfl rfl) ?_
        refine rgn hb15 (op_move rfl rfl rfl rfl) ?_
        rcases ite_some hF with ⟨hb17, hF⟩ | ⟨hb17, hF⟩
        · refine rgn hb17 (op_field_lp rfl rfl Try_fld_83_5 rfl rfl) ?_
          refine rgn hb17 (op_field_lp rfl rfl Try_fld_81_0 rfl rfl) ?_
          refine rgn hb17 (op_load_lp (v := .pv (.int .i64 a0.fE.fKind)) rfl rfl rfl rfl Try_one_3 rfl rfl) ?_
          refine rgn hb17 (op_int (k := .i64) (m := a0.fE.fKind) (n := 3) rfl rfl rfl rfl rfl rfl) ?_
          refine rgn hb15 (op_pick_t rfl rfl hb17 rfl rfl rfl) ?_
          refine rgn hb15 (op_move rfl rfl rfl rfl) ?_
          rcases ite_some hF with ⟨hb18, hF⟩ | ⟨hb18, hF⟩
          · refine rgn hb18 (op_field_lp rfl rfl Try_fld_83_5 rfl rfl) ?_
            refine rgn hb18 (op_field_lp rfl rfl Try_fld_81_0 rfl rfl) ?_
            refine rgn hb18 (op_load_lp (v := .pv (.int .i64 a0.fE.fKind)) rfl rfl rfl rfl Try_one_3 rfl rfl) ?_
            refine rgn hb18 (op_int (k := .i64) (m := a0.fE.fKind) (n := 4) rfl rfl rfl rfl rfl rfl) ?_
            refine rgn hb15 (op_pick_t rfl rfl hb18 rfl rfl rfl) ?_
            refine rpf hb15 ?_
            refine rmv ?_
            rcases ite_some hF with ⟨hb19, hF⟩ | ⟨hb19, hF⟩
            · refine rgo_t hb19 ?_
              iterate 3 (refine rgo_t hb19 ?_)
              refine rpt hb19 ?_
              refine reg_nil ?_
              cases hF
              exact post_cut _ rfl (imps [0] ⟨by kernel_rfl, by kernel_rfl, trivial⟩ ⟨by kernel_rfl, trivial⟩)
            refine rgn hb19 (op_field_lp rfl rfl Try_fld_83_6 rfl rfl) ?_
            refine rgn hb19 (op_load_lp (v := .pv (.vs 4 (eLGExpr a0.fArgs))) rfl rfl rfl rfl Try_one_79 rfl rfl) ?_
            refine rgn hb19 (op_len_vs (n := a0.fArgs.length) rfl rfl (lenR eLGExpr_map) Try_slc_79 rfl rfl) ?_
            refine rgn hb19 (op_int (k := .i64) (m := (a0.fArgs.length : Int)) (n := 5) rfl rfl rfl rfl rfl rfl) ?_
            refine rpf hb19 ?_
            refine reg_nil ?_
            cases hF
            exact post_cut _ rfl (imps [0] ⟨by kernel_rfl, by kernel_rfl, trivial⟩ ⟨by kernel_rfl, trivial⟩)
          iterate 4 (refine rgo_f hb18 ?_)
          refine rgn hb15 (op_pick_f rfl rfl hb18 rfl rfl rfl) ?_
          refine rpf hb15 ?_
          refine rmv ?_
          refine rgn rfl (op_field_lp rfl rfl Try_fld_83_6 rfl rfl) ?_
          refine rgn rfl (op_load_lp (v := .pv (.vs 4 (eLGExpr a0.fArgs))) rfl rfl rfl rfl Try_one_79 rfl rfl) ?_
          refine rgn rfl (op_len_vs (n := a0.fArgs.length) rfl rfl (lenR eLGExpr_map) Try_slc_79 rfl rfl) ?_
          refine rgn rfl (op_int (k := .i64) (m := (a0.fArgs.length : Int)) (n := 5) rfl rfl rfl rfl rfl rfl) ?_
          refine rpf rfl ?_
          refine reg_nil ?_
          cases hF
          exact post_cut _ rfl (imps [0] ⟨by kernel_rfl, by kernel_rfl, trivial⟩ ⟨by kernel_rfl, trivial⟩)
        iterate 4 (refine rgo_f hb17 ?_)
        refine rgn hb15 (op_pick_f rfl rfl hb17 rfl rfl rfl) ?_
        refine rgn hb15 (op_move rfl rfl rfl rfl) ?_
        iterate 4 (refine rgo_f rfl ?_)
        refine rgn hb15 (op_pick_f rfl rfl rfl rfl rfl rfl) ?_
        refine rpf hb15 ?_
        refine rmv ?_
        refine rgn rfl (op_field_lp rfl rfl Try_fld_83_6 rfl rfl) ?_
        refine rgn rfl (op_load_lp (v := .pv (.vs 4 (eLGExpr a0.fArgs))) rfl rfl rfl rfl Try_one_79 rfl rfl) ?_
        refine rgn rfl (op_len_vs (n := a0.fArgs.length) rfl rfl (lenR eLGExpr_map) Try_slc_79 rfl rfl) ?_
        refine rgn rfl (op_int (k := .i64) (m := (a0.fArgs.length : Int)) (n := 5) rfl rfl rfl rfl rfl rfl) ?_
        refine rpf rfl ?_
        refine reg_nil ?_
        cases hF
        exact post_cut _ rfl (imps [0] ⟨by kernel_rfl, by kernel_rfl, trivial⟩ ⟨by kernel_rfl, trivial⟩)
      iterate 4 (refine rgo_f hb16 ?_)
      refine rgn hb15 (op_pick_f rfl rfl hb16 rfl rfl rfl) ?_
      refine rgn hb15 (op_move rfl rfl rfl rfl) ?_
      iterate 4 (refine rgo_f rfl ?_)
      refine rgn hb15 (op_pick_f rfl rfl rfl rfl rfl rfl) ?_
      refine rgn hb15 (op_move rfl rfl rfl rfl) ?_
      iterate 4 (refine rgo_f rfl ?_)
      refine rgn hb15 (op_pick_f rfl rfl rfl rfl rfl rfl) ?_
      refine rpf hb15 ?_
      refine rmv ?_
      refine rgn rfl (op_field_lp rfl rfl Try_fld_83_6 rfl rfl) ?_
      refine rgn rfl (op_load_lp (v := .pv (.vs 4 (eLGExpr a0.fArgs))) rfl rfl rfl rfl Try_one_79 rfl rfl) ?_
      refine rgn rfl (op_len_vs (n := a0.fArgs.length) rfl rfl (lenR eLGExpr_map) Try_slc_79 rfl rfl) ?_
      refine rgn rfl (op_int (k := .i64) (m := (a0.fArgs.length : Int)) (n := 5) rfl rfl rfl rfl rfl rfl) ?_
      refine rpf rfl ?_
      refine reg_nil ?_
      cases hF
      exact post_cut _ rfl (imps [0] ⟨by kernel_rfl, by kernel_rfl, trivial⟩ ⟨by kernel_rfl, trivial⟩)
    iterate 4 (refine rgo_f hb12 ?_)
    refine rpf hb12 ?_
    refine rmv ?_
    refine rgn rfl (op_move rfl rfl rfl rfl) ?_
    refine rgn rfl (op_int (k := .i64) (m := a0.fKind) (n := 6) rfl rfl rfl rfl rfl rfl) ?_
    refine rgn rfl (op_move rfl rfl rfl rfl) ?_
    rcases ite_some hF with ⟨hb20, hF⟩ | ⟨hb20, hF⟩
    · refine rgn hb20 (op_field_lp rfl rfl Try_fld_83_5 rfl rfl) ?_
      refine rgn hb20 (op_field_lp rfl rfl Try_fld_81_0 rfl rfl) ?_
      refine rgn hb20 (op_load_lp (v := .pv (.int .i64 a0.fE.fKind)) rfl rfl rfl rfl Try_one_3 rfl rfl) ?_
      refine rgn hb20 (op_int (k := .i64) (m := a0.fE.fKind) (n := 2) rfl rfl rfl rfl rfl rfl) ?_
      refine rgn rfl (op_pick_t rfl rfl hb20 rfl rfl rfl) ?_
      refine rgn rfl (op_move rfl rfl rfl rfl) ?_
      rcases ite_some hF with ⟨hb21, hF⟩ | ⟨hb21, hF⟩
      · refine rgn hb21 (op_field_lp rfl rfl Try_fld_83_5 rfl rfl) ?_
        refine rgn hb21 (op_field_lp rfl rfl Try_fld_81_0 rfl rfl) ?_
        refine rgn hb21 (op_load_lp (v := .pv (.int .i64 a0.fE.fKind)) rfl rfl rfl rfl Try_one_3 rfl rfl) ?_
        refine rgn hb21 (op_int (k := .i64) (m := a0.fE.fKind) (n := 3) rfl rfl rfl rfl rfl rfl) ?_
        refine rgn rfl (op_pick_t rfl rfl hb21 rfl rfl rfl) ?_
        refine rgn rfl (op_move rfl rfl rfl rfl) ?_
        rcases ite_some hF with ⟨hb22, hF⟩ | ⟨hb22, hF⟩
        · refine rgn hb22 (op_field_lp rfl rfl Try_fld_83_5 rfl rfl) ?_
          refine rgn hb22 (op_field_lp rfl rfl Try_fld_81_0 rfl rfl) ?_
          refine rgn hb22 (op_load_lp (v := .pv (.int .i64 a0.fE.fKind)) rfl rfl rfl rfl Try_one_3 rfl rfl) ?_
          refine rgn hb22 (op_int (k := .i64) (m := a0.fE.fKind) (n := 4) rfl rfl rfl rfl rfl rfl) ?_
          refine rgn rfl (op_pick_t rfl rfl hb22 rfl rfl rfl) ?_
          refine rpf rfl ?_
          refine rmv ?_
          rcases ite_some hF with ⟨hb23, hF⟩ | ⟨hb23, hF⟩
          · refine rgo_t hb23 ?_
            iterate 3 (refine rgo_t hb23 ?_)
            refine rpt hb23 ?_
            refine reg_nil ?_
            cases hF
            exact post_cut _ rfl (imps [0] ⟨by kernel_rfl, by kernel_rfl, trivial⟩ ⟨by kernel_rfl, trivial⟩)
          refine rgn hb23 (op_field_lp rfl rfl Try_fld_83_6 rfl rfl) ?_
          refine rgn hb23 (op_load_lp (v := .pv (.vs 4 (eLGExpr a0.fArgs))) rfl rfl rfl rfl Try_one_79 rfl rfl) ?_
          refine rgn hb23 (op_len_vs (n := a0.fArgs.length) rfl rfl (lenR eLGExpr_map) Try_slc_79 rfl rfl) ?_
          refine rgn hb23 (op_int (k := .i64) (m := (a0.fArgs.length : Int)) (n := 5) rfl rfl rfl rfl rfl rfl) ?_
          refine rpf hb23 ?_
          refine reg_nil ?_
          cases hF
          exact post_cut _ rfl (imps [0] ⟨by kernel_rfl, by kernel_rfl, trivial⟩ ⟨by kernel_rfl, trivial⟩)
        iterate 4 (refine rgo_f hb22 ?_)
        refine rgn rfl (op_pick_f rfl rfl hb22 rfl rfl rfl) ?_
        refine rpf rfl ?_
        refine rmv ?_
        refine rgn rfl (op_field_lp rfl rfl Try_fld_83_6 rfl rfl) ?_
        refine rgn rfl (op_load_lp (v := .pv (.vs 4 (eLGExpr a0.fArgs))) rfl rfl rfl rfl Try_one_79 rfl rfl) ?_
        refine rgn rfl (op_len_vs (n := a0.fArgs.length) rfl rfl (lenR eLGExpr_map) Try_slc_79 rfl rfl) ?_
        refine rgn rfl (op_int (k := .i64) (m := (a0.fArgs.length : Int)) (n := 5) rfl rfl rfl rfl rfl rfl) ?_
        refine rpf rfl ?_
        refine reg_nil ?_
        cases hF
        exact post_cut _ rfl (imps [0] ⟨by kernel_rfl, by kernel_rfl, trivial⟩ ⟨by kernel_rfl, trivial⟩)
      iterate 4 (refine rgo_f hb21 ?_)
      refine rgn rfl (op_pick_f rfl rfl hb21 rfl rfl rfl) ?_
      refine rgn rfl (op_move rfl rfl rfl rfl) ?_
      iterate 4 (refine rgo_f rfl ?_)
      refine rgn rfl (op_pick_f rfl rfl rfl rfl rfl rfl) ?_
      refine rpf rfl ?_
      refine rmv ?_
      refine rgn rfl (op_field_lp rfl rfl Try_fld_83_6 rfl rfl) ?_
      refine rgn rfl (op_load_lp (v := .pv (.vs 4 (eLGExpr a0.fArgs))) rfl rfl rfl rfl Try_one_79 rfl rfl) ?_
      refine rgn rfl (op_len_vs (n := a0.fArgs.length) rfl rfl (lenR eLGExpr_map) Try_slc_79 rfl rfl) ?_
      refine rgn rfl (op_int (k := .i64) (m := (a0.fArgs.length : Int)) (n := 5) rfl rfl rfl rfl rfl rfl) ?_
      refine rpf rfl ?_
      refine reg_nil ?_
      cases hF
      exact post_cut _ rfl (imps [0] ⟨by kernel_rfl, by kernel_rfl, trivial⟩ ⟨by kernel_rfl, trivial⟩)
    iterate 4 (refine rgo_f hb20 ?_)
    refine rgn rfl (op_pick_f rfl rfl hb20 rfl rfl rfl) ?_
    refine rgn rfl (op_move rfl rfl rfl rfl) ?_
    iterate 4 (refine rgo_f rfl ?_)
    refine rgn rfl (op_pick_f rfl rfl rfl rfl rfl rfl) ?_
    refine rgn rfl (op_move rfl rfl rfl rfl) ?_
    iterate 4 (refine rgo_f rfl ?_)
    refine rgn rfl (op_pick_f rfl rfl rfl rfl rfl rfl) ?_
    refine rpf rfl ?_
    refine rmv ?_
    refine rgn rfl (op_field_lp rfl rfl Try_fld_83_6 rfl rfl) ?_
    refine rgn rfl (op_load_lp (v := .pv (.vs 4 (eLGExpr a0.fArgs))) rfl rfl rfl rfl Try_one_79 rfl rfl) ?_
    refine rgn rfl (op_len_vs (n := a0.fArgs.length) rfl rfl (lenR eLGExpr_map) Try_slc_79 rfl rfl) ?_
    refine rgn rfl (op_int (k := .i64) (m := (a0.fArgs.length : Int)) (n := 5) rfl rfl rfl rfl rfl rfl) ?_
    refine rpf rfl ?_
    refine reg_nil ?_
    cases hF
    exact post_cut _ rfl (imps [0] ⟨by kernel_rfl, by kernel_rfl, trivial⟩ ⟨by kernel_rfl, trivial⟩)
  rintro _ rfl
  have hF := hK26
  clear hK26
  refine post_next ?_
  rcases ite_some hF with ⟨hb27, hF⟩ | ⟨hb27, hF⟩
  · refine aw_cond_t rfl hb27 ?_
    refine aw_seq ?_
    refine aw_region ?_
    refine ras ?_
    refine reg_nil ?_
    refine post_imp (s' := ⟨86, [(2, some (.pv (.bool false)))], [], 0, [], [], 0, []⟩) (imps [] ⟨by kernel_rfl, trivial⟩ trivial) ?_
    refine post_next ?_
    refine aw_ret ?_
    refine post_then_ret ?_
    obtain rfl := Option.some.inj hF
    exact prt
  refine aw_cond_f rfl hb27 ?_
  refine aw_skip ?_
  refine post_next ?_
  iterate 2 (refine aw_seq ?_)
  refine aw_region ?_
  refine ras ?_
  refine reg_nil ?_
  refine post_imp (s' := ⟨86, [(1, some (.lp 0 0)), (5, some (.pv (.int .i64 0)))], [(0, some (.box 83 (bxv (eGStmt a0))))], 1, [], [], 0, []⟩) (imps [0] ⟨by kernel_rfl, by kernel_rfl, trivial⟩ ⟨by kernel_rfl, trivial⟩) ?_
  refine post_next ?_
  obtain ⟨lr61, hF, hK62⟩ := bind_some hF
  refine aw_for ((((a0.fArgs.length : Int) : Int) - (0)).toNat + 1) (fun s1 => ∃ q, lr61 = .next q ∧ s1 = ⟨86, [], [], 0, [], [], 0, []⟩) ?_ ?_
  · refine rnd_loop (α := Int) (fun q => ⟨86, [(1, some (.lp 0 0)), (5, some (.pv (.int .i64 q)))], [(0, some (.box 83 (bxv (eGStmt a0))))], 1, [], [], 0, []⟩) (fun k q => ref08_tells_L1 a0 k q = some lr61) 0 (imps [0] ⟨by kernel_rfl, by kernel_rfl, trivial⟩ ⟨by kernel_rfl, trivial⟩) hF (fun q h => by cases h) ?_
    clear hF
    rintro k x38 hF ih
    refine rnd_succ ?_
    iterate 2 (refine aw_seq ?_)
    refine aw_region ?_
    refine rmv ?_
    refine rgp (op_field_lp rfl rfl Try_fld_83_6 rfl rfl) ?_
    refine rgp (op_load_lp (v := .pv (.vs 4 (eLGExpr a0.fArgs))) rfl rfl rfl rfl Try_one_79 rfl rfl) ?_
    refine rgp (op_len_vs (n := a0.fArgs.length) rfl rfl (lenR eLGExpr_map) Try_slc_79 rfl rfl) ?_
    refine rgp (op_int (k := .i64) (m := x38) (n := (a0.fArgs.length : Int)) rfl rfl rfl rfl rfl rfl) ?_
    refine reg_nil ?_
    refine post_imp (s' := ⟨86, [(1, some (.lp 0 0)), (5, some (.pv (.int .i64 x38))), (76, some (.pv (.bool (decide (x38 < (a0.fArgs.length : Int))))))], [(0, some (.box 83 (bxv (eGStmt a0))))], 1, [], [], 0, []⟩) (imps [0] ⟨by kernel_rfl, by kernel_rfl, by kernel_rfl, trivial⟩ ⟨by kernel_rfl, trivial⟩) ?_
    refine post_next ?_
    rcases ite_some hF with ⟨hb50, hF⟩ | ⟨hb50, hF⟩
    · refine aw_cond_t rfl hb50 ?_
      refine aw_skip ?_
      refine post_next ?_
      refine aw_seq ?_
      refine aw_block ?_
      refine aw_seq ?_
      refine aw_region ?_
      refine rgp (op_field_lp rfl rfl Try_fld_83_6 rfl rfl) ?_
      refine rgp (op_load_lp (v := .pv (.vs 4 (eLGExpr a0.fArgs))) rfl rfl rfl rfl Try_one_79 rfl rfl) ?_
      refine rmv ?_
      obtain ⟨y55, h56, hF⟩ := bind_some hF
      refine rgp (op_index_vs (k := .i64) rfl rfl rfl (idxR eLGExpr_map h56) Try_slc_79 rfl rfl) ?_
      refine rgp (op_load_vp_agg (ps := eGExpr y55) rfl rfl rfl rfl Try_agg_81 rfl rfl) ?_
      obtain ⟨y57, h58, hF⟩ := bind_some hF
      refine rgp (op_call 1 rfl (caps := []) (args := [.agg (eGExpr y55)]) (rs := [.p (.bool y57)]) rfl rfl rfl Try_cal_127 (ref06_Right_ok h58) rfl rfl rfl) ?_
      refine rgp (op_not rfl rfl rfl rfl) ?_
      refine reg_nil ?_
      refine post_imp (s' := ⟨86, [(1, some (.lp 0 0)), (5, some (.pv (.int .i64 x38))), (85, some (.pv (.bool (!y57))))], [(0, some (.box 83 (bxv (eGStmt a0))))], 1, [], [], 0, []⟩) (imps [0] ⟨by kernel_rfl, by kernel_rfl, by kernel_rfl, trivial⟩ ⟨by kernel_rfl, trivial⟩) ?_
      refine post_next ?_
      rcases ite_some hF with ⟨hb59, hF⟩ | ⟨hb59, hF⟩
      · refine aw_cond_t rfl hb59 ?_
        refine aw_seq ?_
        refine aw_region ?_
        refine ras ?_
        refine reg_nil ?_
        refine post_imp (s' := ⟨86, [(2, some (.pv (.bool false)))], [], 0, [], [], 0, []⟩) (imps [] ⟨by kernel_rfl, trivial⟩ trivial) ?_
        refine post_next ?_
        refine aw_ret ?_
        refine post_block_ret ?_
        iterate 2 (refine post_then_ret ?_)
        refine post_lp_ret ?_
        obtain rfl := Option.some.inj hF
        have hF := elim_stop hK62
        refine post_then_ret ?_
        obtain rfl := Option.some.inj hF
        exact prt
      refine aw_cond_f rfl hb59 ?_
      refine aw_skip ?_
      refine post_block_normal ?_
      refine post_next ?_
      refine aw_region ?_
      refine rmv ?_
      refine rgp (op_int (k := .i64) (m := x38) (n := 1) rfl rfl rfl rfl rfl rfl) ?_
      refine ras ?_
      refine reg_nil ?_
      refine post_round ?_
      exact rnd_back (ih (w_i64 (x38 + 1)) hF) (imps [0] ⟨by kernel_rfl, by kernel_rfl, trivial⟩ ⟨by kernel_rfl, trivial⟩)
    refine aw_cond_f rfl hb50 ?_
    refine aw_exit ?_
    iterate 2 (refine post_then_exit ?_)
    obtain rfl := Option.some.inj hF
    exact post_lp_break _ ⟨_, rfl, rfl⟩ (imps [] trivial trivial)
  rintro _ ⟨⟨⟩, rfl, rfl⟩
  have hF := elim_next hK62
  clear hK62
  refine post_next ?_
  refine aw_seq ?_
  refine aw_region ?_
  refine ras ?_
  refine reg_nil ?_
  refine post_imp (s' := ⟨86, [(2, some (.pv (.bool true)))], [], 0, [], [], 0, []⟩) (imps [] ⟨by kernel_rfl, trivial⟩ trivial) ?_
  refine post_next ?_
  refine aw_ret ?_
  obtain rfl := Option.some.inj hF
  exact prt
theorem ref08_form_ring : ∀ n : Nat, (∀ (a0 : GStmt) (a1 : Int) (r : Bool), ref08_form n a0 a1 = some r → Abs.Fn Try.prog 115 [.agg (eGStmt a0), .int .i64 a1] [.p (.bool r)]) := by
  intro n
  induction n with
  | zero => exact (fun _ _ _ h => by simp [ref08_form] at h)
  | succ n ih =>
    have ref08_form_ih := ih
    clear ih
    intro a0 a1 r hF
    unfold ref08_form at hF
    revert hF ref08_form_ih
    generalize ref08_form n = ref08_form_rec
    intro ref08_form_ih hF
    refine fn_of_body (n := 51) Try.func115 rfl rfl rfl ?_
    intro w O
    refine aw_seq ?_
    refine aw_region ?_
    refine rgp (op_box 0 rfl rfl rfl rfl rfl rfl) ?_
    refine ras ?_
    refine reg_nil ?_
    refine post_imp (s' := ⟨51, [(1, some (.pv (.int .i64 a1))), (2, some (.lp 0 0))], [(0, some (.box 83 (bxv (eGStmt a0))))], 1, [], [], 0, []⟩) (imps [0] ⟨by kernel_rfl, by kernel_rfl, trivial⟩ ⟨by kernel_rfl, trivial⟩) ?_
    refine post_next ?_
    iterate 2 (refine aw_seq ?_)
    obtain ⟨x11, hF, hK13⟩ := bind_some hF
    refine aw_cut (fun s1 => s1 = ⟨51, [(1, some (.pv (.int .i64 a1))), (2, some (.lp 0 0)), (20, some (.pv (.bool x11)))], [(0, some (.box 83 (bxv (eGStmt a0))))], 1, [], [], 0, []⟩) ?_ ?_
    · refine aw_region ?_
      refine rgp (op_load_lp_agg (ps := eGStmt a0) rfl rfl rfl rfl rfl rfl Try_agg_83 rfl rfl) ?_
      obtain ⟨y3, h4, hF⟩ := bind_some hF
      refine rgp (op_call 1 rfl (caps := []) (args := [.agg (eGStmt a0)]) (rs := [.p (.bool y3)]) rfl rfl rfl Try_cal_122 (ref08_only_ok h4) rfl rfl rfl) ?_
      refine rgp (op_not rfl rfl rfl rfl) ?_
      refine rmv ?_
      rcases ite_some hF with ⟨hb5, hF⟩ | ⟨hb5, hF⟩
      · refine rgo_t hb5 ?_
        iterate 3 (refine rgo_t hb5 ?_)
        refine rpt hb5 ?_
        refine rmv ?_
        iterate 3 (refine rgo_t rfl ?_)
        refine rpt rfl ?_
        refine reg_nil ?_
        cases hF
        exact post_cut _ rfl (imps [0] ⟨by kernel_rfl, by kernel_rfl, by kernel_rfl, trivial⟩ ⟨by kernel_rfl, trivial⟩)
      refine rgn hb5 (op_load_lp_agg (ps := eGStmt a0) rfl rfl rfl rfl rfl rfl Try_agg_83 rfl rfl) ?_
      refine rgn hb5 (op_move rfl rfl rfl rfl) ?_
      obtain ⟨y6, h7, hF⟩ := bind_some hF
      refine rgn hb5 (op_call 1 rfl (caps := []) (args := [.agg (eGStmt a0), .int .i64 a1]) (rs := [.p (.bool y6)]) rfl rfl rfl Try_cal_123 (ref08_names_ok h7) rfl rfl rfl) ?_
      refine rgn hb5 (op_not rfl rfl rfl rfl) ?_
      refine rpf hb5 ?_
      refine rmv ?_
      rcases ite_some hF with ⟨hb8, hF⟩ | ⟨hb8, hF⟩
      · refine rgo_t hb8 ?_
        iterate 2 (refine rgo_t hb8 ?_)
        refine rpt hb8 ?_
        refine reg_nil ?_
        cases hF
        exact post_cut _ rfl (imps [0] ⟨by kernel_rfl, by kernel_rfl, by kernel_rfl, trivial⟩ ⟨by kernel_rfl, trivial⟩)
      refine rgn hb8 (op_load_lp_agg (ps := eGStmt a0) rfl rfl rfl rfl rfl rfl Try_agg_83 rfl rfl) ?_
      obtain ⟨y9, h10, hF⟩ := bind_some hF
      refine rgn hb8 (op_call 1 rfl (caps := []) (args := [.agg (eGStmt a0)]) (rs := [.p (.bool y9)]) rfl rfl rfl Try_cal_124 (ref08_tells_ok h10) rfl rfl rfl) ?_
      refine rgn hb8 (op_not rfl rfl rfl rfl) ?_
      refine rpf hb8 ?_
      refine reg_nil ?_
      cases hF
      exact post_cut _ rfl (imps [0] ⟨by kernel_rfl, by kernel_rfl, by kernel_rfl, trivial⟩ ⟨by kernel_rfl, trivial⟩)
    rintro _ rfl
    have hF := hK13
    clear hK13
    refine post_next ?_
    rcases ite_some hF with ⟨hb14, hF⟩ | ⟨hb14, hF⟩
    · refine aw_cond_t rfl hb14 ?_
      refine aw_seq ?_
      refine aw_region ?_
      refine ras ?_
      refine reg_nil ?_
      refine post_imp (s' := ⟨51, [(4, some (.pv (.bool false)))], [], 0, [], [], 0, []⟩) (imps [] ⟨by kernel_rfl, trivial⟩ trivial) ?_
      refine post_next ?_
      refine aw_ret ?_
      refine post_then_ret ?_
      obtain rfl := Option.some.inj hF
      exact prt
    refine aw_cond_f rfl hb14 ?_
    refine aw_skip ?_
    refine post_next ?_
    iterate 2 (refine aw_seq ?_)
    refine aw_region ?_
    refine ras ?_
    refine reg_nil ?_
    refine post_imp (s' := ⟨51, [(1, some (.pv (.int .i64 a1))), (2, some (.lp 0 0)), (5, some (.pv (.int .i64 0)))], [(0, some (.box 83 (bxv (eGStmt a0))))], 1, [], [], 0, []⟩) (imps [0] ⟨by kernel_rfl, by kernel_rfl, by kernel_rfl, trivial⟩ ⟨by kernel_rfl, trivial⟩) ?_
    refine post_next ?_
    obtain ⟨lr48, hF, hK49⟩ := bind_some hF
    refine aw_for ((((a0.fBody.length : Int) : Int) - (0)).toNat + 1) (fun s1 => ∃ q, lr48 = .next q ∧ s1 = ⟨51, [(1, some (.pv (.int .i64 a1))), (2, some (.lp 0 0))], [(0, some (.box 83 (bxv (eGStmt a0))))], 1, [], [], 0, []⟩) ?_ ?_
    · refine rnd_loop (α := Int) (fun q => ⟨51, [(1, some (.pv (.int .i64 a1))), (2, some (.lp 0 0)), (5, some (.pv (.int .i64 q)))], [(0, some (.box 83 (bxv (eGStmt a0))))], 1, [], [], 0, []⟩) (fun k q => ref08_form_L1 a0 a1 ref08_form_rec k q = some lr48) 0 (imps [0] ⟨by kernel_rfl, by kernel_rfl, by kernel_rfl, trivial⟩ ⟨by kernel_rfl, trivial⟩) hF (fun q h => by cases h) ?_
      clear hF
      rintro k x25 hF ih
      refine rnd_succ ?_
      iterate 2 (refine aw_seq ?_)
      refine aw_region ?_
      refine rmv ?_
      refine rgp (op_field_lp rfl rfl Try_fld_83_7 rfl rfl) ?_
      refine rgp (op_load_lp (v := .pv (.vs 23 (eLGStmt a0.fBody))) rfl rfl rfl rfl Try_one_31 rfl rfl) ?_
      refine rgp (op_len_vs (n := a0.fBody.length) rfl rfl (lenR eLGStmt_map) Try_slc_31 rfl rfl) ?_
      refine rgp (op_int (k := .i64) (m := x25) (n := (a0.fBody.length : Int)) rfl rfl rfl rfl rfl rfl) ?_
      refine reg_nil ?_
      refine post_imp (s' := ⟨51, [(1, some (.pv (.int .i64 a1))), (2, some (.lp 0 0)), (5, some (.pv (.int .i64 x25))), (25, some (.pv (.bool (decide (x25 < (a0.fBody.length : Int))))))], [(0, some (.box 83 (bxv (eGStmt a0))))], 1, [], [], 0, []⟩) (imps [0] ⟨by kernel_rfl, by kernel_rfl, by kernel_rfl, by kernel_rfl, trivial⟩ ⟨by kernel_rfl, trivial⟩) ?_
      refine post_next ?_
      rcases ite_some hF with ⟨hb37, hF⟩ | ⟨hb37, hF⟩
      · refine aw_cond_t rfl hb37 ?_
        refine aw_skip ?_
        refine post_next ?_
        refine aw_seq ?_
        refine aw_block ?_
        refine aw_seq ?_
        refine aw_region ?_
        refine rgp (op_field_lp rfl rfl Try_fld_83_7 rfl rfl) ?_
        refine rgp (op_load_lp (v := .pv (.vs 23 (eLGStmt a0.fBody))) rfl rfl rfl rfl Try_one_31 rfl rfl) ?_
        refine rmv ?_
        obtain ⟨y42, h43, hF⟩ := bind_some hF
        refine rgp (op_index_vs (k := .i64) rfl rfl rfl (idxR eLGStmt_map h43) Try_slc_31 rfl rfl) ?_
        refine rgp (op_load_vp_agg (ps := eGStmt y42) rfl rfl rfl rfl Try_agg_83 rfl rfl) ?_
        refine rmv ?_
        obtain ⟨y44, h45, hF⟩ := bind_some hF
        refine rgp (op_call 1 rfl (caps := []) (args := [.agg (eGStmt y42), .int .i64 a1]) (rs := [.p (.bool y44)]) rfl rfl rfl Try_cal_115 (ref08_form_ih _ _ _ h45) rfl rfl rfl) ?_
        refine rgp (op_not rfl rfl rfl rfl) ?_
        refine reg_nil ?_
        refine post_imp (s' := ⟨51, [(1, some (.pv (.int .i64 a1))), (2, some (.lp 0 0)), (5, some (.pv (.int .i64 x25))), (35, some (.pv (.bool (!y44))))], [(0, some (.box 83 (bxv (eGStmt a0))))], 1, [], [], 0, []⟩) (imps [0] ⟨by kernel_rfl, by kernel_rfl, by kernel_rfl, by kernel_rfl, trivial⟩ ⟨by kernel_rfl, trivial⟩) ?_
        refine post_next ?_
        rcases ite_some hF with ⟨hb46, hF⟩ | ⟨hb46, hF⟩
        · refine aw_cond_t rfl hb46 ?_
          refine aw_seq ?_
          refine aw_region ?_
          refine ras ?_
          refine reg_nil ?_
          refine post_imp (s' := ⟨51, [(4, some (.pv (.bool false)))], [], 0, [], [], 0, []⟩) (imps [] ⟨by kernel_rfl, trivial⟩ trivial) ?_
          refine post_next ?_
          refine aw_ret ?_
          refine post_block_ret ?_
          iterate 2 (refine post_then_ret ?_)
          refine post_lp_ret ?_
          obtain rfl := Option.some.inj hF
          have hF := elim_stop hK49
          refine post_then_ret ?_
          obtain rfl := Option.some.inj hF
          exact prt
        refine aw_cond_f rfl hb46 ?_
        refine aw_skip ?_
        refine post_block_normal ?_
        refine post_next ?_
        refine aw_region ?_
        refine rmv ?_
        refine rgp (op_int (k := .i64) (m := x25) (n := 1) rfl rfl rfl rfl rfl rfl) ?_
        refine ras ?_
        refine reg_nil ?_
        refine post_round ?_
        exact rnd_back (ih (w_i64 (x25 + 1)) hF) (imps [0] ⟨by kernel_rfl, by kernel_rfl, by kernel_rfl, trivial⟩ ⟨by kernel_rfl, trivial⟩)
      refine aw_cond_f rfl hb37 ?_
      refine aw_exit ?_
      iterate 2 (refine post_then_exit ?_)
      obtain rfl := Option.some.inj hF
      exact post_lp_break _ ⟨_, rfl, rfl⟩ (imps [0] ⟨by kernel_rfl, by kernel_rfl, trivial⟩ ⟨by kernel_rfl, trivial⟩)
    rintro _ ⟨⟨⟩, rfl, rfl⟩
    have hF := elim_next hK49
    clear hK49
    refine post_next ?_
    iterate 2 (refine aw_seq ?_)
    refine aw_region ?_
    refine ras ?_
    refine reg_nil ?_
    refine post_imp (s' := ⟨51, [(1, some (.pv (.int .i64 a1))), (2, some (.lp 0 0)), (6, some (.pv (.int .i64 0)))], [(0, some (.box 83 (bxv (eGStmt a0))))], 1, [], [], 0, []⟩) (imps [0] ⟨by kernel_rfl, by kernel_rfl, by kernel_rfl, trivial⟩ ⟨by kernel_rfl, trivial⟩) ?_
    refine post_next ?_
    obtain ⟨lr83, hF, hK84⟩ := bind_some hF
    refine aw_for ((((a0.fElse.length : Int) : Int) - (0)).toNat + 1) (fun s1 => ∃ q, lr83 = .next q ∧ s1 = ⟨51, [], [], 0, [], [], 0, []⟩) ?_ ?_
    · refine rnd_loop (α := Int) (fun q => ⟨51, [(1, some (.pv (.int .i64 a1))), (2, some (.lp 0 0)), (6, some (.pv (.int .i64 q)))], [(0, some (.box 83 (bxv (eGStmt a0))))], 1, [], [], 0, []⟩) (fun k q => ref08_form_L2 a0 a1 ref08_form_rec k q = some lr83) 0 (imps [0] ⟨by kernel_rfl, by kernel_rfl, by kernel_rfl, trivial⟩ ⟨by kernel_rfl, trivial⟩) hF (fun q h => by cases h) ?_
      clear hF
      rintro k x60 hF ih
      refine rnd_succ ?_
      iterate 2 (refine aw_seq ?_)
      refine aw_region ?_
      refine rmv ?_
      refine rgp (op_field_lp rfl rfl Try_fld_83_8 rfl rfl) ?_
      refine rgp (op_load_lp (v := .pv (.vs 23 (eLGStmt a0.fElse))) rfl rfl rfl rfl Try_one_31 rfl rfl) ?_
      refine rgp (op_len_vs (n := a0.fElse.length) rfl rfl (lenR eLGStmt_map) Try_slc_31 rfl rfl) ?_
      refine rgp (op_int (k := .i64) (m := x60) (n := (a0.fElse.length : Int)) rfl rfl rfl rfl rfl rfl) ?_
      refine reg_nil ?_
      refine post_imp (s' := ⟨51, [(1, some (.pv (.int .i64 a1))), (2, some (.lp 0 0)), (6, some (.pv (.int .i64 x60))), (40, some (.pv (.bool (decide (x60 < (a0.fElse.length : Int))))))], [(0, some (.box 83 (bxv (eGStmt a0))))], 1, [], [], 0, []⟩) (imps [0] ⟨by kernel_rfl, by kernel_rfl, by kernel_rfl, by kernel_rfl, trivial⟩ ⟨by kernel_rfl, trivial⟩) ?_
      refine post_next ?_
      rcases ite_some hF with ⟨hb72, hF⟩ | ⟨hb72, hF⟩
      · refine aw_cond_t rfl hb72 ?_
        refine aw_skip ?_
        refine post_next ?_
        refine aw_seq ?_
        refine aw_block ?_
        refine aw_seq ?_
        refine aw_region ?_
        refine rgp (op_field_lp rfl rfl Try_fld_83_8 rfl rfl) ?_
        refine rgp (op_load_lp (v := .pv (.vs 23 (eLGStmt a0.fElse))) rfl rfl rfl rfl Try_one_31 rfl rfl) ?_
        refine rmv ?_
        obtain ⟨y77, h78, hF⟩ := bind_some hF
        refine rgp (op_index_vs (k := .i64) rfl rfl rfl (idxR eLGStmt_map h78) Try_slc_31 rfl rfl) ?_
        refine rgp (op_load_vp_agg (ps := eGStmt y77) rfl rfl rfl rfl Try_agg_83 rfl rfl) ?_
        refine rmv ?_
        obtain ⟨y79, h80, hF⟩ := bind_some hF
        refine rgp (op_call 1 rfl (caps := []) (args := [.agg (eGStmt y77), .int .i64 a1]) (rs := [.p (.bool y79)]) rfl rfl rfl Try_cal_115 (ref08_form_ih _ _ _ h80) rfl rfl rfl) ?_
        refine rgp (op_not rfl rfl rfl rfl) ?_
        refine reg_nil ?_
        refine post_imp (s' := ⟨51, [(1, some (.pv (.int .i64 a1))), (2, some (.lp 0 0)), (6, some (.pv (.int .i64 x60))), (50, some (.pv (.bool (!y79))))], [(0, some (.box 83 (bxv (eGStmt a0))))], 1, [], [], 0, []⟩) (imps [0] ⟨by kernel_rfl, by kernel_rfl, by kernel_rfl, by kernel_rfl, trivial⟩ ⟨by kernel_rfl, trivial⟩) ?_
        refine post_next ?_
        rcases ite_some hF with ⟨hb81, hF⟩ | ⟨hb81, hF⟩
        · refine aw_cond_t rfl hb81 ?_
          refine aw_seq ?_
          refine aw_region ?_
          refine ras ?_
          refine reg_nil ?_
          refine post_imp (s' := ⟨51, [(4, some (.pv (.bool false)))], [], 0, [], [], 0, []⟩) (imps [] ⟨by kernel_rfl, trivial⟩ trivial) ?_
          refine post_next ?_
          refine aw_ret ?_
          refine post_block_ret ?_
          iterate 2 (refine post_then_ret ?_)
          refine post_lp_ret ?_
          obtain rfl := Option.some.inj hF
          have hF := elim_stop hK84
          refine post_then_ret ?_
          obtain rfl := Option.some.inj hF
          exact prt
        refine aw_cond_f rfl hb81 ?_
        refine aw_skip ?_
        refine post_block_normal ?_
        refine post_next ?_
        refine aw_region ?_
        refine rmv ?_
        refine rgp (op_int (k := .i64) (m := x60) (n := 1) rfl rfl rfl rfl rfl rfl) ?_
        refine ras ?_
        refine reg_nil ?_
        refine post_round ?_
        exact rnd_back (ih (w_i64 (x60 + 1)) hF) (imps [0] ⟨by kernel_rfl, by kernel_rfl, by kernel_rfl, trivial⟩ ⟨by kernel_rfl, trivial⟩)
      refine aw_cond_f rfl hb72 ?_
      refine aw_exit ?_
      iterate 2 (refine post_then_exit ?_)
      obtain rfl := Option.some.inj hF
      exact post_lp_break _ ⟨_, rfl, rfl⟩ (imps [] trivial trivial)
    rintro _ ⟨⟨⟩, rfl, rfl⟩
    have hF := elim_next hK84
    clear hK84
    refine post_next ?_
    refine aw_seq ?_
    refine aw_region ?_
    refine ras ?_
    refine reg_nil ?_
    refine post_imp (s' := ⟨51, [(4, some (.pv (.bool true)))], [], 0, [], [], 0, []⟩) (imps [] ⟨by kernel_rfl, trivial⟩ trivial) ?_
    refine post_next ?_
    refine aw_ret ?_
    obtain rfl := Option.some.inj hF
    exact prt
theorem ref08_form_ok {n : Nat} {a0 : GStmt} {a1 : Int} {r : Bool} (hF : ref08_form n a0 a1 = some r) : Abs.Fn Try.prog 115 [.agg (eGStmt a0), .int .i64 a1] [.p (.bool r)] := (ref08_form_ring n) _ _ _ hF

theorem ref08_Deep_ring : ∀ n : Nat, (∀ (a0 : GStmt) (r : Int), ref08_Deep n a0 = some r → Abs.Fn Try.prog 116 [.agg (eGStmt a0)] [.p (.int .i64 r)]) := by
  intro n
  induction n with
  | zero => exact (fun _ _ h => by simp [ref08_Deep] at h)
  | succ n ih =>
    have ref08_Deep_ih := ih
    clear ih
    intro a0 r hF
    unfold ref08_Deep at hF
    revert hF ref08_Deep_ih
    generalize ref08_Deep n = ref08_Deep_rec
    intro ref08_Deep_ih hF
    refine fn_of_body (n := 38) Try.func116 rfl rfl rfl ?_
    intro w O
    refine aw_seq ?_
    refine aw_region ?_
    refine rgp (op_box 0 rfl rfl rfl rfl rfl rfl) ?_
    refine ras ?_
    refine reg_nil ?_
    refine post_imp (s' := ⟨38, [(1, some (.lp 0 0))], [(0, some (.box 83 (bxv (eGStmt a0))))], 1, [], [], 0, []⟩) (imps [0] ⟨by kernel_rfl, trivial⟩ ⟨by kernel_rfl, trivial⟩) ?_
    refine post_next ?_
    refine aw_seq ?_
    refine aw_region ?_
    refine ras ?_
    refine reg_nil ?_
    refine post_imp (s' := ⟨38, [(1, some (.lp 0 0)), (3, some (.pv (.int .i64 0)))], [(0, some (.box 83 (bxv (eGStmt a0))))], 1, [], [], 0, []⟩) (imps [0] ⟨by kernel_rfl, by kernel_rfl, trivial⟩ ⟨by kernel_rfl, trivial⟩) ?_
    refine post_next ?_
    iterate 2 (refine aw_seq ?_)
    refine aw_region ?_
    refine ras ?_
    refine reg_nil ?_
    refine post_imp (s' := ⟨38, [(1, some (.lp 0 0)), (3, some (.pv (.int .i64 0))), (4, some (.pv (.int .i64 0)))], [(0, some (.box 83 (bxv (eGStmt a0))))], 1, [], [], 0, []⟩) (imps [0] ⟨by kernel_rfl, by kernel_rfl, by kernel_rfl, trivial⟩ ⟨by kernel_rfl, trivial⟩) ?_
    refine post_next ?_
    obtain ⟨x34, hF, hK35⟩ := bind_some hF
    refine aw_for ((((a0.fBody.length : Int) : Int) - (0)).toNat + 1) (fun s1 => s1 = ⟨38, [(1, some (.lp 0 0)), (3, some (.pv (.int .i64 x34)))], [(0, some (.box 83 (bxv (eGStmt a0))))], 1, [], [], 0, []⟩) ?_ ?_
    · refine rnd_loop (α := Int × Int) (fun q => ⟨38, [(1, some (.lp 0 0)), (3, some (.pv (.int .i64 q.1))), (4, some (.pv (.int .i64 q.2)))], [(0, some (.box 83 (bxv (eGStmt a0))))], 1, [], [], 0, []⟩) (fun k q => ref08_Deep_L1 a0 ref08_Deep_rec k q.1 q.2 = some x34) (0, 0) (imps [0] ⟨by kernel_rfl, by kernel_rfl, by kernel_rfl, trivial⟩ ⟨by kernel_rfl, trivial⟩) hF (fun q h => by cases h) ?_
      clear hF
      rintro k ⟨x10, x11⟩ hF ih
      refine rnd_succ ?_
      iterate 2 (refine aw_seq ?_)
      refine aw_region ?_
      refine rmv ?_
      refine rgp (op_field_lp rfl rfl Try_fld_83_7 rfl rfl) ?_
      refine rgp (op_load_lp (v := .pv (.vs 23 (eLGStmt a0.fBody))) rfl rfl rfl rfl Try_one_31 rfl rfl) ?_
      refine rgp (op_len_vs (n := a0.fBody.length) rfl rfl (lenR eLGStmt_map) Try_slc_31 rfl rfl) ?_
      refine rgp (op_int (k := .i64) (m := x11) (n := (a0.fBody.length : Int)) rfl rfl rfl rfl rfl rfl) ?_
      refine reg_nil ?_
      refine post_imp (s' := ⟨38, [(1, some (.lp 0 0)), (3, some (.pv (.int .i64 x10))), (4, some (.pv (.int .i64 x11))), (10, some (.pv (.bool (decide (x11 < (a0.fBody.length : Int))))))], [(0, some (.box 83 (bxv (eGStmt a0))))], 1, [], [], 0, []⟩) (imps [0] ⟨by kernel_rfl, by kernel_rfl, by kernel_rfl, by kernel_rfl, trivial⟩ ⟨by kernel_rfl, trivial⟩) ?_
      refine post_next ?_
      rcases ite_some hF with ⟨hb23, hF⟩ | ⟨hb23, hF⟩
      · refine aw_cond_t rfl hb23 ?_
        refine aw_skip ?_
        refine post_next ?_
        refine aw_seq ?_
        refine aw_block ?_
        refine aw_region ?_
        refine rmv ?_
        refine rgp (op_field_lp rfl rfl Try_fld_83_7 rfl rfl) ?_
        refine rgp (op_load_lp (v := .pv (.vs 23 (eLGStmt a0.fBody))) rfl rfl rfl rfl Try_one_31 rfl rfl) ?_
        refine rmv ?_
        obtain ⟨y28, h29, hF⟩ := bind_some hF
        refine rgp (op_index_vs (k := .i64) rfl rfl rfl (idxR eLGStmt_map h29) Try_slc_31 rfl rfl) ?_
        refine rgp (op_load_vp_agg (ps := eGStmt y28) rfl rfl rfl rfl Try_agg_83 rfl rfl) ?_
        obtain ⟨y30, h31, hF⟩ := bind_some hF
        refine rgp (op_call 1 rfl (caps := []) (args := [.agg (eGStmt y28)]) (rs := [.p (.int .i64 y30)]) rfl rfl rfl Try_cal_116 (ref08_Deep_ih _ _ h31) rfl rfl rfl) ?_
        refine rgp (op_max2 rfl rfl rfl rfl rfl) ?_
        refine ras ?_
        refine reg_nil ?_
        refine post_imp (s' := ⟨38, [(1, some (.lp 0 0)), (3, some (.pv (.int .i64 (if y30 > x10 then y30 else x10)))), (4, some (.pv (.int .i64 x11)))], [(0, some (.box 83 (bxv (eGStmt a0))))], 1, [], [], 0, []⟩) (imps [0] ⟨by kernel_rfl, by kernel_rfl, by kernel_rfl, trivial⟩ ⟨by kernel_rfl, trivial⟩) ?_
        refine post_block_normal ?_
        refine post_next ?_
        refine aw_region ?_
        refine rmv ?_
        refine rgp (op_int (k := .i64) (m := x11) (n := 1) rfl rfl rfl rfl rfl rfl) ?_
        refine ras ?_
        refine reg_nil ?_
        refine post_round ?_
        exact rnd_back (ih ((if y30 > x10 then y30 else x10), w_i64 (x11 + 1)) hF) (imps [0] ⟨by kernel_rfl, by kernel_rfl, by kernel_rfl, trivial⟩ ⟨by kernel_rfl, trivial⟩)
      refine aw_cond_f rfl hb23 ?_
      refine aw_exit ?_
      iterate 2 (refine post_then_exit ?_)
      obtain rfl := Option.some.inj hF
      exact post_lp_break _ rfl (imps [0] ⟨by kernel_rfl, by kernel_rfl, trivial⟩ ⟨by kernel_rfl, trivial⟩)
    rintro _ rfl
    have hF := hK35
    clear hK35
    refine post_next ?_
    iterate 2 (refine aw_seq ?_)
    refine aw_region ?_
    refine ras ?_
    refine reg_nil ?_
    refine post_imp (s' := ⟨38, [(1, some (.lp 0 0)), (3, some (.pv (.int .i64 x34))), (5, some (.pv (.int .i64 0)))], [(0, some (.box 83 (bxv (eGStmt a0))))], 1, [], [], 0, []⟩) (imps [0] ⟨by kernel_rfl, by kernel_rfl, by kernel_rfl, trivial⟩ ⟨by kernel_rfl, trivial⟩) ?_
    refine post_next ?_
    obtain ⟨x69, hF, hK70⟩ := bind_some hF
    refine aw_for ((((a0.fElse.length : Int) : Int) - (0)).toNat + 1) (fun s1 => s1 = ⟨38, [(3, some (.pv (.int .i64 x69)))], [], 0, [], [], 0, []⟩) ?_ ?_
    · refine rnd_loop (α := Int × Int) (fun q => ⟨38, [(1, some (.lp 0 0)), (3, some (.pv (.int .i64 q.1))), (5, some (.pv (.int .i64 q.2)))], [(0, some (.box 83 (bxv (eGStmt a0))))], 1, [], [], 0, []⟩) (fun k q => ref08_Deep_L2 a0 ref08_Deep_rec k q.1 q.2 = some x69) (x34, 0) (imps [0] ⟨by kernel_rfl, by kernel_rfl, by kernel_rfl, trivial⟩ ⟨by kernel_rfl, trivial⟩) hF (fun q h => by cases h) ?_
      clear hF
      rintro k ⟨x45, x46⟩ hF ih
      refine rnd_succ ?_
      iterate 2 (refine aw_seq ?_)
      refine aw_region ?_
      refine rmv ?_
      refine rgp (op_field_lp rfl rfl Try_fld_83_8 rfl rfl) ?_
      refine rgp (op_load_lp (v := .pv (.vs 23 (eLGStmt a0.fElse))) rfl rfl rfl rfl Try_one_31 rfl rfl) ?_
      refine rgp (op_len_vs (n := a0.fElse.length) rfl rfl (lenR eLGStmt_map) Try_slc_31 rfl rfl) ?_
      refine rgp (op_int (k := .i64) (m := x46) (n := (a0.fElse.length : Int)) rfl rfl rfl rfl rfl rfl) ?_
      refine reg_nil ?_
      refine post_imp (s' := ⟨38, [(1, some (.lp 0 0)), (3, some (.pv (.int .i64 x45))), (5, some (.pv (.int .i64 x46))), (25, some (.pv (.bool (decide (x46 < (a0.fElse.length : Int))))))], [(0, some (.box 83 (bxv (eGStmt a0))))], 1, [], [], 0, []⟩) (imps [0] ⟨by kernel_rfl, by kernel_rfl, by kernel_rfl, by kernel_rfl, trivial⟩ ⟨by kernel_rfl, trivial⟩) ?_
      refine post_next ?_
      rcases ite_some hF with ⟨hb58, hF⟩ | ⟨hb58, hF⟩
      · refine aw_cond_t rfl hb58 ?_
        refine aw_skip ?_
        refine post_next ?_
        refine aw_seq ?_
        refine aw_block ?_
        refine aw_region ?_
        refine rmv ?_
        refine rgp (op_field_lp rfl rfl Try_fld_83_8 rfl rfl) ?_
        refine rgp (op_load_lp (v := .pv (.vs 23 (eLGStmt a0.fElse))) rfl rfl rfl rfl Try_one_31 rfl rfl) ?_
        refine rmv ?_
        obtain ⟨y63, h64, hF⟩ := bind_some hF
        refine rgp (op_index_vs (k := .i64) rfl rfl rfl (idxR eLGStmt_map h64) Try_slc_31 rfl rfl) ?_
        refine rgp (op_load_vp_agg (ps := eGStmt y63) rfl rfl rfl rfl Try_agg_83 rfl rfl) ?_
        obtain ⟨y65, h66, hF⟩ := bind_some hF
        refine rgp (op_call 1 rfl (caps := []) (args := [.agg (eGStmt y63)]) (rs := [.p (.int .i64 y65)]) rfl rfl rfl Try_cal_116 (ref08_Deep_ih _ _ h66) rfl rfl rfl) ?_
        refine rgp (op_max2 rfl rfl rfl rfl rfl) ?_
        refine ras ?_
        refine reg_nil ?_
        refine post_imp (s' := ⟨38, [(1, some (.lp 0 0)), (3, some (.pv (.int .i64 (if y65 > x45 then y65 else x45)))), (5, some (.pv (.int .i64 x46)))], [(0, some (.box 83 (bxv (eGStmt a0))))], 1, [], [], 0, []⟩) (imps [0] ⟨by kernel_rfl, by kernel_rfl, by kernel_rfl, trivial⟩ ⟨by kernel_rfl, trivial⟩) ?_
        refine post_block_normal ?_
        refine post_next ?_
        refine aw_region ?_
        refine rmv ?_
        refine rgp (op_int (k := .i64) (m := x46) (n := 1) rfl rfl rfl rfl rfl rfl) ?_
        refine ras ?_
        refine reg_nil ?_
        refine post_round ?_
        exact rnd_back (ih ((if y65 > x45 then y65 else x45), w_i64 (x46 + 1)) hF) (imps [0] ⟨by kernel_rfl, by kernel_rfl, by kernel_rfl, trivial⟩ ⟨by kernel_rfl, trivial⟩)
      refine aw_cond_f rfl hb58 ?_
      refine aw_exit ?_
      iterate 2 (refine post_then_exit ?_)
      obtain rfl := Option.some.inj hF
      exact post_lp_break _ rfl (imps [] ⟨by kernel_rfl, trivial⟩ trivial)
    rintro _ rfl
    have hF := hK70
    clear hK70
    refine post_next ?_
    refine aw_seq ?_
    refine aw_region ?_
    refine rmv ?_
    refine rgp (op_int (k := .i64) (m := x69) (n := 1) rfl rfl rfl rfl rfl rfl) ?_
    refine ras ?_
    refine reg_nil ?_
    refine post_imp (s' := ⟨38, [(2, some (.pv (.int .i64 (w_i64 (x69 + 1)))))], [], 0, [], [], 0, []⟩) (imps [] ⟨by kernel_rfl, trivial⟩ trivial) ?_
    refine post_next ?_
    refine aw_ret ?_
    obtain rfl := Option.some.inj hF
    exact prt
theorem ref08_Deep_ok {n : Nat} {a0 : GStmt} {r : Int} (hF : ref08_Deep n a0 = some r) : Abs.Fn Try.prog 116 [.agg (eGStmt a0)] [.p (.int .i64 r)] := (ref08_Deep_ring n) _ _ hF

theorem ref08_Right_ok {a0 : GStmt} {a1 : Int} {r : Bool} (hF : ref08_Right a0 a1 = some r) : Abs.Fn Try.prog 105 [.agg (eGStmt a0), .int .i64 a1] [.p (.bool r)] := by
  unfold ref08_Right at hF
  refine fn_of_body (n := 13) Try.func105 rfl rfl rfl ?_
  intro w O
  refine aw_seq ?_
  refine aw_region ?_
  refine rgp (op_box 0 rfl rfl rfl rfl rfl rfl) ?_
  refine ras ?_
  refine reg_nil ?_
  refine post_imp (s' := ⟨13, [(1, some (.pv (.int .i64 a1))), (2, some (.lp 0 0))], [(0, some (.box 83 (bxv (eGStmt a0))))], 1, [], [], 0, []⟩) (imps [0] ⟨by kernel_rfl, by kernel_rfl, trivial⟩ ⟨by kernel_rfl, trivial⟩) ?_
  refine post_next ?_
  refine aw_seq ?_
  refine aw_region ?_
  refine rgp (op_load_lp_agg (ps := eGStmt a0) rfl rfl rfl rfl rfl rfl Try_agg_83 rfl rfl) ?_
  refine rmv ?_
  obtain ⟨y1, h2, hF⟩ := bind_some hF
  refine rgp (op_call 1 rfl (caps := []) (args := [.agg (eGStmt a0), .int .i64 a1]) (rs := [.p (.bool y1)]) rfl rfl rfl Try_cal_115 (ref08_form_ok h2) rfl rfl rfl) ?_
  refine rmv ?_
  rcases ite_some hF with ⟨hb3, hF⟩ | ⟨hb3, hF⟩
  · refine rgn hb3 (op_load_lp_agg (ps := eGStmt a0) rfl rfl rfl rfl rfl rfl Try_agg_83 rfl rfl) ?_
    obtain ⟨y4, h5, hF⟩ := bind_some hF
    refine rgn hb3 (op_call 1 rfl (caps := []) (args := [.agg (eGStmt a0)]) (rs := [.p (.int .i64 y4)]) rfl rfl rfl Try_cal_116 (ref08_Deep_ok h5) rfl rfl rfl) ?_
    refine rgn hb3 (op_int (k := .i64) (m := y4) (n := 20) rfl rfl rfl rfl rfl rfl) ?_
    refine rpt hb3 ?_
    refine ras ?_
    refine reg_nil ?_
    refine post_imp (s' := ⟨13, [(4, some (.pv (.bool (decide (y4 ≤ 20)))))], [], 0, [], [], 0, []⟩) (imps [] ⟨by kernel_rfl, trivial⟩ trivial) ?_
    refine post_next ?_
    refine aw_ret ?_
    obtain rfl := Option.some.inj hF
    exact prt
  iterate 3 (refine rgo_f hb3 ?_)
  refine rpf hb3 ?_
  refine ras ?_
  refine reg_nil ?_
  refine post_imp (s' := ⟨13, [(4, some (.pv (.bool false)))], [], 0, [], [], 0, []⟩) (imps [] ⟨by kernel_rfl, trivial⟩ trivial) ?_
  refine post_next ?_
  refine aw_ret ?_
  obtain rfl := Option.some.inj hF
  exact prt
theorem ref10_written_ok {a0 : GType} {a1 : Int} {r : Bool} (hF : ref10_written a0 a1 = some r) : Abs.Fn Try.prog 106 [.agg (eGType a0), .int .i64 a1] [.p (.bool r)] := by
  unfold ref10_written at hF
  refine fn_of_body (n := 41) Try.func106 rfl rfl rfl ?_
  intro w O
  refine aw_seq ?_
  refine aw_region ?_
  refine rgp (op_box 0 rfl rfl rfl rfl rfl rfl) ?_
  refine ras ?_
  refine reg_nil ?_
  refine post_imp (s' := ⟨41, [(1, some (.pv (.int .i64 a1))), (2, some (.lp 0 0))], [(0, some (.box 29 (bxv (eGType a0))))], 1, [], [], 0, []⟩) (imps [0] ⟨by kernel_rfl, by kernel_rfl, trivial⟩ ⟨by kernel_rfl, trivial⟩) ?_
  refine post_next ?_
  refine aw_seq ?_
  refine aw_region ?_
  refine rgp (op_field_lp rfl rfl Try_fld_29_3 rfl rfl) ?_
  refine rgp (op_load_lp_agg (ps := (eA4 eGOwner) a0.fOwn) rfl rfl rfl rfl rfl rfl Try_agg_27 rfl rfl) ?_
  refine rgp (op_alloc 1 rfl (ps := ((eA4 eGOwner) (⟨zGOwner, zGOwner, zGOwner, zGOwner⟩ : A4 GOwner))) rfl Try_zer_27 (by exact ⟨rfl, rfl, rfl, rfl, rfl, rfl, rfl, rfl, trivial⟩) rfl rfl) ?_
  refine rgp (op_store_lp (n := 8) rfl rfl rfl rfl rfl (or_agg Try_agg_27) (by rw [Try_non_27]; rfl) rfl rfl rfl) ?_
  refine reg_nil ?_
  refine post_imp (s' := ⟨41, [(1, some (.pv (.int .i64 a1))), (2, some (.lp 0 0)), (5, some (.lp 1 0))], [(0, some (.box 29 (bxv (eGType a0)))), (1, some (.box 27 (bxv ((eA4 eGOwner) a0.fOwn))))], 2, [], [], 0, []⟩) (imps [0, 1] ⟨by kernel_rfl, by kernel_rfl, by kernel_rfl, trivial⟩ ⟨by kernel_rfl, by kernel_rfl, trivial⟩) ?_
  refine post_next ?_
  refine aw_seq ?_
  refine aw_region ?_
  refine rgp (op_load_lp_agg (ps := eGType a0) rfl rfl rfl rfl rfl rfl Try_agg_29 rfl rfl) ?_
  refine rmv ?_
  obtain ⟨y1, h2, hF⟩ := bind_some hF
  refine rgp (op_call 2 rfl (caps := []) (args := [.agg (eGType a0), .int .i64 a1]) (rs := [.p (.bool y1)]) rfl rfl rfl Try_cal_117 (ref05_Right_ok h2) rfl rfl rfl) ?_
  refine rmv ?_
  rcases ite_some hF with ⟨hb3, hF⟩ | ⟨hb3, hF⟩
  · refine rgn hb3 (op_arr_lp (k := .i64) (m := 1) (n := 4) rfl rfl rfl Try_arr_27 rfl rfl rfl rfl) ?_
    refine rgn hb3 (op_field_lp rfl rfl Try_fld_26_0 rfl rfl) ?_
    refine rgn hb3 (op_load_lp (v := .pv (.int .i64 a0.fOwn.a1.fKind)) rfl rfl rfl rfl Try_one_3 rfl rfl) ?_
    refine rgn hb3 (op_int (k := .i64) (m := a0.fOwn.a1.fKind) (n := 7) rfl rfl rfl rfl rfl rfl) ?_
    refine rpt hb3 ?_
    refine rmv ?_
    rcases ite_some hF with ⟨hb4, hF⟩ | ⟨hb4, hF⟩
    · refine rgn hb4 (op_arr_lp (k := .i64) (m := 2) (n := 4) rfl rfl rfl Try_arr_27 rfl rfl rfl rfl) ?_
      refine rgn hb4 (op_field_lp rfl rfl Try_fld_26_0 rfl rfl) ?_
      refine rgn hb4 (op_load_lp (v := .pv (.int .i64 a0.fOwn.a2.fKind)) rfl rfl rfl rfl Try_one_3 rfl rfl) ?_
      refine rgn hb4 (op_int (k := .i64) (m := a0.fOwn.a2.fKind) (n := 7) rfl rfl rfl rfl rfl rfl) ?_
      refine rpt hb4 ?_
      refine rmv ?_
      rcases ite_some hF with ⟨hb5, hF⟩ | ⟨hb5, hF⟩
      · refine rgn hb5 (op_arr_lp (k := .i64) (m := 3) (n := 4) rfl rfl rfl Try_arr_27 rfl rfl rfl rfl) ?_
        refine rgn hb5 (op_field_lp rfl rfl Try_fld_26_0 rfl rfl) ?_
        refine rgn hb5 (op_load_lp (v := .pv (.int .i64 a0.fOwn.a3.fKind)) rfl rfl rfl rfl Try_one_3 rfl rfl) ?_
        refine rgn hb5 (op_int (k := .i64) (m := a0.fOwn.a3.fKind) (n := 7) rfl rfl rfl rfl rfl rfl) ?_
        refine rpt hb5 ?_
        refine rmv ?_
        rcases ite_some hF with ⟨hb6, hF⟩ | ⟨hb6, hF⟩
        · refine rgn hb6 (op_arr_lp (k := .i64) (m := 0) (n := 4) rfl rfl rfl Try_arr_27 rfl rfl rfl rfl) ?_
          refine rgn hb6 (op_field_lp rfl rfl Try_fld_26_0 rfl rfl) ?_
          refine rgn hb6 (op_load_lp (v := .pv (.int .i64 a0.fOwn.a0.fKind)) rfl rfl rfl rfl Try_one_3 rfl rfl) ?_
          refine rgn hb6 (op_int (k := .i64) (m := a0.fOwn.a0.fKind) (n := 7) rfl rfl rfl rfl rfl rfl) ?_
          refine rgn hb6 (op_move rfl rfl rfl rfl) ?_
          rcases ite_some hF with ⟨hb7, hF⟩ | ⟨hb7, hF⟩
          · refine rgo_t hb7 ?_
            iterate 3 (refine rgo_t hb7 ?_)
            refine rgn hb6 (op_pick_t rfl rfl hb7 rfl rfl rfl) ?_
            refine rpt hb6 ?_
            refine ras ?_
            refine reg_nil ?_
            refine post_imp (s' := ⟨41, [(4, some (.pv (.bool true)))], [], 0, [], [], 0, []⟩) (imps [] ⟨by kernel_rfl, trivial⟩ trivial) ?_
            refine post_next ?_
            refine aw_ret ?_
            obtain rfl := Option.some.inj hF
            exact prt
          refine rgn hb7 (op_arr_lp (k := .i64) (m := 0) (n := 4) rfl rfl rfl Try_arr_27 rfl rfl rfl rfl) ?_
          refine rgn hb7 (op_field_lp rfl rfl Try_fld_26_1 rfl rfl) ?_
          refine rgn hb7 (op_load_lp (v := .pv (.int .i64 a0.fOwn.a0.fN)) rfl rfl rfl rfl Try_one_3 rfl rfl) ?_
          refine rgn hb7 (op_int (k := .i64) (m := a0.fOwn.a0.fN) (n := 0) rfl rfl rfl rfl rfl rfl) ?_
          refine rgn hb6 (op_pick_f rfl rfl hb7 rfl rfl rfl) ?_
          refine rpt hb6 ?_
          refine ras ?_
          refine reg_nil ?_
          refine post_imp (s' := ⟨41, [(4, some (.pv (.bool (a0.fOwn.a0.fN == 0))))], [], 0, [], [], 0, []⟩) (imps [] ⟨by kernel_rfl, trivial⟩ trivial) ?_
          refine post_next ?_
          refine aw_ret ?_
          obtain rfl := Option.some.inj hF
          exact prt
        iterate 5 (refine rgo_f hb6 ?_)
        iterate 4 (refine rgu ?_)
        refine rgo_f hb6 ?_
        refine rpf hb6 ?_
        refine ras ?_
        refine reg_nil ?_
        refine post_imp (s' := ⟨41, [(4, some (.pv (.bool false)))], [], 0, [], [], 0, []⟩) (imps [] ⟨by kernel_rfl, trivial⟩ trivial) ?_
        refine post_next ?_
        refine aw_ret ?_
        obtain rfl := Option.some.inj hF
        exact prt
      iterate 4 (refine rgo_f hb5 ?_)
      refine rpf hb5 ?_
      refine rmv ?_
      iterate 5 (refine rgo_f rfl ?_)
      iterate 4 (refine rgu ?_)
      refine rgo_f rfl ?_
      refine rpf rfl ?_
      refine ras ?_
      refine reg_nil ?_
      refine post_imp (s' := ⟨41, [(4, some (.pv (.bool false)))], [], 0, [], [], 0, []⟩) (imps [] ⟨by kernel_rfl, trivial⟩ trivial) ?_
      refine post_next ?_
      refine aw_ret ?_
      obtain rfl := Option.some.inj hF
      exact prt
    iterate 4 (refine rgo_f hb4 ?_)
    refine rpf hb4 ?_
    refine rmv ?_
    iterate 4 (refine rgo_f rfl ?_)
    refine rpf rfl ?_
    refine rmv ?_
    iterate 5 (refine rgo_f rfl ?_)
    iterate 4 (refine rgu ?_)
    refine rgo_f rfl ?_
    refine rpf rfl ?_
    refine ras ?_
    refine reg_nil ?_
    refine post_imp (s' := ⟨41, [(4, some (.pv (.bool false)))], [], 0, [], [], 0, []⟩) (imps [] ⟨by kernel_rfl, trivial⟩ trivial) ?_
    refine post_next ?_
    refine aw_ret ?_
    obtain rfl := Option.some.inj hF
    exact prt
  iterate 4 (refine rgo_f hb3 ?_)
  refine rpf hb3 ?_
  refine rmv ?_
  iterate 4 (refine rgo_f rfl ?_)
  refine rpf rfl ?_
  refine rmv ?_
  iterate 4 (refine rgo_f rfl ?_)
  refine rpf rfl ?_
  refine rmv ?_
  iterate 5 (refine rgo_f rfl ?_)
  iterate 4 (refine rgu ?_)
  refine rgo_f rfl ?_
  refine rpf rfl ?_
  refine ras ?_
  refine reg_nil ?_
  refine post_imp (s' := ⟨41, [(4, some (.pv (.bool false)))], [], 0, [], [], 0, []⟩) (imps [] ⟨by kernel_rfl, trivial⟩ trivial) ?_
  refine post_next ?_
  refine aw_ret ?_
  obtain rfl := Option.some.inj hF
  exact prt
theorem ref10_vars_ok {a0 : List GVar} {a1 : Int} {a2 : Int} {r : Bool} (hF : ref10_vars a0 a1 a2 = some r) : Abs.Fn Try.prog 92 [.vs 13 (List.map eGVar a0), .int .i64 a1, .int .i64 a2] [.p (.bool r)] := by
  unfold ref10_vars at hF
  refine fn_of_body (n := 44) Try.func92 rfl rfl rfl ?_
  intro w O
  refine aw_seq ?_
  refine aw_region ?_
  refine ras ?_
  refine reg_nil ?_
  refine post_imp (s' := ⟨44, [(0, some (.pv (.vs 13 (List.map eGVar a0)))), (1, some (.pv (.int .i64 a1))), (2, some (.pv (.int .i64 a2)))], [], 0, [], [], 0, []⟩) (imps [] ⟨by kernel_rfl, by kernel_rfl, by kernel_rfl, trivial⟩ trivial) ?_
  refine post_next ?_
  iterate 2 (refine aw_seq ?_)
  refine aw_region ?_
  refine ras ?_
  refine reg_nil ?_
  refine post_imp (s' := ⟨44, [(0, some (.pv (.vs 13 (List.map eGVar a0)))), (1, some (.pv (.int .i64 a1))), (2, some (.pv (.int .i64 a2))), (7, some (.pv (.int .i64 0)))], [], 0, [], [], 0, []⟩) (imps [] ⟨by kernel_rfl, by kernel_rfl, by kernel_rfl, by kernel_rfl, trivial⟩ trivial) ?_
  refine post_next ?_
  obtain ⟨lr67, hF, hK68⟩ := bind_some hF
  refine aw_for ((((a0.length : Int) : Int) - (0)).toNat + 1) (fun s1 => ∃ q, lr67 = .next q ∧ s1 = ⟨44, [(0, some (.pv (.vs 13 (List.map eGVar a0)))), (1, some (.pv (.int .i64 a1)))], [], 0, [], [], 0, []⟩) ?_ ?_
  · refine rnd_loop (α := Int) (fun q => ⟨44, [(0, some (.pv (.vs 13 (List.map eGVar a0)))), (1, some (.pv (.int .i64 a1))), (2, some (.pv (.int .i64 a2))), (7, some (.pv (.int .i64 q)))], [], 0, [], [], 0, []⟩) (fun k q => ref10_vars_L1 a0 a2 k q = some lr67) 0 (imps [] ⟨by kernel_rfl, by kernel_rfl, by kernel_rfl, by kernel_rfl, trivial⟩ trivial) hF (fun q h => by cases h) ?_
    clear hF
    rintro k x22 hF ih
    refine rnd_succ ?_
    iterate 2 (refine aw_seq ?_)
    refine aw_region ?_
    iterate 2 (refine rmv ?_)
    refine rgp (op_len_vs (n := a0.length) rfl rfl (List.length_map ..) Try_slc_30 rfl rfl) ?_
    refine rgp (op_int (k := .i64) (m := x22) (n := (a0.length : Int)) rfl rfl rfl rfl rfl rfl) ?_
    refine reg_nil ?_
    refine post_imp (s' := ⟨44, [(0, some (.pv (.vs 13 (List.map eGVar a0)))), (1, some (.pv (.int .i64 a1))), (2, some (.pv (.int .i64 a2))), (7, some (.pv (.int .i64 x22))), (11, some (.pv (.bool (decide (x22 < (a0.length : Int))))))], [], 0, [], [], 0, []⟩) (imps [] ⟨by kernel_rfl, by kernel_rfl, by kernel_rfl, by kernel_rfl, by kernel_rfl, trivial⟩ trivial) ?_
    refine post_next ?_
    rcases ite_some hF with ⟨hb45, hF⟩ | ⟨hb45, hF⟩
    · refine aw_cond_t rfl hb45 ?_
      refine aw_skip ?_
      refine post_next ?_
      refine aw_seq ?_
      refine aw_block ?_
      refine aw_seq ?_
      obtain ⟨x62, hF, hK64⟩ := bind_some hF
      refine aw_cut (fun s1 => s1 = ⟨44, [(0, some (.pv (.vs 13 (List.map eGVar a0)))), (1, some (.pv (.int .i64 a1))), (2, some (.pv (.int .i64 a2))), (7, some (.pv (.int .i64 x22))), (39, some (.pv (.bool x62)))], [], 0, [], [], 0, []⟩) ?_ ?_
      · refine aw_region ?_
        iterate 2 (refine rmv ?_)
        obtain ⟨y50, h51, hF⟩ := bind_some hF
        refine rgp (op_index_vs (k := .i64) rfl rfl rfl (idx_map eGVar h51) Try_slc_30 rfl rfl) ?_
        refine rgp (op_field_vp rfl rfl Try_fld_50_0 rfl rfl) ?_
        refine rgp (op_load_vp (p := .str y50.fName) rfl rfl rfl Try_one_9 rfl rfl) ?_
        obtain ⟨y52, h53, hF⟩ := bind_some hF
        refine rgp (op_call 0 rfl (caps := []) (args := [.str y50.fName]) (rs := [.p (.bool y52)]) rfl rfl rfl Try_cal_89 (ref02_Name_ok h53) rfl rfl rfl) ?_
        refine rgp (op_not rfl rfl rfl rfl) ?_
        refine rmv ?_
        rcases ite_some hF with ⟨hb54, hF⟩ | ⟨hb54, hF⟩
        · refine rgo_t hb54 ?_
          iterate 6 (refine rgo_t hb54 ?_)
          refine rpt hb54 ?_
          refine rmv ?_
          iterate 8 (refine rgo_t rfl ?_)
          refine rpt rfl ?_
          refine reg_nil ?_
          cases hF
          exact post_cut _ rfl (imps [] ⟨by kernel_rfl, by kernel_rfl, by kernel_rfl, by kernel_rfl, by kernel_rfl, trivial⟩ trivial)
        iterate 2 (refine rgn hb54 (op_move rfl rfl rfl rfl) ?_)
        obtain ⟨y55, h56, hF⟩ := bind_some hF
        refine rgn hb54 (op_index_vs (k := .i64) rfl rfl rfl (idx_map eGVar h56) Try_slc_30 rfl rfl) ?_
        refine rgn hb54 (op_field_vp rfl rfl Try_fld_50_1 rfl rfl) ?_
        refine rgn hb54 (op_field_vp rfl rfl Try_fld_29_0 rfl rfl) ?_
        refine rgn hb54 (op_load_vp (p := .int .i64 y55.fType.fKind) rfl rfl rfl Try_one_3 rfl rfl) ?_
        refine rgn hb54 (op_int (k := .i64) (m := y55.fType.fKind) (n := 0) rfl rfl rfl rfl rfl rfl) ?_
        refine rpf hb54 ?_
        refine rmv ?_
        rcases ite_some hF with ⟨hb57, hF⟩ | ⟨hb57, hF⟩
        · refine rgo_t hb57 ?_
          iterate 7 (refine rgo_t hb57 ?_)
          refine rpt hb57 ?_
          refine reg_nil ?_
          cases hF
          exact post_cut _ rfl (imps [] ⟨by kernel_rfl, by kernel_rfl, by kernel_rfl, by kernel_rfl, by kernel_rfl, trivial⟩ trivial)
        iterate 2 (refine rgn hb57 (op_move rfl rfl rfl rfl) ?_)
        obtain ⟨y58, h59, hF⟩ := bind_some hF
        refine rgn hb57 (op_index_vs (k := .i64) rfl rfl rfl (idx_map eGVar h59) Try_slc_30 rfl rfl) ?_
        refine rgn hb57 (op_field_vp rfl rfl Try_fld_50_1 rfl rfl) ?_
        refine rgn hb57 (op_load_vp_agg (ps := eGType y58.fType) rfl rfl rfl rfl Try_agg_29 rfl rfl) ?_
        refine rgn hb57 (op_move rfl rfl rfl rfl) ?_
        obtain ⟨y60, h61, hF⟩ := bind_some hF
        refine rgn hb57 (op_call 0 rfl (caps := []) (args := [.agg (eGType y58.fType), .int .i64 a2]) (rs := [.p (.bool y60)]) rfl rfl rfl Try_cal_106 (ref10_written_ok h61) rfl rfl rfl) ?_
        refine rgn hb57 (op_not rfl rfl rfl rfl) ?_
        refine rpf hb57 ?_
        refine reg_nil ?_
        cases hF
        exact post_cut _ rfl (imps [] ⟨by kernel_rfl, by kernel_rfl, by kernel_rfl, by kernel_rfl, by kernel_rfl, trivial⟩ trivial)
      rintro _ rfl
      have hF := hK64
      clear hK64
      refine post_next ?_
      rcases ite_some hF with ⟨hb65, hF⟩ | ⟨hb65, hF⟩
      · refine aw_cond_t rfl hb65 ?_
        refine aw_seq ?_
        refine aw_region ?_
        refine ras ?_
        refine reg_nil ?_
        refine post_imp (s' := ⟨44, [(6, some (.pv (.bool false)))], [], 0, [], [], 0, []⟩) (imps [] ⟨by kernel_rfl, trivial⟩ trivial) ?_
        refine post_next ?_
        refine aw_ret ?_
        refine post_block_ret ?_
        iterate 2 (refine post_then_ret ?_)
        refine post_lp_ret ?_
        obtain rfl := Option.some.inj hF
        have hF := elim_stop hK68
        refine post_then_ret ?_
        obtain rfl := Option.some.inj hF
        exact prt
      refine aw_cond_f rfl hb65 ?_
      refine aw_skip ?_
      refine post_block_normal ?_
      refine post_next ?_
      refine aw_region ?_
      refine rmv ?_
      refine rgp (op_int (k := .i64) (m := x22) (n := 1) rfl rfl rfl rfl rfl rfl) ?_
      refine ras ?_
      refine reg_nil ?_
      refine post_round ?_
      exact rnd_back (ih (w_i64 (x22 + 1)) hF) (imps [] ⟨by kernel_rfl, by kernel_rfl, by kernel_rfl, by kernel_rfl, trivial⟩ trivial)
    refine aw_cond_f rfl hb45 ?_
    refine aw_exit ?_
    iterate 2 (refine post_then_exit ?_)
    obtain rfl := Option.some.inj hF
    exact post_lp_break _ ⟨_, rfl, rfl⟩ (imps [] ⟨by kernel_rfl, by kernel_rfl, trivial⟩ trivial)
  rintro _ ⟨⟨⟩, rfl, rfl⟩
  have hF := elim_next hK68
  clear hK68
  refine post_next ?_
  refine aw_seq ?_
  refine aw_region ?_
  refine rmv ?_
  refine rgp (op_len_vs (n := a0.length) rfl rfl (List.length_map ..) Try_slc_30 rfl rfl) ?_
  refine rmv ?_
  refine rgp (op_int (k := .i64) (m := (a0.length : Int)) (n := a1) rfl rfl rfl rfl rfl rfl) ?_
  refine ras ?_
  refine reg_nil ?_
  refine post_imp (s' := ⟨44, [(6, some (.pv (.bool (decide ((a0.length : Int) ≤ a1)))))], [], 0, [], [], 0, []⟩) (imps [] ⟨by kernel_rfl, trivial⟩ trivial) ?_
  refine post_next ?_
  refine aw_ret ?_
  obtain rfl := Option.some.inj hF
  exact prt
theorem ref10_open_ring : ∀ n : Nat, (∀ (a0 : List GStmt) (a1 : Int) (r : Bool), ref10_open n a0 a1 = some r → Abs.Fn Try.prog 107 [.vs 23 (eLGStmt a0), .int .i64 a1] [.p (.bool r)]) := by
  intro n
  induction n with
  | zero => exact (fun _ _ _ h => by simp [ref10_open] at h)
  | succ n ih =>
    have ref10_open_ih := ih
    clear ih
    intro a0 a1 r hF
    unfold ref10_open at hF
    revert hF ref10_open_ih
    generalize ref10_open n = ref10_open_rec
    intro ref10_open_ih hF
    refine fn_of_body (n := 49) Try.func107 rfl rfl rfl ?_
    intro w O
    refine aw_seq ?_
    refine aw_region ?_
    refine ras ?_
    refine reg_nil ?_
    refine post_imp (s' := ⟨49, [(0, some (.pv (.vs 23 (eLGStmt a0)))), (1, some (.pv (.int .i64 a1)))], [], 0, [], [], 0, []⟩) (imps [] ⟨by kernel_rfl, by kernel_rfl, trivial⟩ trivial) ?_
    refine post_next ?_
    iterate 2 (refine aw_seq ?_)
    refine aw_region ?_
    refine ras ?_
    refine reg_nil ?_
    refine post_imp (s' := ⟨49, [(0, some (.pv (.vs 23 (eLGStmt a0)))), (1, some (.pv (.int .i64 a1))), (5, some (.pv (.int .i64 0)))], [], 0, [], [], 0, []⟩) (imps [] ⟨by kernel_rfl, by kernel_rfl, by kernel_rfl, trivial⟩ trivial) ?_
    refine post_next ?_
    obtain ⟨lr103, hF, hK104⟩ := bind_some hF
    refine aw_for ((((a0.length : Int) : Int) - (0)).toNat + 1) (fun s1 => ∃ q, lr103 = .next q ∧ s1 = ⟨49, [], [], 0, [], [], 0, []⟩) ?_ ?_
    · refine rnd_loop (α := Int) (fun q => ⟨49, [(0, some (.pv (.vs 23 (eLGStmt a0)))), (1, some (.pv (.int .i64 a1))), (5, some (.pv (.int .i64 q)))], [], 0, [], [], 0, []⟩) (fun k q => ref10_open_L1 a0 a1 ref10_open_rec k q = some lr103) 0 (imps [] ⟨by kernel_rfl, by kernel_rfl, by kernel_rfl, trivial⟩ trivial) hF (fun q h => by cases h) ?_
      clear hF
      rintro k x34 hF ih
      refine rnd_succ ?_
      iterate 2 (refine aw_seq ?_)
      refine aw_region ?_
      iterate 2 (refine rmv ?_)
      refine rgp (op_len_vs (n := a0.length) rfl rfl (lenR eLGStmt_map) Try_slc_31 rfl rfl) ?_
      refine rgp (op_int (k := .i64) (m := x34) (n := (a0.length : Int)) rfl rfl rfl rfl rfl rfl) ?_
      refine reg_nil ?_
      refine post_imp (s' := ⟨49, [(0, some (.pv (.vs 23 (eLGStmt a0)))), (1, some (.pv (.int .i64 a1))), (5, some (.pv (.int .i64 x34))), (9, some (.pv (.bool (decide (x34 < (a0.length : Int))))))], [], 0, [], [], 0, []⟩) (imps [] ⟨by kernel_rfl, by kernel_rfl, by kernel_rfl, by kernel_rfl, trivial⟩ trivial) ?_
      refine post_next ?_
      rcases ite_some hF with ⟨hb69, hF⟩ | ⟨hb69, hF⟩
      · refine aw_cond_t rfl hb69 ?_
        refine aw_skip ?_
        refine post_next ?_
        refine aw_seq ?_
        refine aw_block ?_
        refine aw_seq ?_
        obtain ⟨x98, hF, hK100⟩ := bind_some hF
        refine aw_cut (fun s1 => s1 = ⟨49, [(0, some (.pv (.vs 23 (eLGStmt a0)))), (1, some (.pv (.int .i64 a1))), (5, some (.pv (.int .i64 x34))), (48, some (.pv (.bool x98)))], [], 0, [], [], 0, []⟩) ?_ ?_
        · refine aw_region ?_
          iterate 2 (refine rmv ?_)
          obtain ⟨y72, h73, hF⟩ := bind_some hF
          refine rgp (op_index_vs (k := .i64) rfl rfl rfl (idxR eLGStmt_map h73) Try_slc_31 rfl rfl) ?_
          refine rgp (op_field_vp rfl rfl Try_fld_83_4 rfl rfl) ?_
          refine rgp (op_field_vp rfl rfl Try_fld_29_0 rfl rfl) ?_
          refine rgp (op_load_vp (p := .int .i64 y72.fType.fKind) rfl rfl rfl Try_one_3 rfl rfl) ?_
          refine rgp (op_int (k := .i64) (m := y72.fType.fKind) (n := 2) rfl rfl rfl rfl rfl rfl) ?_
          refine rmv ?_
          rcases ite_some hF with ⟨hb74, hF⟩ | ⟨hb74, hF⟩
          · refine rgn hb74 (op_move rfl rfl rfl rfl) ?_
            refine rgn hb74 (op_move rfl rfl rfl rfl) ?_
            obtain ⟨y75, h76, hF⟩ := bind_some hF
            refine rgn hb74 (op_index_vs (k := .i64) rfl rfl rfl (idxR eLGStmt_map h76) Try_slc_31 rfl rfl) ?_
            refine rgn hb74 (op_field_vp rfl rfl Try_fld_83_4 rfl rfl) ?_
            refine rgn hb74 (op_load_vp_agg (ps := eGType y75.fType) rfl rfl rfl rfl Try_agg_29 rfl rfl) ?_
            refine rgn hb74 (op_move rfl rfl rfl rfl) ?_
            obtain ⟨y77, h78, hF⟩ := bind_some hF
            refine rgn hb74 (op_call 0 rfl (caps := []) (args := [.agg (eGType y75.fType), .int .i64 a1]) (rs := [.p (.bool y77)]) rfl rfl rfl Try_cal_106 (ref10_written_ok h78) rfl rfl rfl) ?_
            refine rgn hb74 (op_not rfl rfl rfl rfl) ?_
            refine rpt hb74 ?_
            refine rmv ?_
            rcases ite_some hF with ⟨hb79, hF⟩ | ⟨hb79, hF⟩
            · refine rgo_t hb79 ?_
              iterate 7 (refine rgo_t hb79 ?_)
              refine rpt hb79 ?_
              refine rmv ?_
              iterate 8 (refine rgo_t rfl ?_)
              refine rpt rfl ?_
              refine reg_nil ?_
              cases hF
              exact post_cut _ rfl (imps [] ⟨by kernel_rfl, by kernel_rfl, by kernel_rfl, by kernel_rfl, trivial⟩ trivial)
            iterate 2 (refine rgn hb79 (op_move rfl rfl rfl rfl) ?_)
            obtain ⟨y80, h81, hF⟩ := bind_some hF
            refine rgn hb79 (op_index_vs (k := .i64) rfl rfl rfl (idxR eLGStmt_map h81) Try_slc_31 rfl rfl) ?_
            refine rgn hb79 (op_field_vp rfl rfl Try_fld_83_7 rfl rfl) ?_
            refine rgn hb79 (op_load_vp (p := .vs 23 (eLGStmt y80.fBody)) rfl rfl rfl Try_one_31 rfl rfl) ?_
            refine rgn hb79 (op_move rfl rfl rfl rfl) ?_
            obtain ⟨y82, h83, hF⟩ := bind_some hF
            refine rgn hb79 (op_call 0 rfl (caps := []) (args := [.vs 23 (eLGStmt y80.fBody), .int .i64 a1]) (rs := [.p (.bool y82)]) rfl rfl rfl Try_cal_107 (ref10_open_ih _ _ _ h83) rfl rfl rfl) ?_
            refine rgn hb79 (op_not rfl rfl rfl rfl) ?_
            refine rpf hb79 ?_
            refine rmv ?_
            rcases ite_some hF with ⟨hb84, hF⟩ | ⟨hb84, hF⟩
            · refine rgo_t hb84 ?_
              iterate 7 (refine rgo_t hb84 ?_)
              refine rpt hb84 ?_
              refine reg_nil ?_
              cases hF
              exact post_cut _ rfl (imps [] ⟨by kernel_rfl, by kernel_rfl, by kernel_rfl, by kernel_rfl, trivial⟩ trivial)
            iterate 2 (refine rgn hb84 (op_move rfl rfl rfl rfl) ?_)
            obtain ⟨y85, h86, hF⟩ := bind_some hF
            refine rgn hb84 (op_index_vs (k := .i64) rfl rfl rfl (idxR eLGStmt_map h86) Try_slc_31 rfl rfl) ?_
            refine rgn hb84 (op_field_vp rfl rfl Try_fld_83_8 rfl rfl) ?_
            refine rgn hb84 (op_load_vp (p := .vs 23 (eLGStmt y85.fElse)) rfl rfl rfl Try_one_31 rfl rfl) ?_
            refine rgn hb84 (op_move rfl rfl rfl rfl) ?_
            obtain ⟨y87, h88, hF⟩ := bind_some hF
            refine rgn hb84 (op_call 0 rfl (caps := []) (args := [.vs 23 (eLGStmt y85.fElse), .int .i64 a1]) (rs := [.p (.bool y87)]) rfl rfl rfl Try_cal_107 (ref10_open_ih _ _ _ h88) rfl rfl rfl) ?_
            refine rgn hb84 (op_not rfl rfl rfl rfl) ?_
            refine rpf hb84 ?_
            refine reg_nil ?_
            cases hF
            exact post_cut _ rfl (imps [] ⟨by kernel_rfl, by kernel_rfl, by kernel_rfl, by kernel_rfl, trivial⟩ trivial)
          iterate 8 (refine rgo_f hb74 ?_)
          refine rpf hb74 ?_
          refine rmv ?_
          iterate 2 (refine rgn rfl (op_move rfl rfl rfl rfl) ?_)
          obtain ⟨y89, h90, hF⟩ := bind_some hF
          refine rgn rfl (op_index_vs (k := .i64) rfl rfl rfl (idxR eLGStmt_map h90) Try_slc_31 rfl rfl) ?_
          refine rgn rfl (op_field_vp rfl rfl Try_fld_83_7 rfl rfl) ?_
          refine rgn rfl (op_load_vp (p := .vs 23 (eLGStmt y89.fBody)) rfl rfl rfl Try_one_31 rfl rfl) ?_
          refine rgn rfl (op_move rfl rfl rfl rfl) ?_
          obtain ⟨y91, h92, hF⟩ := bind_some hF
          refine rgn rfl (op_call 0 rfl (caps := []) (args := [.vs 23 (eLGStmt y89.fBody), .int .i64 a1]) (rs := [.p (.bool y91)]) rfl rfl rfl Try_cal_107 (ref10_open_ih _ _ _ h92) rfl rfl rfl) ?_
          refine rgn rfl (op_not rfl rfl rfl rfl) ?_
          refine rpf rfl ?_
          refine rmv ?_
          rcases ite_some hF with ⟨hb93, hF⟩ | ⟨hb93, hF⟩
          · refine rgo_t hb93 ?_
            iterate 7 (refine rgo_t hb93 ?_)
            refine rpt hb93 ?_
            refine reg_nil ?_
            cases hF
            exact post_cut _ rfl (imps [] ⟨by kernel_rfl, by kernel_rfl, by kernel_rfl, by kernel_rfl, trivial⟩ trivial)
          iterate 2 (refine rgn hb93 (op_move rfl rfl rfl rfl) ?_)
          obtain ⟨y94, h95, hF⟩ := bind_some hF
          refine rgn hb93 (op_index_vs (k := .i64) rfl rfl rfl (idxR eLGStmt_map h95) Try_slc_31 rfl rfl) ?_
          refine rgn hb93 (op_field_vp rfl rfl Try_fld_83_8 rfl rfl) ?_
          refine rgn hb93 (op_load_vp (p := .vs 23 (eLGStmt y94.fElse)) rfl rfl rfl Try_one_31 rfl rfl) ?_
          refine rgn hb93 (op_move rfl rfl rfl rfl) ?_
          obtain ⟨y96, h97, hF⟩ := bind_some hF
          refine rgn hb93 (op_call 0 rfl (caps := []) (args := [.vs 23 (eLGStmt y94.fElse), .int .i64 a1]) (rs := [.p (.bool y96)]) rfl rfl rfl Try_cal_107 (ref10_open_ih _ _ _ h97) rfl rfl rfl) ?_
          refine rgn hb93 (op_not rfl rfl rfl rfl) ?_
          refine rpf hb93 ?_
          refine reg_nil ?_
          cases hF
          exact post_cut _ rfl (imps [] ⟨by kernel_rfl, by kernel_rfl, by kernel_rfl, by kernel_rfl, trivial⟩ trivial)
        rintro _ rfl
        have hF := hK100
        clear hK100
        refine post_next ?_
        rcases ite_some hF with ⟨hb101, hF⟩ | ⟨hb101, hF⟩
        · refine aw_cond_t rfl hb101 ?_
          refine aw_seq ?_
          refine aw_region ?_
          refine ras ?_
          refine reg_nil ?_
          refine post_imp (s' := ⟨49, [(4, some (.pv (.bool false)))], [], 0, [], [], 0, []⟩) (imps [] ⟨by kernel_rfl, trivial⟩ trivial) ?_
          refine post_next ?_
          refine aw_ret ?_
          refine post_block_ret ?_
          iterate 2 (refine post_then_ret ?_)
          refine post_lp_ret ?_
          obtain rfl := Option.some.inj hF
          have hF := elim_stop hK104
          refine post_then_ret ?_
          obtain rfl := Option.some.inj hF
          exact prt
        refine aw_cond_f rfl hb101 ?_
        refine aw_skip ?_
        refine post_block_normal ?_
        refine post_next ?_
        refine aw_region ?_
        refine rmv ?_
        refine rgp (op_int (k := .i64) (m := x34) (n := 1) rfl rfl rfl rfl rfl rfl) ?_
        refine ras ?_
        refine reg_nil ?_
        refine post_round ?_
        exact rnd_back (ih (w_i64 (x34 + 1)) hF) (imps [] ⟨by kernel_rfl, by kernel_rfl, by kernel_rfl, trivial⟩ trivial)
      refine aw_cond_f rfl hb69 ?_
      refine aw_exit ?_
      iterate 2 (refine post_then_exit ?_)
      obtain rfl := Option.some.inj hF
      exact post_lp_break _ ⟨_, rfl, rfl⟩ (imps [] trivial trivial)
    rintro _ ⟨⟨⟩, rfl, rfl⟩
    have hF := elim_next hK104
    clear hK104
    refine post_next ?_
    refine aw_seq ?_
    refine aw_region ?_
    refine ras ?_
    refine reg_nil ?_
    refine post_imp (s' := ⟨49, [(4, some (.pv (.bool true)))], [], 0, [], [], 0, []⟩) (imps [] ⟨by kernel_rfl, trivial⟩ trivial) ?_
    refine post_next ?_
    refine aw_ret ?_
    obtain rfl := Option.some.inj hF
    exact prt
theorem ref10_open_ok {n : Nat} {a0 : List GStmt} {a1 : Int} {r : Bool} (hF : ref10_open n a0 a1 = some r) : Abs.Fn Try.prog 107 [.vs 23 (eLGStmt a0), .int .i64 a1] [.p (.bool r)] := (ref10_open_ring n) _ _ _ hF

theorem ref10_method_ok {a0 : GMethod} {a1 : Int} {r : Bool} (hF : ref10_method a0 a1 = some r) : Abs.Fn Try.prog 91 [.agg (eGMethod a0), .int .i64 a1] [.p (.bool r)] := by
  unfold ref10_method at hF
  refine fn_of_body (n := 48) Try.func91 rfl rfl rfl ?_
  intro w O
  refine aw_seq ?_
  refine aw_region ?_
  refine rgp (op_box 0 rfl rfl rfl rfl rfl rfl) ?_
  refine ras ?_
  refine reg_nil ?_
  refine post_imp (s' := ⟨48, [(1, some (.pv (.int .i64 a1))), (2, some (.lp 0 0))], [(0, some (.box 33 (bxv (eGMethod a0))))], 1, [], [], 0, []⟩) (imps [0] ⟨by kernel_rfl, by kernel_rfl, trivial⟩ ⟨by kernel_rfl, trivial⟩) ?_
  refine post_next ?_
  iterate 2 (refine aw_seq ?_)
  refine aw_region ?_
  refine ras ?_
  refine reg_nil ?_
  refine post_imp (s' := ⟨48, [(1, some (.pv (.int .i64 a1))), (2, some (.lp 0 0)), (5, some (.pv (.int .i64 0)))], [(0, some (.box 33 (bxv (eGMethod a0))))], 1, [], [], 0, []⟩) (imps [0] ⟨by kernel_rfl, by kernel_rfl, by kernel_rfl, trivial⟩ ⟨by kernel_rfl, trivial⟩) ?_
  refine post_next ?_
  obtain ⟨lr34, hF, hK35⟩ := bind_some hF
  refine aw_for ((((a0.fBody.length : Int) : Int) - (0)).toNat + 1) (fun s1 => ∃ q, lr34 = .next q ∧ s1 = ⟨48, [(1, some (.pv (.int .i64 a1))), (2, some (.lp 0 0))], [(0, some (.box 33 (bxv (eGMethod a0))))], 1, [], [], 0, []⟩) ?_ ?_
  · refine rnd_loop (α := Int) (fun q => ⟨48, [(1, some (.pv (.int .i64 a1))), (2, some (.lp 0 0)), (5, some (.pv (.int .i64 q)))], [(0, some (.box 33 (bxv (eGMethod a0))))], 1, [], [], 0, []⟩) (fun k q => ref10_method_L1 a0 a1 k q = some lr34) 0 (imps [0] ⟨by kernel_rfl, by kernel_rfl, by kernel_rfl, trivial⟩ ⟨by kernel_rfl, trivial⟩) hF (fun q h => by cases h) ?_
    clear hF
    rintro k x11 hF ih
    refine rnd_succ ?_
    iterate 2 (refine aw_seq ?_)
    refine aw_region ?_
    refine rmv ?_
    refine rgp (op_field_lp rfl rfl Try_fld_33_5 rfl rfl) ?_
    refine rgp (op_load_lp (v := .pv (.vs 23 (eLGStmt a0.fBody))) rfl rfl rfl rfl Try_one_31 rfl rfl) ?_
    refine rgp (op_len_vs (n := a0.fBody.length) rfl rfl (lenR eLGStmt_map) Try_slc_31 rfl rfl) ?_
    refine rgp (op_int (k := .i64) (m := x11) (n := (a0.fBody.length : Int)) rfl rfl rfl rfl rfl rfl) ?_
    refine reg_nil ?_
    refine post_imp (s' := ⟨48, [(1, some (.pv (.int .i64 a1))), (2, some (.lp 0 0)), (5, some (.pv (.int .i64 x11))), (10, some (.pv (.bool (decide (x11 < (a0.fBody.length : Int))))))], [(0, some (.box 33 (bxv (eGMethod a0))))], 1, [], [], 0, []⟩) (imps [0] ⟨by kernel_rfl, by kernel_rfl, by kernel_rfl, by kernel_rfl, trivial⟩ ⟨by kernel_rfl, trivial⟩) ?_
    refine post_next ?_
    rcases ite_some hF with ⟨hb23, hF⟩ | ⟨hb23, hF⟩
    · refine aw_cond_t rfl hb23 ?_
      refine aw_skip ?_
      refine post_next ?_
      refine aw_seq ?_
      refine aw_block ?_
      refine aw_seq ?_
      refine aw_region ?_
      refine rgp (op_field_lp rfl rfl Try_fld_33_5 rfl rfl) ?_
      refine rgp (op_load_lp (v := .pv (.vs 23 (eLGStmt a0.fBody))) rfl rfl rfl rfl Try_one_31 rfl rfl) ?_
      refine rmv ?_
      obtain ⟨y28, h29, hF⟩ := bind_some hF
      refine rgp (op_index_vs (k := .i64) rfl rfl rfl (idxR eLGStmt_map h29) Try_slc_31 rfl rfl) ?_
      refine rgp (op_load_vp_agg (ps := eGStmt y28) rfl rfl rfl rfl Try_agg_83 rfl rfl) ?_
      refine rmv ?_
      obtain ⟨y30, h31, hF⟩ := bind_some hF
      refine rgp (op_call 1 rfl (caps := []) (args := [.agg (eGStmt y28), .int .i64 a1]) (rs := [.p (.bool y30)]) rfl rfl rfl Try_cal_105 (ref08_Right_ok h31) rfl rfl rfl) ?_
      refine rgp (op_not rfl rfl rfl rfl) ?_
      refine reg_nil ?_
      refine post_imp (s' := ⟨48, [(1, some (.pv (.int .i64 a1))), (2, some (.lp 0 0)), (5, some (.pv (.int .i64 x11))), (20, some (.pv (.bool (!y30))))], [(0, some (.box 33 (bxv (eGMethod a0))))], 1, [], [], 0, []⟩) (imps [0] ⟨by kernel_rfl, by kernel_rfl, by kernel_rfl, by kernel_rfl, trivial⟩ ⟨by kernel_rfl, trivial⟩) ?_
      refine post_next ?_
      rcases ite_some hF with ⟨hb32, hF⟩ | ⟨hb32, hF⟩
      · refine aw_cond_t rfl hb32 ?_
        refine aw_seq ?_
        refine aw_region ?_
        refine ras ?_
        refine reg_nil ?_
        refine post_imp (s' := ⟨48, [(4, some (.pv (.bool false)))], [], 0, [], [], 0, []⟩) (imps [] ⟨by kernel_rfl, trivial⟩ trivial) ?_
        refine post_next ?_
        refine aw_ret ?_
        refine post_block_ret ?_
        iterate 2 (refine post_then_ret ?_)
        refine post_lp_ret ?_
        obtain rfl := Option.some.inj hF
        have hF := elim_stop hK35
        refine post_then_ret ?_
        obtain rfl := Option.some.inj hF
        exact prt
      refine aw_cond_f rfl hb32 ?_
      refine aw_skip ?_
      refine post_block_normal ?_
      refine post_next ?_
      refine aw_region ?_
      refine rmv ?_
      refine rgp (op_int (k := .i64) (m := x11) (n := 1) rfl rfl rfl rfl rfl rfl) ?_
      refine ras ?_
      refine reg_nil ?_
      refine post_round ?_
      exact rnd_back (ih (w_i64 (x11 + 1)) hF) (imps [0] ⟨by kernel_rfl, by kernel_rfl, by kernel_rfl, trivial⟩ ⟨by kernel_rfl, trivial⟩)
    refine aw_cond_f rfl hb23 ?_
    refine aw_exit ?_
    iterate 2 (refine post_then_exit ?_)
    obtain rfl := Option.some.inj hF
    exact post_lp_break _ ⟨_, rfl, rfl⟩ (imps [0] ⟨by kernel_rfl, by kernel_rfl, trivial⟩ ⟨by kernel_rfl, trivial⟩)
  rintro _ ⟨⟨⟩, rfl, rfl⟩
  have hF := elim_next hK35
  clear hK35
  refine post_next ?_
  refine aw_seq ?_
  refine aw_region ?_
  refine rgp (op_field_lp rfl rfl Try_fld_33_0 rfl rfl) ?_
  refine rgp (op_load_lp (v := .pv (.str a0.fName)) rfl rfl rfl rfl Try_one_9 rfl rfl) ?_
  obtain ⟨y36, h37, hF⟩ := bind_some hF
  refine rgp (op_call 1 rfl (caps := []) (args := [.str a0.fName]) (rs := [.p (.bool y36)]) rfl rfl rfl Try_cal_89 (ref02_Name_ok h37) rfl rfl rfl) ?_
  refine rmv ?_
  rcases ite_some hF with ⟨hb38, hF⟩ | ⟨hb38, hF⟩
  · refine rgn hb38 (op_field_lp rfl rfl Try_fld_33_2 rfl rfl) ?_
    refine rgn hb38 (op_load_lp_agg (ps := eGType a0.fRet) rfl rfl rfl rfl rfl rfl Try_agg_29 rfl rfl) ?_
    refine rgn hb38 (op_move rfl rfl rfl rfl) ?_
    obtain ⟨y39, h40, hF⟩ := bind_some hF
    refine rgn hb38 (op_call 1 rfl (caps := []) (args := [.agg (eGType a0.fRet), .int .i64 a1]) (rs := [.p (.bool y39)]) rfl rfl rfl Try_cal_106 (ref10_written_ok h40) rfl rfl rfl) ?_
    refine rpt hb38 ?_
    refine rmv ?_
    rcases ite_some hF with ⟨hb41, hF⟩ | ⟨hb41, hF⟩
    · refine rgn hb41 (op_field_lp rfl rfl Try_fld_33_3 rfl rfl) ?_
      refine rgn hb41 (op_load_lp (v := .pv (.vs 13 (List.map eGVar a0.fParams))) rfl rfl rfl rfl Try_one_30 rfl rfl) ?_
      refine rgn hb41 (op_move rfl rfl rfl rfl) ?_
      obtain ⟨y42, h43, hF⟩ := bind_some hF
      refine rgn hb41 (op_call 1 rfl (caps := []) (args := [.vs 13 (List.map eGVar a0.fParams), .int .i64 5, .int .i64 a1]) (rs := [.p (.bool y42)]) rfl rfl rfl Try_cal_92 (ref10_vars_ok h43) rfl rfl rfl) ?_
      refine rpt hb41 ?_
      refine rmv ?_
      rcases ite_some hF with ⟨hb44, hF⟩ | ⟨hb44, hF⟩
      · refine rgn hb44 (op_field_lp rfl rfl Try_fld_33_4 rfl rfl) ?_
        refine rgn hb44 (op_load_lp (v := .pv (.vs 13 (List.map eGVar a0.fLocals))) rfl rfl rfl rfl Try_one_30 rfl rfl) ?_
        refine rgn hb44 (op_move rfl rfl rfl rfl) ?_
        obtain ⟨y45, h46, hF⟩ := bind_some hF
        refine rgn hb44 (op_call 1 rfl (caps := []) (args := [.vs 13 (List.map eGVar a0.fLocals), .int .i64 12, .int .i64 a1]) (rs := [.p (.bool y45)]) rfl rfl rfl Try_cal_92 (ref10_vars_ok h46) rfl rfl rfl) ?_
        refine rpt hb44 ?_
        refine rmv ?_
        rcases ite_some hF with ⟨hb47, hF⟩ | ⟨hb47, hF⟩
        · refine rgn hb47 (op_field_lp rfl rfl Try_fld_33_5 rfl rfl) ?_
          refine rgn hb47 (op_load_lp (v := .pv (.vs 23 (eLGStmt a0.fBody))) rfl rfl rfl rfl Try_one_31 rfl rfl) ?_
          refine rgn hb47 (op_move rfl rfl rfl rfl) ?_
          obtain ⟨y48, h49, hF⟩ := bind_some hF
          refine rgn hb47 (op_call 1 rfl (caps := []) (args := [.vs 23 (eLGStmt a0.fBody), .int .i64 a1]) (rs := [.p (.bool y48)]) rfl rfl rfl Try_cal_107 (ref10_open_ok h49) rfl rfl rfl) ?_
          refine rpt hb47 ?_
          refine ras ?_
          refine reg_nil ?_
          refine post_imp (s' := ⟨48, [(4, some (.pv (.bool y48)))], [], 0, [], [], 0, []⟩) (imps [] ⟨by kernel_rfl, trivial⟩ trivial) ?_
          refine post_next ?_
          refine aw_ret ?_
          obtain rfl := Option.some.inj hF
          exact prt
        iterate 4 (refine rgo_f hb47 ?_)
        refine rpf hb47 ?_
        refine ras ?_
        refine reg_nil ?_
        refine post_imp (s' := ⟨48, [(4, some (.pv (.bool false)))], [], 0, [], [], 0, []⟩) (imps [] ⟨by kernel_rfl, trivial⟩ trivial) ?_
        refine post_next ?_
        refine aw_ret ?_
        obtain rfl := Option.some.inj hF
        exact prt
      iterate 4 (refine rgo_f hb44 ?_)
      refine rpf hb44 ?_
      refine rmv ?_
      iterate 4 (refine rgo_f rfl ?_)
      refine rpf rfl ?_
      refine ras ?_
      refine reg_nil ?_
      refine post_imp (s' := ⟨48, [(4, some (.pv (.bool false)))], [], 0, [], [], 0, []⟩) (imps [] ⟨by kernel_rfl, trivial⟩ trivial) ?_
      refine post_next ?_
      refine aw_ret ?_
      obtain rfl := Option.some.inj hF
      exact prt
    iterate 4 (refine rgo_f hb41 ?_)
    refine rpf hb41 ?_
    refine rmv ?_
    iterate 4 (refine rgo_f rfl ?_)
    refine rpf rfl ?_
    refine rmv ?_
    iterate 4 (refine rgo_f rfl ?_)
    refine rpf rfl ?_
    refine ras ?_
    refine reg_nil ?_
    refine post_imp (s' := ⟨48, [(4, some (.pv (.bool false)))], [], 0, [], [], 0, []⟩) (imps [] ⟨by kernel_rfl, trivial⟩ trivial) ?_
    refine post_next ?_
    refine aw_ret ?_
    obtain rfl := Option.some.inj hF
    exact prt
  iterate 4 (refine rgo_f hb38 ?_)
  refine rpf hb38 ?_
  refine rmv ?_
  iterate 4 (refine rgo_f rfl ?_)
  refine rpf rfl ?_
  refine rmv ?_
  iterate 4 (refine rgo_f rfl ?_)
  refine rpf rfl ?_
  refine rmv ?_
  iterate 4 (refine rgo_f rfl ?_)
  refine rpf rfl ?_
  refine ras ?_
  refine reg_nil ?_
  refine post_imp (s' := ⟨48, [(4, some (.pv (.bool false)))], [], 0, [], [], 0, []⟩) (imps [] ⟨by kernel_rfl, trivial⟩ trivial) ?_
  refine post_next ?_
  refine aw_ret ?_
  obtain rfl := Option.some.inj hF
  exact prt
theorem ref10_class_ok {a0 : GClass} {r : Bool} (hF : ref10_class a0 = some r) : Abs.Fn Try.prog 70 [.agg (eGClass a0)] [.p (.bool r)] := by
  unfold ref10_class at hF
  refine fn_of_body (n := 112) Try.func70 rfl rfl rfl ?_
  intro w O
  refine aw_seq ?_
  refine aw_region ?_
  refine rgp (op_box 0 rfl rfl rfl rfl rfl rfl) ?_
  refine ras ?_
  refine reg_nil ?_
  refine post_imp (s' := ⟨112, [(1, some (.lp 0 0))], [(0, some (.box 56 (bxv (eGClass a0))))], 1, [], [], 0, []⟩) (imps [0] ⟨by kernel_rfl, trivial⟩ ⟨by kernel_rfl, trivial⟩) ?_
  refine post_next ?_
  refine aw_seq ?_
  refine aw_region ?_
  refine rgp (op_field_lp rfl rfl Try_fld_56_1 rfl rfl) ?_
  refine rgp (op_load_lp (v := .pv (.vs 1 (List.map eS a0.fParams))) rfl rfl rfl rfl Try_one_52 rfl rfl) ?_
  refine rgp (op_len_vs (n := a0.fParams.length) rfl rfl (List.length_map ..) Try_slc_52 rfl rfl) ?_
  refine ras ?_
  refine reg_nil ?_
  refine post_imp (s' := ⟨112, [(1, some (.lp 0 0)), (3, some (.pv (.int .i64 (a0.fParams.length : Int))))], [(0, some (.box 56 (bxv (eGClass a0))))], 1, [], [], 0, []⟩) (imps [0] ⟨by kernel_rfl, by kernel_rfl, trivial⟩ ⟨by kernel_rfl, trivial⟩) ?_
  refine post_next ?_
  iterate 2 (refine aw_seq ?_)
  refine aw_region ?_
  refine ras ?_
  refine reg_nil ?_
  refine post_imp (s' := ⟨112, [(1, some (.lp 0 0)), (3, some (.pv (.int .i64 (a0.fParams.length : Int)))), (4, some (.pv (.int .i64 0)))], [(0, some (.box 56 (bxv (eGClass a0))))], 1, [], [], 0, []⟩) (imps [0] ⟨by kernel_rfl, by kernel_rfl, by kernel_rfl, trivial⟩ ⟨by kernel_rfl, trivial⟩) ?_
  refine post_next ?_
  obtain ⟨lr34, hF, hK35⟩ := bind_some hF
  refine aw_for ((((a0.fParams.length : Int) : Int) - (0)).toNat + 1) (fun s1 => ∃ q, lr34 = .next q ∧ s1 = ⟨112, [(1, some (.lp 0 0)), (3, some (.pv (.int .i64 (a0.fParams.length : Int))))], [(0, some (.box 56 (bxv (eGClass a0))))], 1, [], [], 0, []⟩) ?_ ?_
  · refine rnd_loop (α := Int) (fun q => ⟨112, [(1, some (.lp 0 0)), (3, some (.pv (.int .i64 (a0.fParams.length : Int)))), (4, some (.pv (.int .i64 q)))], [(0, some (.box 56 (bxv (eGClass a0))))], 1, [], [], 0, []⟩) (fun k q => ref10_class_L1 a0 k q = some lr34) 0 (imps [0] ⟨by kernel_rfl, by kernel_rfl, by kernel_rfl, trivial⟩ ⟨by kernel_rfl, trivial⟩) hF (fun q h => by cases h) ?_
    clear hF
    rintro k x11 hF ih
    refine rnd_succ ?_
    iterate 2 (refine aw_seq ?_)
    refine aw_region ?_
    iterate 2 (refine rmv ?_)
    refine rgp (op_int (k := .i64) (m := x11) (n := (a0.fParams.length : Int)) rfl rfl rfl rfl rfl rfl) ?_
    refine reg_nil ?_
    refine post_imp (s' := ⟨112, [(1, some (.lp 0 0)), (3, some (.pv (.int .i64 (a0.fParams.length : Int)))), (4, some (.pv (.int .i64 x11))), (13, some (.pv (.bool (decide (x11 < (a0.fParams.length : Int))))))], [(0, some (.box 56 (bxv (eGClass a0))))], 1, [], [], 0, []⟩) (imps [0] ⟨by kernel_rfl, by kernel_rfl, by kernel_rfl, by kernel_rfl, trivial⟩ ⟨by kernel_rfl, trivial⟩) ?_
    refine post_next ?_
    rcases ite_some hF with ⟨hb23, hF⟩ | ⟨hb23, hF⟩
    · refine aw_cond_t rfl hb23 ?_
      refine aw_skip ?_
      refine post_next ?_
      refine aw_seq ?_
      refine aw_block ?_
      refine aw_seq ?_
      refine aw_region ?_
      refine rgp (op_field_lp rfl rfl Try_fld_56_1 rfl rfl) ?_
      refine rgp (op_load_lp (v := .pv (.vs 1 (List.map eS a0.fParams))) rfl rfl rfl rfl Try_one_52 rfl rfl) ?_
      refine rmv ?_
      obtain ⟨y28, h29, hF⟩ := bind_some hF
      refine rgp (op_index_vs (k := .i64) rfl rfl rfl (idx_map eS h29) Try_slc_52 rfl rfl) ?_
      refine rgp (op_load_vp (p := .str y28) rfl rfl rfl Try_one_9 rfl rfl) ?_
      obtain ⟨y30, h31, hF⟩ := bind_some hF
      refine rgp (op_call 1 rfl (caps := []) (args := [.str y28]) (rs := [.p (.bool y30)]) rfl rfl rfl Try_cal_89 (ref02_Name_ok h31) rfl rfl rfl) ?_
      refine rgp (op_not rfl rfl rfl rfl) ?_
      refine reg_nil ?_
      refine post_imp (s' := ⟨112, [(1, some (.lp 0 0)), (3, some (.pv (.int .i64 (a0.fParams.length : Int)))), (4, some (.pv (.int .i64 x11))), (22, some (.pv (.bool (!y30))))], [(0, some (.box 56 (bxv (eGClass a0))))], 1, [], [], 0, []⟩) (imps [0] ⟨by kernel_rfl, by kernel_rfl, by kernel_rfl, by kernel_rfl, trivial⟩ ⟨by kernel_rfl, trivial⟩) ?_
      refine post_next ?_
      rcases ite_some hF with ⟨hb32, hF⟩ | ⟨hb32, hF⟩
      · refine aw_cond_t rfl hb32 ?_
        refine aw_seq ?_
        refine aw_region ?_
        refine ras ?_
        refine reg_nil ?_
        refine post_imp (s' := ⟨112, [(2, some (.pv (.bool false)))], [], 0, [], [], 0, []⟩) (imps [] ⟨by kernel_rfl, trivial⟩ trivial) ?_
        refine post_next ?_
        refine aw_ret ?_
        refine post_block_ret ?_
        iterate 2 (refine post_then_ret ?_)
        refine post_lp_ret ?_
        obtain rfl := Option.some.inj hF
        have hF := elim_stop hK35
        refine post_then_ret ?_
        obtain rfl := Option.some.inj hF
        exact prt
      refine aw_cond_f rfl hb32 ?_
      refine aw_skip ?_
      refine post_block_normal ?_
      refine post_next ?_
      refine aw_region ?_
      refine rmv ?_
      refine rgp (op_int (k := .i64) (m := x11) (n := 1) rfl rfl rfl rfl rfl rfl) ?_
      refine ras ?_
      refine reg_nil ?_
      refine post_round ?_
      exact rnd_back (ih (w_i64 (x11 + 1)) hF) (imps [0] ⟨by kernel_rfl, by kernel_rfl, by kernel_rfl, trivial⟩ ⟨by kernel_rfl, trivial⟩)
    refine aw_cond_f rfl hb23 ?_
    refine aw_exit ?_
    iterate 2 (refine post_then_exit ?_)
    obtain rfl := Option.some.inj hF
    exact post_lp_break _ ⟨_, rfl, rfl⟩ (imps [0] ⟨by kernel_rfl, by kernel_rfl, trivial⟩ ⟨by kernel_rfl, trivial⟩)
  rintro _ ⟨⟨⟩, rfl, rfl⟩
  have hF := elim_next hK35
  clear hK35
  refine post_next ?_
  iterate 2 (refine aw_seq ?_)
  refine aw_region ?_
  refine ras ?_
  refine reg_nil ?_
  refine post_imp (s' := ⟨112, [(1, some (.lp 0 0)), (3, some (.pv (.int .i64 (a0.fParams.length : Int)))), (5, some (.pv (.int .i64 0)))], [(0, some (.box 56 (bxv (eGClass a0))))], 1, [], [], 0, []⟩) (imps [0] ⟨by kernel_rfl, by kernel_rfl, by kernel_rfl, trivial⟩ ⟨by kernel_rfl, trivial⟩) ?_
  refine post_next ?_
  obtain ⟨lr99, hF, hK100⟩ := bind_some hF
  refine aw_for ((((a0.fAbove.length : Int) : Int) - (0)).toNat + 1) (fun s1 => ∃ q, lr99 = .next q ∧ s1 = ⟨112, [(1, some (.lp 0 0)), (3, some (.pv (.int .i64 (a0.fParams.length : Int))))], [(0, some (.box 56 (bxv (eGClass a0))))], 1, [], [], 0, []⟩) ?_ ?_
  · refine rnd_loop (α := Int) (fun q => ⟨112, [(1, some (.lp 0 0)), (3, some (.pv (.int .i64 (a0.fParams.length : Int)))), (5, some (.pv (.int .i64 q)))], [(0, some (.box 56 (bxv (eGClass a0))))], 1, [], [], 0, []⟩) (fun k q => ref10_class_L2 a0 k q = some lr99) 0 (imps [0] ⟨by kernel_rfl, by kernel_rfl, by kernel_rfl, trivial⟩ ⟨by kernel_rfl, trivial⟩) hF (fun q h => by cases h) ?_
    clear hF
    rintro k x56 hF ih
    refine rnd_succ ?_
    iterate 2 (refine aw_seq ?_)
    refine aw_region ?_
    refine rmv ?_
    refine rgp (op_field_lp rfl rfl Try_fld_56_3 rfl rfl) ?_
    refine rgp (op_load_lp (v := .pv (.vs 2 (List.map eGOwner a0.fAbove))) rfl rfl rfl rfl Try_one_53 rfl rfl) ?_
    refine rgp (op_len_vs (n := a0.fAbove.length) rfl rfl (List.length_map ..) Try_slc_53 rfl rfl) ?_
    refine rgp (op_int (k := .i64) (m := x56) (n := (a0.fAbove.length : Int)) rfl rfl rfl rfl rfl rfl) ?_
    refine reg_nil ?_
    refine post_imp (s' := ⟨112, [(1, some (.lp 0 0)), (3, some (.pv (.int .i64 (a0.fParams.length : Int)))), (5, some (.pv (.int .i64 x56))), (27, some (.pv (.bool (decide (x56 < (a0.fAbove.length : Int))))))], [(0, some (.box 56 (bxv (eGClass a0))))], 1, [], [], 0, []⟩) (imps [0] ⟨by kernel_rfl, by kernel_rfl, by kernel_rfl, by kernel_rfl, trivial⟩ ⟨by kernel_rfl, trivial⟩) ?_
    refine post_next ?_
    rcases ite_some hF with ⟨hb78, hF⟩ | ⟨hb78, hF⟩
    · refine aw_cond_t rfl hb78 ?_
      refine aw_skip ?_
      refine post_next ?_
      refine aw_seq ?_
      refine aw_block ?_
      refine aw_seq ?_
      refine aw_region ?_
      refine rgp (op_field_lp rfl rfl Try_fld_56_3 rfl rfl) ?_
      refine rgp (op_load_lp (v := .pv (.vs 2 (List.map eGOwner a0.fAbove))) rfl rfl rfl rfl Try_one_53 rfl rfl) ?_
      refine rmv ?_
      obtain ⟨y81, h82, hF⟩ := bind_some hF
      refine rgp (op_index_vs (k := .i64) rfl rfl rfl (idx_map eGOwner h82) Try_slc_53 rfl rfl) ?_
      refine rgp (op_field_vp rfl rfl Try_fld_26_0 rfl rfl) ?_
      refine rgp (op_load_vp (p := .int .i64 y81.fKind) rfl rfl rfl Try_one_3 rfl rfl) ?_
      refine ras ?_
      refine reg_nil ?_
      refine post_imp (s' := ⟨112, [(1, some (.lp 0 0)), (3, some (.pv (.int .i64 (a0.fParams.length : Int)))), (5, some (.pv (.int .i64 x56))), (6, some (.pv (.int .i64 y81.fKind)))], [(0, some (.box 56 (bxv (eGClass a0))))], 1, [], [], 0, []⟩) (imps [0] ⟨by kernel_rfl, by kernel_rfl, by kernel_rfl, by kernel_rfl, trivial⟩ ⟨by kernel_rfl, trivial⟩) ?_
      refine post_next ?_
      refine aw_seq ?_
      obtain ⟨x94, hF, hK96⟩ := bind_some hF
      refine aw_cut (fun s1 => s1 = ⟨112, [(1, some (.lp 0 0)), (3, some (.pv (.int .i64 (a0.fParams.length : Int)))), (5, some (.pv (.int .i64 x56))), (55, some (.pv (.bool x94)))], [(0, some (.box 56 (bxv (eGClass a0))))], 1, [], [], 0, []⟩) ?_ ?_
      · refine aw_region ?_
        refine rgp (op_field_lp rfl rfl Try_fld_56_3 rfl rfl) ?_
        refine rgp (op_load_lp (v := .pv (.vs 2 (List.map eGOwner a0.fAbove))) rfl rfl rfl rfl Try_one_53 rfl rfl) ?_
        refine rmv ?_
        obtain ⟨y87, h88, hF⟩ := bind_some hF
        refine rgp (op_index_vs (k := .i64) rfl rfl rfl (idx_map eGOwner h88) Try_slc_53 rfl rfl) ?_
        refine rgp (op_load_vp_agg (ps := eGOwner y87) rfl rfl rfl rfl Try_agg_26 rfl rfl) ?_
        refine rmv ?_
        obtain ⟨y89, h90, hF⟩ := bind_some hF
        refine rgp (op_call 1 rfl (caps := []) (args := [.agg (eGOwner y87), .int .i64 (a0.fParams.length : Int)]) (rs := [.p (.bool y89)]) rfl rfl rfl Try_cal_90 (ref04_Right_ok h90) rfl rfl rfl) ?_
        refine rgp (op_not rfl rfl rfl rfl) ?_
        refine rmv ?_
        rcases ite_some hF with ⟨hb91, hF⟩ | ⟨hb91, hF⟩
        · refine rgo_t hb91 ?_
          iterate 2 (refine rgo_t hb91 ?_)
          iterate 2 (refine rgu ?_)
          iterate 2 (refine rgo_t hb91 ?_)
          iterate 2 (refine rgu ?_)
          refine rgo_t hb91 ?_
          refine rpt hb91 ?_
          refine reg_nil ?_
          cases hF
          exact post_cut _ rfl (imps [0] ⟨by kernel_rfl, by kernel_rfl, by kernel_rfl, by kernel_rfl, trivial⟩ ⟨by kernel_rfl, trivial⟩)
        refine rgn hb91 (op_move rfl rfl rfl rfl) ?_
        refine rgn hb91 (op_int (k := .i64) (m := y81.fKind) (n := 2) rfl rfl rfl rfl rfl rfl) ?_
        refine rgn hb91 (op_move rfl rfl rfl rfl) ?_
        rcases ite_some hF with ⟨hb92, hF⟩ | ⟨hb92, hF⟩
        · refine rgn hb92 (op_move rfl rfl rfl rfl) ?_
          refine rgn hb92 (op_int (k := .i64) (m := y81.fKind) (n := 3) rfl rfl rfl rfl rfl rfl) ?_
          refine rgn hb91 (op_pick_t rfl rfl hb92 rfl rfl rfl) ?_
          refine rgn hb91 (op_move rfl rfl rfl rfl) ?_
          rcases ite_some hF with ⟨hb93, hF⟩ | ⟨hb93, hF⟩
          · refine rgn hb93 (op_move rfl rfl rfl rfl) ?_
            refine rgn hb93 (op_int (k := .i64) (m := y81.fKind) (n := 4) rfl rfl rfl rfl rfl rfl) ?_
            refine rgn hb91 (op_pick_t rfl rfl hb93 rfl rfl rfl) ?_
            refine rpf hb91 ?_
            refine reg_nil ?_
            cases hF
            exact post_cut _ rfl (imps [0] ⟨by kernel_rfl, by kernel_rfl, by kernel_rfl, by kernel_rfl, trivial⟩ ⟨by kernel_rfl, trivial⟩)
          iterate 2 (refine rgo_f hb93 ?_)
          refine rgn hb91 (op_pick_f rfl rfl hb93 rfl rfl rfl) ?_
          refine rpf hb91 ?_
          refine reg_nil ?_
          cases hF
          exact post_cut _ rfl (imps [0] ⟨by kernel_rfl, by kernel_rfl, by kernel_rfl, by kernel_rfl, trivial⟩ ⟨by kernel_rfl, trivial⟩)
        iterate 2 (refine rgo_f hb92 ?_)
        refine rgn hb91 (op_pick_f rfl rfl hb92 rfl rfl rfl) ?_
        refine rgn hb91 (op_move rfl rfl rfl rfl) ?_
        iterate 2 (refine rgo_f rfl ?_)
        refine rgn hb91 (op_pick_f rfl rfl rfl rfl rfl rfl) ?_
        refine rpf hb91 ?_
        refine reg_nil ?_
        cases hF
        exact post_cut _ rfl (imps [0] ⟨by kernel_rfl, by kernel_rfl, by kernel_rfl, by kernel_rfl, trivial⟩ ⟨by kernel_rfl, trivial⟩)
      rintro _ rfl
      have hF := hK96
      clear hK96
      refine post_next ?_
      rcases ite_some hF with ⟨hb97, hF⟩ | ⟨hb97, hF⟩
      · refine aw_cond_t rfl hb97 ?_
        refine aw_seq ?_
        refine aw_region ?_
        refine ras ?_
        refine reg_nil ?_
        refine post_imp (s' := ⟨112, [(2, some (.pv (.bool false)))], [], 0, [], [], 0, []⟩) (imps [] ⟨by kernel_rfl, trivial⟩ trivial) ?_
        refine post_next ?_
        refine aw_ret ?_
        refine post_block_ret ?_
        iterate 2 (refine post_then_ret ?_)
        refine post_lp_ret ?_
        obtain rfl := Option.some.inj hF
        have hF := elim_stop hK100
        refine post_then_ret ?_
        obtain rfl := Option.some.inj hF
        exact prt
      refine aw_cond_f rfl hb97 ?_
      refine aw_skip ?_
      refine post_block_normal ?_
      refine post_next ?_
      refine aw_region ?_
      refine rmv ?_
      refine rgp (op_int (k := .i64) (m := x56) (n := 1) rfl rfl rfl rfl rfl rfl) ?_
      refine ras ?_
      refine reg_nil ?_
      refine post_round ?_
      exact rnd_back (ih (w_i64 (x56 + 1)) hF) (imps [0] ⟨by kernel_rfl, by kernel_rfl, by kernel_rfl, trivial⟩ ⟨by kernel_rfl, trivial⟩)
    refine aw_cond_f rfl hb78 ?_
    refine aw_exit ?_
    iterate 2 (refine post_then_exit ?_)
    obtain rfl := Option.some.inj hF
    exact post_lp_break _ ⟨_, rfl, rfl⟩ (imps [0] ⟨by kernel_rfl, by kernel_rfl, trivial⟩ ⟨by kernel_rfl, trivial⟩)
  rintro _ ⟨⟨⟩, rfl, rfl⟩
  have hF := elim_next hK100
  clear hK100
  refine post_next ?_
  iterate 2 (refine aw_seq ?_)
  refine aw_region ?_
  refine ras ?_
  refine reg_nil ?_
  refine post_imp (s' := ⟨112, [(1, some (.lp 0 0)), (3, some (.pv (.int .i64 (a0.fParams.length : Int)))), (7, some (.pv (.int .i64 0)))], [(0, some (.box 56 (bxv (eGClass a0))))], 1, [], [], 0, []⟩) (imps [0] ⟨by kernel_rfl, by kernel_rfl, by kernel_rfl, trivial⟩ ⟨by kernel_rfl, trivial⟩) ?_
  refine post_next ?_
  obtain ⟨lr134, hF, hK135⟩ := bind_some hF
  refine aw_for ((((a0.fMethods.length : Int) : Int) - (0)).toNat + 1) (fun s1 => ∃ q, lr134 = .next q ∧ s1 = ⟨112, [(1, some (.lp 0 0)), (3, some (.pv (.int .i64 (a0.fParams.length : Int))))], [(0, some (.box 56 (bxv (eGClass a0))))], 1, [], [], 0, []⟩) ?_ ?_
  · refine rnd_loop (α := Int) (fun q => ⟨112, [(1, some (.lp 0 0)), (3, some (.pv (.int .i64 (a0.fParams.length : Int)))), (7, some (.pv (.int .i64 q)))], [(0, some (.box 56 (bxv (eGClass a0))))], 1, [], [], 0, []⟩) (fun k q => ref10_class_L3 a0 k q = some lr134) 0 (imps [0] ⟨by kernel_rfl, by kernel_rfl, by kernel_rfl, trivial⟩ ⟨by kernel_rfl, trivial⟩) hF (fun q h => by cases h) ?_
    clear hF
    rintro k x111 hF ih
    refine rnd_succ ?_
    iterate 2 (refine aw_seq ?_)
    refine aw_region ?_
    refine rmv ?_
    refine rgp (op_field_lp rfl rfl Try_fld_56_5 rfl rfl) ?_
    refine rgp (op_load_lp (v := .pv (.vs 17 (List.map eGMethod a0.fMethods))) rfl rfl rfl rfl Try_one_54 rfl rfl) ?_
    refine rgp (op_len_vs (n := a0.fMethods.length) rfl rfl (List.length_map ..) Try_slc_54 rfl rfl) ?_
    refine rgp (op_int (k := .i64) (m := x111) (n := (a0.fMethods.length : Int)) rfl rfl rfl rfl rfl rfl) ?_
    refine reg_nil ?_
    refine post_imp (s' := ⟨112, [(1, some (.lp 0 0)), (3, some (.pv (.int .i64 (a0.fParams.length : Int)))), (7, some (.pv (.int .i64 x111))), (60, some (.pv (.bool (decide (x111 < (a0.fMethods.length : Int))))))], [(0, some (.box 56 (bxv (eGClass a0))))], 1, [], [], 0, []⟩) (imps [0] ⟨by kernel_rfl, by kernel_rfl, by kernel_rfl, by kernel_rfl, trivial⟩ ⟨by kernel_rfl, trivial⟩) ?_
    refine post_next ?_
    rcases ite_some hF with ⟨hb123, hF⟩ | ⟨hb123, hF⟩
    · refine aw_cond_t rfl hb123 ?_
      refine aw_skip ?_
      refine post_next ?_
      refine aw_seq ?_
      refine aw_block ?_
      refine aw_seq ?_
      refine aw_region ?_
      refine rgp (op_field_lp rfl rfl Try_fld_56_5 rfl rfl) ?_
      refine rgp (op_load_lp (v := .pv (.vs 17 (List.map eGMethod a0.fMethods))) rfl rfl rfl rfl Try_one_54 rfl rfl) ?_
      refine rmv ?_
      obtain ⟨y128, h129, hF⟩ := bind_some hF
      refine rgp (op_index_vs (k := .i64) rfl rfl rfl (idx_map eGMethod h129) Try_slc_54 rfl rfl) ?_
      refine rgp (op_load_vp_agg (ps := eGMethod y128) rfl rfl rfl rfl Try_agg_33 rfl rfl) ?_
      refine rmv ?_
      obtain ⟨y130, h131, hF⟩ := bind_some hF
      refine rgp (op_call 1 rfl (caps := []) (args := [.agg (eGMethod y128), .int .i64 (a0.fParams.length : Int)]) (rs := [.p (.bool y130)]) rfl rfl rfl Try_cal_91 (ref10_method_ok h131) rfl rfl rfl) ?_
      refine rgp (op_not rfl rfl rfl rfl) ?_
      refine reg_nil ?_
      refine post_imp (s' := ⟨112, [(1, some (.lp 0 0)), (3, some (.pv (.int .i64 (a0.fParams.length : Int)))), (7, some (.pv (.int .i64 x111))), (70, some (.pv (.bool (!y130))))], [(0, some (.box 56 (bxv (eGClass a0))))], 1, [], [], 0, []⟩) (imps [0] ⟨by kernel_rfl, by kernel_rfl, by kernel_rfl, by kernel_rfl, trivial⟩ ⟨by kernel_rfl, trivial⟩) ?_
      refine post_next ?_
      rcases ite_some hF with ⟨hb132, hF⟩ | ⟨hb132, hF⟩
      · refine aw_cond_t rfl hb132 ?_
        refine aw_seq ?_
        refine aw_region ?_
        refine ras ?_
        refine reg_nil ?_
        refine post_imp (s' := ⟨112, [(2, some (.pv (.bool false)))], [], 0, [], [], 0, []⟩) (imps [] ⟨by kernel_rfl, trivial⟩ trivial) ?_
        refine post_next ?_
        refine aw_ret ?_
        refine post_block_ret ?_
        iterate 2 (refine post_then_ret ?_)
        refine post_lp_ret ?_
        obtain rfl := Option.some.inj hF
        have hF := elim_stop hK135
        refine post_then_ret ?_
        obtain rfl := Option.some.inj hF
        exact prt
      refine aw_cond_f rfl hb132 ?_
      refine aw_skip ?_
      refine post_block_normal ?_
      refine post_next ?_
      refine aw_region ?_
      refine rmv ?_
      refine rgp (op_int (k := .i64) (m := x111) (n := 1) rfl rfl rfl rfl rfl rfl) ?_
      refine ras ?_
      refine reg_nil ?_
      refine post_round ?_
      exact rnd_back (ih (w_i64 (x111 + 1)) hF) (imps [0] ⟨by kernel_rfl, by kernel_rfl, by kernel_rfl, trivial⟩ ⟨by kernel_rfl, trivial⟩)
    refine aw_cond_f rfl hb123 ?_
    refine aw_exit ?_
    iterate 2 (refine post_then_exit ?_)
    obtain rfl := Option.some.inj hF
    exact post_lp_break _ ⟨_, rfl, rfl⟩ (imps [0] ⟨by kernel_rfl, by kernel_rfl, trivial⟩ ⟨by kernel_rfl, trivial⟩)
  rintro _ ⟨⟨⟩, rfl, rfl⟩
  have hF := elim_next hK135
  clear hK135
  refine post_next ?_
  refine aw_seq ?_
  refine aw_region ?_
  refine rgp (op_field_lp rfl rfl Try_fld_56_0 rfl rfl) ?_
  refine rgp (op_load_lp (v := .pv (.str a0.fName)) rfl rfl rfl rfl Try_one_9 rfl rfl) ?_
  obtain ⟨y136, h137, hF⟩ := bind_some hF
  refine rgp (op_call 1 rfl (caps := []) (args := [.str a0.fName]) (rs := [.p (.bool y136)]) rfl rfl rfl Try_cal_89 (ref02_Name_ok h137) rfl rfl rfl) ?_
  refine rmv ?_
  rcases ite_some hF with ⟨hb138, hF⟩ | ⟨hb138, hF⟩
  · refine rgn hb138 (op_move rfl rfl rfl rfl) ?_
    refine rgn hb138 (op_int (k := .i64) (m := (a0.fParams.length : Int)) (n := 3) rfl rfl rfl rfl rfl rfl) ?_
    refine rpt hb138 ?_
    refine rmv ?_
    rcases ite_some hF with ⟨hb139, hF⟩ | ⟨hb139, hF⟩
    · refine rgn hb139 (op_field_lp rfl rfl Try_fld_56_2 rfl rfl) ?_
      refine rgn hb139 (op_load_lp (v := .pv (.str a0.fSuper)) rfl rfl rfl rfl Try_one_9 rfl rfl) ?_
      refine rgn hb139 (op_str rfl rfl rfl rfl rfl rfl) ?_
      refine rgn hb139 (op_move rfl rfl rfl rfl) ?_
      rcases ite_some hF with ⟨hb140, hF⟩ | ⟨hb140, hF⟩
      · refine rgn hb140 (op_field_lp rfl rfl Try_fld_56_3 rfl rfl) ?_
        refine rgn hb140 (op_load_lp (v := .pv (.vs 2 (List.map eGOwner a0.fAbove))) rfl rfl rfl rfl Try_one_53 rfl rfl) ?_
        refine rgn hb140 (op_len_vs (n := a0.fAbove.length) rfl rfl (List.length_map ..) Try_slc_53 rfl rfl) ?_
        refine rgn hb140 (op_int (k := .i64) (m := (a0.fAbove.length : Int)) (n := 0) rfl rfl rfl rfl rfl rfl) ?_
        refine rgn hb139 (op_pick_t rfl rfl hb140 rfl rfl rfl) ?_
        refine rgn hb139 (op_move rfl rfl rfl rfl) ?_
        rcases ite_some hF with ⟨hb141, hF⟩ | ⟨hb141, hF⟩
        · refine rgo_t hb141 ?_
          iterate 3 (refine rgo_t hb141 ?_)
          iterate 4 (refine rgu ?_)
          refine rgo_t hb141 ?_
          refine rgn hb139 (op_pick_t rfl rfl hb141 rfl rfl rfl) ?_
          refine rpt hb139 ?_
          refine rmv ?_
          refine rgn rfl (op_field_lp rfl rfl Try_fld_56_4 rfl rfl) ?_
          refine rgn rfl (op_load_lp (v := .pv (.vs 13 (List.map eGVar a0.fFields))) rfl rfl rfl rfl Try_one_30 rfl rfl) ?_
          refine rgn rfl (op_move rfl rfl rfl rfl) ?_
          obtain ⟨y142, h143, hF⟩ := bind_some hF
          refine rgn rfl (op_call 1 rfl (caps := []) (args := [.vs 13 (List.map eGVar a0.fFields), .int .i64 12, .int .i64 (a0.fParams.length : Int)]) (rs := [.p (.bool y142)]) rfl rfl rfl Try_cal_92 (ref10_vars_ok h143) rfl rfl rfl) ?_
          refine rpt rfl ?_
          refine rmv ?_
          rcases ite_some hF with ⟨hb144, hF⟩ | ⟨hb144, hF⟩
          · refine rgn hb144 (op_field_lp rfl rfl Try_fld_56_5 rfl rfl) ?_
            refine rgn hb144 (op_load_lp (v := .pv (.vs 17 (List.map eGMethod a0.fMethods))) rfl rfl rfl rfl Try_one_54 rfl rfl) ?_
            refine rgn hb144 (op_len_vs (n := a0.fMethods.length) rfl rfl (List.length_map ..) Try_slc_54 rfl rfl) ?_
            refine rgn hb144 (op_int (k := .i64) (m := (a0.fMethods.length : Int)) (n := 12) rfl rfl rfl rfl rfl rfl) ?_
            refine rpt hb144 ?_
            refine ras ?_
            refine reg_nil ?_
            refine post_imp (s' := ⟨112, [(2, some (.pv (.bool (decide ((a0.fMethods.length : Int) ≤ 12)))))], [], 0, [], [], 0, []⟩) (imps [] ⟨by kernel_rfl, trivial⟩ trivial) ?_
            refine post_next ?_
            refine aw_ret ?_
            obtain rfl := Option.some.inj hF
            exact prt
          iterate 4 (refine rgo_f hb144 ?_)
          refine rpf hb144 ?_
          refine ras ?_
          refine reg_nil ?_
          refine post_imp (s' := ⟨112, [(2, some (.pv (.bool false)))], [], 0, [], [], 0, []⟩) (imps [] ⟨by kernel_rfl, trivial⟩ trivial) ?_
          refine post_next ?_
          refine aw_ret ?_
          obtain rfl := Option.some.inj hF
          exact prt
        refine rgn hb141 (op_field_lp rfl rfl Try_fld_56_2 rfl rfl) ?_
        refine rgn hb141 (op_load_lp (v := .pv (.str a0.fSuper)) rfl rfl rfl rfl Try_one_9 rfl rfl) ?_
        obtain ⟨y145, h146, hF⟩ := bind_some hF
        refine rgn hb141 (op_call 1 rfl (caps := []) (args := [.str a0.fSuper]) (rs := [.p (.bool y145)]) rfl rfl rfl Try_cal_89 (ref02_Name_ok h146) rfl rfl rfl) ?_
        refine rgn hb141 (op_move rfl rfl rfl rfl) ?_
        rcases ite_some hF with ⟨hb147, hF⟩ | ⟨hb147, hF⟩
        · refine rgn hb147 (op_field_lp rfl rfl Try_fld_56_3 rfl rfl) ?_
          refine rgn hb147 (op_load_lp (v := .pv (.vs 2 (List.map eGOwner a0.fAbove))) rfl rfl rfl rfl Try_one_53 rfl rfl) ?_
          refine rgn hb147 (op_len_vs (n := a0.fAbove.length) rfl rfl (List.length_map ..) Try_slc_53 rfl rfl) ?_
          refine rgn hb147 (op_int (k := .i64) (m := (a0.fAbove.length : Int)) (n := 3) rfl rfl rfl rfl rfl rfl) ?_
          refine rgn hb141 (op_pick_t rfl rfl hb147 rfl rfl rfl) ?_
          refine rgn hb139 (op_pick_f rfl rfl hb141 rfl rfl rfl) ?_
          refine rpt hb139 ?_
          refine rmv ?_
          rcases ite_some hF with ⟨hb148, hF⟩ | ⟨hb148, hF⟩
          · refine rgn hb148 (op_field_lp rfl rfl Try_fld_56_4 rfl rfl) ?_
            refine rgn hb148 (op_load_lp (v := .pv (.vs 13 (List.map eGVar a0.fFields))) rfl rfl rfl rfl Try_one_30 rfl rfl) ?_
            refine rgn hb148 (op_move rfl rfl rfl rfl) ?_
            obtain ⟨y149, h150, hF⟩ := bind_some hF
            refine rgn hb148 (op_call 1 rfl (caps := []) (args := [.vs 13 (List.map eGVar a0.fFields), .int .i64 12, .int .i64 (a0.fParams.length : Int)]) (rs := [.p (.bool y149)]) rfl rfl rfl Try_cal_92 (ref10_vars_ok h150) rfl rfl rfl) ?_
            refine rpt hb148 ?_
            refine rmv ?_
            rcases ite_some hF with ⟨hb151, hF⟩ | ⟨hb151, hF⟩
            · refine rgn hb151 (op_field_lp rfl rfl Try_fld_56_5 rfl rfl) ?_
              refine rgn hb151 (op_load_lp (v := .pv (.vs 17 (List.map eGMethod a0.fMethods))) rfl rfl rfl rfl Try_one_54 rfl rfl) ?_
              refine rgn hb151 (op_len_vs (n := a0.fMethods.length) rfl rfl (List.length_map ..) Try_slc_54 rfl rfl) ?_
              refine rgn hb151 (op_int (k := .i64) (m := (a0.fMethods.length : Int)) (n := 12) rfl rfl rfl rfl rfl rfl) ?_
              refine rpt hb151 ?_
              refine ras ?_
              refine reg_nil ?_
              refine post_imp (s' := ⟨112, [(2, some (.pv (.bool (decide ((a0.fMethods.length : Int) ≤ 12)))))], [], 0, [], [], 0, []⟩) (imps [] ⟨by kernel_rfl, trivial⟩ trivial) ?_
              refine post_next ?_
              refine aw_ret ?_
              obtain rfl := Option.some.inj hF
              exact prt
            iterate 4 (refine rgo_f hb151 ?_)
            refine rpf hb151 ?_
            refine ras ?_
            refine reg_nil ?_
            refine post_imp (s' := ⟨112, [(2, some (.pv (.bool false)))], [], 0, [], [], 0, []⟩) (imps [] ⟨by kernel_rfl, trivial⟩ trivial) ?_
            refine post_next ?_
            refine aw_ret ?_
            obtain rfl := Option.some.inj hF
            exact prt
          iterate 4 (refine rgo_f hb148 ?_)
          refine rpf hb148 ?_
          refine rmv ?_
          iterate 4 (refine rgo_f rfl ?_)
          refine rpf rfl ?_
          refine ras ?_
          refine reg_nil ?_
          refine post_imp (s' := ⟨112, [(2, some (.pv (.bool false)))], [], 0, [], [], 0, []⟩) (imps [] ⟨by kernel_rfl, trivial⟩ trivial) ?_
          refine post_next ?_
          refine aw_ret ?_
          obtain rfl := Option.some.inj hF
          exact prt
        iterate 4 (refine rgo_f hb147 ?_)
        refine rgn hb141 (op_pick_f rfl rfl hb147 rfl rfl rfl) ?_
        refine rgn hb139 (op_pick_f rfl rfl hb141 rfl rfl rfl) ?_
        refine rpt hb139 ?_
        refine rmv ?_
        iterate 4 (refine rgo_f rfl ?_)
        refine rpf rfl ?_
        refine rmv ?_
        iterate 4 (refine rgo_f rfl ?_)
        refine rpf rfl ?_
        refine ras ?_
        refine reg_nil ?_
        refine post_imp (s' := ⟨112, [(2, some (.pv (.bool false)))], [], 0, [], [], 0, []⟩) (imps [] ⟨by kernel_rfl, trivial⟩ trivial) ?_
        refine post_next ?_
        refine aw_ret ?_
        obtain rfl := Option.some.inj hF
        exact prt
      iterate 4 (refine rgo_f hb140 ?_)
      refine rgn hb139 (op_pick_f rfl rfl hb140 rfl rfl rfl) ?_
      refine rgn hb139 (op_move rfl rfl rfl rfl) ?_
      refine rgn rfl (op_field_lp rfl rfl Try_fld_56_2 rfl rfl) ?_
      refine rgn rfl (op_load_lp (v := .pv (.str a0.fSuper)) rfl rfl rfl rfl Try_one_9 rfl rfl) ?_
      obtain ⟨y152, h153, hF⟩ := bind_some hF
      refine rgn rfl (op_call 1 rfl (caps := []) (args := [.str a0.fSuper]) (rs := [.p (.bool y152)]) rfl rfl rfl Try_cal_89 (ref02_Name_ok h153) rfl rfl rfl) ?_
      refine rgn rfl (op_move rfl rfl rfl rfl) ?_
      rcases ite_some hF with ⟨hb154, hF⟩ | ⟨hb154, hF⟩
      · refine rgn hb154 (op_field_lp rfl rfl Try_fld_56_3 rfl rfl) ?_
        refine rgn hb154 (op_load_lp (v := .pv (.vs 2 (List.map eGOwner a0.fAbove))) rfl rfl rfl rfl Try_one_53 rfl rfl) ?_
        refine rgn hb154 (op_len_vs (n := a0.fAbove.length) rfl rfl (List.length_map ..) Try_slc_53 rfl rfl) ?_
        refine rgn hb154 (op_int (k := .i64) (m := (a0.fAbove.length : Int)) (n := 3) rfl rfl rfl rfl rfl rfl) ?_
        refine rgn rfl (op_pick_t rfl rfl hb154 rfl rfl rfl) ?_
        refine rgn hb139 (op_pick_f rfl rfl rfl rfl rfl rfl) ?_
        refine rpt hb139 ?_
        refine rmv ?_
        rcases ite_some hF with ⟨hb155, hF⟩ | ⟨hb155, hF⟩
        · refine rgn hb155 (op_field_lp rfl rfl Try_fld_56_4 rfl rfl) ?_
          refine rgn hb155 (op_load_lp (v := .pv (.vs 13 (List.map eGVar a0.fFields))) rfl rfl rfl rfl Try_one_30 rfl rfl) ?_
          refine rgn hb155 (op_move rfl rfl rfl rfl) ?_
          obtain ⟨y156, h157, hF⟩ := bind_some hF
          refine rgn hb155 (op_call 1 rfl (caps := []) (args := [.vs 13 (List.map eGVar a0.fFields), .int .i64 12, .int .i64 (a0.fParams.length : Int)]) (rs := [.p (.bool y156)]) rfl rfl rfl Try_cal_92 (ref10_vars_ok h157) rfl rfl rfl) ?_
          refine rpt hb155 ?_
          refine rmv ?_
          rcases ite_some hF with ⟨hb158, hF⟩ | ⟨hb158, hF⟩
          · refine rgn hb158 (op_field_lp rfl rfl Try_fld_56_5 rfl rfl) ?_
            refine rgn hb158 (op_load_lp (v := .pv (.vs 17 (List.map eGMethod a0.fMethods))) rfl rfl rfl rfl Try_one_54 rfl rfl) ?_
            refine rgn hb158 (op_len_vs (n := a0.fMethods.length) rfl rfl (List.length_map ..) Try_slc_54 rfl rfl) ?_
            refine rgn hb158 (op_int (k := .i64) (m := (a0.fMethods.length : Int)) (n := 12) rfl rfl rfl rfl rfl rfl) ?_
            refine rpt hb158 ?_
            refine ras ?_
            refine reg_nil ?_
            refine post_imp (s' := ⟨112, [(2, some (.pv (.bool (decide ((a0.fMethods.length : Int) ≤ 12)))))], [], 0, [], [], 0, []⟩) (imps [] ⟨by kernel_rfl, trivial⟩ trivial) ?_
            refine post_next ?_
            refine aw_ret ?_
            obtain rfl := Option.some.inj hF
            exact prt
          iterate 4 (refine rgo_f hb158 ?_)
          refine rpf hb158 ?_
          refine ras ?_
          refine reg_nil ?_
          refine post_imp (s' := ⟨112, [(2, some (.pv (.bool false)))], [], 0, [], [], 0, []⟩) (imps [] ⟨by kernel_rfl, trivial⟩ trivial) ?_
          refine post_next ?_
          refine aw_ret ?_
          obtain rfl := Option.some.inj hF
          exact prt
        iterate 4 (refine rgo_f hb155 ?_)
        refine rpf hb155 ?_
        refine rmv ?_
        iterate 4 (refine rgo_f rfl ?_)
        refine rpf rfl ?_
        refine ras ?_
        refine reg_nil ?_
        refine post_imp (s' := ⟨112, [(2, some (.pv (.bool false)))], [], 0, [], [], 0, []⟩) (imps [] ⟨by kernel_rfl, trivial⟩ trivial) ?_
        refine post_next ?_
        refine aw_ret ?_
        obtain rfl := Option.some.inj hF
        exact prt
      iterate 4 (refine rgo_f hb154 ?_)
      refine rgn rfl (op_pick_f rfl rfl hb154 rfl rfl rfl) ?_
      refine rgn hb139 (op_pick_f rfl rfl rfl rfl rfl rfl) ?_
      refine rpt hb139 ?_
      refine rmv ?_
      iterate 4 (refine rgo_f rfl ?_)
      refine rpf rfl ?_
      refine rmv ?_
      iterate 4 (refine rgo_f rfl ?_)
      refine rpf rfl ?_
      refine ras ?_
      refine reg_nil ?_
      refine post_imp (s' := ⟨112, [(2, some (.pv (.bool false)))], [], 0, [], [], 0, []⟩) (imps [] ⟨by kernel_rfl, trivial⟩ trivial) ?_
      refine post_next ?_
      refine aw_ret ?_
      obtain rfl := Option.some.inj hF
      exact prt
    iterate 4 (refine rgo_f hb139 ?_)
    iterate 4 (refine rgu ?_)
    iterate 2 (refine rgo_f hb139 ?_)
    iterate 9 (refine rgu ?_)
    refine rgo_f hb139 ?_
    refine rpf hb139 ?_
    refine rmv ?_
    iterate 4 (refine rgo_f rfl ?_)
    refine rpf rfl ?_
    refine rmv ?_
    iterate 4 (refine rgo_f rfl ?_)
    refine rpf rfl ?_
    refine ras ?_
    refine reg_nil ?_
    refine post_imp (s' := ⟨112, [(2, some (.pv (.bool false)))], [], 0, [], [], 0, []⟩) (imps [] ⟨by kernel_rfl, trivial⟩ trivial) ?_
    refine post_next ?_
    refine aw_ret ?_
    obtain rfl := Option.some.inj hF
    exact prt
  iterate 2 (refine rgo_f hb138 ?_)
  refine rpf hb138 ?_
  refine rmv ?_
  iterate 4 (refine rgo_f rfl ?_)
  iterate 4 (refine rgu ?_)
  iterate 2 (refine rgo_f rfl ?_)
  iterate 9 (refine rgu ?_)
  refine rgo_f rfl ?_
  refine rpf rfl ?_
  refine rmv ?_
  iterate 4 (refine rgo_f rfl ?_)
  refine rpf rfl ?_
  refine rmv ?_
  iterate 4 (refine rgo_f rfl ?_)
  refine rpf rfl ?_
  refine ras ?_
  refine reg_nil ?_
  refine post_imp (s' := ⟨112, [(2, some (.pv (.bool false)))], [], 0, [], [], 0, []⟩) (imps [] ⟨by kernel_rfl, trivial⟩ trivial) ?_
  refine post_next ?_
  refine aw_ret ?_
  obtain rfl := Option.some.inj hF
  exact prt
theorem ref09_Stmts_ok {a0 : GClass} {r : Int} (hF : ref09_Stmts a0 = some r) : Abs.Fn Try.prog 71 [.agg (eGClass a0)] [.p (.int .i64 r)] := by
  unfold ref09_Stmts at hF
  refine fn_of_body (n := 37) Try.func71 rfl rfl rfl ?_
  intro w O
  refine aw_seq ?_
  refine aw_region ?_
  refine rgp (op_box 0 rfl rfl rfl rfl rfl rfl) ?_
  refine ras ?_
  refine reg_nil ?_
  refine post_imp (s' := ⟨37, [(1, some (.lp 0 0))], [(0, some (.box 56 (bxv (eGClass a0))))], 1, [], [], 0, []⟩) (imps [0] ⟨by kernel_rfl, trivial⟩ ⟨by kernel_rfl, trivial⟩) ?_
  refine post_next ?_
  refine aw_seq ?_
  refine aw_region ?_
  refine ras ?_
  refine reg_nil ?_
  refine post_imp (s' := ⟨37, [(1, some (.lp 0 0)), (3, some (.pv (.int .i64 0)))], [(0, some (.box 56 (bxv (eGClass a0))))], 1, [], [], 0, []⟩) (imps [0] ⟨by kernel_rfl, by kernel_rfl, trivial⟩ ⟨by kernel_rfl, trivial⟩) ?_
  refine post_next ?_
  iterate 2 (refine aw_seq ?_)
  refine aw_region ?_
  refine ras ?_
  refine reg_nil ?_
  refine post_imp (s' := ⟨37, [(1, some (.lp 0 0)), (3, some (.pv (.int .i64 0))), (4, some (.pv (.int .i64 0)))], [(0, some (.box 56 (bxv (eGClass a0))))], 1, [], [], 0, []⟩) (imps [0] ⟨by kernel_rfl, by kernel_rfl, by kernel_rfl, trivial⟩ ⟨by kernel_rfl, trivial⟩) ?_
  refine post_next ?_
  obtain ⟨x193, hF, hK194⟩ := bind_some hF
  refine aw_for ((((a0.fMethods.length : Int) : Int) - (0)).toNat + 1) (fun s1 => s1 = ⟨37, [(3, some (.pv (.int .i64 x193)))], [], 0, [], [], 0, []⟩) ?_ ?_
  · refine rnd_loop (α := Int × Int) (fun q => ⟨37, [(1, some (.lp 0 0)), (3, some (.pv (.int .i64 q.1))), (4, some (.pv (.int .i64 q.2)))], [(0, some (.box 56 (bxv (eGClass a0))))], 1, [], [], 0, []⟩) (fun k q => ref09_Stmts_L1 a0 k q.1 q.2 = some x193) (0, 0) (imps [0] ⟨by kernel_rfl, by kernel_rfl, by kernel_rfl, trivial⟩ ⟨by kernel_rfl, trivial⟩) hF (fun q h => by cases h) ?_
    clear hF
    rintro k ⟨x63, x64⟩ hF ih
    refine rnd_succ ?_
    iterate 2 (refine aw_seq ?_)
    refine aw_region ?_
    refine rmv ?_
    refine rgp (op_field_lp rfl rfl Try_fld_56_5 rfl rfl) ?_
    refine rgp (op_load_lp (v := .pv (.vs 17 (List.map eGMethod a0.fMethods))) rfl rfl rfl rfl Try_one_54 rfl rfl) ?_
    refine rgp (op_len_vs (n := a0.fMethods.length) rfl rfl (List.length_map ..) Try_slc_54 rfl rfl) ?_
    refine rgp (op_int (k := .i64) (m := x64) (n := (a0.fMethods.length : Int)) rfl rfl rfl rfl rfl rfl) ?_
    refine reg_nil ?_
    refine post_imp (s' := ⟨37, [(1, some (.lp 0 0)), (3, some (.pv (.int .i64 x63))), (4, some (.pv (.int .i64 x64))), (10, some (.pv (.bool (decide (x64 < (a0.fMethods.length : Int))))))], [(0, some (.box 56 (bxv (eGClass a0))))], 1, [], [], 0, []⟩) (imps [0] ⟨by kernel_rfl, by kernel_rfl, by kernel_rfl, by kernel_rfl, trivial⟩ ⟨by kernel_rfl, trivial⟩) ?_
    refine post_next ?_
    rcases ite_some hF with ⟨hb129, hF⟩ | ⟨hb129, hF⟩
    · refine aw_cond_t rfl hb129 ?_
      refine aw_skip ?_
      refine post_next ?_
      refine aw_seq ?_
      refine aw_block ?_
      refine aw_seq ?_
      refine aw_region ?_
      refine ras ?_
      refine reg_nil ?_
      refine post_imp (s' := ⟨37, [(1, some (.lp 0 0)), (3, some (.pv (.int .i64 x63))), (4, some (.pv (.int .i64 x64))), (5, some (.pv (.int .i64 0)))], [(0, some (.box 56 (bxv (eGClass a0))))], 1, [], [], 0, []⟩) (imps [0] ⟨by kernel_rfl, by kernel_rfl, by kernel_rfl, by kernel_rfl, trivial⟩ ⟨by kernel_rfl, trivial⟩) ?_
      refine post_next ?_
      obtain ⟨x187, hF, hK188⟩ := bind_some hF
      refine aw_for (Option.getD (Option.bind (idx a0.fMethods x64) fun (y189 : GMethod) => some ((((y189.fBody.length : Int) : Int) - (0)).toNat + 1)) 1) (fun s1 => s1 = ⟨37, [(1, some (.lp 0 0)), (3, some (.pv (.int .i64 x187))), (4, some (.pv (.int .i64 x64)))], [(0, some (.box 56 (bxv (eGClass a0))))], 1, [], [], 0, []⟩) ?_ ?_
      · refine rnd_loop (α := Int × Int) (fun q => ⟨37, [(1, some (.lp 0 0)), (3, some (.pv (.int .i64 q.1))), (4, some (.pv (.int .i64 x64))), (5, some (.pv (.int .i64 q.2)))], [(0, some (.box 56 (bxv (eGClass a0))))], 1, [], [], 0, []⟩) (fun k q => ref09_Stmts_L2 a0 x64 k q.1 q.2 = some x187) (x63, 0) (imps [0] ⟨by kernel_rfl, by kernel_rfl, by kernel_rfl, by kernel_rfl, trivial⟩ ⟨by kernel_rfl, trivial⟩) hF (fun q h => by cases h) ?_
        clear hF
        rintro k ⟨x147, x148⟩ hF ih
        refine rnd_succ ?_
        iterate 2 (refine aw_seq ?_)
        refine aw_region ?_
        refine rmv ?_
        refine rgp (op_field_lp rfl rfl Try_fld_56_5 rfl rfl) ?_
        refine rgp (op_load_lp (v := .pv (.vs 17 (List.map eGMethod a0.fMethods))) rfl rfl rfl rfl Try_one_54 rfl rfl) ?_
        refine rmv ?_
        obtain ⟨y170, h171, hF⟩ := bind_some hF
        refine rgp (op_index_vs (k := .i64) rfl rfl rfl (idx_map eGMethod h171) Try_slc_54 rfl rfl) ?_
        refine rgp (op_field_vp rfl rfl Try_fld_33_5 rfl rfl) ?_
        refine rgp (op_load_vp (p := .vs 23 (eLGStmt y170.fBody)) rfl rfl rfl Try_one_31 rfl rfl) ?_
        refine rgp (op_len_vs (n := y170.fBody.length) rfl rfl (lenR eLGStmt_map) Try_slc_31 rfl rfl) ?_
        refine rgp (op_int (k := .i64) (m := x148) (n := (y170.fBody.length : Int)) rfl rfl rfl rfl rfl rfl) ?_
        refine reg_nil ?_
        refine post_imp (s' := ⟨37, [(1, some (.lp 0 0)), (3, some (.pv (.int .i64 x147))), (4, some (.pv (.int .i64 x64))), (5, some (.pv (.int .i64 x148))), (21, some (.pv (.bool (decide (x148 < (y170.fBody.length : Int))))))], [(0, some (.box 56 (bxv (eGClass a0))))], 1, [], [], 0, []⟩) (imps [0] ⟨by kernel_rfl, by kernel_rfl, by kernel_rfl, by kernel_rfl, by kernel_rfl, trivial⟩ ⟨by kernel_rfl, trivial⟩) ?_
        refine post_next ?_
        rcases ite_some hF with ⟨hb172, hF⟩ | ⟨hb172, hF⟩
        · refine aw_cond_t rfl hb172 ?_
          refine aw_skip ?_
          refine post_next ?_
          refine aw_seq ?_
          refine aw_block ?_
          refine aw_region ?_
          refine rmv ?_
          refine rgp (op_field_lp rfl rfl Try_fld_56_5 rfl rfl) ?_
          refine rgp (op_load_lp (v := .pv (.vs 17 (List.map eGMethod a0.fMethods))) rfl rfl rfl rfl Try_one_54 rfl rfl) ?_
          refine rmv ?_
          obtain ⟨y179, h180, hF⟩ := bind_some hF
          refine rgp (op_index_vs (k := .i64) rfl rfl rfl (idx_map eGMethod h180) Try_slc_54 rfl rfl) ?_
          refine rgp (op_field_vp rfl rfl Try_fld_33_5 rfl rfl) ?_
          refine rgp (op_load_vp (p := .vs 23 (eLGStmt y179.fBody)) rfl rfl rfl Try_one_31 rfl rfl) ?_
          refine rmv ?_
          obtain ⟨y181, h182, hF⟩ := bind_some hF
          refine rgp (op_index_vs (k := .i64) rfl rfl rfl (idxR eLGStmt_map h182) Try_slc_31 rfl rfl) ?_
          refine rgp (op_load_vp_agg (ps := eGStmt y181) rfl rfl rfl rfl Try_agg_83 rfl rfl) ?_
          obtain ⟨y183, h184, hF⟩ := bind_some hF
          refine rgp (op_call 1 rfl (caps := []) (args := [.agg (eGStmt y181)]) (rs := [.p (.int .i64 y183)]) rfl rfl rfl Try_cal_40 (ref08_Size_ok h184) rfl rfl rfl) ?_
          refine rgp (op_int (k := .i64) (m := x147) (n := y183) rfl rfl rfl rfl rfl rfl) ?_
          refine ras ?_
          refine reg_nil ?_
          refine post_imp (s' := ⟨37, [(1, some (.lp 0 0)), (3, some (.pv (.int .i64 (w_i64 (x147 + y183))))), (4, some (.pv (.int .i64 x64))), (5, some (.pv (.int .i64 x148)))], [(0, some (.box 56 (bxv (eGClass a0))))], 1, [], [], 0, []⟩) (imps [0] ⟨by kernel_rfl, by kernel_rfl, by kernel_rfl, by kernel_rfl, trivial⟩ ⟨by kernel_rfl, trivial⟩) ?_
          refine post_block_normal ?_
          refine post_next ?_
          refine aw_region ?_
          refine rmv ?_
          refine rgp (op_int (k := .i64) (m := x148) (n := 1) rfl rfl rfl rfl rfl rfl) ?_
          refine ras ?_
          refine reg_nil ?_
          refine post_round ?_
          exact rnd_back (ih (w_i64 (x147 + y183), w_i64 (x148 + 1)) hF) (imps [0] ⟨by kernel_rfl, by kernel_rfl, by kernel_rfl, by kernel_rfl, trivial⟩ ⟨by kernel_rfl, trivial⟩)
        refine aw_cond_f rfl hb172 ?_
        refine aw_exit ?_
        iterate 2 (refine post_then_exit ?_)
        obtain rfl := Option.some.inj hF
        exact post_lp_break _ rfl (imps [0] ⟨by kernel_rfl, by kernel_rfl, by kernel_rfl, trivial⟩ ⟨by kernel_rfl, trivial⟩)
      rintro _ rfl
      have hF := hK188
      clear hK188
      refine post_block_normal ?_
      refine post_next ?_
      refine aw_region ?_
      refine rmv ?_
      refine rgp (op_int (k := .i64) (m := x64) (n := 1) rfl rfl rfl rfl rfl rfl) ?_
      refine ras ?_
      refine reg_nil ?_
      refine post_round ?_
      exact rnd_back (ih (x187, w_i64 (x64 + 1)) hF) (imps [0] ⟨by kernel_rfl, by kernel_rfl, by kernel_rfl, trivial⟩ ⟨by kernel_rfl, trivial⟩)
    refine aw_cond_f rfl hb129 ?_
    refine aw_exit ?_
    iterate 2 (refine post_then_exit ?_)
    obtain rfl := Option.some.inj hF
    exact post_lp_break _ rfl (imps [] ⟨by kernel_rfl, trivial⟩ trivial)
  rintro _ rfl
  have hF := hK194
  clear hK194
  refine post_next ?_
  refine aw_seq ?_
  refine aw_region ?_
  refine rmv ?_
  refine ras ?_
  refine reg_nil ?_
  refine post_imp (s' := ⟨37, [(2, some (.pv (.int .i64 x193)))], [], 0, [], [], 0, []⟩) (imps [] ⟨by kernel_rfl, trivial⟩ trivial) ?_
  refine post_next ?_
  refine aw_ret ?_
  obtain rfl := Option.some.inj hF
  exact prt
theorem ref10_Right_ok {a0 : List GClass} {r : Bool} (hF : ref10_Right a0 = some r) : Abs.Fn Try.prog 46 [.vs 7 (List.map eGClass a0)] [.p (.bool r)] := by
  unfold ref10_Right at hF
  refine fn_of_body (n := 31) Try.func46 rfl rfl rfl ?_
  intro w O
  refine aw_seq ?_
  refine aw_region ?_
  refine ras ?_
  refine reg_nil ?_
  refine post_imp (s' := ⟨31, [(0, some (.pv (.vs 7 (List.map eGClass a0))))], [], 0, [], [], 0, []⟩) (imps [] ⟨by kernel_rfl, trivial⟩ trivial) ?_
  refine post_next ?_
  refine aw_seq ?_
  refine aw_region ?_
  refine ras ?_
  refine reg_nil ?_
  refine post_imp (s' := ⟨31, [(0, some (.pv (.vs 7 (List.map eGClass a0)))), (3, some (.pv (.int .i64 0)))], [], 0, [], [], 0, []⟩) (imps [] ⟨by kernel_rfl, by kernel_rfl, trivial⟩ trivial) ?_
  refine post_next ?_
  iterate 2 (refine aw_seq ?_)
  refine aw_region ?_
  refine ras ?_
  refine reg_nil ?_
  refine post_imp (s' := ⟨31, [(0, some (.pv (.vs 7 (List.map eGClass a0)))), (3, some (.pv (.int .i64 0))), (4, some (.pv (.int .i64 0)))], [], 0, [], [], 0, []⟩) (imps [] ⟨by kernel_rfl, by kernel_rfl, by kernel_rfl, trivial⟩ trivial) ?_
  refine post_next ?_
  obtain ⟨lr62, hF, hK63⟩ := bind_some hF
  refine aw_for ((((a0.length : Int) : Int) - (0)).toNat + 1) (fun s1 => ∃ q, lr62 = .next q ∧ s1 = ⟨31, [(3, some (.pv (.int .i64 q)))], [], 0, [], [], 0, []⟩) ?_ ?_
  · refine rnd_loop (α := Int × Int) (fun q => ⟨31, [(0, some (.pv (.vs 7 (List.map eGClass a0)))), (3, some (.pv (.int .i64 q.1))), (4, some (.pv (.int .i64 q.2)))], [], 0, [], [], 0, []⟩) (fun k q => ref10_Right_L1 a0 k q.1 q.2 = some lr62) (0, 0) (imps [] ⟨by kernel_rfl, by kernel_rfl, by kernel_rfl, trivial⟩ trivial) hF (fun q h => by cases h) ?_
    clear hF
    rintro k ⟨x19, x20⟩ hF ih
    refine rnd_succ ?_
    iterate 2 (refine aw_seq ?_)
    refine aw_region ?_
    iterate 2 (refine rmv ?_)
    refine rgp (op_len_vs (n := a0.length) rfl rfl (List.length_map ..) Try_slc_22 rfl rfl) ?_
    refine rgp (op_int (k := .i64) (m := x20) (n := (a0.length : Int)) rfl rfl rfl rfl rfl rfl) ?_
    refine reg_nil ?_
    refine post_imp (s' := ⟨31, [(0, some (.pv (.vs 7 (List.map eGClass a0)))), (3, some (.pv (.int .i64 x19))), (4, some (.pv (.int .i64 x20))), (8, some (.pv (.bool (decide (x20 < (a0.length : Int))))))], [], 0, [], [], 0, []⟩) (imps [] ⟨by kernel_rfl, by kernel_rfl, by kernel_rfl, by kernel_rfl, trivial⟩ trivial) ?_
    refine post_next ?_
    rcases ite_some hF with ⟨hb41, hF⟩ | ⟨hb41, hF⟩
    · refine aw_cond_t rfl hb41 ?_
      refine aw_skip ?_
      refine post_next ?_
      refine aw_seq ?_
      refine aw_block ?_
      iterate 2 (refine aw_seq ?_)
      obtain ⟨x47, hF, hK49⟩ := bind_some hF
      refine aw_cut (fun s1 => s1 = ⟨31, [(0, some (.pv (.vs 7 (List.map eGClass a0)))), (3, some (.pv (.int .i64 x19))), (4, some (.pv (.int .i64 x20))), (21, some (.pv (.bool x47)))], [], 0, [], [], 0, []⟩) ?_ ?_
      · refine aw_region ?_
        refine rmv ?_
        refine rgp (op_len_vs (n := a0.length) rfl rfl (List.length_map ..) Try_slc_22 rfl rfl) ?_
        refine rgp (op_int (k := .i64) (m := (a0.length : Int)) (n := 20) rfl rfl rfl rfl rfl rfl) ?_
        refine rmv ?_
        rcases ite_some hF with ⟨hb42, hF⟩ | ⟨hb42, hF⟩
        · refine rgo_t hb42 ?_
          iterate 5 (refine rgo_t hb42 ?_)
          refine rpt hb42 ?_
          refine reg_nil ?_
          cases hF
          exact post_cut _ rfl (imps [] ⟨by kernel_rfl, by kernel_rfl, by kernel_rfl, by kernel_rfl, trivial⟩ trivial)
        iterate 2 (refine rgn hb42 (op_move rfl rfl rfl rfl) ?_)
        obtain ⟨y43, h44, hF⟩ := bind_some hF
        refine rgn hb42 (op_index_vs (k := .i64) rfl rfl rfl (idx_map eGClass h44) Try_slc_22 rfl rfl) ?_
        refine rgn hb42 (op_load_vp_agg (ps := eGClass y43) rfl rfl rfl rfl Try_agg_56 rfl rfl) ?_
        obtain ⟨y45, h46, hF⟩ := bind_some hF
        refine rgn hb42 (op_call 0 rfl (caps := []) (args := [.agg (eGClass y43)]) (rs := [.p (.bool y45)]) rfl rfl rfl Try_cal_70 (ref10_class_ok h46) rfl rfl rfl) ?_
        refine rgn hb42 (op_not rfl rfl rfl rfl) ?_
        refine rpf hb42 ?_
        refine reg_nil ?_
        cases hF
        exact post_cut _ rfl (imps [] ⟨by kernel_rfl, by kernel_rfl, by kernel_rfl, by kernel_rfl, trivial⟩ trivial)
      rintro _ rfl
      have hF := hK49
      clear hK49
      refine post_next ?_
      rcases ite_some hF with ⟨hb50, hF⟩ | ⟨hb50, hF⟩
      · refine aw_cond_t rfl hb50 ?_
        refine aw_seq ?_
        refine aw_region ?_
        refine ras ?_
        refine reg_nil ?_
        refine post_imp (s' := ⟨31, [(2, some (.pv (.bool false)))], [], 0, [], [], 0, []⟩) (imps [] ⟨by kernel_rfl, trivial⟩ trivial) ?_
        refine post_next ?_
        refine aw_ret ?_
        refine post_then_ret ?_
        refine post_block_ret ?_
        iterate 2 (refine post_then_ret ?_)
        refine post_lp_ret ?_
        obtain rfl := Option.some.inj hF
        have hF := elim_stop hK63
        refine post_then_ret ?_
        obtain rfl := Option.some.inj hF
        exact prt
      refine aw_cond_f rfl hb50 ?_
      refine aw_skip ?_
      refine post_next ?_
      refine aw_region ?_
      iterate 3 (refine rmv ?_)
      obtain ⟨y55, h56, hF⟩ := bind_some hF
      refine rgp (op_index_vs (k := .i64) rfl rfl rfl (idx_map eGClass h56) Try_slc_22 rfl rfl) ?_
      refine rgp (op_load_vp_agg (ps := eGClass y55) rfl rfl rfl rfl Try_agg_56 rfl rfl) ?_
      obtain ⟨y57, h58, hF⟩ := bind_some hF
      refine rgp (op_call 0 rfl (caps := []) (args := [.agg (eGClass y55)]) (rs := [.p (.int .i64 y57)]) rfl rfl rfl Try_cal_71 (ref09_Stmts_ok h58) rfl rfl rfl) ?_
      refine rgp (op_int (k := .i64) (m := x19) (n := y57) rfl rfl rfl rfl rfl rfl) ?_
      refine ras ?_
      refine reg_nil ?_
      refine post_imp (s' := ⟨31, [(0, some (.pv (.vs 7 (List.map eGClass a0)))), (3, some (.pv (.int .i64 (w_i64 (x19 + y57))))), (4, some (.pv (.int .i64 x20)))], [], 0, [], [], 0, []⟩) (imps [] ⟨by kernel_rfl, by kernel_rfl, by kernel_rfl, trivial⟩ trivial) ?_
      refine post_block_normal ?_
      refine post_next ?_
      refine aw_region ?_
      refine rmv ?_
      refine rgp (op_int (k := .i64) (m := x20) (n := 1) rfl rfl rfl rfl rfl rfl) ?_
      refine ras ?_
      refine reg_nil ?_
      refine post_round ?_
      exact rnd_back (ih (w_i64 (x19 + y57), w_i64 (x20 + 1)) hF) (imps [] ⟨by kernel_rfl, by kernel_rfl, by kernel_rfl, trivial⟩ trivial)
    refine aw_cond_f rfl hb41 ?_
    refine aw_exit ?_
    iterate 2 (refine post_then_exit ?_)
    obtain rfl := Option.some.inj hF
    exact post_lp_break _ ⟨_, rfl, rfl⟩ (imps [] ⟨by kernel_rfl, trivial⟩ trivial)
  rintro _ ⟨x61, rfl, rfl⟩
  have hF := elim_next hK63
  clear hK63
  refine post_next ?_
  refine aw_seq ?_
  refine aw_region ?_
  refine rmv ?_
  refine rgp (op_int (k := .i64) (m := x61) (n := 400) rfl rfl rfl rfl rfl rfl) ?_
  refine ras ?_
  refine reg_nil ?_
  refine post_imp (s' := ⟨31, [(2, some (.pv (.bool (decide (x61 ≤ 400)))))], [], 0, [], [], 0, []⟩) (imps [] ⟨by kernel_rfl, trivial⟩ trivial) ?_
  refine post_next ?_
  refine aw_ret ?_
  obtain rfl := Option.some.inj hF
  exact prt
theorem ref13_fault_ok {a0 : Int} {a1 : Int} {r : GFault} (hF : ref13_fault a0 a1 = some r) : Abs.Fn Try.prog 47 [.int .i64 a0, .int .i64 a1] [.p (.agg (eGFault r))] := by
  unfold ref13_fault at hF
  refine fn_of_body (n := 8) Try.func47 rfl rfl rfl ?_
  intro w O
  refine aw_seq ?_
  refine aw_region ?_
  refine rgp (op_alloc 0 rfl (ps := (eGFault zGFault)) rfl Try_zer_46 (by exact ⟨rfl, rfl, trivial⟩) rfl rfl) ?_
  refine reg_nil ?_
  refine post_imp (s' := ⟨8, [(0, some (.pv (.int .i64 a0))), (1, some (.pv (.int .i64 a1))), (4, some (.lp 0 0))], [(0, some (.box 46 (bxv (eGFault zGFault))))], 1, [], [], 0, []⟩) (imps [0] ⟨by kernel_rfl, by kernel_rfl, by kernel_rfl, trivial⟩ ⟨by kernel_rfl, trivial⟩) ?_
  refine post_next ?_
  refine aw_seq ?_
  refine aw_region ?_
  iterate 2 (refine rmv ?_)
  refine rgp (op_build (zs := (eGFault zGFault)) (r := eGFault ({ fErr := a0, fAt := a1 } : GFault)) rfl Try_zer_46 (by exact ⟨rfl, rfl, trivial⟩) Try_plc_46 rfl rfl rfl rfl) ?_
  refine rgp (op_store_lp (n := 2) rfl rfl rfl rfl rfl (or_agg Try_agg_46) (by rw [Try_non_46]; rfl) rfl rfl rfl) ?_
  refine reg_nil ?_
  refine post_imp (s' := ⟨8, [(4, some (.lp 0 0))], [(0, some (.box 46 (bxv (eGFault ({ fErr := a0, fAt := a1 } : GFault)))))], 1, [], [], 0, []⟩) (imps [0] ⟨by kernel_rfl, trivial⟩ ⟨by kernel_rfl, trivial⟩) ?_
  refine post_next ?_
  refine aw_ret ?_
  obtain rfl := Option.some.inj hF
  exact post_ret rfl rfl (.cons _ _ _ _ _ (.agg _ _ _ _ _ 2 _ _ rfl rfl Try_agg_46 rfl rfl rfl) (.p _) .nil) (.inl rfl)
theorem ref13_Find_ok {a0 : List GClass} {a1 : List UInt8} {r : Int} (hF : ref13_Find a0 a1 = some r) : Abs.Fn Try.prog 50 [.vs 7 (List.map eGClass a0), .str a1] [.p (.int .i64 r)] := by
  unfold ref13_Find at hF
  refine fn_of_body (n := 20) Try.func50 rfl rfl rfl ?_
  intro w O
  refine aw_seq ?_
  refine aw_region ?_
  refine ras ?_
  refine reg_nil ?_
  refine post_imp (s' := ⟨20, [(0, some (.pv (.vs 7 (List.map eGClass a0)))), (1, some (.pv (.str a1)))], [], 0, [], [], 0, []⟩) (imps [] ⟨by kernel_rfl, by kernel_rfl, trivial⟩ trivial) ?_
  refine post_next ?_
  iterate 2 (refine aw_seq ?_)
  refine aw_region ?_
  refine ras ?_
  refine reg_nil ?_
  refine post_imp (s' := ⟨20, [(0, some (.pv (.vs 7 (List.map eGClass a0)))), (1, some (.pv (.str a1))), (5, some (.pv (.int .i64 0)))], [], 0, [], [], 0, []⟩) (imps [] ⟨by kernel_rfl, by kernel_rfl, by kernel_rfl, trivial⟩ trivial) ?_
  refine post_next ?_
  obtain ⟨lr22, hF, hK23⟩ := bind_some hF
  refine aw_for ((((a0.length : Int) : Int) - (0)).toNat + 1) (fun s1 => ∃ q, lr22 = .next q ∧ s1 = ⟨20, [], [], 0, [], [], 0, []⟩) ?_ ?_
  · refine rnd_loop (α := Int) (fun q => ⟨20, [(0, some (.pv (.vs 7 (List.map eGClass a0)))), (1, some (.pv (.str a1))), (5, some (.pv (.int .i64 q)))], [], 0, [], [], 0, []⟩) (fun k q => ref13_Find_L1 a0 a1 k q = some lr22) 0 (imps [] ⟨by kernel_rfl, by kernel_rfl, by kernel_rfl, trivial⟩ trivial) hF (fun q h => by cases h) ?_
    clear hF
    rintro k x7 hF ih
    refine rnd_succ ?_
    iterate 2 (refine aw_seq ?_)
    refine aw_region ?_
    iterate 2 (refine rmv ?_)
    refine rgp (op_len_vs (n := a0.length) rfl rfl (List.length_map ..) Try_slc_22 rfl rfl) ?_
    refine rgp (op_int (k := .i64) (m := x7) (n := (a0.length : Int)) rfl rfl rfl rfl rfl rfl) ?_
    refine reg_nil ?_
    refine post_imp (s' := ⟨20, [(0, some (.pv (.vs 7 (List.map eGClass a0)))), (1, some (.pv (.str a1))), (5, some (.pv (.int .i64 x7))), (9, some (.pv (.bool (decide (x7 < (a0.length : Int))))))], [], 0, [], [], 0, []⟩) (imps [] ⟨by kernel_rfl, by kernel_rfl, by kernel_rfl, by kernel_rfl, trivial⟩ trivial) ?_
    refine post_next ?_
    rcases ite_some hF with ⟨hb15, hF⟩ | ⟨hb15, hF⟩
    · refine aw_cond_t rfl hb15 ?_
      refine aw_skip ?_
      refine post_next ?_
      refine aw_seq ?_
      refine aw_block ?_
      refine aw_seq ?_
      refine aw_region ?_
      iterate 2 (refine rmv ?_)
      obtain ⟨y18, h19, hF⟩ := bind_some hF
      refine rgp (op_index_vs (k := .i64) rfl rfl rfl (idx_map eGClass h19) Try_slc_22 rfl rfl) ?_
      refine rgp (op_field_vp rfl rfl Try_fld_56_0 rfl rfl) ?_
      refine rgp (op_load_vp (p := .str y18.fName) rfl rfl rfl Try_one_9 rfl rfl) ?_
      refine rmv ?_
      refine rgp (op_str rfl rfl rfl rfl rfl rfl) ?_
      refine reg_nil ?_
      refine post_imp (s' := ⟨20, [(0, some (.pv (.vs 7 (List.map eGClass a0)))), (1, some (.pv (.str a1))), (5, some (.pv (.int .i64 x7))), (18, some (.pv (.bool (y18.fName == a1))))], [], 0, [], [], 0, []⟩) (imps [] ⟨by kernel_rfl, by kernel_rfl, by kernel_rfl, by kernel_rfl, trivial⟩ trivial) ?_
      refine post_next ?_
      rcases ite_some hF with ⟨hb20, hF⟩ | ⟨hb20, hF⟩
      · refine aw_cond_t rfl hb20 ?_
        refine aw_seq ?_
        refine aw_region ?_
        refine rmv ?_
        refine ras ?_
        refine reg_nil ?_
        refine post_imp (s' := ⟨20, [(4, some (.pv (.int .i64 x7)))], [], 0, [], [], 0, []⟩) (imps [] ⟨by kernel_rfl, trivial⟩ trivial) ?_
        refine post_next ?_
        refine aw_ret ?_
        refine post_block_ret ?_
        iterate 2 (refine post_then_ret ?_)
        refine post_lp_ret ?_
        obtain rfl := Option.some.inj hF
        have hF := elim_stop hK23
        refine post_then_ret ?_
        obtain rfl := Option.some.inj hF
        exact prt
      refine aw_cond_f rfl hb20 ?_
      refine aw_skip ?_
      refine post_block_normal ?_
      refine post_next ?_
      refine aw_region ?_
      refine rmv ?_
      refine rgp (op_int (k := .i64) (m := x7) (n := 1) rfl rfl rfl rfl rfl rfl) ?_
      refine ras ?_
      refine reg_nil ?_
      refine post_round ?_
      exact rnd_back (ih (w_i64 (x7 + 1)) hF) (imps [] ⟨by kernel_rfl, by kernel_rfl, by kernel_rfl, trivial⟩ trivial)
    refine aw_cond_f rfl hb15 ?_
    refine aw_exit ?_
    iterate 2 (refine post_then_exit ?_)
    obtain rfl := Option.some.inj hF
    exact post_lp_break _ ⟨_, rfl, rfl⟩ (imps [] trivial trivial)
  rintro _ ⟨⟨⟩, rfl, rfl⟩
  have hF := elim_next hK23
  clear hK23
  refine post_next ?_
  refine aw_seq ?_
  refine aw_region ?_
  refine ras ?_
  refine reg_nil ?_
  refine post_imp (s' := ⟨20, [(4, some (.pv (.int .i64 (-1))))], [], 0, [], [], 0, []⟩) (imps [] ⟨by kernel_rfl, trivial⟩ trivial) ?_
  refine post_next ?_
  refine aw_ret ?_
  obtain rfl := Option.some.inj hF
  exact prt
theorem ref13_Twice_ok {a0 : List (List UInt8)} {r : Int} (hF : ref13_Twice a0 = some r) : Abs.Fn Try.prog 72 [.vs 1 (List.map eS a0)] [.p (.int .i64 r)] := by
  unfold ref13_Twice at hF
  refine fn_of_body (n := 26) Try.func72 rfl rfl rfl ?_
  intro w O
  refine aw_seq ?_
  refine aw_region ?_
  refine ras ?_
  refine reg_nil ?_
  refine post_imp (s' := ⟨26, [(0, some (.pv (.vs 1 (List.map eS a0))))], [], 0, [], [], 0, []⟩) (imps [] ⟨by kernel_rfl, trivial⟩ trivial) ?_
  refine post_next ?_
  iterate 2 (refine aw_seq ?_)
  refine aw_region ?_
  refine ras ?_
  refine reg_nil ?_
  refine post_imp (s' := ⟨26, [(0, some (.pv (.vs 1 (List.map eS a0)))), (3, some (.pv (.int .i64 0)))], [], 0, [], [], 0, []⟩) (imps [] ⟨by kernel_rfl, by kernel_rfl, trivial⟩ trivial) ?_
  refine post_next ?_
  obtain ⟨lr112, hF, hK113⟩ := bind_some hF
  refine aw_for ((((a0.length : Int) : Int) - (0)).toNat + 1) (fun s1 => ∃ q, lr112 = .next q ∧ s1 = ⟨26, [], [], 0, [], [], 0, []⟩) ?_ ?_
  · refine rnd_loop (α := Int) (fun q => ⟨26, [(0, some (.pv (.vs 1 (List.map eS a0)))), (3, some (.pv (.int .i64 q)))], [], 0, [], [], 0, []⟩) (fun k q => ref13_Twice_L1 a0 k q = some lr112) 0 (imps [] ⟨by kernel_rfl, by kernel_rfl, trivial⟩ trivial) hF (fun q h => by cases h) ?_
    clear hF
    rintro k x37 hF ih
    refine rnd_succ ?_
    iterate 2 (refine aw_seq ?_)
    refine aw_region ?_
    iterate 2 (refine rmv ?_)
    refine rgp (op_len_vs (n := a0.length) rfl rfl (List.length_map ..) Try_slc_52 rfl rfl) ?_
    refine rgp (op_int (k := .i64) (m := x37) (n := (a0.length : Int)) rfl rfl rfl rfl rfl rfl) ?_
    refine reg_nil ?_
    refine post_imp (s' := ⟨26, [(0, some (.pv (.vs 1 (List.map eS a0)))), (3, some (.pv (.int .i64 x37))), (8, some (.pv (.bool (decide (x37 < (a0.length : Int))))))], [], 0, [], [], 0, []⟩) (imps [] ⟨by kernel_rfl, by kernel_rfl, by kernel_rfl, trivial⟩ trivial) ?_
    refine post_next ?_
    rcases ite_some hF with ⟨hb75, hF⟩ | ⟨hb75, hF⟩
    · refine aw_cond_t rfl hb75 ?_
      refine aw_skip ?_
      refine post_next ?_
      refine aw_seq ?_
      refine aw_block ?_
      refine aw_seq ?_
      refine aw_region ?_
      refine ras ?_
      refine reg_nil ?_
      refine post_imp (s' := ⟨26, [(0, some (.pv (.vs 1 (List.map eS a0)))), (3, some (.pv (.int .i64 x37))), (4, some (.pv (.int .i64 0)))], [], 0, [], [], 0, []⟩) (imps [] ⟨by kernel_rfl, by kernel_rfl, by kernel_rfl, trivial⟩ trivial) ?_
      refine post_next ?_
      obtain ⟨lr109, hF, hK110⟩ := bind_some hF
      refine aw_for (((x37 : Int) - (0)).toNat + 1) (fun s1 => ∃ q, lr109 = .next q ∧ s1 = ⟨26, [(0, some (.pv (.vs 1 (List.map eS a0)))), (3, some (.pv (.int .i64 x37)))], [], 0, [], [], 0, []⟩) ?_ ?_
      · refine rnd_loop (α := Int) (fun q => ⟨26, [(0, some (.pv (.vs 1 (List.map eS a0)))), (3, some (.pv (.int .i64 x37))), (4, some (.pv (.int .i64 q)))], [], 0, [], [], 0, []⟩) (fun k q => ref13_Twice_L2 a0 x37 k q = some lr109) 0 (imps [] ⟨by kernel_rfl, by kernel_rfl, by kernel_rfl, trivial⟩ trivial) hF (fun q h => by cases h) ?_
        clear hF
        rintro k x86 hF ih
        refine rnd_succ ?_
        iterate 2 (refine aw_seq ?_)
        refine aw_region ?_
        iterate 2 (refine rmv ?_)
        refine rgp (op_int (k := .i64) (m := x86) (n := x37) rfl rfl rfl rfl rfl rfl) ?_
        refine reg_nil ?_
        refine post_imp (s' := ⟨26, [(0, some (.pv (.vs 1 (List.map eS a0)))), (3, some (.pv (.int .i64 x37))), (4, some (.pv (.int .i64 x86))), (13, some (.pv (.bool (decide (x86 < x37)))))], [], 0, [], [], 0, []⟩) (imps [] ⟨by kernel_rfl, by kernel_rfl, by kernel_rfl, by kernel_rfl, trivial⟩ trivial) ?_
        refine post_next ?_
        rcases ite_some hF with ⟨hb98, hF⟩ | ⟨hb98, hF⟩
        · refine aw_cond_t rfl hb98 ?_
          refine aw_skip ?_
          refine post_next ?_
          refine aw_seq ?_
          refine aw_block ?_
          refine aw_seq ?_
          refine dr_start ⟨_, _, _⟩ rfl ?_
          iterate 2 (refine drm ?_)
          obtain ⟨y103, h104, hF⟩ := bind_some hF
          refine dr_cons { need := [(16, .pv (.vs 1 (List.map eS a0))), (17, .pv (.int .i64 x86))], dst := some 18, val := some (.pv (.vp (eS y103))) } (fun m h => step_on (guard_no rfl) (op_index_vs (k := .i64) rfl h.1.1 h.1.2.1 (idx_map eS h104) Try_slc_52 rfl rfl) rfl) ⟨⟨rfl, rfl, trivial⟩, trivial, trivial⟩ ?_
          refine dr_cons { need := [(18, .pv (.vp (eS y103)))], dst := some 19, val := some (.pv (.str y103)) } (fun m h => step_on (guard_no rfl) (op_load_vp (p := .str y103) rfl h.1.1 rfl Try_one_9 rfl rfl) rfl) ⟨⟨rfl, trivial⟩, trivial, trivial⟩ ?_
          iterate 2 (refine drm ?_)
          obtain ⟨y105, h106, hF⟩ := bind_some hF
          refine dr_cons { need := [(20, .pv (.vs 1 (List.map eS a0))), (21, .pv (.int .i64 x37))], dst := some 22, val := some (.pv (.vp (eS y105))) } (fun m h => step_on (guard_no rfl) (op_index_vs (k := .i64) rfl h.1.1 h.1.2.1 (idx_map eS h106) Try_slc_52 rfl rfl) rfl) ⟨⟨rfl, rfl, trivial⟩, trivial, trivial⟩ ?_
          refine dr_cons { need := [(22, .pv (.vp (eS y105)))], dst := some 23, val := some (.pv (.str y105)) } (fun m h => step_on (guard_no rfl) (op_load_vp (p := .str y105) rfl h.1.1 rfl Try_one_9 rfl rfl) rfl) ⟨⟨rfl, trivial⟩, trivial, trivial⟩ ?_
          refine dr_cons { need := [(19, .pv (.str y103)), (23, .pv (.str y105))], dst := some 24, val := some (.pv (.bool (y103 == y105))) } (fun m h => step_on (guard_no rfl) (op_str rfl h.1.1 h.1.2.1 rfl rfl rfl) rfl) ⟨⟨rfl, rfl, trivial⟩, trivial, trivial⟩ ?_
          refine dr_nil Try_mixed rfl (by kernel_rfl) ?_
          refine post_imp (s' := ⟨26, [(0, some (.pv (.vs 1 (List.map eS a0)))), (3, some (.pv (.int .i64 x37))), (4, some (.pv (.int .i64 x86))), (24, some (.pv (.bool (y103 == y105))))], [], 0, [], [], 0, []⟩) (imps [] ⟨by kernel_rfl, by kernel_rfl, by kernel_rfl, by kernel_rfl, trivial⟩ trivial) ?_
          refine post_next ?_
          rcases ite_some hF with ⟨hb107, hF⟩ | ⟨hb107, hF⟩
          · refine aw_cond_t rfl hb107 ?_
            refine aw_seq ?_
            refine aw_region ?_
            refine rmv ?_
            refine ras ?_
            refine reg_nil ?_
            refine post_imp (s' := ⟨26, [(2, some (.pv (.int .i64 x37)))], [], 0, [], [], 0, []⟩) (imps [] ⟨by kernel_rfl, trivial⟩ trivial) ?_
            refine post_next ?_
            refine aw_ret ?_
            refine post_block_ret ?_
            iterate 2 (refine post_then_ret ?_)
            refine post_lp_ret ?_
            obtain rfl := Option.some.inj hF
            have hF := elim_stop hK110
            refine post_block_ret ?_
            iterate 2 (refine post_then_ret ?_)
            refine post_lp_ret ?_
            obtain rfl := Option.some.inj hF
            have hF := elim_stop hK113
            refine post_then_ret ?_
            obtain rfl := Option.some.inj hF
            exact prt
          refine aw_cond_f rfl hb107 ?_
          refine aw_skip ?_
          refine post_block_normal ?_
          refine post_next ?_
          refine aw_region ?_
          refine rmv ?_
          refine rgp (op_int (k := .i64) (m := x86) (n := 1) rfl rfl rfl rfl rfl rfl) ?_
          refine ras ?_
          refine reg_nil ?_
          refine post_round ?_
          exact rnd_back (ih (w_i64 (x86 + 1)) hF) (imps [] ⟨by kernel_rfl, by kernel_rfl, by kernel_rfl, trivial⟩ trivial)
        refine aw_cond_f rfl hb98 ?_
        refine aw_exit ?_
        iterate 2 (refine post_then_exit ?_)
        obtain rfl := Option.some.inj hF
        exact post_lp_break _ ⟨_, rfl, rfl⟩ (imps [] ⟨by kernel_rfl, by kernel_rfl, trivial⟩ trivial)
      rintro _ ⟨⟨⟩, rfl, rfl⟩
      have hF := elim_next hK110
      clear hK110
      refine post_block_normal ?_
      refine post_next ?_
      refine aw_region ?_
      refine rmv ?_
      refine rgp (op_int (k := .i64) (m := x37) (n := 1) rfl rfl rfl rfl rfl rfl) ?_
      refine ras ?_
      refine reg_nil ?_
      refine post_round ?_
      exact rnd_back (ih (w_i64 (x37 + 1)) hF) (imps [] ⟨by kernel_rfl, by kernel_rfl, trivial⟩ trivial)
    refine aw_cond_f rfl hb75 ?_
    refine aw_exit ?_
    iterate 2 (refine post_then_exit ?_)
    obtain rfl := Option.some.inj hF
    exact post_lp_break _ ⟨_, rfl, rfl⟩ (imps [] trivial trivial)
  rintro _ ⟨⟨⟩, rfl, rfl⟩
  have hF := elim_next hK113
  clear hK113
  refine post_next ?_
  refine aw_seq ?_
  refine aw_region ?_
  refine ras ?_
  refine reg_nil ?_
  refine post_imp (s' := ⟨26, [(2, some (.pv (.int .i64 (-1))))], [], 0, [], [], 0, []⟩) (imps [] ⟨by kernel_rfl, trivial⟩ trivial) ?_
  refine post_next ?_
  refine aw_ret ?_
  obtain rfl := Option.some.inj hF
  exact prt
theorem ref13_Arity_ok {a0 : List GClass} {a1 : List UInt8} {r : Int} (hF : ref13_Arity a0 a1 = some r) : Abs.Fn Try.prog 73 [.vs 7 (List.map eGClass a0), .str a1] [.p (.int .i64 r)] := by
  unfold ref13_Arity at hF
  refine fn_of_body (n := 17) Try.func73 rfl rfl rfl ?_
  intro w O
  refine aw_seq ?_
  refine aw_region ?_
  refine ras ?_
  refine reg_nil ?_
  refine post_imp (s' := ⟨17, [(0, some (.pv (.vs 7 (List.map eGClass a0)))), (1, some (.pv (.str a1)))], [], 0, [], [], 0, []⟩) (imps [] ⟨by kernel_rfl, by kernel_rfl, trivial⟩ trivial) ?_
  refine post_next ?_
  refine aw_seq ?_
  refine aw_region ?_
  iterate 2 (refine rmv ?_)
  obtain ⟨y3, h4, hF⟩ := bind_some hF
  refine rgp (op_call 0 rfl (caps := []) (args := [.vs 7 (List.map eGClass a0), .str a1]) (rs := [.p (.int .i64 y3)]) rfl rfl rfl Try_cal_50 (ref13_Find_ok h4) rfl rfl rfl) ?_
  refine ras ?_
  refine reg_nil ?_
  refine post_imp (s' := ⟨17, [(0, some (.pv (.vs 7 (List.map eGClass a0)))), (5, some (.pv (.int .i64 y3)))], [], 0, [], [], 0, []⟩) (imps [] ⟨by kernel_rfl, by kernel_rfl, trivial⟩ trivial) ?_
  refine post_next ?_
  iterate 2 (refine aw_seq ?_)
  refine aw_region ?_
  refine rmv ?_
  refine rgp (op_int (k := .i64) (m := y3) (n := 0) rfl rfl rfl rfl rfl rfl) ?_
  refine reg_nil ?_
  refine post_imp (s' := ⟨17, [(0, some (.pv (.vs 7 (List.map eGClass a0)))), (5, some (.pv (.int .i64 y3))), (10, some (.pv (.bool (decide (y3 < 0)))))], [], 0, [], [], 0, []⟩) (imps [] ⟨by kernel_rfl, by kernel_rfl, by kernel_rfl, trivial⟩ trivial) ?_
  refine post_next ?_
  rcases ite_some hF with ⟨hb5, hF⟩ | ⟨hb5, hF⟩
  · refine aw_cond_t rfl hb5 ?_
    refine aw_seq ?_
    refine aw_region ?_
    refine ras ?_
    refine reg_nil ?_
    refine post_imp (s' := ⟨17, [(4, some (.pv (.int .i64 (-1))))], [], 0, [], [], 0, []⟩) (imps [] ⟨by kernel_rfl, trivial⟩ trivial) ?_
    refine post_next ?_
    refine aw_ret ?_
    refine post_then_ret ?_
    obtain rfl := Option.some.inj hF
    exact prt
  refine aw_cond_f rfl hb5 ?_
  refine aw_skip ?_
  refine post_next ?_
  refine aw_seq ?_
  refine aw_region ?_
  iterate 2 (refine rmv ?_)
  obtain ⟨y6, h7, hF⟩ := bind_some hF
  refine rgp (op_index_vs (k := .i64) rfl rfl rfl (idx_map eGClass h7) Try_slc_22 rfl rfl) ?_
  refine rgp (op_field_vp rfl rfl Try_fld_56_1 rfl rfl) ?_
  refine rgp (op_load_vp (p := .vs 1 (List.map eS y6.fParams)) rfl rfl rfl Try_one_52 rfl rfl) ?_
  refine rgp (op_len_vs (n := y6.fParams.length) rfl rfl (List.length_map ..) Try_slc_52 rfl rfl) ?_
  refine ras ?_
  refine reg_nil ?_
  refine post_imp (s' := ⟨17, [(4, some (.pv (.int .i64 (y6.fParams.length : Int))))], [], 0, [], [], 0, []⟩) (imps [] ⟨by kernel_rfl, trivial⟩ trivial) ?_
  refine post_next ?_
  refine aw_ret ?_
  obtain rfl := Option.some.inj hF
  exact prt
end Go.Proofs.Ytahieoaggbmicaa
