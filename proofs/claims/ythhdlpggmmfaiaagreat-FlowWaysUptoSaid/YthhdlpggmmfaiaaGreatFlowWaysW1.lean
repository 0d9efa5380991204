/- A part of the proof that the law FlowWays gives true for every input. -/
import Derived.Test.YthhdlpggmmfaiaaGreatFlowWaysT
import Derived.Test.YthhdlpggmmfaiaaGreatFlowWaysX
import Derived.Test.YthhdlpggmmfaiaaGreatFlowWaysI
import Derived.Test.YthhdlpggmmfaiaaGreatFlowWaysW0
/- Each Go function computes its plain function. -/
namespace Go.Proofs.YthhdlpggmmfaiaaGreat
open Go.RowKit Go.Abs
set_option maxRecDepth 100000
set_option maxHeartbeats 4000000
abbrev ref06_form_e51 (a0 : GExpr) : Eff := { need := [(36, .pv (.bool (a0.fKind != 2))), (37, .lp 0 2)], hneed := [(0, .box 46 (bxv (eGExpr a0)))], dst := some 38, val := some (.pv (.str a0.fName)) }
abbrev ref06_form_e52 (a0 : GExpr) : Eff := { need := [(36, .pv (.bool (a0.fKind != 2))), (38, .pv (.str a0.fName))], dst := some 39, val := some (.pv (.bool (!(a0.fName == [])))) }
abbrev ref06_form_e56 (a0 : GExpr) : Eff := { need := [(42, .pv (.bool (!(a0.fName == [])))), (43, .lp 0 1)], hneed := [(0, .box 46 (bxv (eGExpr a0)))], dst := some 44, val := some (.pv (.int .i64 a0.fNum)) }
abbrev ref06_form_e57 (a0 : GExpr) : Eff := { need := [(42, .pv (.bool (!(a0.fName == [])))), (44, .pv (.int .i64 a0.fNum))], dst := some 45, val := some (.pv (.bool (decide (a0.fNum < 0)))) }
abbrev ref06_form_e58 (a0 : GExpr) : Eff := { need := [(42, .pv (.bool (!(a0.fName == [])))), (45, .pv (.bool (decide (a0.fNum < 0))))], dst := some 46, val := some (.pv (.bool (decide (a0.fNum < 0)))) }
abbrev ref06_form_e59 (a0 : GExpr) : Eff := { need := [(47, .pv (.bool (decide (a0.fNum < 0)))), (1, .lp 0 0)], dst := some 48, val := some (.lp 0 1) }
abbrev ref06_form_e60 (a0 : GExpr) : Eff := { need := [(47, .pv (.bool (decide (a0.fNum < 0)))), (48, .lp 0 1)], hneed := [(0, .box 46 (bxv (eGExpr a0)))], dst := some 49, val := some (.pv (.int .i64 a0.fNum)) }
abbrev ref06_form_e61 (a0 : GExpr) : Eff := { need := [(47, .pv (.bool (decide (a0.fNum < 0)))), (49, .pv (.int .i64 a0.fNum))], dst := some 50, val := some (.pv (.bool (decide (a0.fNum > 999999999)))) }
abbrev ref06_form_e62 (a0 : GExpr) : Eff := { need := [(47, .pv (.bool (decide (a0.fNum < 0)))), (50, .pv (.bool (decide (a0.fNum > 999999999))))], dst := some 51, val := some (.pv (.bool (decide (a0.fNum > 999999999)))) }
abbrev ref06_form_e63 (a0 : GExpr) : Eff := { need := [(52, .pv (.bool (decide (a0.fNum > 999999999)))), (1, .lp 0 0)], dst := some 53, val := some (.lp 0 0) }
abbrev ref06_form_e64 (a0 : GExpr) : Eff := { need := [(52, .pv (.bool (decide (a0.fNum > 999999999)))), (53, .lp 0 0)], hneed := [(0, .box 46 (bxv (eGExpr a0)))], dst := some 54, val := some (.pv (.int .i64 a0.fKind)) }
abbrev ref06_form_e65 (a0 : GExpr) : Eff := { need := [(52, .pv (.bool (decide (a0.fNum > 999999999)))), (54, .pv (.int .i64 a0.fKind))], dst := some 55, val := some (.pv (.bool (a0.fKind == 2))) }
abbrev ref06_form_e66 (a0 : GExpr) : Eff := { need := [(52, .pv (.bool (decide (a0.fNum > 999999999)))), (55, .pv (.bool (a0.fKind == 2)))], dst := some 56, val := some (.pv (.bool (a0.fKind == 2))) }
abbrev ref06_form_e67 (a0 : GExpr) : Eff := { need := [(56, .pv (.bool (a0.fKind == 2))), (1, .lp 0 0)], dst := some 57, val := some (.lp 0 2) }
abbrev ref06_form_e68 (a0 : GExpr) : Eff := { need := [(56, .pv (.bool (a0.fKind == 2))), (57, .lp 0 2)], hneed := [(0, .box 46 (bxv (eGExpr a0)))], dst := some 58, val := some (.pv (.str a0.fName)) }
abbrev ref06_form_e73 (a0 : GExpr) : Eff := { need := [(52, .pv (.bool (decide (a0.fNum > 999999999)))), (56, .pv (.bool (a0.fKind == 2)))], dst := some 61, val := some (.pv (.bool false)) }
abbrev ref06_form_e74 (a0 : GExpr) : Eff := { need := [(52, .pv (.bool (decide (a0.fNum > 999999999)))), (61, .pv (.bool false))], dst := some 62, val := some (.pv (.bool false)) }
abbrev ref06_form_e77  : Eff := { need := [(42, .pv (.bool false)), (1, .lp 0 0)], dst := some 43, val := some (.lp 0 1) }
abbrev ref06_form_e78 (a0 : GExpr) : Eff := { need := [(42, .pv (.bool false)), (43, .lp 0 1)], hneed := [(0, .box 46 (bxv (eGExpr a0)))], dst := some 44, val := some (.pv (.int .i64 a0.fNum)) }
abbrev ref06_form_e79 (a0 : GExpr) : Eff := { need := [(42, .pv (.bool false)), (44, .pv (.int .i64 a0.fNum))], dst := some 45, val := some (.pv (.bool (decide (a0.fNum < 0)))) }
abbrev ref06_form_e80 (a0 : GExpr) : Eff := { need := [(42, .pv (.bool false)), (45, .pv (.bool (decide (a0.fNum < 0))))], dst := some 46, val := some (.pv (.bool (decide (a0.fNum < 0)))) }
theorem ref06_form_ring : ∀ n : Nat, (∀ (a0 : GExpr) (r : Bool), ref06_form n a0 = some r → FZ 181 [.agg (eGExpr a0)] [.p (.bool r)]) := by
 intro n
 induction n with
 | zero => exact (fun _ _ h => by simp [ref06_form] at h)
 | succ n ih =>
  have ref06_form_ih := ih
  clear ih
  intro a0 r hF
  unfold ref06_form at hF
  revert hF ref06_form_ih
  generalize ref06_form n = ref06_form_rec
  intro ref06_form_ih hF
  refine fn_of_body (n := 113) Tryz.func181 rfl rfl rfl fun w O => ?_
  refine go ?_
  refine rgp (bo 0) ?_
  iterate 2 refine go ?_
  refine aw_seq ?_
  refine aw_seq ?_
  obtain ⟨x32, hF, hK34⟩ := bs hF
  refine ctx (sX 113 [(1, some (.lp 0 0)), pf 62 (.bool x32)] [bf 0 46 (eGExpr a0)] 1) ?_ ?_
  ·refine dr_start ⟨_, _, _⟩ rfl ?_
   iterate 4 refine dgo ?_
   rcases ie hF with ⟨hb1, hF⟩ | ⟨hb1, hF⟩
   ·refine dro_t hb1 ?_
    iterate 2 refine dro_t hb1 ?_
    refine drpt hb1 ?_
    refine dgo ?_
    iterate 7 refine dro_t rfl ?_
    refine drpt rfl ?_
    refine dgo ?_
    iterate 4 refine dro_t rfl ?_
    iterate 3 refine dgo ?_
    refine dro_t rfl ?_
    refine drpt rfl ?_
    refine dgo ?_
    iterate 4 refine dro_t rfl ?_
    iterate 3 refine dgo ?_
    refine dro_t rfl ?_
    refine drpt rfl ?_
    refine dgo ?_
    iterate 3 refine dro_t rfl ?_
    refine drpt rfl ?_
    refine dgo ?_
    iterate 3 refine dro_t rfl ?_
    refine drpt rfl ?_
    refine dgo ?_
    iterate 4 refine dro_t rfl ?_
    iterate 4 refine dgo ?_
    refine dro_t rfl ?_
    refine drpt rfl ?_
    refine dr_nil mixed rfl (by kernel_rfl) ?_
    refine piz (sX 113 [(1, some (.lp 0 0)), pf 62 (.bool true)] [bf 0 46 (eGExpr a0)] 1) [0] ?_
    cases hF
    exact pcz [0]
   iterate 3 refine dgn hb1 ?_
   refine dr_cons { need := [(8, .pv (.bool (decide (a0.fKind < 1)))), (11, .pv (.bool (decide (a0.fKind > 14))))], dst := some 12, val := some (.pv (.bool (decide (a0.fKind > 14)))) } (fun m h => step_on (guard_no rfl) (op_pick_f rfl h.1.1 hb1 h.1.2.1 rfl rfl) rfl) ⟨⟨rfl, rfl, trivial⟩, trivial, trivial⟩ ?_
   refine dgo ?_
   rcases ie hF with ⟨hb2, hF⟩ | ⟨hb2, hF⟩
   ·refine dro_t hb2 ?_
    iterate 6 refine dro_t hb2 ?_
    refine drpt hb2 ?_
    refine dgo ?_
    iterate 4 refine dro_t rfl ?_
    iterate 3 refine dgo ?_
    refine dro_t rfl ?_
    refine drpt rfl ?_
    refine dgo ?_
    iterate 4 refine dro_t rfl ?_
    iterate 3 refine dgo ?_
    refine dro_t rfl ?_
    refine drpt rfl ?_
    refine dgo ?_
    iterate 3 refine dro_t rfl ?_
    refine drpt rfl ?_
    refine dgo ?_
    iterate 3 refine dro_t rfl ?_
    refine drpt rfl ?_
    refine dgo ?_
    iterate 4 refine dro_t rfl ?_
    iterate 4 refine dgo ?_
    refine dro_t rfl ?_
    refine drpt rfl ?_
    refine dr_nil mixed rfl (by kernel_rfl) ?_
    refine piz (sX 113 [(1, some (.lp 0 0)), pf 62 (.bool true)] [bf 0 46 (eGExpr a0)] 1) [0] ?_
    cases hF
    exact pcz [0]
   iterate 2 refine dgn hb2 ?_
   refine dr_cons { need := [(13, .pv (.bool (decide (a0.fKind > 14)))), (15, .pv (.vs 4 (eLGExpr a0.fKids)))], dst := some 16, val := some (.pv (.int .i64 (a0.fKids.length : Int))) } (fun m h => step_on (guard_on rfl rfl rfl h.1.1 hb2) (op_len_vs (n := a0.fKids.length) rfl h.1.2.1 (lenR eLGExpr_map) slc_44 rfl rfl) rfl) ⟨⟨rfl, rfl, trivial⟩, trivial, trivial⟩ ?_
   iterate 2 refine dgn hb2 ?_
   obtain ⟨y3, h4, hF⟩ := bs hF
   refine dr_cons { need := [(13, .pv (.bool (decide (a0.fKind > 14)))), (18, .pv (.int .i64 a0.fKind))], dst := some 19, val := some (.pv (.int .i64 y3)) } (fun m h => step_on (guard_on rfl rfl rfl h.1.1 hb2) (op_call 1 rfl (caps := []) (args := [.int .i64 a0.fKind]) (rs := [.p (.int .i64 y3)]) rfl rfl (evl_cons h.1.2.1 evl_nil) cal_191 (ref06_kids_ok h4) rfl rfl rfl) rfl) ⟨⟨rfl, rfl, trivial⟩, trivial, trivial⟩ ?_
   refine dr_cons { need := [(13, .pv (.bool (decide (a0.fKind > 14)))), (16, .pv (.int .i64 (a0.fKids.length : Int))), (19, .pv (.int .i64 y3))], dst := some 20, val := some (.pv (.bool ((a0.fKids.length : Int) != y3))) } (fun m h => step_on (guard_on rfl rfl rfl h.1.1 hb2) (op_int (k := .i64) (m := (a0.fKids.length : Int)) (n := y3) rfl h.1.2.1 h.1.2.2.1 rfl rfl rfl) rfl) ⟨⟨rfl, rfl, rfl, trivial⟩, trivial, trivial⟩ ?_
   refine dr_cons { need := [(13, .pv (.bool (decide (a0.fKind > 14)))), (20, .pv (.bool ((a0.fKids.length : Int) != y3)))], dst := some 21, val := some (.pv (.bool ((a0.fKids.length : Int) != y3))) } (fun m h => step_on (guard_no rfl) (op_pick_f rfl h.1.1 hb2 h.1.2.1 rfl rfl) rfl) ⟨⟨rfl, rfl, trivial⟩, trivial, trivial⟩ ?_
   refine dgo ?_
   rcases ie hF with ⟨hb5, hF⟩ | ⟨hb5, hF⟩
   ·refine dro_t hb5 ?_
    iterate 3 refine dro_t hb5 ?_
    iterate 3 refine dgo ?_
    refine dro_t hb5 ?_
    refine drpt hb5 ?_
    refine dgo ?_
    iterate 4 refine dro_t rfl ?_
    iterate 3 refine dgo ?_
    refine dro_t rfl ?_
    refine drpt rfl ?_
    refine dgo ?_
    iterate 3 refine dro_t rfl ?_
    refine drpt rfl ?_
    refine dgo ?_
    iterate 3 refine dro_t rfl ?_
    refine drpt rfl ?_
    refine dgo ?_
    iterate 4 refine dro_t rfl ?_
    iterate 4 refine dgo ?_
    refine dro_t rfl ?_
    refine drpt rfl ?_
    refine dr_nil mixed rfl (by kernel_rfl) ?_
    refine piz (sX 113 [(1, some (.lp 0 0)), pf 62 (.bool true)] [bf 0 46 (eGExpr a0)] 1) [0] ?_
    cases hF
    exact pcz [0]
   iterate 3 refine dgn hb5 ?_
   refine dr_cons { need := [(22, .pv (.bool ((a0.fKids.length : Int) != y3))), (25, .pv (.bool (a0.fKind != 1)))], dst := some 26, val := some (.pv (.bool (a0.fKind != 1))) } (fun m h => step_on (guard_on rfl rfl rfl h.1.1 hb5) (op_move rfl h.1.2.1 rfl rfl) rfl) ⟨⟨rfl, rfl, trivial⟩, trivial, trivial⟩ ?_
   rcases ie hF with ⟨hb6, hF⟩ | ⟨hb6, hF⟩
   ·iterate 3 refine dgn hb6 ?_
    refine dr_cons { need := [(22, .pv (.bool ((a0.fKids.length : Int) != y3))), (26, .pv (.bool (a0.fKind != 1))), (29, .pv (.bool (a0.fNum != 0)))], dst := some 30, val := some (.pv (.bool (a0.fNum != 0))) } (fun m h => step_on (guard_on rfl rfl rfl h.1.1 hb5) (op_pick_t rfl h.1.2.1 hb6 h.1.2.2.1 rfl rfl) rfl) ⟨⟨rfl, rfl, rfl, trivial⟩, trivial, trivial⟩ ?_
    refine dr_cons { need := [(22, .pv (.bool ((a0.fKids.length : Int) != y3))), (30, .pv (.bool (a0.fNum != 0)))], dst := some 31, val := some (.pv (.bool (a0.fNum != 0))) } (fun m h => step_on (guard_no rfl) (op_pick_f rfl h.1.1 hb5 h.1.2.1 rfl rfl) rfl) ⟨⟨rfl, rfl, trivial⟩, trivial, trivial⟩ ?_
    refine dgo ?_
    rcases ie hF with ⟨hb7, hF⟩ | ⟨hb7, hF⟩
    ·refine dro_t hb7 ?_
     iterate 3 refine dro_t hb7 ?_
     iterate 3 refine dgo ?_
     refine dro_t hb7 ?_
     refine drpt hb7 ?_
     refine dgo ?_
     iterate 3 refine dro_t rfl ?_
     refine drpt rfl ?_
     refine dgo ?_
     iterate 3 refine dro_t rfl ?_
     refine drpt rfl ?_
     refine dgo ?_
     iterate 4 refine dro_t rfl ?_
     iterate 4 refine dgo ?_
     refine dro_t rfl ?_
     refine drpt rfl ?_
     refine dr_nil mixed rfl (by kernel_rfl) ?_
     refine piz (sX 113 [(1, some (.lp 0 0)), pf 62 (.bool true)] [bf 0 46 (eGExpr a0)] 1) [0] ?_
     cases hF
     exact pcz [0]
    iterate 3 refine dgn hb7 ?_
    refine dr_cons { need := [(32, .pv (.bool (a0.fNum != 0))), (35, .pv (.bool (a0.fKind != 2)))], dst := some 36, val := some (.pv (.bool (a0.fKind != 2))) } (fun m h => step_on (guard_on rfl rfl rfl h.1.1 hb7) (op_move rfl h.1.2.1 rfl rfl) rfl) ⟨⟨rfl, rfl, trivial⟩, trivial, trivial⟩ ?_
    rcases ie hF with ⟨hb8, hF⟩ | ⟨hb8, hF⟩
    ·refine dgn hb8 ?_
     refine dr_cons (ref06_form_e51 a0) (fun m h => step_on (guard_on rfl rfl rfl h.1.1 hb8) (op_load_lp (v := .pv (.str a0.fName)) rfl h.1.2.1 h.2.1.1 rfl one_9 rfl rfl) rfl) ⟨⟨rfl, rfl, trivial⟩, ⟨rfl, trivial⟩, trivial⟩ ?_
     refine dr_cons (ref06_form_e52 a0) (fun m h => step_on (guard_on rfl rfl rfl h.1.1 hb8) (op_str rfl h.1.2.1 rfl rfl rfl rfl) rfl) ⟨⟨rfl, rfl, trivial⟩, trivial, trivial⟩ ?_
     refine dr_cons { need := [(32, .pv (.bool (a0.fNum != 0))), (36, .pv (.bool (a0.fKind != 2))), (39, .pv (.bool (!(a0.fName == []))))], dst := some 40, val := some (.pv (.bool (!(a0.fName == [])))) } (fun m h => step_on (guard_on rfl rfl rfl h.1.1 hb7) (op_pick_t rfl h.1.2.1 hb8 h.1.2.2.1 rfl rfl) rfl) ⟨⟨rfl, rfl, rfl, trivial⟩, trivial, trivial⟩ ?_
     refine dr_cons { need := [(32, .pv (.bool (a0.fNum != 0))), (40, .pv (.bool (!(a0.fName == []))))], dst := some 41, val := some (.pv (.bool (!(a0.fName == [])))) } (fun m h => step_on (guard_no rfl) (op_pick_f rfl h.1.1 hb7 h.1.2.1 rfl rfl) rfl) ⟨⟨rfl, rfl, trivial⟩, trivial, trivial⟩ ?_
     refine dgo ?_
     rcases ie hF with ⟨hb9, hF⟩ | ⟨hb9, hF⟩
     ·refine dro_t hb9 ?_
      iterate 2 refine dro_t hb9 ?_
      refine drpt hb9 ?_
      refine dgo ?_
      iterate 3 refine dro_t rfl ?_
      refine drpt rfl ?_
      refine dgo ?_
      iterate 4 refine dro_t rfl ?_
      iterate 4 refine dgo ?_
      refine dro_t rfl ?_
      refine drpt rfl ?_
      refine dr_nil mixed rfl (by kernel_rfl) ?_
      refine piz (sX 113 [(1, some (.lp 0 0)), pf 62 (.bool true)] [bf 0 46 (eGExpr a0)] 1) [0] ?_
      cases hF
      exact pcz [0]
     refine dgn hb9 ?_
     refine dr_cons (ref06_form_e56 a0) (fun m h => step_on (guard_on rfl rfl rfl h.1.1 hb9) (op_load_lp (v := .pv (.int .i64 a0.fNum)) rfl h.1.2.1 h.2.1.1 rfl one_3 rfl rfl) rfl) ⟨⟨rfl, rfl, trivial⟩, ⟨rfl, trivial⟩, trivial⟩ ?_
     refine dr_cons (ref06_form_e57 a0) (fun m h => step_on (guard_on rfl rfl rfl h.1.1 hb9) (op_int (k := .i64) (m := a0.fNum) (n := 0) rfl h.1.2.1 rfl rfl rfl rfl) rfl) ⟨⟨rfl, rfl, trivial⟩, trivial, trivial⟩ ?_
     refine dr_cons (ref06_form_e58 a0) (fun m h => step_on (guard_no rfl) (op_pick_f rfl h.1.1 hb9 h.1.2.1 rfl rfl) rfl) ⟨⟨rfl, rfl, trivial⟩, trivial, trivial⟩ ?_
     refine dgo ?_
     rcases ie hF with ⟨hb10, hF⟩ | ⟨hb10, hF⟩
     ·refine dro_t hb10 ?_
      iterate 2 refine dro_t hb10 ?_
      refine drpt hb10 ?_
      refine dgo ?_
      iterate 4 refine dro_t rfl ?_
      iterate 4 refine dgo ?_
      refine dro_t rfl ?_
      refine drpt rfl ?_
      refine dr_nil mixed rfl (by kernel_rfl) ?_
      refine piz (sX 113 [(1, some (.lp 0 0)), pf 62 (.bool true)] [bf 0 46 (eGExpr a0)] 1) [0] ?_
      cases hF
      exact pcz [0]
     refine dr_cons (ref06_form_e59 a0) (fun m h => step_on (guard_on rfl rfl rfl h.1.1 hb10) (op_field_lp rfl h.1.2.1 fld_46_1 rfl rfl) rfl) ⟨⟨rfl, rfl, trivial⟩, trivial, trivial⟩ ?_
     refine dr_cons (ref06_form_e60 a0) (fun m h => step_on (guard_on rfl rfl rfl h.1.1 hb10) (op_load_lp (v := .pv (.int .i64 a0.fNum)) rfl h.1.2.1 h.2.1.1 rfl one_3 rfl rfl) rfl) ⟨⟨rfl, rfl, trivial⟩, ⟨rfl, trivial⟩, trivial⟩ ?_
     refine dr_cons (ref06_form_e61 a0) (fun m h => step_on (guard_on rfl rfl rfl h.1.1 hb10) (op_int (k := .i64) (m := a0.fNum) (n := 999999999) rfl h.1.2.1 rfl rfl rfl rfl) rfl) ⟨⟨rfl, rfl, trivial⟩, trivial, trivial⟩ ?_
     refine dr_cons (ref06_form_e62 a0) (fun m h => step_on (guard_no rfl) (op_pick_f rfl h.1.1 hb10 h.1.2.1 rfl rfl) rfl) ⟨⟨rfl, rfl, trivial⟩, trivial, trivial⟩ ?_
     refine dgo ?_
     rcases ie hF with ⟨hb11, hF⟩ | ⟨hb11, hF⟩
     ·refine dro_t hb11 ?_
      iterate 3 refine dro_t hb11 ?_
      iterate 4 refine dgo ?_
      refine dro_t hb11 ?_
      refine drpt hb11 ?_
      refine dr_nil mixed rfl (by kernel_rfl) ?_
      refine piz (sX 113 [(1, some (.lp 0 0)), pf 62 (.bool true)] [bf 0 46 (eGExpr a0)] 1) [0] ?_
      cases hF
      exact pcz [0]
     refine dr_cons (ref06_form_e63 a0) (fun m h => step_on (guard_on rfl rfl rfl h.1.1 hb11) (op_field_lp rfl h.1.2.1 fld_46_0 rfl rfl) rfl) ⟨⟨rfl, rfl, trivial⟩, trivial, trivial⟩ ?_
     refine dr_cons (ref06_form_e64 a0) (fun m h => step_on (guard_on rfl rfl rfl h.1.1 hb11) (op_load_lp (v := .pv (.int .i64 a0.fKind)) rfl h.1.2.1 h.2.1.1 rfl one_3 rfl rfl) rfl) ⟨⟨rfl, rfl, trivial⟩, ⟨rfl, trivial⟩, trivial⟩ ?_
     refine dr_cons (ref06_form_e65 a0) (fun m h => step_on (guard_on rfl rfl rfl h.1.1 hb11) (op_int (k := .i64) (m := a0.fKind) (n := 2) rfl h.1.2.1 rfl rfl rfl rfl) rfl) ⟨⟨rfl, rfl, trivial⟩, trivial, trivial⟩ ?_
     refine dr_cons (ref06_form_e66 a0) (fun m h => step_on (guard_on rfl rfl rfl h.1.1 hb11) (op_move rfl h.1.2.1 rfl rfl) rfl) ⟨⟨rfl, rfl, trivial⟩, trivial, trivial⟩ ?_
     rcases ie hF with ⟨hb12, hF⟩ | ⟨hb12, hF⟩
     ·refine dr_cons (ref06_form_e67 a0) (fun m h => step_on (guard_on rfl rfl rfl h.1.1 hb12) (op_field_lp rfl h.1.2.1 fld_46_2 rfl rfl) rfl) ⟨⟨rfl, rfl, trivial⟩, trivial, trivial⟩ ?_
      refine dr_cons (ref06_form_e68 a0) (fun m h => step_on (guard_on rfl rfl rfl h.1.1 hb12) (op_load_lp (v := .pv (.str a0.fName)) rfl h.1.2.1 h.2.1.1 rfl one_9 rfl rfl) rfl) ⟨⟨rfl, rfl, trivial⟩, ⟨rfl, trivial⟩, trivial⟩ ?_
      obtain ⟨y13, h14, hF⟩ := bs hF
      refine dr_cons { need := [(56, .pv (.bool (a0.fKind == 2))), (58, .pv (.str a0.fName))], dst := some 59, val := some (.pv (.bool y13)) } (fun m h => step_on (guard_on rfl rfl rfl h.1.1 hb12) (op_call 1 rfl (caps := []) (args := [.str a0.fName]) (rs := [.p (.bool y13)]) rfl rfl (evl_cons h.1.2.1 evl_nil) cal_65 (ref02_Name_ok h14) rfl rfl rfl) rfl) ⟨⟨rfl, rfl, trivial⟩, trivial, trivial⟩ ?_
      refine dr_cons { need := [(56, .pv (.bool (a0.fKind == 2))), (59, .pv (.bool y13))], dst := some 60, val := some (.pv (.bool (!y13))) } (fun m h => step_on (guard_on rfl rfl rfl h.1.1 hb12) (op_not rfl h.1.2.1 rfl rfl) rfl) ⟨⟨rfl, rfl, trivial⟩, trivial, trivial⟩ ?_
      refine dr_cons { need := [(52, .pv (.bool (decide (a0.fNum > 999999999)))), (56, .pv (.bool (a0.fKind == 2))), (60, .pv (.bool (!y13)))], dst := some 61, val := some (.pv (.bool (!y13))) } (fun m h => step_on (guard_on rfl rfl rfl h.1.1 hb11) (op_pick_t rfl h.1.2.1 hb12 h.1.2.2.1 rfl rfl) rfl) ⟨⟨rfl, rfl, rfl, trivial⟩, trivial, trivial⟩ ?_
      refine dr_cons { need := [(52, .pv (.bool (decide (a0.fNum > 999999999)))), (61, .pv (.bool (!y13)))], dst := some 62, val := some (.pv (.bool (!y13))) } (fun m h => step_on (guard_no rfl) (op_pick_f rfl h.1.1 hb11 h.1.2.1 rfl rfl) rfl) ⟨⟨rfl, rfl, trivial⟩, trivial, trivial⟩ ?_
      refine dr_nil mixed rfl (by kernel_rfl) ?_
      refine piz (sX 113 [(1, some (.lp 0 0)), pf 62 (.bool (!y13))] [bf 0 46 (eGExpr a0)] 1) [0] ?_
      cases hF
      exact pcz [0]
     iterate 4 refine dro_f hb12 ?_
     refine dr_cons (ref06_form_e73 a0) (fun m h => step_on (guard_on rfl rfl rfl h.1.1 hb11) (op_pick_f rfl h.1.2.1 hb12 rfl rfl rfl) rfl) ⟨⟨rfl, rfl, trivial⟩, trivial, trivial⟩ ?_
     refine dr_cons (ref06_form_e74 a0) (fun m h => step_on (guard_no rfl) (op_pick_f rfl h.1.1 hb11 h.1.2.1 rfl rfl) rfl) ⟨⟨rfl, rfl, trivial⟩, trivial, trivial⟩ ?_
     refine dr_nil mixed rfl (by kernel_rfl) ?_
     refine piz (sX 113 [(1, some (.lp 0 0)), pf 62 (.bool false)] [bf 0 46 (eGExpr a0)] 1) [0] ?_
     cases hF
     exact pcz [0]
    iterate 3 refine dro_f hb8 ?_
    refine dr_cons { need := [(32, .pv (.bool (a0.fNum != 0))), (36, .pv (.bool (a0.fKind != 2)))], dst := some 40, val := some (.pv (.bool false)) } (fun m h => step_on (guard_on rfl rfl rfl h.1.1 hb7) (op_pick_f rfl h.1.2.1 hb8 rfl rfl rfl) rfl) ⟨⟨rfl, rfl, trivial⟩, trivial, trivial⟩ ?_
    refine dr_cons { need := [(32, .pv (.bool (a0.fNum != 0))), (40, .pv (.bool false))], dst := some 41, val := some (.pv (.bool false)) } (fun m h => step_on (guard_no rfl) (op_pick_f rfl h.1.1 hb7 h.1.2.1 rfl rfl) rfl) ⟨⟨rfl, rfl, trivial⟩, trivial, trivial⟩ ?_
    refine dgo ?_
    refine dr_cons ref06_form_e77 (fun m h => step_on (guard_on rfl rfl rfl h.1.1 rfl) (op_field_lp rfl h.1.2.1 fld_46_1 rfl rfl) rfl) ⟨⟨rfl, rfl, trivial⟩, trivial, trivial⟩ ?_
    refine dr_cons (ref06_form_e78 a0) (fun m h => step_on (guard_on rfl rfl rfl h.1.1 rfl) (op_load_lp (v := .pv (.int .i64 a0.fNum)) rfl h.1.2.1 h.2.1.1 rfl one_3 rfl rfl) rfl) ⟨⟨rfl, rfl, trivial⟩, ⟨rfl, trivial⟩, trivial⟩ ?_
    refine dr_cons (ref06_form_e79 a0) (fun m h => step_on (guard_on rfl rfl rfl h.1.1 rfl) (op_int (k := .i64) (m := a0.fNum) (n := 0) rfl h.1.2.1 rfl rfl rfl rfl) rfl) ⟨⟨rfl, rfl, trivial⟩, trivial, trivial⟩ ?_
    refine dr_cons (ref06_form_e80 a0) (fun m h => step_on (guard_no rfl) (op_pick_f rfl h.1.1 rfl h.1.2.1 rfl rfl) rfl) ⟨⟨rfl, rfl, trivial⟩, trivial, trivial⟩ ?_
    refine dgo ?_
    rcases ie hF with ⟨hb15, hF⟩ | ⟨hb15, hF⟩
    ·refine dro_t hb15 ?_
     iterate 2 refine dro_t hb15 ?_
     refine drpt hb15 ?_
     refine dgo ?_
     iterate 4 refine dro_t rfl ?_
     iterate 4 refine dgo ?_
     refine dro_t rfl ?_
     refine drpt rfl ?_
     refine dr_nil mixed rfl (by kernel_rfl) ?_
     refine piz (sX 113 [(1, some (.lp 0 0)), pf 62 (.bool true)] [bf 0 46 (eGExpr a0)] 1) [0] ?_
     cases hF
     exact pcz [0]
    refine dr_cons (ref06_form_e59 a0) (fun m h => step_on (guard_on rfl rfl rfl h.1.1 hb15) (op_field_lp rfl h.1.2.1 fld_46_1 rfl rfl) rfl) ⟨⟨rfl, rfl, trivial⟩, trivial, trivial⟩ ?_
    refine dr_cons (ref06_form_e60 a0) (fun m h => step_on (guard_on rfl rfl rfl h.1.1 hb15) (op_load_lp (v := .pv (.int .i64 a0.fNum)) rfl h.1.2.1 h.2.1.1 rfl one_3 rfl rfl) rfl) ⟨⟨rfl, rfl, trivial⟩, ⟨rfl, trivial⟩, trivial⟩ ?_
    refine dr_cons (ref06_form_e61 a0) (fun m h => step_on (guard_on rfl rfl rfl h.1.1 hb15) (op_int (k := .i64) (m := a0.fNum) (n := 999999999) rfl h.1.2.1 rfl rfl rfl rfl) rfl) ⟨⟨rfl, rfl, trivial⟩, trivial, trivial⟩ ?_
    refine dr_cons (ref06_form_e62 a0) (fun m h => step_on (guard_no rfl) (op_pick_f rfl h.1.1 hb15 h.1.2.1 rfl rfl) rfl) ⟨⟨rfl, rfl, trivial⟩, trivial, trivial⟩ ?_
    refine dgo ?_
    rcases ie hF with ⟨hb16, hF⟩ | ⟨hb16, hF⟩
    ·refine dro_t hb16 ?_
     iterate 3 refine dro_t hb16 ?_
     iterate 4 refine dgo ?_
     refine dro_t hb16 ?_
     refine drpt hb16 ?_
     refine dr_nil mixed rfl (by kernel_rfl) ?_
     refine piz (sX 113 [(1, some (.lp 0 0)), pf 62 (.bool true)] [bf 0 46 (eGExpr a0)] 1) [0] ?_
     cases hF
     exact pcz [0]
    refine dr_cons (ref06_form_e63 a0) (fun m h => step_on (guard_on rfl rfl rfl h.1.1 hb16) (op_field_lp rfl h.1.2.1 fld_46_0 rfl rfl) rfl) ⟨⟨rfl, rfl, trivial⟩, trivial, trivial⟩ ?_
    refine dr_cons (ref06_form_e64 a0) (fun m h => step_on (guard_on rfl rfl rfl h.1.1 hb16) (op_load_lp (v := .pv (.int .i64 a0.fKind)) rfl h.1.2.1 h.2.1.1 rfl one_3 rfl rfl) rfl) ⟨⟨rfl, rfl, trivial⟩, ⟨rfl, trivial⟩, trivial⟩ ?_
    refine dr_cons (ref06_form_e65 a0) (fun m h => step_on (guard_on rfl rfl rfl h.1.1 hb16) (op_int (k := .i64) (m := a0.fKind) (n := 2) rfl h.1.2.1 rfl rfl rfl rfl) rfl) ⟨⟨rfl, rfl, trivial⟩, trivial, trivial⟩ ?_
    refine dr_cons (ref06_form_e66 a0) (fun m h => step_on (guard_on rfl rfl rfl h.1.1 hb16) (op_move rfl h.1.2.1 rfl rfl) rfl) ⟨⟨rfl, rfl, trivial⟩, trivial, trivial⟩ ?_
    rcases ie hF with ⟨hb17, hF⟩ | ⟨hb17, hF⟩
    ·refine dr_cons (ref06_form_e67 a0) (fun m h => step_on (guard_on rfl rfl rfl h.1.1 hb17) (op_field_lp rfl h.1.2.1 fld_46_2 rfl rfl) rfl) ⟨⟨rfl, rfl, trivial⟩, trivial, trivial⟩ ?_
     refine dr_cons (ref06_form_e68 a0) (fun m h => step_on (guard_on rfl rfl rfl h.1.1 hb17) (op_load_lp (v := .pv (.str a0.fName)) rfl h.1.2.1 h.2.1.1 rfl one_9 rfl rfl) rfl) ⟨⟨rfl, rfl, trivial⟩, ⟨rfl, trivial⟩, trivial⟩ ?_
     obtain ⟨y18, h19, hF⟩ := bs hF
     refine dr_cons { need := [(56, .pv (.bool (a0.fKind == 2))), (58, .pv (.str a0.fName))], dst := some 59, val := some (.pv (.bool y18)) } (fun m h => step_on (guard_on rfl rfl rfl h.1.1 hb17) (op_call 1 rfl (caps := []) (args := [.str a0.fName]) (rs := [.p (.bool y18)]) rfl rfl (evl_cons h.1.2.1 evl_nil) cal_65 (ref02_Name_ok h19) rfl rfl rfl) rfl) ⟨⟨rfl, rfl, trivial⟩, trivial, trivial⟩ ?_
     refine dr_cons { need := [(56, .pv (.bool (a0.fKind == 2))), (59, .pv (.bool y18))], dst := some 60, val := some (.pv (.bool (!y18))) } (fun m h => step_on (guard_on rfl rfl rfl h.1.1 hb17) (op_not rfl h.1.2.1 rfl rfl) rfl) ⟨⟨rfl, rfl, trivial⟩, trivial, trivial⟩ ?_
     refine dr_cons { need := [(52, .pv (.bool (decide (a0.fNum > 999999999)))), (56, .pv (.bool (a0.fKind == 2))), (60, .pv (.bool (!y18)))], dst := some 61, val := some (.pv (.bool (!y18))) } (fun m h => step_on (guard_on rfl rfl rfl h.1.1 hb16) (op_pick_t rfl h.1.2.1 hb17 h.1.2.2.1 rfl rfl) rfl) ⟨⟨rfl, rfl, rfl, trivial⟩, trivial, trivial⟩ ?_
     refine dr_cons { need := [(52, .pv (.bool (decide (a0.fNum > 999999999)))), (61, .pv (.bool (!y18)))], dst := some 62, val := some (.pv (.bool (!y18))) } (fun m h => step_on (guard_no rfl) (op_pick_f rfl h.1.1 hb16 h.1.2.1 rfl rfl) rfl) ⟨⟨rfl, rfl, trivial⟩, trivial, trivial⟩ ?_
     refine dr_nil mixed rfl (by kernel_rfl) ?_
     refine piz (sX 113 [(1, some (.lp 0 0)), pf 62 (.bool (!y18))] [bf 0 46 (eGExpr a0)] 1) [0] ?_
     cases hF
     exact pcz [0]
    iterate 4 refine dro_f hb17 ?_
    refine dr_cons (ref06_form_e73 a0) (fun m h => step_on (guard_on rfl rfl rfl h.1.1 hb16) (op_pick_f rfl h.1.2.1 hb17 rfl rfl rfl) rfl) ⟨⟨rfl, rfl, trivial⟩, trivial, trivial⟩ ?_
    refine dr_cons (ref06_form_e74 a0) (fun m h => step_on (guard_no rfl) (op_pick_f rfl h.1.1 hb16 h.1.2.1 rfl rfl) rfl) ⟨⟨rfl, rfl, trivial⟩, trivial, trivial⟩ ?_
    refine dr_nil mixed rfl (by kernel_rfl) ?_
    refine piz (sX 113 [(1, some (.lp 0 0)), pf 62 (.bool false)] [bf 0 46 (eGExpr a0)] 1) [0] ?_
    cases hF
    exact pcz [0]
   iterate 3 refine dro_f hb6 ?_
   refine dr_cons { need := [(22, .pv (.bool ((a0.fKids.length : Int) != y3))), (26, .pv (.bool (a0.fKind != 1)))], dst := some 30, val := some (.pv (.bool false)) } (fun m h => step_on (guard_on rfl rfl rfl h.1.1 hb5) (op_pick_f rfl h.1.2.1 hb6 rfl rfl rfl) rfl) ⟨⟨rfl, rfl, trivial⟩, trivial, trivial⟩ ?_
   refine dr_cons { need := [(22, .pv (.bool ((a0.fKids.length : Int) != y3))), (30, .pv (.bool false))], dst := some 31, val := some (.pv (.bool false)) } (fun m h => step_on (guard_no rfl) (op_pick_f rfl h.1.1 hb5 h.1.2.1 rfl rfl) rfl) ⟨⟨rfl, rfl, trivial⟩, trivial, trivial⟩ ?_
   refine dgo ?_
   iterate 3 refine dgn rfl ?_
   refine dr_cons { need := [(32, .pv (.bool false)), (35, .pv (.bool (a0.fKind != 2)))], dst := some 36, val := some (.pv (.bool (a0.fKind != 2))) } (fun m h => step_on (guard_on rfl rfl rfl h.1.1 rfl) (op_move rfl h.1.2.1 rfl rfl) rfl) ⟨⟨rfl, rfl, trivial⟩, trivial, trivial⟩ ?_
   rcases ie hF with ⟨hb20, hF⟩ | ⟨hb20, hF⟩
   ·refine dgn hb20 ?_
    refine dr_cons (ref06_form_e51 a0) (fun m h => step_on (guard_on rfl rfl rfl h.1.1 hb20) (op_load_lp (v := .pv (.str a0.fName)) rfl h.1.2.1 h.2.1.1 rfl one_9 rfl rfl) rfl) ⟨⟨rfl, rfl, trivial⟩, ⟨rfl, trivial⟩, trivial⟩ ?_
    refine dr_cons (ref06_form_e52 a0) (fun m h => step_on (guard_on rfl rfl rfl h.1.1 hb20) (op_str rfl h.1.2.1 rfl rfl rfl rfl) rfl) ⟨⟨rfl, rfl, trivial⟩, trivial, trivial⟩ ?_
    refine dr_cons { need := [(32, .pv (.bool false)), (36, .pv (.bool (a0.fKind != 2))), (39, .pv (.bool (!(a0.fName == []))))], dst := some 40, val := some (.pv (.bool (!(a0.fName == [])))) } (fun m h => step_on (guard_on rfl rfl rfl h.1.1 rfl) (op_pick_t rfl h.1.2.1 hb20 h.1.2.2.1 rfl rfl) rfl) ⟨⟨rfl, rfl, rfl, trivial⟩, trivial, trivial⟩ ?_
    refine dr_cons { need := [(32, .pv (.bool false)), (40, .pv (.bool (!(a0.fName == []))))], dst := some 41, val := some (.pv (.bool (!(a0.fName == [])))) } (fun m h => step_on (guard_no rfl) (op_pick_f rfl h.1.1 rfl h.1.2.1 rfl rfl) rfl) ⟨⟨rfl, rfl, trivial⟩, trivial, trivial⟩ ?_
    refine dgo ?_
    rcases ie hF with ⟨hb21, hF⟩ | ⟨hb21, hF⟩
    ·refine dro_t hb21 ?_
     iterate 2 refine dro_t hb21 ?_
     refine drpt hb21 ?_
     refine dgo ?_
     iterate 3 refine dro_t rfl ?_
     refine drpt rfl ?_
     refine dgo ?_
     iterate 4 refine dro_t rfl ?_
     iterate 4 refine dgo ?_
     refine dro_t rfl ?_
     refine drpt rfl ?_
     refine dr_nil mixed rfl (by kernel_rfl) ?_
     refine piz (sX 113 [(1, some (.lp 0 0)), pf 62 (.bool true)] [bf 0 46 (eGExpr a0)] 1) [0] ?_
     cases hF
     exact pcz [0]
    refine dgn hb21 ?_
    refine dr_cons (ref06_form_e56 a0) (fun m h => step_on (guard_on rfl rfl rfl h.1.1 hb21) (op_load_lp (v := .pv (.int .i64 a0.fNum)) rfl h.1.2.1 h.2.1.1 rfl one_3 rfl rfl) rfl) ⟨⟨rfl, rfl, trivial⟩, ⟨rfl, trivial⟩, trivial⟩ ?_
    refine dr_cons (ref06_form_e57 a0) (fun m h => step_on (guard_on rfl rfl rfl h.1.1 hb21) (op_int (k := .i64) (m := a0.fNum) (n := 0) rfl h.1.2.1 rfl rfl rfl rfl) rfl) ⟨⟨rfl, rfl, trivial⟩, trivial, trivial⟩ ?_
    refine dr_cons (ref06_form_e58 a0) (fun m h => step_on (guard_no rfl) (op_pick_f rfl h.1.1 hb21 h.1.2.1 rfl rfl) rfl) ⟨⟨rfl, rfl, trivial⟩, trivial, trivial⟩ ?_
    refine dgo ?_
    rcases ie hF with ⟨hb22, hF⟩ | ⟨hb22, hF⟩
    ·refine dro_t hb22 ?_
     iterate 2 refine dro_t hb22 ?_
     refine drpt hb22 ?_
     refine dgo ?_
     iterate 4 refine dro_t rfl ?_
     iterate 4 refine dgo ?_
     refine dro_t rfl ?_
     refine drpt rfl ?_
     refine dr_nil mixed rfl (by kernel_rfl) ?_
     refine piz (sX 113 [(1, some (.lp 0 0)), pf 62 (.bool true)] [bf 0 46 (eGExpr a0)] 1) [0] ?_
     cases hF
     exact pcz [0]
    refine dr_cons (ref06_form_e59 a0) (fun m h => step_on (guard_on rfl rfl rfl h.1.1 hb22) (op_field_lp rfl h.1.2.1 fld_46_1 rfl rfl) rfl) ⟨⟨rfl, rfl, trivial⟩, trivial, trivial⟩ ?_
    refine dr_cons (ref06_form_e60 a0) (fun m h => step_on (guard_on rfl rfl rfl h.1.1 hb22) (op_load_lp (v := .pv (.int .i64 a0.fNum)) rfl h.1.2.1 h.2.1.1 rfl one_3 rfl rfl) rfl) ⟨⟨rfl, rfl, trivial⟩, ⟨rfl, trivial⟩, trivial⟩ ?_
    refine dr_cons (ref06_form_e61 a0) (fun m h => step_on (guard_on rfl rfl rfl h.1.1 hb22) (op_int (k := .i64) (m := a0.fNum) (n := 999999999) rfl h.1.2.1 rfl rfl rfl rfl) rfl) ⟨⟨rfl, rfl, trivial⟩, trivial, trivial⟩ ?_
    refine dr_cons (ref06_form_e62 a0) (fun m h => step_on (guard_no rfl) (op_pick_f rfl h.1.1 hb22 h.1.2.1 rfl rfl) rfl) ⟨⟨rfl, rfl, trivial⟩, trivial, trivial⟩ ?_
    refine dgo ?_
    rcases ie hF with ⟨hb23, hF⟩ | ⟨hb23, hF⟩
    ·refine dro_t hb23 ?_
     iterate 3 refine dro_t hb23 ?_
     iterate 4 refine dgo ?_
     refine dro_t hb23 ?_
     refine drpt hb23 ?_
     refine dr_nil mixed rfl (by kernel_rfl) ?_
     refine piz (sX 113 [(1, some (.lp 0 0)), pf 62 (.bool true)] [bf 0 46 (eGExpr a0)] 1) [0] ?_
     cases hF
     exact pcz [0]
    refine dr_cons (ref06_form_e63 a0) (fun m h => step_on (guard_on rfl rfl rfl h.1.1 hb23) (op_field_lp rfl h.1.2.1 fld_46_0 rfl rfl) rfl) ⟨⟨rfl, rfl, trivial⟩, trivial, trivial⟩ ?_
    refine dr_cons (ref06_form_e64 a0) (fun m h => step_on (guard_on rfl rfl rfl h.1.1 hb23) (op_load_lp (v := .pv (.int .i64 a0.fKind)) rfl h.1.2.1 h.2.1.1 rfl one_3 rfl rfl) rfl) ⟨⟨rfl, rfl, trivial⟩, ⟨rfl, trivial⟩, trivial⟩ ?_
    refine dr_cons (ref06_form_e65 a0) (fun m h => step_on (guard_on rfl rfl rfl h.1.1 hb23) (op_int (k := .i64) (m := a0.fKind) (n := 2) rfl h.1.2.1 rfl rfl rfl rfl) rfl) ⟨⟨rfl, rfl, trivial⟩, trivial, trivial⟩ ?_
    refine dr_cons (ref06_form_e66 a0) (fun m h => step_on (guard_on rfl rfl rfl h.1.1 hb23) (op_move rfl h.1.2.1 rfl rfl) rfl) ⟨⟨rfl, rfl, trivial⟩, trivial, trivial⟩ ?_
    rcases ie hF with ⟨hb24, hF⟩ | ⟨hb24, hF⟩
    ·refine dr_cons (ref06_form_e67 a0) (fun m h => step_on (guard_on rfl rfl rfl h.1.1 hb24) (op_field_lp rfl h.1.2.1 fld_46_2 rfl rfl) rfl) ⟨⟨rfl, rfl, trivial⟩, trivial, trivial⟩ ?_
     refine dr_cons (ref06_form_e68 a0) (fun m h => step_on (guard_on rfl rfl rfl h.1.1 hb24) (op_load_lp (v := .pv (.str a0.fName)) rfl h.1.2.1 h.2.1.1 rfl one_9 rfl rfl) rfl) ⟨⟨rfl, rfl, trivial⟩, ⟨rfl, trivial⟩, trivial⟩ ?_
     obtain ⟨y25, h26, hF⟩ := bs hF
     refine dr_cons { need := [(56, .pv (.bool (a0.fKind == 2))), (58, .pv (.str a0.fName))], dst := some 59, val := some (.pv (.bool y25)) } (fun m h => step_on (guard_on rfl rfl rfl h.1.1 hb24) (op_call 1 rfl (caps := []) (args := [.str a0.fName]) (rs := [.p (.bool y25)]) rfl rfl (evl_cons h.1.2.1 evl_nil) cal_65 (ref02_Name_ok h26) rfl rfl rfl) rfl) ⟨⟨rfl, rfl, trivial⟩, trivial, trivial⟩ ?_
     refine dr_cons { need := [(56, .pv (.bool (a0.fKind == 2))), (59, .pv (.bool y25))], dst := some 60, val := some (.pv (.bool (!y25))) } (fun m h => step_on (guard_on rfl rfl rfl h.1.1 hb24) (op_not rfl h.1.2.1 rfl rfl) rfl) ⟨⟨rfl, rfl, trivial⟩, trivial, trivial⟩ ?_
     refine dr_cons { need := [(52, .pv (.bool (decide (a0.fNum > 999999999)))), (56, .pv (.bool (a0.fKind == 2))), (60, .pv (.bool (!y25)))], dst := some 61, val := some (.pv (.bool (!y25))) } (fun m h => step_on (guard_on rfl rfl rfl h.1.1 hb23) (op_pick_t rfl h.1.2.1 hb24 h.1.2.2.1 rfl rfl) rfl) ⟨⟨rfl, rfl, rfl, trivial⟩, trivial, trivial⟩ ?_
     refine dr_cons { need := [(52, .pv (.bool (decide (a0.fNum > 999999999)))), (61, .pv (.bool (!y25)))], dst := some 62, val := some (.pv (.bool (!y25))) } (fun m h => step_on (guard_no rfl) (op_pick_f rfl h.1.1 hb23 h.1.2.1 rfl rfl) rfl) ⟨⟨rfl, rfl, trivial⟩, trivial, trivial⟩ ?_
     refine dr_nil mixed rfl (by kernel_rfl) ?_
     refine piz (sX 113 [(1, some (.lp 0 0)), pf 62 (.bool (!y25))] [bf 0 46 (eGExpr a0)] 1) [0] ?_
     cases hF
     exact pcz [0]
    iterate 4 refine dro_f hb24 ?_
    refine dr_cons (ref06_form_e73 a0) (fun m h => step_on (guard_on rfl rfl rfl h.1.1 hb23) (op_pick_f rfl h.1.2.1 hb24 rfl rfl rfl) rfl) ⟨⟨rfl, rfl, trivial⟩, trivial, trivial⟩ ?_
    refine dr_cons (ref06_form_e74 a0) (fun m h => step_on (guard_no rfl) (op_pick_f rfl h.1.1 hb23 h.1.2.1 rfl rfl) rfl) ⟨⟨rfl, rfl, trivial⟩, trivial, trivial⟩ ?_
    refine dr_nil mixed rfl (by kernel_rfl) ?_
    refine piz (sX 113 [(1, some (.lp 0 0)), pf 62 (.bool false)] [bf 0 46 (eGExpr a0)] 1) [0] ?_
    cases hF
    exact pcz [0]
   iterate 3 refine dro_f hb20 ?_
   refine dr_cons { need := [(32, .pv (.bool false)), (36, .pv (.bool (a0.fKind != 2)))], dst := some 40, val := some (.pv (.bool false)) } (fun m h => step_on (guard_on rfl rfl rfl h.1.1 rfl) (op_pick_f rfl h.1.2.1 hb20 rfl rfl rfl) rfl) ⟨⟨rfl, rfl, trivial⟩, trivial, trivial⟩ ?_
   refine dr_cons { need := [(32, .pv (.bool false)), (40, .pv (.bool false))], dst := some 41, val := some (.pv (.bool false)) } (fun m h => step_on (guard_no rfl) (op_pick_f rfl h.1.1 rfl h.1.2.1 rfl rfl) rfl) ⟨⟨rfl, rfl, trivial⟩, trivial, trivial⟩ ?_
   refine dgo ?_
   refine dr_cons ref06_form_e77 (fun m h => step_on (guard_on rfl rfl rfl h.1.1 rfl) (op_field_lp rfl h.1.2.1 fld_46_1 rfl rfl) rfl) ⟨⟨rfl, rfl, trivial⟩, trivial, trivial⟩ ?_
   refine dr_cons (ref06_form_e78 a0) (fun m h => step_on (guard_on rfl rfl rfl h.1.1 rfl) (op_load_lp (v := .pv (.int .i64 a0.fNum)) rfl h.1.2.1 h.2.1.1 rfl one_3 rfl rfl) rfl) ⟨⟨rfl, rfl, trivial⟩, ⟨rfl, trivial⟩, trivial⟩ ?_
   refine dr_cons (ref06_form_e79 a0) (fun m h => step_on (guard_on rfl rfl rfl h.1.1 rfl) (op_int (k := .i64) (m := a0.fNum) (n := 0) rfl h.1.2.1 rfl rfl rfl rfl) rfl) ⟨⟨rfl, rfl, trivial⟩, trivial, trivial⟩ ?_
   refine dr_cons (ref06_form_e80 a0) (fun m h => step_on (guard_no rfl) (op_pick_f rfl h.1.1 rfl h.1.2.1 rfl rfl) rfl) ⟨⟨rfl, rfl, trivial⟩, trivial, trivial⟩ ?_
   refine dgo ?_
   rcases ie hF with ⟨hb27, hF⟩ | ⟨hb27, hF⟩
   ·refine dro_t hb27 ?_
    iterate 2 refine dro_t hb27 ?_
    refine drpt hb27 ?_
    refine dgo ?_
    iterate 4 refine dro_t rfl ?_
    iterate 4 refine dgo ?_
    refine dro_t rfl ?_
    refine drpt rfl ?_
    refine dr_nil mixed rfl (by kernel_rfl) ?_
    refine piz (sX 113 [(1, some (.lp 0 0)), pf 62 (.bool true)] [bf 0 46 (eGExpr a0)] 1) [0] ?_
    cases hF
    exact pcz [0]
   refine dr_cons (ref06_form_e59 a0) (fun m h => step_on (guard_on rfl rfl rfl h.1.1 hb27) (op_field_lp rfl h.1.2.1 fld_46_1 rfl rfl) rfl) ⟨⟨rfl, rfl, trivial⟩, trivial, trivial⟩ ?_
   refine dr_cons (ref06_form_e60 a0) (fun m h => step_on (guard_on rfl rfl rfl h.1.1 hb27) (op_load_lp (v := .pv (.int .i64 a0.fNum)) rfl h.1.2.1 h.2.1.1 rfl one_3 rfl rfl) rfl) ⟨⟨rfl, rfl, trivial⟩, ⟨rfl, trivial⟩, trivial⟩ ?_
   refine dr_cons (ref06_form_e61 a0) (fun m h => step_on (guard_on rfl rfl rfl h.1.1 hb27) (op_int (k := .i64) (m := a0.fNum) (n := 999999999) rfl h.1.2.1 rfl rfl rfl rfl) rfl) ⟨⟨rfl, rfl, trivial⟩, trivial, trivial⟩ ?_
   refine dr_cons (ref06_form_e62 a0) (fun m h => step_on (guard_no rfl) (op_pick_f rfl h.1.1 hb27 h.1.2.1 rfl rfl) rfl) ⟨⟨rfl, rfl, trivial⟩, trivial, trivial⟩ ?_
   refine dgo ?_
   rcases ie hF with ⟨hb28, hF⟩ | ⟨hb28, hF⟩
   ·refine dro_t hb28 ?_
    iterate 3 refine dro_t hb28 ?_
    iterate 4 refine dgo ?_
    refine dro_t hb28 ?_
    refine drpt hb28 ?_
    refine dr_nil mixed rfl (by kernel_rfl) ?_
    refine piz (sX 113 [(1, some (.lp 0 0)), pf 62 (.bool true)] [bf 0 46 (eGExpr a0)] 1) [0] ?_
    cases hF
    exact pcz [0]
   refine dr_cons (ref06_form_e63 a0) (fun m h => step_on (guard_on rfl rfl rfl h.1.1 hb28) (op_field_lp rfl h.1.2.1 fld_46_0 rfl rfl) rfl) ⟨⟨rfl, rfl, trivial⟩, trivial, trivial⟩ ?_
   refine dr_cons (ref06_form_e64 a0) (fun m h => step_on (guard_on rfl rfl rfl h.1.1 hb28) (op_load_lp (v := .pv (.int .i64 a0.fKind)) rfl h.1.2.1 h.2.1.1 rfl one_3 rfl rfl) rfl) ⟨⟨rfl, rfl, trivial⟩, ⟨rfl, trivial⟩, trivial⟩ ?_
   refine dr_cons (ref06_form_e65 a0) (fun m h => step_on (guard_on rfl rfl rfl h.1.1 hb28) (op_int (k := .i64) (m := a0.fKind) (n := 2) rfl h.1.2.1 rfl rfl rfl rfl) rfl) ⟨⟨rfl, rfl, trivial⟩, trivial, trivial⟩ ?_
   refine dr_cons (ref06_form_e66 a0) (fun m h => step_on (guard_on rfl rfl rfl h.1.1 hb28) (op_move rfl h.1.2.1 rfl rfl) rfl) ⟨⟨rfl, rfl, trivial⟩, trivial, trivial⟩ ?_
   rcases ie hF with ⟨hb29, hF⟩ | ⟨hb29, hF⟩
   ·refine dr_cons (ref06_form_e67 a0) (fun m h => step_on (guard_on rfl rfl rfl h.1.1 hb29) (op_field_lp rfl h.1.2.1 fld_46_2 rfl rfl) rfl) ⟨⟨rfl, rfl, trivial⟩, trivial, trivial⟩ ?_
    refine dr_cons (ref06_form_e68 a0) (fun m h => step_on (guard_on rfl rfl rfl h.1.1 hb29) (op_load_lp (v := .pv (.str a0.fName)) rfl h.1.2.1 h.2.1.1 rfl one_9 rfl rfl) rfl) ⟨⟨rfl, rfl, trivial⟩, ⟨rfl, trivial⟩, trivial⟩ ?_
    obtain ⟨y30, h31, hF⟩ := bs hF
    refine dr_cons { need := [(56, .pv (.bool (a0.fKind == 2))), (58, .pv (.str a0.fName))], dst := some 59, val := some (.pv (.bool y30)) } (fun m h => step_on (guard_on rfl rfl rfl h.1.1 hb29) (op_call 1 rfl (caps := []) (args := [.str a0.fName]) (rs := [.p (.bool y30)]) rfl rfl (evl_cons h.1.2.1 evl_nil) cal_65 (ref02_Name_ok h31) rfl rfl rfl) rfl) ⟨⟨rfl, rfl, trivial⟩, trivial, trivial⟩ ?_
    refine dr_cons { need := [(56, .pv (.bool (a0.fKind == 2))), (59, .pv (.bool y30))], dst := some 60, val := some (.pv (.bool (!y30))) } (fun m h => step_on (guard_on rfl rfl rfl h.1.1 hb29) (op_not rfl h.1.2.1 rfl rfl) rfl) ⟨⟨rfl, rfl, trivial⟩, trivial, trivial⟩ ?_
    refine dr_cons { need := [(52, .pv (.bool (decide (a0.fNum > 999999999)))), (56, .pv (.bool (a0.fKind == 2))), (60, .pv (.bool (!y30)))], dst := some 61, val := some (.pv (.bool (!y30))) } (fun m h => step_on (guard_on rfl rfl rfl h.1.1 hb28) (op_pick_t rfl h.1.2.1 hb29 h.1.2.2.1 rfl rfl) rfl) ⟨⟨rfl, rfl, rfl, trivial⟩, trivial, trivial⟩ ?_
    refine dr_cons { need := [(52, .pv (.bool (decide (a0.fNum > 999999999)))), (61, .pv (.bool (!y30)))], dst := some 62, val := some (.pv (.bool (!y30))) } (fun m h => step_on (guard_no rfl) (op_pick_f rfl h.1.1 hb28 h.1.2.1 rfl rfl) rfl) ⟨⟨rfl, rfl, trivial⟩, trivial, trivial⟩ ?_
    refine dr_nil mixed rfl (by kernel_rfl) ?_
    refine piz (sX 113 [(1, some (.lp 0 0)), pf 62 (.bool (!y30))] [bf 0 46 (eGExpr a0)] 1) [0] ?_
    cases hF
    exact pcz [0]
   iterate 4 refine dro_f hb29 ?_
   refine dr_cons (ref06_form_e73 a0) (fun m h => step_on (guard_on rfl rfl rfl h.1.1 hb28) (op_pick_f rfl h.1.2.1 hb29 rfl rfl rfl) rfl) ⟨⟨rfl, rfl, trivial⟩, trivial, trivial⟩ ?_
   refine dr_cons (ref06_form_e74 a0) (fun m h => step_on (guard_no rfl) (op_pick_f rfl h.1.1 hb28 h.1.2.1 rfl rfl) rfl) ⟨⟨rfl, rfl, trivial⟩, trivial, trivial⟩ ?_
   refine dr_nil mixed rfl (by kernel_rfl) ?_
   refine piz (sX 113 [(1, some (.lp 0 0)), pf 62 (.bool false)] [bf 0 46 (eGExpr a0)] 1) [0] ?_
   cases hF
   exact pcz [0]
  have hF := hK34
  refine go ?_
  refine cnd hF (fun hb35 hF => ?_) fun hb35 hF => ?_
  ·iterate 5 refine go ?_
   cases hF
   exact prt
  iterate 6 refine go ?_
  obtain ⟨lr117, hF, hK118⟩ := bs hF
  refine aw_for ((a0.fKids.length - 0 : Int).toNat + 1) (fun s1 => ∃ q, lr117 = .next q ∧ s1 = (sX 113 [] [] 0)) ?_ ?_
  ·refine rnd_loop (α := Int) (fun q => (sX 113 [(1, some (.lp 0 0)), pf 3 (.int .i64 q)] [bf 0 46 (eGExpr a0)] 1)) (fun k q => ref06_form_L1 a0 ref06_form_rec k q = some lr117) 0 (impz [0]) hF (fun q h => by cases h) ?_
   clear hF
   rintro k x62 hF ih
   refine rnd_succ ?_
   iterate 5 refine go ?_
   refine rgp (op_len_vs (n := a0.fKids.length) rfl rfl (lenR eLGExpr_map) slc_44 rfl rfl) ?_
   iterate 2 refine go ?_
   refine cnd hF (fun hb90 hF => ?_) fun hb90 hF => ?_
   ·iterate 2 refine go ?_
    refine aw_seq ?_
    refine aw_block ?_
    iterate 4 refine go ?_
    obtain ⟨y93, h94, hF⟩ := bs hF
    refine rgp (ix (idxR eLGExpr_map h94) slc_44) ?_
    iterate 4 refine go ?_
    refine aw_seq ?_
    obtain ⟨x112, hF, hK114⟩ := bs hF
    refine ctx (sX 113 [(1, some (.lp 0 0)), pf 3 (.int .i64 x62), pf 112 (.bool x112)] [bf 0 46 (eGExpr a0)] 1) ?_ ?_
    ·iterate 4 refine go ?_
     obtain ⟨y99, h100, hF⟩ := bs hF
     refine rgp (ix (idxR eLGExpr_map h100) slc_44) ?_
     refine rgp (lw (eGExpr y99) agg_46) ?_
     obtain ⟨y101, h102, hF⟩ := bs hF
     refine rgp (cl 1 [.agg (eGExpr y99)] [.p (.bool y101)] (ref06_form_ih _ _ h102)) ?_
     iterate 2 refine go ?_
     rcases ie hF with ⟨hb103, hF⟩ | ⟨hb103, hF⟩
     ·refine rgo_t hb103 ?_
      iterate 3 refine rgo_t hb103 ?_
      iterate 2 refine go ?_
      iterate 2 refine rgo_t hb103 ?_
      iterate 2 refine go ?_
      refine rgo_t hb103 ?_
      refine rpt hb103 ?_
      refine go ?_
      iterate 4 refine rgo_t rfl ?_
      iterate 2 refine go ?_
      iterate 2 refine rgo_t rfl ?_
      iterate 2 refine go ?_
      iterate 2 refine rgo_t rfl ?_
      iterate 2 refine go ?_
      refine rgo_t rfl ?_
      refine rpt rfl ?_
      cases hF
      exact rcz [0]
     iterate 4 refine gn hb103 ?_
     rcases ie hF with ⟨hb104, hF⟩ | ⟨hb104, hF⟩
     ·iterate 2 refine gn hb104 ?_
      refine rgn hb103 (op_pick_t rfl rfl hb104 rfl rfl rfl) ?_
      refine gn hb103 ?_
      rcases ie hF with ⟨hb105, hF⟩ | ⟨hb105, hF⟩
      ·iterate 2 refine gn hb105 ?_
       refine rgn hb103 (op_pick_t rfl rfl hb105 rfl rfl rfl) ?_
       refine rpf hb103 ?_
       refine go ?_
       rcases ie hF with ⟨hb106, hF⟩ | ⟨hb106, hF⟩
       ·refine rgo_t hb106 ?_
        iterate 3 refine rgo_t hb106 ?_
        iterate 2 refine go ?_
        iterate 2 refine rgo_t hb106 ?_
        iterate 2 refine go ?_
        iterate 2 refine rgo_t hb106 ?_
        iterate 2 refine go ?_
        refine rgo_t hb106 ?_
        refine rpt hb106 ?_
        cases hF
        exact rcz [0]
       iterate 4 refine gn hb106 ?_
       rcases ie hF with ⟨hb107, hF⟩ | ⟨hb107, hF⟩
       ·iterate 2 refine gn hb107 ?_
        refine rgn hb106 (op_pick_t rfl rfl hb107 rfl rfl rfl) ?_
        refine gn hb106 ?_
        iterate 2 refine gn hb105 ?_
        refine rgn hb106 (op_pick_t rfl rfl hb105 rfl rfl rfl) ?_
        refine gn hb106 ?_
        iterate 2 refine rgo_f hb106 ?_
        refine rgn hb106 (op_pick_f rfl rfl hb106 rfl rfl rfl) ?_
        refine rpf hb106 ?_
        cases hF
        exact rcz [0]
       iterate 2 refine rgo_f hb107 ?_
       refine rgn hb106 (op_pick_f rfl rfl hb107 rfl rfl rfl) ?_
       refine gn hb106 ?_
       iterate 2 refine rgo_f rfl ?_
       refine rgn hb106 (op_pick_f rfl rfl rfl rfl rfl rfl) ?_
       refine gn hb106 ?_
       iterate 2 refine rgo_f rfl ?_
       refine rgn hb106 (op_pick_f rfl rfl rfl rfl rfl rfl) ?_
       refine rpf hb106 ?_
       cases hF
       exact rcz [0]
      iterate 2 refine rgo_f hb105 ?_
      refine rgn hb103 (op_pick_f rfl rfl hb105 rfl rfl rfl) ?_
      refine rpf hb103 ?_
      refine go ?_
      iterate 4 refine gn rfl ?_
      rcases ie hF with ⟨hb108, hF⟩ | ⟨hb108, hF⟩
      ·iterate 2 refine gn hb108 ?_
       refine rgn rfl (op_pick_t rfl rfl hb108 rfl rfl rfl) ?_
       refine gn rfl ?_
       iterate 2 refine rgo_f hb105 ?_
       refine rgn rfl (op_pick_f rfl rfl hb105 rfl rfl rfl) ?_
       refine gn rfl ?_
       iterate 2 refine rgo_f rfl ?_
       refine rgn rfl (op_pick_f rfl rfl rfl rfl rfl rfl) ?_
       refine rpf rfl ?_
       cases hF
       exact rcz [0]
      iterate 2 refine rgo_f hb108 ?_
      refine rgn rfl (op_pick_f rfl rfl hb108 rfl rfl rfl) ?_
      refine gn rfl ?_
      iterate 2 refine rgo_f rfl ?_
      refine rgn rfl (op_pick_f rfl rfl rfl rfl rfl rfl) ?_
      refine gn rfl ?_
      iterate 2 refine rgo_f rfl ?_
      refine rgn rfl (op_pick_f rfl rfl rfl rfl rfl rfl) ?_
      refine rpf rfl ?_
      cases hF
      exact rcz [0]
     iterate 2 refine rgo_f hb104 ?_
     refine rgn hb103 (op_pick_f rfl rfl hb104 rfl rfl rfl) ?_
     refine gn hb103 ?_
     iterate 2 refine rgo_f rfl ?_
     refine rgn hb103 (op_pick_f rfl rfl rfl rfl rfl rfl) ?_
     refine rpf hb103 ?_
     refine go ?_
     iterate 4 refine gn rfl ?_
     rcases ie hF with ⟨hb109, hF⟩ | ⟨hb109, hF⟩
     ·iterate 2 refine gn hb109 ?_
      refine rgn rfl (op_pick_t rfl rfl hb109 rfl rfl rfl) ?_
      refine gn rfl ?_
      rcases ie hF with ⟨hb110, hF⟩ | ⟨hb110, hF⟩
      ·iterate 2 refine gn hb110 ?_
       refine rgn rfl (op_pick_t rfl rfl hb110 rfl rfl rfl) ?_
       refine gn rfl ?_
       rcases ie hF with ⟨hb111, hF⟩ | ⟨hb111, hF⟩
       ·iterate 2 refine gn hb111 ?_
        refine rgn rfl (op_pick_t rfl rfl hb111 rfl rfl rfl) ?_
        refine rpf rfl ?_
        cases hF
        exact rcz [0]
       iterate 2 refine rgo_f hb111 ?_
       refine rgn rfl (op_pick_f rfl rfl hb111 rfl rfl rfl) ?_
       refine rpf rfl ?_
       cases hF
       exact rcz [0]
      iterate 2 refine rgo_f hb110 ?_
      refine rgn rfl (op_pick_f rfl rfl hb110 rfl rfl rfl) ?_
      refine gn rfl ?_
      iterate 2 refine rgo_f rfl ?_
      refine rgn rfl (op_pick_f rfl rfl rfl rfl rfl rfl) ?_
      refine rpf rfl ?_
      cases hF
      exact rcz [0]
     iterate 2 refine rgo_f hb109 ?_
     refine rgn rfl (op_pick_f rfl rfl hb109 rfl rfl rfl) ?_
     refine gn rfl ?_
     iterate 2 refine rgo_f rfl ?_
     refine rgn rfl (op_pick_f rfl rfl rfl rfl rfl rfl) ?_
     refine gn rfl ?_
     iterate 2 refine rgo_f rfl ?_
     refine rgn rfl (op_pick_f rfl rfl rfl rfl rfl rfl) ?_
     refine rpf rfl ?_
     cases hF
     exact rcz [0]
    have hF := hK114
    refine go ?_
    refine cnd hF (fun hb115 hF => ?_) fun hb115 hF => ?_
    ·iterate 7 refine go ?_
     refine post_lp_ret ?_
     cases hF
     have hF := elim_stop hK118
     refine go ?_
     cases hF
     exact prt
    iterate 7 refine go ?_
    refine rnr ?_
    exact rnd_back (ih (w_i64 (x62 + 1)) hF) (impz [0])
   refine aw_exit ?_
   iterate 2 refine post_then_exit ?_
   cases hF
   exact post_lp_break _ ⟨_, rfl, rfl⟩ (impz [])
  rintro _ ⟨⟨⟩, rfl, rfl⟩
  have hF := elim_next hK118
  clear hK118
  iterate 5 refine go ?_
  cases hF
  exact prt
theorem ref06_form_ok {n : Nat} {a0 : GExpr} {r : Bool} (hF : ref06_form n a0 = some r) : FZ 181 [.agg (eGExpr a0)] [.p (.bool r)] := (ref06_form_ring n) _ _ hF

theorem ref06_Deep_ring : ∀ n : Nat, (∀ (a0 : GExpr) (r : Int), ref06_Deep n a0 = some r → FZ 182 [.agg (eGExpr a0)] [.p (.int .i64 r)]) := by
 intro n
 induction n with
 | zero => exact (fun _ _ h => by simp [ref06_Deep] at h)
 | succ n ih =>
  have ref06_Deep_ih := ih
  clear ih
  intro a0 r hF
  unfold ref06_Deep at hF
  revert hF ref06_Deep_ih
  generalize ref06_Deep n = ref06_Deep_rec
  intro ref06_Deep_ih hF
  refine fn_of_body (n := 22) Tryz.func182 rfl rfl rfl fun w O => ?_
  refine go ?_
  refine rgp (bo 0) ?_
  iterate 9 refine go ?_
  obtain ⟨x34, hF, hK35⟩ := bs hF
  refine aw_for ((a0.fKids.length - 0 : Int).toNat + 1) (fun s1 => s1 = (sX 22 [pf 3 (.int .i64 x34)] [] 0)) ?_ ?_
  ·refine rnd_loop (α := Int × Int) (fun q => (sX 22 [(1, some (.lp 0 0)), pf 3 (.int .i64 q.1), pf 4 (.int .i64 q.2)] [bf 0 46 (eGExpr a0)] 1)) (fun k q => ref06_Deep_L1 a0 ref06_Deep_rec k q.1 q.2 = some x34) (0, 0) (impz [0]) hF (fun q h => by cases h) ?_
   clear hF
   rintro k ⟨x10, x11⟩ hF ih
   refine rnd_succ ?_
   iterate 5 refine go ?_
   refine rgp (op_len_vs (n := a0.fKids.length) rfl rfl (lenR eLGExpr_map) slc_44 rfl rfl) ?_
   iterate 2 refine go ?_
   refine cnd hF (fun hb23 hF => ?_) fun hb23 hF => ?_
   ·iterate 2 refine go ?_
    refine aw_seq ?_
    refine aw_block ?_
    iterate 5 refine go ?_
    obtain ⟨y28, h29, hF⟩ := bs hF
    refine rgp (ix (idxR eLGExpr_map h29) slc_44) ?_
    refine rgp (lw (eGExpr y28) agg_46) ?_
    obtain ⟨y30, h31, hF⟩ := bs hF
    refine rgp (cl 1 [.agg (eGExpr y28)] [.p (.int .i64 y30)] (ref06_Deep_ih _ _ h31)) ?_
    refine rgp (op_max2 rfl rfl rfl rfl rfl) ?_
    refine go ?_
    refine reg_nil ?_
    refine piz (sX 22 [(1, some (.lp 0 0)), pf 3 (.int .i64 (if y30 > x10 then y30 else x10)), pf 4 (.int .i64 x11)] [bf 0 46 (eGExpr a0)] 1) [0] ?_
    iterate 6 refine go ?_
    refine rnr ?_
    exact rnd_back (ih ((if y30 > x10 then y30 else x10), w_i64 (x11 + 1)) hF) (impz [0])
   refine aw_exit ?_
   iterate 2 refine post_then_exit ?_
   cases hF
   exact post_lp_break _ rfl (impz [])
  rintro _ rfl
  have hF := hK35
  iterate 7 refine go ?_
  cases hF
  exact prt
theorem ref06_Deep_ok {n : Nat} {a0 : GExpr} {r : Int} (hF : ref06_Deep n a0 = some r) : FZ 182 [.agg (eGExpr a0)] [.p (.int .i64 r)] := (ref06_Deep_ring n) _ _ hF

theorem ref06_Right_ok {a0 : GExpr} {r : Bool} (hF : ref06_Right a0 = some r) : FZ 162 [.agg (eGExpr a0)] [.p (.bool r)] := by
 unfold ref06_Right at hF
 refine fn_of_body (n := 10) Tryz.func162 rfl rfl rfl fun w O => ?_
 refine go ?_
 refine rgp (bo 0) ?_
 iterate 3 refine go ?_
 refine rgp (la (eGExpr a0) agg_46) ?_
 obtain ⟨y1, h2, hF⟩ := bs hF
 refine rgp (cl 1 [.agg (eGExpr a0)] [.p (.bool y1)] (ref06_form_ok h2)) ?_
 refine go ?_
 rcases ie hF with ⟨hb3, hF⟩ | ⟨hb3, hF⟩
 ·refine rgn hb3 (la (eGExpr a0) agg_46) ?_
  obtain ⟨y4, h5, hF⟩ := bs hF
  refine rgn hb3 (cl 1 [.agg (eGExpr a0)] [.p (.int .i64 y4)] (ref06_Deep_ok h5)) ?_
  refine gn hb3 ?_
  refine rpt hb3 ?_
  iterate 3 refine go ?_
  cases hF
  exact prt
 iterate 3 refine rgo_f hb3 ?_
 refine rpf hb3 ?_
 iterate 3 refine go ?_
 cases hF
 exact prt
theorem ref08_tells_ok {a0 : GStmt} {r : Bool} (hF : ref08_tells a0 = some r) : FZ 143 [.agg (eGStmt a0)] [.p (.bool r)] := by
 unfold ref08_tells at hF
 refine fn_of_body (n := 86) Tryz.func143 rfl rfl rfl fun w O => ?_
 refine go ?_
 refine rgp (bo 0) ?_
 iterate 7 refine go ?_
 refine aw_seq ?_
 obtain ⟨x9, hF, hK11⟩ := bs hF
 refine ctx (sX 86 [(1, some (.lp 0 0)), pf 3 (.int .i64 a0.fKind), pf 4 (.bool x9)] [bf 0 48 (eGStmt a0)] 1) ?_ ?_
 ·iterate 4 refine go ?_
  rcases ie hF with ⟨hb1, hF⟩ | ⟨hb1, hF⟩
  ·refine rgo_t hb1 ?_
   refine rgo_t hb1 ?_
   refine rpt hb1 ?_
   refine go ?_
   iterate 2 refine rgo_t rfl ?_
   refine rpt rfl ?_
   refine go ?_
   iterate 2 refine rgo_t rfl ?_
   refine rpt rfl ?_
   refine go ?_
   iterate 2 refine rgo_t rfl ?_
   refine rpt rfl ?_
   refine go ?_
   iterate 3 refine rgo_t rfl ?_
   iterate 4 refine go ?_
   refine rgo_t rfl ?_
   refine rpt rfl ?_
   refine go ?_
   cases hF
   exact rcz [0]
  iterate 2 refine gn hb1 ?_
  refine rpf hb1 ?_
  refine go ?_
  rcases ie hF with ⟨hb2, hF⟩ | ⟨hb2, hF⟩
  ·refine rgo_t hb2 ?_
   refine rgo_t hb2 ?_
   refine rpt hb2 ?_
   refine go ?_
   iterate 2 refine rgo_t rfl ?_
   refine rpt rfl ?_
   refine go ?_
   iterate 2 refine rgo_t rfl ?_
   refine rpt rfl ?_
   refine go ?_
   iterate 3 refine rgo_t rfl ?_
   iterate 4 refine go ?_
   refine rgo_t rfl ?_
   refine rpt rfl ?_
   refine go ?_
   cases hF
   exact rcz [0]
  iterate 2 refine gn hb2 ?_
  refine rpf hb2 ?_
  refine go ?_
  rcases ie hF with ⟨hb3, hF⟩ | ⟨hb3, hF⟩
  ·refine rgo_t hb3 ?_
   refine rgo_t hb3 ?_
   refine rpt hb3 ?_
   refine go ?_
   iterate 2 refine rgo_t rfl ?_
   refine rpt rfl ?_
   refine go ?_
   iterate 3 refine rgo_t rfl ?_
   iterate 4 refine go ?_
   refine rgo_t rfl ?_
   refine rpt rfl ?_
   refine go ?_
   cases hF
   exact rcz [0]
  iterate 2 refine gn hb3 ?_
  refine rpf hb3 ?_
  refine go ?_
  rcases ie hF with ⟨hb4, hF⟩ | ⟨hb4, hF⟩
  ·refine rgo_t hb4 ?_
   refine rgo_t hb4 ?_
   refine rpt hb4 ?_
   refine go ?_
   iterate 3 refine rgo_t rfl ?_
   iterate 4 refine go ?_
   refine rgo_t rfl ?_
   refine rpt rfl ?_
   refine go ?_
   cases hF
   exact rcz [0]
  iterate 2 refine gn hb4 ?_
  refine rpf hb4 ?_
  refine go ?_
  rcases ie hF with ⟨hb5, hF⟩ | ⟨hb5, hF⟩
  ·refine rgo_t hb5 ?_
   iterate 2 refine rgo_t hb5 ?_
   iterate 4 refine go ?_
   refine rgo_t hb5 ?_
   refine rpt hb5 ?_
   refine go ?_
   cases hF
   exact rcz [0]
  iterate 3 refine gn hb5 ?_
  rcases ie hF with ⟨hb6, hF⟩ | ⟨hb6, hF⟩
  ·refine gn hb6 ?_
   refine rgn hb6 (la (eGExpr a0.fE) agg_46) ?_
   refine rgn hb6 (bd ((eGExpr zGExpr)) (eGExpr ({ fKind := 0, fNum := 0, fName := [], fKids := [] } : GExpr)) zer_46 plc_46) ?_
   obtain ⟨y7, h8, hF⟩ := bs hF
   refine rgn hb6 (cl 1 [.agg (eGExpr a0.fE), .agg (eGExpr ({ fKind := 0, fNum := 0, fName := [], fKids := [] } : GExpr))] [.p (.bool y7)] (ref06_Same_ok h8)) ?_
   refine rgn hb5 (op_pick_t rfl rfl hb6 rfl rfl rfl) ?_
   refine rpf hb5 ?_
   refine go ?_
   cases hF
   exact rcz [0]
  iterate 4 refine rgo_f hb6 ?_
  refine rgn hb5 (op_pick_f rfl rfl hb6 rfl rfl rfl) ?_
  refine rpf hb5 ?_
  refine go ?_
  cases hF
  exact rcz [0]
 have hF := hK11
 refine go ?_
 refine aw_seq ?_
 refine aw_seq ?_
 obtain ⟨x24, hF, hK26⟩ := bs hF
 refine ctx (sX 86 [(1, some (.lp 0 0)), pf 71 (.bool x24)] [bf 0 48 (eGStmt a0)] 1) ?_ ?_
 ·iterate 4 refine go ?_
  rcases ie hF with ⟨hb12, hF⟩ | ⟨hb12, hF⟩
  ·refine gn hb12 ?_
   refine rgn hb12 (la (eGExpr a0.fE) agg_46) ?_
   obtain ⟨y13, h14, hF⟩ := bs hF
   refine rgn hb12 (cl 1 [.agg (eGExpr a0.fE)] [.p (.bool y13)] (ref06_Right_ok h14)) ?_
   refine gn hb12 ?_
   refine rpt hb12 ?_
   refine go ?_
   rcases ie hF with ⟨hb15, hF⟩ | ⟨hb15, hF⟩
   ·refine rgo_t hb15 ?_
    iterate 2 refine rgo_t hb15 ?_
    iterate 4 refine go ?_
    iterate 2 refine rgo_t hb15 ?_
    iterate 4 refine go ?_
    iterate 2 refine rgo_t hb15 ?_
    iterate 4 refine go ?_
    refine rgo_t hb15 ?_
    refine rpt hb15 ?_
    refine go ?_
    iterate 4 refine rgo_t rfl ?_
    refine rpt rfl ?_
    cases hF
    exact rcz [0]
   iterate 3 refine gn hb15 ?_
   rcases ie hF with ⟨hb16, hF⟩ | ⟨hb16, hF⟩
   ·iterate 4 refine gn hb16 ?_
    refine rgn hb15 (op_pick_t rfl rfl hb16 rfl rfl rfl) ?_
    refine gn hb15 ?_
    rcases ie hF with ⟨hb17, hF⟩ | ⟨hb17, hF⟩
    ·iterate 4 refine gn hb17 ?_
     refine rgn hb15 (op_pick_t rfl rfl hb17 rfl rfl rfl) ?_
     refine gn hb15 ?_
     rcases ie hF with ⟨hb18, hF⟩ | ⟨hb18, hF⟩
     ·iterate 4 refine gn hb18 ?_
      refine rgn hb15 (op_pick_t rfl rfl hb18 rfl rfl rfl) ?_
      refine rpf hb15 ?_
      refine go ?_
      rcases ie hF with ⟨hb19, hF⟩ | ⟨hb19, hF⟩
      ·refine rgo_t hb19 ?_
       iterate 3 refine rgo_t hb19 ?_
       refine rpt hb19 ?_
       cases hF
       exact rcz [0]
      iterate 2 refine gn hb19 ?_
      refine rgn hb19 (op_len_vs (n := a0.fArgs.length) rfl rfl (lenR eLGExpr_map) slc_44 rfl rfl) ?_
      refine gn hb19 ?_
      refine rpf hb19 ?_
      cases hF
      exact rcz [0]
     iterate 4 refine rgo_f hb18 ?_
     refine rgn hb15 (op_pick_f rfl rfl hb18 rfl rfl rfl) ?_
     refine rpf hb15 ?_
     refine go ?_
     iterate 2 refine gn rfl ?_
     refine rgn rfl (op_len_vs (n := a0.fArgs.length) rfl rfl (lenR eLGExpr_map) slc_44 rfl rfl) ?_
     refine gn rfl ?_
     refine rpf rfl ?_
     cases hF
     exact rcz [0]
    iterate 4 refine rgo_f hb17 ?_
    refine rgn hb15 (op_pick_f rfl rfl hb17 rfl rfl rfl) ?_
    refine gn hb15 ?_
    iterate 4 refine rgo_f rfl ?_
    refine rgn hb15 (op_pick_f rfl rfl rfl rfl rfl rfl) ?_
    refine rpf hb15 ?_
    refine go ?_
    iterate 2 refine gn rfl ?_
    refine rgn rfl (op_len_vs (n := a0.fArgs.length) rfl rfl (lenR eLGExpr_map) slc_44 rfl rfl) ?_
    refine gn rfl ?_
    refine rpf rfl ?_
    cases hF
    exact rcz [0]
   iterate 4 refine rgo_f hb16 ?_
   refine rgn hb15 (op_pick_f rfl rfl hb16 rfl rfl rfl) ?_
   refine gn hb15 ?_
   iterate 4 refine rgo_f rfl ?_
   refine rgn hb15 (op_pick_f rfl rfl rfl rfl rfl rfl) ?_
   refine gn hb15 ?_
   iterate 4 refine rgo_f rfl ?_
   refine rgn hb15 (op_pick_f rfl rfl rfl rfl rfl rfl) ?_
   refine rpf hb15 ?_
   refine go ?_
   iterate 2 refine gn rfl ?_
   refine rgn rfl (op_len_vs (n := a0.fArgs.length) rfl rfl (lenR eLGExpr_map) slc_44 rfl rfl) ?_
   refine gn rfl ?_
   refine rpf rfl ?_
   cases hF
   exact rcz [0]
  iterate 4 refine rgo_f hb12 ?_
  refine rpf hb12 ?_
  refine go ?_
  iterate 3 refine gn rfl ?_
  rcases ie hF with ⟨hb20, hF⟩ | ⟨hb20, hF⟩
  ·iterate 4 refine gn hb20 ?_
   refine rgn rfl (op_pick_t rfl rfl hb20 rfl rfl rfl) ?_
   refine gn rfl ?_
   rcases ie hF with ⟨hb21, hF⟩ | ⟨hb21, hF⟩
   ·iterate 4 refine gn hb21 ?_
    refine rgn rfl (op_pick_t rfl rfl hb21 rfl rfl rfl) ?_
    refine gn rfl ?_
    rcases ie hF with ⟨hb22, hF⟩ | ⟨hb22, hF⟩
    ·iterate 4 refine gn hb22 ?_
     refine rgn rfl (op_pick_t rfl rfl hb22 rfl rfl rfl) ?_
     refine rpf rfl ?_
     refine go ?_
     rcases ie hF with ⟨hb23, hF⟩ | ⟨hb23, hF⟩
     ·refine rgo_t hb23 ?_
      iterate 3 refine rgo_t hb23 ?_
      refine rpt hb23 ?_
      cases hF
      exact rcz [0]
     iterate 2 refine gn hb23 ?_
     refine rgn hb23 (op_len_vs (n := a0.fArgs.length) rfl rfl (lenR eLGExpr_map) slc_44 rfl rfl) ?_
     refine gn hb23 ?_
     refine rpf hb23 ?_
     cases hF
     exact rcz [0]
    iterate 4 refine rgo_f hb22 ?_
    refine rgn rfl (op_pick_f rfl rfl hb22 rfl rfl rfl) ?_
    refine rpf rfl ?_
    refine go ?_
    iterate 2 refine gn rfl ?_
    refine rgn rfl (op_len_vs (n := a0.fArgs.length) rfl rfl (lenR eLGExpr_map) slc_44 rfl rfl) ?_
    refine gn rfl ?_
    refine rpf rfl ?_
    cases hF
    exact rcz [0]
   iterate 4 refine rgo_f hb21 ?_
   refine rgn rfl (op_pick_f rfl rfl hb21 rfl rfl rfl) ?_
   refine gn rfl ?_
   iterate 4 refine rgo_f rfl ?_
   refine rgn rfl (op_pick_f rfl rfl rfl rfl rfl rfl) ?_
   refine rpf rfl ?_
   refine go ?_
   iterate 2 refine gn rfl ?_
   refine rgn rfl (op_len_vs (n := a0.fArgs.length) rfl rfl (lenR eLGExpr_map) slc_44 rfl rfl) ?_
   refine gn rfl ?_
   refine rpf rfl ?_
   cases hF
   exact rcz [0]
  iterate 4 refine rgo_f hb20 ?_
  refine rgn rfl (op_pick_f rfl rfl hb20 rfl rfl rfl) ?_
  refine gn rfl ?_
  iterate 4 refine rgo_f rfl ?_
  refine rgn rfl (op_pick_f rfl rfl rfl rfl rfl rfl) ?_
  refine gn rfl ?_
  iterate 4 refine rgo_f rfl ?_
  refine rgn rfl (op_pick_f rfl rfl rfl rfl rfl rfl) ?_
  refine rpf rfl ?_
  refine go ?_
  iterate 2 refine gn rfl ?_
  refine rgn rfl (op_len_vs (n := a0.fArgs.length) rfl rfl (lenR eLGExpr_map) slc_44 rfl rfl) ?_
  refine gn rfl ?_
  refine rpf rfl ?_
  cases hF
  exact rcz [0]
 have hF := hK26
 refine go ?_
 refine cnd hF (fun hb27 hF => ?_) fun hb27 hF => ?_
 ·iterate 5 refine go ?_
  cases hF
  exact prt
 iterate 6 refine go ?_
 obtain ⟨lr61, hF, hK62⟩ := bs hF
 refine aw_for ((a0.fArgs.length - 0 : Int).toNat + 1) (fun s1 => ∃ q, lr61 = .next q ∧ s1 = (sX 86 [] [] 0)) ?_ ?_
 ·refine rnd_loop (α := Int) (fun q => (sX 86 [(1, some (.lp 0 0)), pf 5 (.int .i64 q)] [bf 0 48 (eGStmt a0)] 1)) (fun k q => ref08_tells_L1 a0 k q = some lr61) 0 (impz [0]) hF (fun q h => by cases h) ?_
  clear hF
  rintro k x38 hF ih
  refine rnd_succ ?_
  iterate 5 refine go ?_
  refine rgp (op_len_vs (n := a0.fArgs.length) rfl rfl (lenR eLGExpr_map) slc_44 rfl rfl) ?_
  iterate 2 refine go ?_
  refine cnd hF (fun hb50 hF => ?_) fun hb50 hF => ?_
  ·iterate 2 refine go ?_
   refine aw_seq ?_
   refine aw_block ?_
   iterate 4 refine go ?_
   obtain ⟨y55, h56, hF⟩ := bs hF
   refine rgp (ix (idxR eLGExpr_map h56) slc_44) ?_
   refine rgp (lw (eGExpr y55) agg_46) ?_
   obtain ⟨y57, h58, hF⟩ := bs hF
   refine rgp (cl 1 [.agg (eGExpr y55)] [.p (.bool y57)] (ref06_Right_ok h58)) ?_
   iterate 2 refine go ?_
   refine cnd hF (fun hb59 hF => ?_) fun hb59 hF => ?_
   ·iterate 7 refine go ?_
    refine post_lp_ret ?_
    cases hF
    have hF := elim_stop hK62
    refine go ?_
    cases hF
    exact prt
   iterate 7 refine go ?_
   refine rnr ?_
   exact rnd_back (ih (w_i64 (x38 + 1)) hF) (impz [0])
  refine aw_exit ?_
  iterate 2 refine post_then_exit ?_
  cases hF
  exact post_lp_break _ ⟨_, rfl, rfl⟩ (impz [])
 rintro _ ⟨⟨⟩, rfl, rfl⟩
 have hF := elim_next hK62
 clear hK62
 iterate 5 refine go ?_
 cases hF
 exact prt
theorem ref08_form_ring : ∀ n : Nat, (∀ (a0 : GStmt) (a1 : Int) (r : Bool), ref08_form n a0 a1 = some r → FZ 123 [.agg (eGStmt a0), .int .i64 a1] [.p (.bool r)]) := by
 intro n
 induction n with
 | zero => exact (fun _ _ _ h => by simp [ref08_form] at h)
 | succ n ih =>
  have ref08_form_ih := ih
  clear ih
  intro a0 a1 r hF
  unfold ref08_form at hF
  revert hF ref08_form_ih
  generalize ref08_form n = ref08_form_rec
  intro ref08_form_ih hF
  refine fn_of_body (n := 51) Tryz.func123 rfl rfl rfl fun w O => ?_
  refine go ?_
  refine rgp (bo 0) ?_
  iterate 2 refine go ?_
  refine aw_seq ?_
  refine aw_seq ?_
  obtain ⟨x11, hF, hK13⟩ := bs hF
  refine ctx (sX 51 [pf 1 (.int .i64 a1), (2, some (.lp 0 0)), pf 20 (.bool x11)] [bf 0 48 (eGStmt a0)] 1) ?_ ?_
  ·refine go ?_
   refine rgp (la (eGStmt a0) agg_48) ?_
   obtain ⟨y3, h4, hF⟩ := bs hF
   refine rgp (cl 1 [.agg (eGStmt a0)] [.p (.bool y3)] (ref08_only_ok h4)) ?_
   iterate 2 refine go ?_
   rcases ie hF with ⟨hb5, hF⟩ | ⟨hb5, hF⟩
   ·refine rgo_t hb5 ?_
    iterate 3 refine rgo_t hb5 ?_
    refine rpt hb5 ?_
    refine go ?_
    iterate 3 refine rgo_t rfl ?_
    refine rpt rfl ?_
    cases hF
    exact rcz [0]
   refine rgn hb5 (la (eGStmt a0) agg_48) ?_
   refine gn hb5 ?_
   obtain ⟨y6, h7, hF⟩ := bs hF
   refine rgn hb5 (cl 1 [.agg (eGStmt a0), .int .i64 a1] [.p (.bool y6)] (ref08_names_ok h7)) ?_
   refine gn hb5 ?_
   refine rpf hb5 ?_
   refine go ?_
   rcases ie hF with ⟨hb8, hF⟩ | ⟨hb8, hF⟩
   ·refine rgo_t hb8 ?_
    iterate 2 refine rgo_t hb8 ?_
    refine rpt hb8 ?_
    cases hF
    exact rcz [0]
   refine rgn hb8 (la (eGStmt a0) agg_48) ?_
   obtain ⟨y9, h10, hF⟩ := bs hF
   refine rgn hb8 (cl 1 [.agg (eGStmt a0)] [.p (.bool y9)] (ref08_tells_ok h10)) ?_
   refine gn hb8 ?_
   refine rpf hb8 ?_
   cases hF
   exact rcz [0]
  have hF := hK13
  refine go ?_
  refine cnd hF (fun hb14 hF => ?_) fun hb14 hF => ?_
  ·iterate 5 refine go ?_
   cases hF
   exact prt
  iterate 6 refine go ?_
  obtain ⟨lr48, hF, hK49⟩ := bs hF
  refine aw_for ((a0.fBody.length - 0 : Int).toNat + 1) (fun s1 => ∃ q, lr48 = .next q ∧ s1 = (sX 51 [pf 1 (.int .i64 a1), (2, some (.lp 0 0))] [bf 0 48 (eGStmt a0)] 1)) ?_ ?_
  ·refine rnd_loop (α := Int) (fun q => (sX 51 [pf 1 (.int .i64 a1), (2, some (.lp 0 0)), pf 5 (.int .i64 q)] [bf 0 48 (eGStmt a0)] 1)) (fun k q => ref08_form_L1 a0 a1 ref08_form_rec k q = some lr48) 0 (impz [0]) hF (fun q h => by cases h) ?_
   clear hF
   rintro k x25 hF ih
   refine rnd_succ ?_
   iterate 5 refine go ?_
   refine rgp (op_len_vs (n := a0.fBody.length) rfl rfl (lenR eLGStmt_map) slc_38 rfl rfl) ?_
   iterate 2 refine go ?_
   refine cnd hF (fun hb37 hF => ?_) fun hb37 hF => ?_
   ·iterate 2 refine go ?_
    refine aw_seq ?_
    refine aw_block ?_
    iterate 4 refine go ?_
    obtain ⟨y42, h43, hF⟩ := bs hF
    refine rgp (ix (idxR eLGStmt_map h43) slc_38) ?_
    refine rgp (lw (eGStmt y42) agg_48) ?_
    refine go ?_
    obtain ⟨y44, h45, hF⟩ := bs hF
    refine rgp (cl 1 [.agg (eGStmt y42), .int .i64 a1] [.p (.bool y44)] (ref08_form_ih _ _ _ h45)) ?_
    iterate 2 refine go ?_
    refine cnd hF (fun hb46 hF => ?_) fun hb46 hF => ?_
    ·iterate 7 refine go ?_
     refine post_lp_ret ?_
     cases hF
     have hF := elim_stop hK49
     refine go ?_
     cases hF
     exact prt
    iterate 7 refine go ?_
    refine rnr ?_
    exact rnd_back (ih (w_i64 (x25 + 1)) hF) (impz [0])
   refine aw_exit ?_
   iterate 2 refine post_then_exit ?_
   cases hF
   exact post_lp_break _ ⟨_, rfl, rfl⟩ (impz [0])
  rintro _ ⟨⟨⟩, rfl, rfl⟩
  have hF := elim_next hK49
  clear hK49
  iterate 5 refine go ?_
  obtain ⟨lr83, hF, hK84⟩ := bs hF
  refine aw_for ((a0.fElse.length - 0 : Int).toNat + 1) (fun s1 => ∃ q, lr83 = .next q ∧ s1 = (sX 51 [] [] 0)) ?_ ?_
  ·refine rnd_loop (α := Int) (fun q => (sX 51 [pf 1 (.int .i64 a1), (2, some (.lp 0 0)), pf 6 (.int .i64 q)] [bf 0 48 (eGStmt a0)] 1)) (fun k q => ref08_form_L2 a0 a1 ref08_form_rec k q = some lr83) 0 (impz [0]) hF (fun q h => by cases h) ?_
   clear hF
   rintro k x60 hF ih
   refine rnd_succ ?_
   iterate 5 refine go ?_
   refine rgp (op_len_vs (n := a0.fElse.length) rfl rfl (lenR eLGStmt_map) slc_38 rfl rfl) ?_
   iterate 2 refine go ?_
   refine cnd hF (fun hb72 hF => ?_) fun hb72 hF => ?_
   ·iterate 2 refine go ?_
    refine aw_seq ?_
    refine aw_block ?_
    iterate 4 refine go ?_
    obtain ⟨y77, h78, hF⟩ := bs hF
    refine rgp (ix (idxR eLGStmt_map h78) slc_38) ?_
    refine rgp (lw (eGStmt y77) agg_48) ?_
    refine go ?_
    obtain ⟨y79, h80, hF⟩ := bs hF
    refine rgp (cl 1 [.agg (eGStmt y77), .int .i64 a1] [.p (.bool y79)] (ref08_form_ih _ _ _ h80)) ?_
    iterate 2 refine go ?_
    refine cnd hF (fun hb81 hF => ?_) fun hb81 hF => ?_
    ·iterate 7 refine go ?_
     refine post_lp_ret ?_
     cases hF
     have hF := elim_stop hK84
     refine go ?_
     cases hF
     exact prt
    iterate 7 refine go ?_
    refine rnr ?_
    exact rnd_back (ih (w_i64 (x60 + 1)) hF) (impz [0])
   refine aw_exit ?_
   iterate 2 refine post_then_exit ?_
   cases hF
   exact post_lp_break _ ⟨_, rfl, rfl⟩ (impz [])
  rintro _ ⟨⟨⟩, rfl, rfl⟩
  have hF := elim_next hK84
  clear hK84
  iterate 5 refine go ?_
  cases hF
  exact prt
theorem ref08_form_ok {n : Nat} {a0 : GStmt} {a1 : Int} {r : Bool} (hF : ref08_form n a0 a1 = some r) : FZ 123 [.agg (eGStmt a0), .int .i64 a1] [.p (.bool r)] := (ref08_form_ring n) _ _ _ hF

theorem ref08_Deep_ring : ∀ n : Nat, (∀ (a0 : GStmt) (r : Int), ref08_Deep n a0 = some r → FZ 124 [.agg (eGStmt a0)] [.p (.int .i64 r)]) := by
 intro n
 induction n with
 | zero => exact (fun _ _ h => by simp [ref08_Deep] at h)
 | succ n ih =>
  have ref08_Deep_ih := ih
  clear ih
  intro a0 r hF
  unfold ref08_Deep at hF
  revert hF ref08_Deep_ih
  generalize ref08_Deep n = ref08_Deep_rec
  intro ref08_Deep_ih hF
  refine fn_of_body (n := 38) Tryz.func124 rfl rfl rfl fun w O => ?_
  refine go ?_
  refine rgp (bo 0) ?_
  iterate 9 refine go ?_
  obtain ⟨x34, hF, hK35⟩ := bs hF
  refine aw_for ((a0.fBody.length - 0 : Int).toNat + 1) (fun s1 => s1 = (sX 38 [(1, some (.lp 0 0)), pf 3 (.int .i64 x34)] [bf 0 48 (eGStmt a0)] 1)) ?_ ?_
  ·refine rnd_loop (α := Int × Int) (fun q => (sX 38 [(1, some (.lp 0 0)), pf 3 (.int .i64 q.1), pf 4 (.int .i64 q.2)] [bf 0 48 (eGStmt a0)] 1)) (fun k q => ref08_Deep_L1 a0 ref08_Deep_rec k q.1 q.2 = some x34) (0, 0) (impz [0]) hF (fun q h => by cases h) ?_
   clear hF
   rintro k ⟨x10, x11⟩ hF ih
   refine rnd_succ ?_
   iterate 5 refine go ?_
   refine rgp (op_len_vs (n := a0.fBody.length) rfl rfl (lenR eLGStmt_map) slc_38 rfl rfl) ?_
   iterate 2 refine go ?_
   refine cnd hF (fun hb23 hF => ?_) fun hb23 hF => ?_
   ·iterate 2 refine go ?_
    refine aw_seq ?_
    refine aw_block ?_
    iterate 5 refine go ?_
    obtain ⟨y28, h29, hF⟩ := bs hF
    refine rgp (ix (idxR eLGStmt_map h29) slc_38) ?_
    refine rgp (lw (eGStmt y28) agg_48) ?_
    obtain ⟨y30, h31, hF⟩ := bs hF
    refine rgp (cl 1 [.agg (eGStmt y28)] [.p (.int .i64 y30)] (ref08_Deep_ih _ _ h31)) ?_
    refine rgp (op_max2 rfl rfl rfl rfl rfl) ?_
    refine go ?_
    refine reg_nil ?_
    refine piz (sX 38 [(1, some (.lp 0 0)), pf 3 (.int .i64 (if y30 > x10 then y30 else x10)), pf 4 (.int .i64 x11)] [bf 0 48 (eGStmt a0)] 1) [0] ?_
    iterate 6 refine go ?_
    refine rnr ?_
    exact rnd_back (ih ((if y30 > x10 then y30 else x10), w_i64 (x11 + 1)) hF) (impz [0])
   refine aw_exit ?_
   iterate 2 refine post_then_exit ?_
   cases hF
   exact post_lp_break _ rfl (impz [0])
  rintro _ rfl
  have hF := hK35
  iterate 5 refine go ?_
  obtain ⟨x69, hF, hK70⟩ := bs hF
  refine aw_for ((a0.fElse.length - 0 : Int).toNat + 1) (fun s1 => s1 = (sX 38 [pf 3 (.int .i64 x69)] [] 0)) ?_ ?_
  ·refine rnd_loop (α := Int × Int) (fun q => (sX 38 [(1, some (.lp 0 0)), pf 3 (.int .i64 q.1), pf 5 (.int .i64 q.2)] [bf 0 48 (eGStmt a0)] 1)) (fun k q => ref08_Deep_L2 a0 ref08_Deep_rec k q.1 q.2 = some x69) (x34, 0) (impz [0]) hF (fun q h => by cases h) ?_
   clear hF
   rintro k ⟨x45, x46⟩ hF ih
   refine rnd_succ ?_
   iterate 5 refine go ?_
   refine rgp (op_len_vs (n := a0.fElse.length) rfl rfl (lenR eLGStmt_map) slc_38 rfl rfl) ?_
   iterate 2 refine go ?_
   refine cnd hF (fun hb58 hF => ?_) fun hb58 hF => ?_
   ·iterate 2 refine go ?_
    refine aw_seq ?_
    refine aw_block ?_
    iterate 5 refine go ?_
    obtain ⟨y63, h64, hF⟩ := bs hF
    refine rgp (ix (idxR eLGStmt_map h64) slc_38) ?_
    refine rgp (lw (eGStmt y63) agg_48) ?_
    obtain ⟨y65, h66, hF⟩ := bs hF
    refine rgp (cl 1 [.agg (eGStmt y63)] [.p (.int .i64 y65)] (ref08_Deep_ih _ _ h66)) ?_
    refine rgp (op_max2 rfl rfl rfl rfl rfl) ?_
    refine go ?_
    refine reg_nil ?_
    refine piz (sX 38 [(1, some (.lp 0 0)), pf 3 (.int .i64 (if y65 > x45 then y65 else x45)), pf 5 (.int .i64 x46)] [bf 0 48 (eGStmt a0)] 1) [0] ?_
    iterate 6 refine go ?_
    refine rnr ?_
    exact rnd_back (ih ((if y65 > x45 then y65 else x45), w_i64 (x46 + 1)) hF) (impz [0])
   refine aw_exit ?_
   iterate 2 refine post_then_exit ?_
   cases hF
   exact post_lp_break _ rfl (impz [])
  rintro _ rfl
  have hF := hK70
  iterate 7 refine go ?_
  cases hF
  exact prt
theorem ref08_Deep_ok {n : Nat} {a0 : GStmt} {r : Int} (hF : ref08_Deep n a0 = some r) : FZ 124 [.agg (eGStmt a0)] [.p (.int .i64 r)] := (ref08_Deep_ring n) _ _ hF

theorem ref08_Right_ok {a0 : GStmt} {a1 : Int} {r : Bool} (hF : ref08_Right a0 a1 = some r) : FZ 93 [.agg (eGStmt a0), .int .i64 a1] [.p (.bool r)] := by
 unfold ref08_Right at hF
 refine fn_of_body (n := 13) Tryz.func93 rfl rfl rfl fun w O => ?_
 refine go ?_
 refine rgp (bo 0) ?_
 iterate 3 refine go ?_
 refine rgp (la (eGStmt a0) agg_48) ?_
 refine go ?_
 obtain ⟨y1, h2, hF⟩ := bs hF
 refine rgp (cl 1 [.agg (eGStmt a0), .int .i64 a1] [.p (.bool y1)] (ref08_form_ok h2)) ?_
 refine go ?_
 rcases ie hF with ⟨hb3, hF⟩ | ⟨hb3, hF⟩
 ·refine rgn hb3 (la (eGStmt a0) agg_48) ?_
  obtain ⟨y4, h5, hF⟩ := bs hF
  refine rgn hb3 (cl 1 [.agg (eGStmt a0)] [.p (.int .i64 y4)] (ref08_Deep_ok h5)) ?_
  refine gn hb3 ?_
  refine rpt hb3 ?_
  iterate 3 refine go ?_
  cases hF
  exact prt
 iterate 3 refine rgo_f hb3 ?_
 refine rpf hb3 ?_
 iterate 3 refine go ?_
 cases hF
 exact prt
theorem ref10_written_ok {a0 : GType} {a1 : Int} {r : Bool} (hF : ref10_written a0 a1 = some r) : FZ 94 [.agg (eGType a0), .int .i64 a1] [.p (.bool r)] := by
 unfold ref10_written at hF
 refine fn_of_body (n := 41) Tryz.func94 rfl rfl rfl fun w O => ?_
 refine go ?_
 refine rgp (bo 0) ?_
 iterate 4 refine go ?_
 refine rgp (la ((eA4 eGOwner) a0.fOwn) agg_35) ?_
 refine rgp (al 1 ((eA4 eGOwner) (⟨zGOwner, zGOwner, zGOwner, zGOwner⟩ : A4 GOwner)) zer_35) ?_
 iterate 3 refine go ?_
 refine rgp (la (eGType a0) agg_37) ?_
 refine go ?_
 obtain ⟨y1, h2, hF⟩ := bs hF
 refine rgp (cl 2 [.agg (eGType a0), .int .i64 a1] [.p (.bool y1)] (ref05_Right_ok h2)) ?_
 refine go ?_
 rcases ie hF with ⟨hb3, hF⟩ | ⟨hb3, hF⟩
 ·refine rgn hb3 (op_arr_lp (k := .i64) (m := 1) (n := 4) rfl rfl rfl arr_35 rfl rfl rfl rfl) ?_
  iterate 3 refine gn hb3 ?_
  refine rpt hb3 ?_
  refine go ?_
  rcases ie hF with ⟨hb4, hF⟩ | ⟨hb4, hF⟩
  ·refine rgn hb4 (op_arr_lp (k := .i64) (m := 2) (n := 4) rfl rfl rfl arr_35 rfl rfl rfl rfl) ?_
   iterate 3 refine gn hb4 ?_
   refine rpt hb4 ?_
   refine go ?_
   rcases ie hF with ⟨hb5, hF⟩ | ⟨hb5, hF⟩
   ·refine rgn hb5 (op_arr_lp (k := .i64) (m := 3) (n := 4) rfl rfl rfl arr_35 rfl rfl rfl rfl) ?_
    iterate 3 refine gn hb5 ?_
    refine rpt hb5 ?_
    refine go ?_
    rcases ie hF with ⟨hb6, hF⟩ | ⟨hb6, hF⟩
    ·refine rgn hb6 (op_arr_lp (k := .i64) (m := 0) (n := 4) rfl rfl rfl arr_35 rfl rfl rfl rfl) ?_
     iterate 4 refine gn hb6 ?_
     rcases ie hF with ⟨hb7, hF⟩ | ⟨hb7, hF⟩
     ·refine rgo_t hb7 ?_
      iterate 3 refine rgo_t hb7 ?_
      refine rgn hb6 (op_pick_t rfl rfl hb7 rfl rfl rfl) ?_
      refine rpt hb6 ?_
      iterate 3 refine go ?_
      cases hF
      exact prt
     refine rgn hb7 (op_arr_lp (k := .i64) (m := 0) (n := 4) rfl rfl rfl arr_35 rfl rfl rfl rfl) ?_
     iterate 3 refine gn hb7 ?_
     refine rgn hb6 (op_pick_f rfl rfl hb7 rfl rfl rfl) ?_
     refine rpt hb6 ?_
     iterate 3 refine go ?_
     cases hF
     exact prt
    iterate 5 refine rgo_f hb6 ?_
    iterate 4 refine go ?_
    refine rgo_f hb6 ?_
    refine rpf hb6 ?_
    iterate 3 refine go ?_
    cases hF
    exact prt
   iterate 4 refine rgo_f hb5 ?_
   refine rpf hb5 ?_
   refine go ?_
   iterate 5 refine rgo_f rfl ?_
   iterate 4 refine go ?_
   refine rgo_f rfl ?_
   refine rpf rfl ?_
   iterate 3 refine go ?_
   cases hF
   exact prt
  iterate 4 refine rgo_f hb4 ?_
  refine rpf hb4 ?_
  refine go ?_
  iterate 4 refine rgo_f rfl ?_
  refine rpf rfl ?_
  refine go ?_
  iterate 5 refine rgo_f rfl ?_
  iterate 4 refine go ?_
  refine rgo_f rfl ?_
  refine rpf rfl ?_
  iterate 3 refine go ?_
  cases hF
  exact prt
 iterate 4 refine rgo_f hb3 ?_
 refine rpf hb3 ?_
 refine go ?_
 iterate 4 refine rgo_f rfl ?_
 refine rpf rfl ?_
 refine go ?_
 iterate 4 refine rgo_f rfl ?_
 refine rpf rfl ?_
 refine go ?_
 iterate 5 refine rgo_f rfl ?_
 iterate 4 refine go ?_
 refine rgo_f rfl ?_
 refine rpf rfl ?_
 iterate 3 refine go ?_
 cases hF
 exact prt
theorem ref10_vars_ok {a0 : List GVar} {a1 : Int} {a2 : Int} {r : Bool} (hF : ref10_vars a0 a1 a2 = some r) : FZ 68 [.vs 13 (List.map eGVar a0), .int .i64 a1, .int .i64 a2] [.p (.bool r)] := by
 unfold ref10_vars at hF
 refine fn_of_body (n := 44) Tryz.func68 rfl rfl rfl fun w O => ?_
 iterate 7 refine go ?_
 obtain ⟨lr67, hF, hK68⟩ := bs hF
 refine aw_for ((a0.length - 0 : Int).toNat + 1) (fun s1 => ∃ q, lr67 = .next q ∧ s1 = (sX 44 [pf 0 (.vs 13 (List.map eGVar a0)), pf 1 (.int .i64 a1)] [] 0)) ?_ ?_
 ·refine rnd_loop (α := Int) (fun q => (sX 44 [pf 0 (.vs 13 (List.map eGVar a0)), pf 1 (.int .i64 a1), pf 2 (.int .i64 a2), pf 7 (.int .i64 q)] [] 0)) (fun k q => ref10_vars_L1 a0 a2 k q = some lr67) 0 (impz []) hF (fun q h => by cases h) ?_
  clear hF
  rintro k x22 hF ih
  refine rnd_succ ?_
  iterate 7 refine go ?_
  refine cnd hF (fun hb45 hF => ?_) fun hb45 hF => ?_
  ·iterate 2 refine go ?_
   refine aw_seq ?_
   refine aw_block ?_
   refine aw_seq ?_
   obtain ⟨x62, hF, hK64⟩ := bs hF
   refine ctx (sX 44 [pf 0 (.vs 13 (List.map eGVar a0)), pf 1 (.int .i64 a1), pf 2 (.int .i64 a2), pf 7 (.int .i64 x22), pf 39 (.bool x62)] [] 0) ?_ ?_
   ·iterate 3 refine go ?_
    obtain ⟨y50, h51, hF⟩ := bs hF
    refine rgp (ix (idx_map eGVar h51) slc_29) ?_
    iterate 2 refine go ?_
    obtain ⟨y52, h53, hF⟩ := bs hF
    refine rgp (cl 0 [.str y50.fName] [.p (.bool y52)] (ref02_Name_ok h53)) ?_
    iterate 2 refine go ?_
    rcases ie hF with ⟨hb54, hF⟩ | ⟨hb54, hF⟩
    ·refine rgo_t hb54 ?_
     iterate 6 refine rgo_t hb54 ?_
     refine rpt hb54 ?_
     refine go ?_
     iterate 8 refine rgo_t rfl ?_
     refine rpt rfl ?_
     cases hF
     exact rcz []
    iterate 2 (refine rgn hb54 (op_move rfl rfl rfl rfl) ?_)
    obtain ⟨y55, h56, hF⟩ := bs hF
    refine rgn hb54 (ix (idx_map eGVar h56) slc_29) ?_
    iterate 4 refine gn hb54 ?_
    refine rpf hb54 ?_
    refine go ?_
    rcases ie hF with ⟨hb57, hF⟩ | ⟨hb57, hF⟩
    ·refine rgo_t hb57 ?_
     iterate 7 refine rgo_t hb57 ?_
     refine rpt hb57 ?_
     cases hF
     exact rcz []
    iterate 2 (refine rgn hb57 (op_move rfl rfl rfl rfl) ?_)
    obtain ⟨y58, h59, hF⟩ := bs hF
    refine rgn hb57 (ix (idx_map eGVar h59) slc_29) ?_
    refine gn hb57 ?_
    refine rgn hb57 (lw (eGType y58.fType) agg_37) ?_
    refine gn hb57 ?_
    obtain ⟨y60, h61, hF⟩ := bs hF
    refine rgn hb57 (cl 0 [.agg (eGType y58.fType), .int .i64 a2] [.p (.bool y60)] (ref10_written_ok h61)) ?_
    refine gn hb57 ?_
    refine rpf hb57 ?_
    cases hF
    exact rcz []
   have hF := hK64
   refine go ?_
   refine cnd hF (fun hb65 hF => ?_) fun hb65 hF => ?_
   ·iterate 7 refine go ?_
    refine post_lp_ret ?_
    cases hF
    have hF := elim_stop hK68
    refine go ?_
    cases hF
    exact prt
   iterate 7 refine go ?_
   refine rnr ?_
   exact rnd_back (ih (w_i64 (x22 + 1)) hF) (impz [])
  refine aw_exit ?_
  iterate 2 refine post_then_exit ?_
  cases hF
  exact post_lp_break _ ⟨_, rfl, rfl⟩ (impz [])
 rintro _ ⟨⟨⟩, rfl, rfl⟩
 have hF := elim_next hK68
 clear hK68
 iterate 9 refine go ?_
 cases hF
 exact prt
theorem ref10_open_ring : ∀ n : Nat, (∀ (a0 : List GStmt) (a1 : Int) (r : Bool), ref10_open n a0 a1 = some r → FZ 95 [.vs 23 (eLGStmt a0), .int .i64 a1] [.p (.bool r)]) := by
 intro n
 induction n with
 | zero => exact (fun _ _ _ h => by simp [ref10_open] at h)
 | succ n ih =>
  have ref10_open_ih := ih
  clear ih
  intro a0 a1 r hF
  unfold ref10_open at hF
  revert hF ref10_open_ih
  generalize ref10_open n = ref10_open_rec
  intro ref10_open_ih hF
  refine fn_of_body (n := 49) Tryz.func95 rfl rfl rfl fun w O => ?_
  iterate 7 refine go ?_
  obtain ⟨lr103, hF, hK104⟩ := bs hF
  refine aw_for ((a0.length - 0 : Int).toNat + 1) (fun s1 => ∃ q, lr103 = .next q ∧ s1 = (sX 49 [] [] 0)) ?_ ?_
  ·refine rnd_loop (α := Int) (fun q => (sX 49 [pf 0 (.vs 23 (eLGStmt a0)), pf 1 (.int .i64 a1), pf 5 (.int .i64 q)] [] 0)) (fun k q => ref10_open_L1 a0 a1 ref10_open_rec k q = some lr103) 0 (impz []) hF (fun q h => by cases h) ?_
   clear hF
   rintro k x34 hF ih
   refine rnd_succ ?_
   iterate 4 refine go ?_
   refine rgp (op_len_vs (n := a0.length) rfl rfl (lenR eLGStmt_map) slc_38 rfl rfl) ?_
   iterate 2 refine go ?_
   refine cnd hF (fun hb69 hF => ?_) fun hb69 hF => ?_
   ·iterate 2 refine go ?_
    refine aw_seq ?_
    refine aw_block ?_
    refine aw_seq ?_
    obtain ⟨x98, hF, hK100⟩ := bs hF
    refine ctx (sX 49 [pf 0 (.vs 23 (eLGStmt a0)), pf 1 (.int .i64 a1), pf 5 (.int .i64 x34), pf 48 (.bool x98)] [] 0) ?_ ?_
    ·iterate 3 refine go ?_
     obtain ⟨y72, h73, hF⟩ := bs hF
     refine rgp (ix (idxR eLGStmt_map h73) slc_38) ?_
     iterate 5 refine go ?_
     rcases ie hF with ⟨hb74, hF⟩ | ⟨hb74, hF⟩
     ·iterate 2 refine gn hb74 ?_
      obtain ⟨y75, h76, hF⟩ := bs hF
      refine rgn hb74 (ix (idxR eLGStmt_map h76) slc_38) ?_
      refine gn hb74 ?_
      refine rgn hb74 (lw (eGType y75.fType) agg_37) ?_
      refine gn hb74 ?_
      obtain ⟨y77, h78, hF⟩ := bs hF
      refine rgn hb74 (cl 0 [.agg (eGType y75.fType), .int .i64 a1] [.p (.bool y77)] (ref10_written_ok h78)) ?_
      refine gn hb74 ?_
      refine rpt hb74 ?_
      refine go ?_
      rcases ie hF with ⟨hb79, hF⟩ | ⟨hb79, hF⟩
      ·refine rgo_t hb79 ?_
       iterate 7 refine rgo_t hb79 ?_
       refine rpt hb79 ?_
       refine go ?_
       iterate 8 refine rgo_t rfl ?_
       refine rpt rfl ?_
       cases hF
       exact rcz []
      iterate 2 (refine rgn hb79 (op_move rfl rfl rfl rfl) ?_)
      obtain ⟨y80, h81, hF⟩ := bs hF
      refine rgn hb79 (ix (idxR eLGStmt_map h81) slc_38) ?_
      iterate 3 refine gn hb79 ?_
      obtain ⟨y82, h83, hF⟩ := bs hF
      refine rgn hb79 (cl 0 [.vs 23 (eLGStmt y80.fBody), .int .i64 a1] [.p (.bool y82)] (ref10_open_ih _ _ _ h83)) ?_
      refine gn hb79 ?_
      refine rpf hb79 ?_
      refine go ?_
      rcases ie hF with ⟨hb84, hF⟩ | ⟨hb84, hF⟩
      ·refine rgo_t hb84 ?_
       iterate 7 refine rgo_t hb84 ?_
       refine rpt hb84 ?_
       cases hF
       exact rcz []
      iterate 2 (refine rgn hb84 (op_move rfl rfl rfl rfl) ?_)
      obtain ⟨y85, h86, hF⟩ := bs hF
      refine rgn hb84 (ix (idxR eLGStmt_map h86) slc_38) ?_
      iterate 3 refine gn hb84 ?_
      obtain ⟨y87, h88, hF⟩ := bs hF
      refine rgn hb84 (cl 0 [.vs 23 (eLGStmt y85.fElse), .int .i64 a1] [.p (.bool y87)] (ref10_open_ih _ _ _ h88)) ?_
      refine gn hb84 ?_
      refine rpf hb84 ?_
      cases hF
      exact rcz []
     iterate 8 refine rgo_f hb74 ?_
     refine rpf hb74 ?_
     refine go ?_
     iterate 2 (refine rgn rfl (op_move rfl rfl rfl rfl) ?_)
     obtain ⟨y89, h90, hF⟩ := bs hF
     refine rgn rfl (ix (idxR eLGStmt_map h90) slc_38) ?_
     iterate 3 refine gn rfl ?_
     obtain ⟨y91, h92, hF⟩ := bs hF
     refine rgn rfl (cl 0 [.vs 23 (eLGStmt y89.fBody), .int .i64 a1] [.p (.bool y91)] (ref10_open_ih _ _ _ h92)) ?_
     refine gn rfl ?_
     refine rpf rfl ?_
     refine go ?_
     rcases ie hF with ⟨hb93, hF⟩ | ⟨hb93, hF⟩
     ·refine rgo_t hb93 ?_
      iterate 7 refine rgo_t hb93 ?_
      refine rpt hb93 ?_
      cases hF
      exact rcz []
     iterate 2 (refine rgn hb93 (op_move rfl rfl rfl rfl) ?_)
     obtain ⟨y94, h95, hF⟩ := bs hF
     refine rgn hb93 (ix (idxR eLGStmt_map h95) slc_38) ?_
     iterate 3 refine gn hb93 ?_
     obtain ⟨y96, h97, hF⟩ := bs hF
     refine rgn hb93 (cl 0 [.vs 23 (eLGStmt y94.fElse), .int .i64 a1] [.p (.bool y96)] (ref10_open_ih _ _ _ h97)) ?_
     refine gn hb93 ?_
     refine rpf hb93 ?_
     cases hF
     exact rcz []
    have hF := hK100
    refine go ?_
    refine cnd hF (fun hb101 hF => ?_) fun hb101 hF => ?_
    ·iterate 7 refine go ?_
     refine post_lp_ret ?_
     cases hF
     have hF := elim_stop hK104
     refine go ?_
     cases hF
     exact prt
    iterate 7 refine go ?_
    refine rnr ?_
    exact rnd_back (ih (w_i64 (x34 + 1)) hF) (impz [])
   refine aw_exit ?_
   iterate 2 refine post_then_exit ?_
   cases hF
   exact post_lp_break _ ⟨_, rfl, rfl⟩ (impz [])
  rintro _ ⟨⟨⟩, rfl, rfl⟩
  have hF := elim_next hK104
  clear hK104
  iterate 5 refine go ?_
  cases hF
  exact prt
theorem ref10_open_ok {n : Nat} {a0 : List GStmt} {a1 : Int} {r : Bool} (hF : ref10_open n a0 a1 = some r) : FZ 95 [.vs 23 (eLGStmt a0), .int .i64 a1] [.p (.bool r)] := (ref10_open_ring n) _ _ _ hF

theorem ref10_method_ok {a0 : GMethod} {a1 : Int} {r : Bool} (hF : ref10_method a0 a1 = some r) : FZ 67 [.agg (eGMethod a0), .int .i64 a1] [.p (.bool r)] := by
 unfold ref10_method at hF
 refine fn_of_body (n := 48) Tryz.func67 rfl rfl rfl fun w O => ?_
 refine go ?_
 refine rgp (bo 0) ?_
 iterate 6 refine go ?_
 obtain ⟨lr34, hF, hK35⟩ := bs hF
 refine aw_for ((a0.fBody.length - 0 : Int).toNat + 1) (fun s1 => ∃ q, lr34 = .next q ∧ s1 = (sX 48 [pf 1 (.int .i64 a1), (2, some (.lp 0 0))] [bf 0 40 (eGMethod a0)] 1)) ?_ ?_
 ·refine rnd_loop (α := Int) (fun q => (sX 48 [pf 1 (.int .i64 a1), (2, some (.lp 0 0)), pf 5 (.int .i64 q)] [bf 0 40 (eGMethod a0)] 1)) (fun k q => ref10_method_L1 a0 a1 k q = some lr34) 0 (impz [0]) hF (fun q h => by cases h) ?_
  clear hF
  rintro k x11 hF ih
  refine rnd_succ ?_
  iterate 5 refine go ?_
  refine rgp (op_len_vs (n := a0.fBody.length) rfl rfl (lenR eLGStmt_map) slc_38 rfl rfl) ?_
  iterate 2 refine go ?_
  refine cnd hF (fun hb23 hF => ?_) fun hb23 hF => ?_
  ·iterate 2 refine go ?_
   refine aw_seq ?_
   refine aw_block ?_
   iterate 4 refine go ?_
   obtain ⟨y28, h29, hF⟩ := bs hF
   refine rgp (ix (idxR eLGStmt_map h29) slc_38) ?_
   refine rgp (lw (eGStmt y28) agg_48) ?_
   refine go ?_
   obtain ⟨y30, h31, hF⟩ := bs hF
   refine rgp (cl 1 [.agg (eGStmt y28), .int .i64 a1] [.p (.bool y30)] (ref08_Right_ok h31)) ?_
   iterate 2 refine go ?_
   refine cnd hF (fun hb32 hF => ?_) fun hb32 hF => ?_
   ·iterate 7 refine go ?_
    refine post_lp_ret ?_
    cases hF
    have hF := elim_stop hK35
    refine go ?_
    cases hF
    exact prt
   iterate 7 refine go ?_
   refine rnr ?_
   exact rnd_back (ih (w_i64 (x11 + 1)) hF) (impz [0])
  refine aw_exit ?_
  iterate 2 refine post_then_exit ?_
  cases hF
  exact post_lp_break _ ⟨_, rfl, rfl⟩ (impz [0])
 rintro _ ⟨⟨⟩, rfl, rfl⟩
 have hF := elim_next hK35
 clear hK35
 iterate 4 refine go ?_
 obtain ⟨y36, h37, hF⟩ := bs hF
 refine rgp (cl 1 [.str a0.fName] [.p (.bool y36)] (ref02_Name_ok h37)) ?_
 refine go ?_
 rcases ie hF with ⟨hb38, hF⟩ | ⟨hb38, hF⟩
 ·refine gn hb38 ?_
  refine rgn hb38 (la (eGType a0.fRet) agg_37) ?_
  refine gn hb38 ?_
  obtain ⟨y39, h40, hF⟩ := bs hF
  refine rgn hb38 (cl 1 [.agg (eGType a0.fRet), .int .i64 a1] [.p (.bool y39)] (ref10_written_ok h40)) ?_
  refine rpt hb38 ?_
  refine go ?_
  rcases ie hF with ⟨hb41, hF⟩ | ⟨hb41, hF⟩
  ·iterate 3 refine gn hb41 ?_
   obtain ⟨y42, h43, hF⟩ := bs hF
   refine rgn hb41 (cl 1 [.vs 13 (List.map eGVar a0.fParams), .int .i64 5, .int .i64 a1] [.p (.bool y42)] (ref10_vars_ok h43)) ?_
   refine rpt hb41 ?_
   refine go ?_
   rcases ie hF with ⟨hb44, hF⟩ | ⟨hb44, hF⟩
   ·iterate 3 refine gn hb44 ?_
    obtain ⟨y45, h46, hF⟩ := bs hF
    refine rgn hb44 (cl 1 [.vs 13 (List.map eGVar a0.fLocals), .int .i64 12, .int .i64 a1] [.p (.bool y45)] (ref10_vars_ok h46)) ?_
    refine rpt hb44 ?_
    refine go ?_
    rcases ie hF with ⟨hb47, hF⟩ | ⟨hb47, hF⟩
    ·iterate 3 refine gn hb47 ?_
     obtain ⟨y48, h49, hF⟩ := bs hF
     refine rgn hb47 (cl 1 [.vs 23 (eLGStmt a0.fBody), .int .i64 a1] [.p (.bool y48)] (ref10_open_ok h49)) ?_
     refine rpt hb47 ?_
     iterate 3 refine go ?_
     cases hF
     exact prt
    iterate 4 refine rgo_f hb47 ?_
    refine rpf hb47 ?_
    iterate 3 refine go ?_
    cases hF
    exact prt
   iterate 4 refine rgo_f hb44 ?_
   refine rpf hb44 ?_
   refine go ?_
   iterate 4 refine rgo_f rfl ?_
   refine rpf rfl ?_
   iterate 3 refine go ?_
   cases hF
   exact prt
  iterate 4 refine rgo_f hb41 ?_
  refine rpf hb41 ?_
  refine go ?_
  iterate 4 refine rgo_f rfl ?_
  refine rpf rfl ?_
  refine go ?_
  iterate 4 refine rgo_f rfl ?_
  refine rpf rfl ?_
  iterate 3 refine go ?_
  cases hF
  exact prt
 iterate 4 refine rgo_f hb38 ?_
 refine rpf hb38 ?_
 refine go ?_
 iterate 4 refine rgo_f rfl ?_
 refine rpf rfl ?_
 refine go ?_
 iterate 4 refine rgo_f rfl ?_
 refine rpf rfl ?_
 refine go ?_
 iterate 4 refine rgo_f rfl ?_
 refine rpf rfl ?_
 iterate 3 refine go ?_
 cases hF
 exact prt
theorem ref10_class_ok {a0 : GClass} {r : Bool} (hF : ref10_class a0 = some r) : FZ 33 [.agg (eGClass a0)] [.p (.bool r)] := by
 unfold ref10_class at hF
 refine fn_of_body (n := 112) Tryz.func33 rfl rfl rfl fun w O => ?_
 refine go ?_
 refine rgp (bo 0) ?_
 iterate 12 refine go ?_
 obtain ⟨lr34, hF, hK35⟩ := bs hF
 refine aw_for ((a0.fParams.length - 0 : Int).toNat + 1) (fun s1 => ∃ q, lr34 = .next q ∧ s1 = (sX 112 [(1, some (.lp 0 0)), pf 3 (.int .i64 (a0.fParams.length : Int))] [bf 0 32 (eGClass a0)] 1)) ?_ ?_
 ·refine rnd_loop (α := Int) (fun q => (sX 112 [(1, some (.lp 0 0)), pf 3 (.int .i64 (a0.fParams.length : Int)), pf 4 (.int .i64 q)] [bf 0 32 (eGClass a0)] 1)) (fun k q => ref10_class_L1 a0 k q = some lr34) 0 (impz [0]) hF (fun q h => by cases h) ?_
  clear hF
  rintro k x11 hF ih
  refine rnd_succ ?_
  iterate 6 refine go ?_
  refine cnd hF (fun hb23 hF => ?_) fun hb23 hF => ?_
  ·iterate 2 refine go ?_
   refine aw_seq ?_
   refine aw_block ?_
   iterate 4 refine go ?_
   obtain ⟨y28, h29, hF⟩ := bs hF
   refine rgp (ix (idx_map eS h29) slc_23) ?_
   refine go ?_
   obtain ⟨y30, h31, hF⟩ := bs hF
   refine rgp (cl 1 [.str y28] [.p (.bool y30)] (ref02_Name_ok h31)) ?_
   iterate 2 refine go ?_
   refine cnd hF (fun hb32 hF => ?_) fun hb32 hF => ?_
   ·iterate 7 refine go ?_
    refine post_lp_ret ?_
    cases hF
    have hF := elim_stop hK35
    refine go ?_
    cases hF
    exact prt
   iterate 7 refine go ?_
   refine rnr ?_
   exact rnd_back (ih (w_i64 (x11 + 1)) hF) (impz [0])
  refine aw_exit ?_
  iterate 2 refine post_then_exit ?_
  cases hF
  exact post_lp_break _ ⟨_, rfl, rfl⟩ (impz [0])
 rintro _ ⟨⟨⟩, rfl, rfl⟩
 have hF := elim_next hK35
 clear hK35
 iterate 5 refine go ?_
 obtain ⟨lr99, hF, hK100⟩ := bs hF
 refine aw_for ((a0.fAbove.length - 0 : Int).toNat + 1) (fun s1 => ∃ q, lr99 = .next q ∧ s1 = (sX 112 [(1, some (.lp 0 0)), pf 3 (.int .i64 (a0.fParams.length : Int))] [bf 0 32 (eGClass a0)] 1)) ?_ ?_
 ·refine rnd_loop (α := Int) (fun q => (sX 112 [(1, some (.lp 0 0)), pf 3 (.int .i64 (a0.fParams.length : Int)), pf 5 (.int .i64 q)] [bf 0 32 (eGClass a0)] 1)) (fun k q => ref10_class_L2 a0 k q = some lr99) 0 (impz [0]) hF (fun q h => by cases h) ?_
  clear hF
  rintro k x56 hF ih
  refine rnd_succ ?_
  iterate 8 refine go ?_
  refine cnd hF (fun hb78 hF => ?_) fun hb78 hF => ?_
  ·iterate 2 refine go ?_
   refine aw_seq ?_
   refine aw_block ?_
   iterate 4 refine go ?_
   obtain ⟨y81, h82, hF⟩ := bs hF
   refine rgp (ix (idx_map eGOwner h82) slc_28) ?_
   iterate 4 refine go ?_
   refine aw_seq ?_
   obtain ⟨x94, hF, hK96⟩ := bs hF
   refine ctx (sX 112 [(1, some (.lp 0 0)), pf 3 (.int .i64 (a0.fParams.length : Int)), pf 5 (.int .i64 x56), pf 55 (.bool x94)] [bf 0 32 (eGClass a0)] 1) ?_ ?_
   ·iterate 4 refine go ?_
    obtain ⟨y87, h88, hF⟩ := bs hF
    refine rgp (ix (idx_map eGOwner h88) slc_28) ?_
    refine rgp (lw (eGOwner y87) agg_34) ?_
    refine go ?_
    obtain ⟨y89, h90, hF⟩ := bs hF
    refine rgp (cl 1 [.agg (eGOwner y87), .int .i64 (a0.fParams.length : Int)] [.p (.bool y89)] (ref04_Right_ok h90)) ?_
    iterate 2 refine go ?_
    rcases ie hF with ⟨hb91, hF⟩ | ⟨hb91, hF⟩
    ·refine rgo_t hb91 ?_
     iterate 2 refine rgo_t hb91 ?_
     iterate 2 refine go ?_
     iterate 2 refine rgo_t hb91 ?_
     iterate 2 refine go ?_
     refine rgo_t hb91 ?_
     refine rpt hb91 ?_
     cases hF
     exact rcz [0]
    iterate 3 refine gn hb91 ?_
    rcases ie hF with ⟨hb92, hF⟩ | ⟨hb92, hF⟩
    ·iterate 2 refine gn hb92 ?_
     refine rgn hb91 (op_pick_t rfl rfl hb92 rfl rfl rfl) ?_
     refine gn hb91 ?_
     rcases ie hF with ⟨hb93, hF⟩ | ⟨hb93, hF⟩
     ·iterate 2 refine gn hb93 ?_
      refine rgn hb91 (op_pick_t rfl rfl hb93 rfl rfl rfl) ?_
      refine rpf hb91 ?_
      cases hF
      exact rcz [0]
     iterate 2 refine rgo_f hb93 ?_
     refine rgn hb91 (op_pick_f rfl rfl hb93 rfl rfl rfl) ?_
     refine rpf hb91 ?_
     cases hF
     exact rcz [0]
    iterate 2 refine rgo_f hb92 ?_
    refine rgn hb91 (op_pick_f rfl rfl hb92 rfl rfl rfl) ?_
    refine gn hb91 ?_
    iterate 2 refine rgo_f rfl ?_
    refine rgn hb91 (op_pick_f rfl rfl rfl rfl rfl rfl) ?_
    refine rpf hb91 ?_
    cases hF
    exact rcz [0]
   have hF := hK96
   refine go ?_
   refine cnd hF (fun hb97 hF => ?_) fun hb97 hF => ?_
   ·iterate 7 refine go ?_
    refine post_lp_ret ?_
    cases hF
    have hF := elim_stop hK100
    refine go ?_
    cases hF
    exact prt
   iterate 7 refine go ?_
   refine rnr ?_
   exact rnd_back (ih (w_i64 (x56 + 1)) hF) (impz [0])
  refine aw_exit ?_
  iterate 2 refine post_then_exit ?_
  cases hF
  exact post_lp_break _ ⟨_, rfl, rfl⟩ (impz [0])
 rintro _ ⟨⟨⟩, rfl, rfl⟩
 have hF := elim_next hK100
 clear hK100
 iterate 5 refine go ?_
 obtain ⟨lr134, hF, hK135⟩ := bs hF
 refine aw_for ((a0.fMethods.length - 0 : Int).toNat + 1) (fun s1 => ∃ q, lr134 = .next q ∧ s1 = (sX 112 [(1, some (.lp 0 0)), pf 3 (.int .i64 (a0.fParams.length : Int))] [bf 0 32 (eGClass a0)] 1)) ?_ ?_
 ·refine rnd_loop (α := Int) (fun q => (sX 112 [(1, some (.lp 0 0)), pf 3 (.int .i64 (a0.fParams.length : Int)), pf 7 (.int .i64 q)] [bf 0 32 (eGClass a0)] 1)) (fun k q => ref10_class_L3 a0 k q = some lr134) 0 (impz [0]) hF (fun q h => by cases h) ?_
  clear hF
  rintro k x111 hF ih
  refine rnd_succ ?_
  iterate 8 refine go ?_
  refine cnd hF (fun hb123 hF => ?_) fun hb123 hF => ?_
  ·iterate 2 refine go ?_
   refine aw_seq ?_
   refine aw_block ?_
   iterate 4 refine go ?_
   obtain ⟨y128, h129, hF⟩ := bs hF
   refine rgp (ix (idx_map eGMethod h129) slc_30) ?_
   refine rgp (lw (eGMethod y128) agg_40) ?_
   refine go ?_
   obtain ⟨y130, h131, hF⟩ := bs hF
   refine rgp (cl 1 [.agg (eGMethod y128), .int .i64 (a0.fParams.length : Int)] [.p (.bool y130)] (ref10_method_ok h131)) ?_
   iterate 2 refine go ?_
   refine cnd hF (fun hb132 hF => ?_) fun hb132 hF => ?_
   ·iterate 7 refine go ?_
    refine post_lp_ret ?_
    cases hF
    have hF := elim_stop hK135
    refine go ?_
    cases hF
    exact prt
   iterate 7 refine go ?_
   refine rnr ?_
   exact rnd_back (ih (w_i64 (x111 + 1)) hF) (impz [0])
  refine aw_exit ?_
  iterate 2 refine post_then_exit ?_
  cases hF
  exact post_lp_break _ ⟨_, rfl, rfl⟩ (impz [0])
 rintro _ ⟨⟨⟩, rfl, rfl⟩
 have hF := elim_next hK135
 clear hK135
 iterate 4 refine go ?_
 obtain ⟨y136, h137, hF⟩ := bs hF
 refine rgp (cl 1 [.str a0.fName] [.p (.bool y136)] (ref02_Name_ok h137)) ?_
 refine go ?_
 rcases ie hF with ⟨hb138, hF⟩ | ⟨hb138, hF⟩
 ·iterate 2 refine gn hb138 ?_
  refine rpt hb138 ?_
  refine go ?_
  rcases ie hF with ⟨hb139, hF⟩ | ⟨hb139, hF⟩
  ·iterate 2 refine gn hb139 ?_
   refine rgn hb139 (op_str rfl rfl rfl rfl rfl rfl) ?_
   refine gn hb139 ?_
   rcases ie hF with ⟨hb140, hF⟩ | ⟨hb140, hF⟩
   ·iterate 4 refine gn hb140 ?_
    refine rgn hb139 (op_pick_t rfl rfl hb140 rfl rfl rfl) ?_
    refine gn hb139 ?_
    rcases ie hF with ⟨hb141, hF⟩ | ⟨hb141, hF⟩
    ·refine rgo_t hb141 ?_
     iterate 3 refine rgo_t hb141 ?_
     iterate 4 refine go ?_
     refine rgo_t hb141 ?_
     refine rgn hb139 (op_pick_t rfl rfl hb141 rfl rfl rfl) ?_
     refine rpt hb139 ?_
     refine go ?_
     iterate 3 refine gn rfl ?_
     obtain ⟨y142, h143, hF⟩ := bs hF
     refine rgn rfl (cl 1 [.vs 13 (List.map eGVar a0.fFields), .int .i64 12, .int .i64 (a0.fParams.length : Int)] [.p (.bool y142)] (ref10_vars_ok h143)) ?_
     refine rpt rfl ?_
     refine go ?_
     rcases ie hF with ⟨hb144, hF⟩ | ⟨hb144, hF⟩
     ·iterate 4 refine gn hb144 ?_
      refine rpt hb144 ?_
      refine go ?_
      refine reg_nil ?_
      refine piz (sX 112 [pf 2 (.bool (decide ((a0.fMethods.length : Int) ≤ 12)))] [] 0) [] ?_
      iterate 2 refine go ?_
      cases hF
      exact prt
     iterate 4 refine rgo_f hb144 ?_
     refine rpf hb144 ?_
     refine go ?_
     refine reg_nil ?_
     refine piz (sX 112 [pf 2 (.bool false)] [] 0) [] ?_
     iterate 2 refine go ?_
     cases hF
     exact prt
    iterate 2 refine gn hb141 ?_
    obtain ⟨y145, h146, hF⟩ := bs hF
    refine rgn hb141 (cl 1 [.str a0.fSuper] [.p (.bool y145)] (ref02_Name_ok h146)) ?_
    refine gn hb141 ?_
    rcases ie hF with ⟨hb147, hF⟩ | ⟨hb147, hF⟩
    ·iterate 4 refine gn hb147 ?_
     refine rgn hb141 (op_pick_t rfl rfl hb147 rfl rfl rfl) ?_
     refine rgn hb139 (op_pick_f rfl rfl hb141 rfl rfl rfl) ?_
     refine rpt hb139 ?_
     refine go ?_
     rcases ie hF with ⟨hb148, hF⟩ | ⟨hb148, hF⟩
     ·iterate 3 refine gn hb148 ?_
      obtain ⟨y149, h150, hF⟩ := bs hF
      refine rgn hb148 (cl 1 [.vs 13 (List.map eGVar a0.fFields), .int .i64 12, .int .i64 (a0.fParams.length : Int)] [.p (.bool y149)] (ref10_vars_ok h150)) ?_
      refine rpt hb148 ?_
      refine go ?_
      rcases ie hF with ⟨hb151, hF⟩ | ⟨hb151, hF⟩
      ·iterate 4 refine gn hb151 ?_
       refine rpt hb151 ?_
       refine go ?_
       refine reg_nil ?_
       refine piz (sX 112 [pf 2 (.bool (decide ((a0.fMethods.length : Int) ≤ 12)))] [] 0) [] ?_
       iterate 2 refine go ?_
       cases hF
       exact prt
      iterate 4 refine rgo_f hb151 ?_
      refine rpf hb151 ?_
      refine go ?_
      refine reg_nil ?_
      refine piz (sX 112 [pf 2 (.bool false)] [] 0) [] ?_
      iterate 2 refine go ?_
      cases hF
      exact prt
     iterate 4 refine rgo_f hb148 ?_
     refine rpf hb148 ?_
     refine go ?_
     iterate 4 refine rgo_f rfl ?_
     refine rpf rfl ?_
     refine go ?_
     refine reg_nil ?_
     refine piz (sX 112 [pf 2 (.bool false)] [] 0) [] ?_
     iterate 2 refine go ?_
     cases hF
     exact prt
    iterate 4 refine rgo_f hb147 ?_
    refine rgn hb141 (op_pick_f rfl rfl hb147 rfl rfl rfl) ?_
    refine rgn hb139 (op_pick_f rfl rfl hb141 rfl rfl rfl) ?_
    refine rpt hb139 ?_
    refine go ?_
    iterate 4 refine rgo_f rfl ?_
    refine rpf rfl ?_
    refine go ?_
    iterate 4 refine rgo_f rfl ?_
    refine rpf rfl ?_
    refine go ?_
    refine reg_nil ?_
    refine piz (sX 112 [pf 2 (.bool false)] [] 0) [] ?_
    iterate 2 refine go ?_
    cases hF
    exact prt
   iterate 4 refine rgo_f hb140 ?_
   refine rgn hb139 (op_pick_f rfl rfl hb140 rfl rfl rfl) ?_
   refine gn hb139 ?_
   iterate 2 refine gn rfl ?_
   obtain ⟨y152, h153, hF⟩ := bs hF
   refine rgn rfl (cl 1 [.str a0.fSuper] [.p (.bool y152)] (ref02_Name_ok h153)) ?_
   refine gn rfl ?_
   rcases ie hF with ⟨hb154, hF⟩ | ⟨hb154, hF⟩
   ·iterate 4 refine gn hb154 ?_
    refine rgn rfl (op_pick_t rfl rfl hb154 rfl rfl rfl) ?_
    refine rgn hb139 (op_pick_f rfl rfl rfl rfl rfl rfl) ?_
    refine rpt hb139 ?_
    refine go ?_
    rcases ie hF with ⟨hb155, hF⟩ | ⟨hb155, hF⟩
    ·iterate 3 refine gn hb155 ?_
     obtain ⟨y156, h157, hF⟩ := bs hF
     refine rgn hb155 (cl 1 [.vs 13 (List.map eGVar a0.fFields), .int .i64 12, .int .i64 (a0.fParams.length : Int)] [.p (.bool y156)] (ref10_vars_ok h157)) ?_
     refine rpt hb155 ?_
     refine go ?_
     rcases ie hF with ⟨hb158, hF⟩ | ⟨hb158, hF⟩
     ·iterate 4 refine gn hb158 ?_
      refine rpt hb158 ?_
      refine go ?_
      refine reg_nil ?_
      refine piz (sX 112 [pf 2 (.bool (decide ((a0.fMethods.length : Int) ≤ 12)))] [] 0) [] ?_
      iterate 2 refine go ?_
      cases hF
      exact prt
     iterate 4 refine rgo_f hb158 ?_
     refine rpf hb158 ?_
     refine go ?_
     refine reg_nil ?_
     refine piz (sX 112 [pf 2 (.bool false)] [] 0) [] ?_
     iterate 2 refine go ?_
     cases hF
     exact prt
    iterate 4 refine rgo_f hb155 ?_
    refine rpf hb155 ?_
    refine go ?_
    iterate 4 refine rgo_f rfl ?_
    refine rpf rfl ?_
    refine go ?_
    refine reg_nil ?_
    refine piz (sX 112 [pf 2 (.bool false)] [] 0) [] ?_
    iterate 2 refine go ?_
    cases hF
    exact prt
   iterate 4 refine rgo_f hb154 ?_
   refine rgn rfl (op_pick_f rfl rfl hb154 rfl rfl rfl) ?_
   refine rgn hb139 (op_pick_f rfl rfl rfl rfl rfl rfl) ?_
   refine rpt hb139 ?_
   refine go ?_
   iterate 4 refine rgo_f rfl ?_
   refine rpf rfl ?_
   refine go ?_
   iterate 4 refine rgo_f rfl ?_
   refine rpf rfl ?_
   refine go ?_
   refine reg_nil ?_
   refine piz (sX 112 [pf 2 (.bool false)] [] 0) [] ?_
   iterate 2 refine go ?_
   cases hF
   exact prt
  iterate 4 refine rgo_f hb139 ?_
  iterate 4 refine go ?_
  iterate 2 refine rgo_f hb139 ?_
  iterate 9 refine go ?_
  refine rgo_f hb139 ?_
  refine rpf hb139 ?_
  refine go ?_
  iterate 4 refine rgo_f rfl ?_
  refine rpf rfl ?_
  refine go ?_
  iterate 4 refine rgo_f rfl ?_
  refine rpf rfl ?_
  refine go ?_
  refine reg_nil ?_
  refine piz (sX 112 [pf 2 (.bool false)] [] 0) [] ?_
  iterate 2 refine go ?_
  cases hF
  exact prt
 iterate 2 refine rgo_f hb138 ?_
 refine rpf hb138 ?_
 refine go ?_
 iterate 4 refine rgo_f rfl ?_
 iterate 4 refine go ?_
 iterate 2 refine rgo_f rfl ?_
 iterate 9 refine go ?_
 refine rgo_f rfl ?_
 refine rpf rfl ?_
 refine go ?_
 iterate 4 refine rgo_f rfl ?_
 refine rpf rfl ?_
 refine go ?_
 iterate 4 refine rgo_f rfl ?_
 refine rpf rfl ?_
 refine go ?_
 refine reg_nil ?_
 refine piz (sX 112 [pf 2 (.bool false)] [] 0) [] ?_
 iterate 2 refine go ?_
 cases hF
 exact prt
theorem ref09_Stmts_ok {a0 : GClass} {r : Int} (hF : ref09_Stmts a0 = some r) : FZ 34 [.agg (eGClass a0)] [.p (.int .i64 r)] := by
 unfold ref09_Stmts at hF
 refine fn_of_body (n := 37) Tryz.func34 rfl rfl rfl fun w O => ?_
 refine go ?_
 refine rgp (bo 0) ?_
 iterate 9 refine go ?_
 obtain ⟨x193, hF, hK194⟩ := bs hF
 refine aw_for ((a0.fMethods.length - 0 : Int).toNat + 1) (fun s1 => s1 = (sX 37 [pf 3 (.int .i64 x193)] [] 0)) ?_ ?_
 ·refine rnd_loop (α := Int × Int) (fun q => (sX 37 [(1, some (.lp 0 0)), pf 3 (.int .i64 q.1), pf 4 (.int .i64 q.2)] [bf 0 32 (eGClass a0)] 1)) (fun k q => ref09_Stmts_L1 a0 k q.1 q.2 = some x193) (0, 0) (impz [0]) hF (fun q h => by cases h) ?_
  clear hF
  rintro k ⟨x63, x64⟩ hF ih
  refine rnd_succ ?_
  iterate 8 refine go ?_
  refine cnd hF (fun hb129 hF => ?_) fun hb129 hF => ?_
  ·iterate 2 refine go ?_
   refine aw_seq ?_
   refine aw_block ?_
   iterate 3 refine go ?_
   obtain ⟨x187, hF, hK188⟩ := bs hF
   refine aw_for (Option.getD (Option.bind (idx a0.fMethods x64) fun (y189 : GMethod) => some ((y189.fBody.length - 0 : Int).toNat + 1)) 1) (fun s1 => s1 = (sX 37 [(1, some (.lp 0 0)), pf 3 (.int .i64 x187), pf 4 (.int .i64 x64)] [bf 0 32 (eGClass a0)] 1)) ?_ ?_
   ·refine rnd_loop (α := Int × Int) (fun q => (sX 37 [(1, some (.lp 0 0)), pf 3 (.int .i64 q.1), pf 4 (.int .i64 x64), pf 5 (.int .i64 q.2)] [bf 0 32 (eGClass a0)] 1)) (fun k q => ref09_Stmts_L2 a0 x64 k q.1 q.2 = some x187) (x63, 0) (impz [0]) hF (fun q h => by cases h) ?_
    clear hF
    rintro k ⟨x147, x148⟩ hF ih
    refine rnd_succ ?_
    iterate 6 refine go ?_
    obtain ⟨y170, h171, hF⟩ := bs hF
    refine rgp (ix (idx_map eGMethod h171) slc_30) ?_
    iterate 2 refine go ?_
    refine rgp (op_len_vs (n := y170.fBody.length) rfl rfl (lenR eLGStmt_map) slc_38 rfl rfl) ?_
    iterate 2 refine go ?_
    refine cnd hF (fun hb172 hF => ?_) fun hb172 hF => ?_
    ·iterate 2 refine go ?_
     refine aw_seq ?_
     refine aw_block ?_
     iterate 5 refine go ?_
     obtain ⟨y179, h180, hF⟩ := bs hF
     refine rgp (ix (idx_map eGMethod h180) slc_30) ?_
     iterate 3 refine go ?_
     obtain ⟨y181, h182, hF⟩ := bs hF
     refine rgp (ix (idxR eLGStmt_map h182) slc_38) ?_
     refine rgp (lw (eGStmt y181) agg_48) ?_
     obtain ⟨y183, h184, hF⟩ := bs hF
     refine rgp (cl 1 [.agg (eGStmt y181)] [.p (.int .i64 y183)] (ref08_Size_ok h184)) ?_
     iterate 2 refine go ?_
     refine reg_nil ?_
     refine piz (sX 37 [(1, some (.lp 0 0)), pf 3 (.int .i64 (w_i64 (x147 + y183))), pf 4 (.int .i64 x64), pf 5 (.int .i64 x148)] [bf 0 32 (eGClass a0)] 1) [0] ?_
     iterate 6 refine go ?_
     refine rnr ?_
     exact rnd_back (ih (w_i64 (x147 + y183), w_i64 (x148 + 1)) hF) (impz [0])
    refine aw_exit ?_
    iterate 2 refine post_then_exit ?_
    cases hF
    exact post_lp_break _ rfl (impz [0])
   rintro _ rfl
   have hF := hK188
   iterate 6 refine go ?_
   refine rnr ?_
   exact rnd_back (ih (x187, w_i64 (x64 + 1)) hF) (impz [0])
  refine aw_exit ?_
  iterate 2 refine post_then_exit ?_
  cases hF
  exact post_lp_break _ rfl (impz [])
 rintro _ rfl
 have hF := hK194
 iterate 6 refine go ?_
 cases hF
 exact prt
theorem ref10_Right_ok {a0 : List GClass} {r : Bool} (hF : ref10_Right a0 = some r) : FZ 8 [.vs 7 (List.map eGClass a0)] [.p (.bool r)] := by
 unfold ref10_Right at hF
 refine fn_of_body (n := 31) Tryz.func8 rfl rfl rfl fun w O => ?_
 iterate 10 refine go ?_
 obtain ⟨lr62, hF, hK63⟩ := bs hF
 refine aw_for ((a0.length - 0 : Int).toNat + 1) (fun s1 => ∃ q, lr62 = .next q ∧ s1 = (sX 31 [pf 3 (.int .i64 q)] [] 0)) ?_ ?_
 ·refine rnd_loop (α := Int × Int) (fun q => (sX 31 [pf 0 (.vs 7 (List.map eGClass a0)), pf 3 (.int .i64 q.1), pf 4 (.int .i64 q.2)] [] 0)) (fun k q => ref10_Right_L1 a0 k q.1 q.2 = some lr62) (0, 0) (impz []) hF (fun q h => by cases h) ?_
  clear hF
  rintro k ⟨x19, x20⟩ hF ih
  refine rnd_succ ?_
  iterate 7 refine go ?_
  refine cnd hF (fun hb41 hF => ?_) fun hb41 hF => ?_
  ·iterate 2 refine go ?_
   refine aw_seq ?_
   refine aw_block ?_
   refine aw_seq ?_
   refine aw_seq ?_
   obtain ⟨x47, hF, hK49⟩ := bs hF
   refine ctx (sX 31 [pf 0 (.vs 7 (List.map eGClass a0)), pf 3 (.int .i64 x19), pf 4 (.int .i64 x20), pf 21 (.bool x47)] [] 0) ?_ ?_
   ·iterate 5 refine go ?_
    rcases ie hF with ⟨hb42, hF⟩ | ⟨hb42, hF⟩
    ·refine rgo_t hb42 ?_
     iterate 5 refine rgo_t hb42 ?_
     refine rpt hb42 ?_
     cases hF
     exact rcz []
    iterate 2 (refine rgn hb42 (op_move rfl rfl rfl rfl) ?_)
    obtain ⟨y43, h44, hF⟩ := bs hF
    refine rgn hb42 (ix (idx_map eGClass h44) slc_22) ?_
    refine rgn hb42 (lw (eGClass y43) agg_32) ?_
    obtain ⟨y45, h46, hF⟩ := bs hF
    refine rgn hb42 (cl 0 [.agg (eGClass y43)] [.p (.bool y45)] (ref10_class_ok h46)) ?_
    refine gn hb42 ?_
    refine rpf hb42 ?_
    cases hF
    exact rcz []
   have hF := hK49
   refine go ?_
   refine cnd hF (fun hb50 hF => ?_) fun hb50 hF => ?_
   ·iterate 8 refine go ?_
    refine post_lp_ret ?_
    cases hF
    have hF := elim_stop hK63
    refine go ?_
    cases hF
    exact prt
   iterate 6 refine go ?_
   obtain ⟨y55, h56, hF⟩ := bs hF
   refine rgp (ix (idx_map eGClass h56) slc_22) ?_
   refine rgp (lw (eGClass y55) agg_32) ?_
   obtain ⟨y57, h58, hF⟩ := bs hF
   refine rgp (cl 0 [.agg (eGClass y55)] [.p (.int .i64 y57)] (ref09_Stmts_ok h58)) ?_
   iterate 2 refine go ?_
   refine reg_nil ?_
   refine piz (sX 31 [pf 0 (.vs 7 (List.map eGClass a0)), pf 3 (.int .i64 (w_i64 (x19 + y57))), pf 4 (.int .i64 x20)] [] 0) [] ?_
   iterate 6 refine go ?_
   refine rnr ?_
   exact rnd_back (ih (w_i64 (x19 + y57), w_i64 (x20 + 1)) hF) (impz [])
  refine aw_exit ?_
  iterate 2 refine post_then_exit ?_
  cases hF
  exact post_lp_break _ ⟨_, rfl, rfl⟩ (impz [])
 rintro _ ⟨x61, rfl, rfl⟩
 have hF := elim_next hK63
 clear hK63
 iterate 7 refine go ?_
 cases hF
 exact prt
theorem ref02_Blank_ok {a0 : Int} {r : Bool} (hF : ref02_Blank a0 = some r) : FZ 126 [.int .u8 a0] [.p (.bool r)] := by
 unfold ref02_Blank at hF
 refine fn_of_body (n := 17) Tryz.func126 rfl rfl rfl fun w O => ?_
 iterate 7 refine go ?_
 rcases ie hF with ⟨hb1, hF⟩ | ⟨hb1, hF⟩
 ·cases hF
 iterate 2 refine gn hb1 ?_
 refine rpf hb1 ?_
 refine go ?_
 rcases ie hF with ⟨hb2, hF⟩ | ⟨hb2, hF⟩
 ·cases hF
 iterate 2 refine gn hb2 ?_
 refine rpf hb2 ?_
 refine go ?_
 rcases ie hF with ⟨hb3, hF⟩ | ⟨hb3, hF⟩
 ·cases hF
 iterate 2 refine gn hb3 ?_
 refine rpf hb3 ?_
 iterate 3 refine go ?_
 cases hF
 exact prt
theorem ref03_skip_ok {a0 : List UInt8} {r : Int} (hF : ref03_skip a0 = some r) : FZ 96 [.str a0] [.p (.int .i64 r)] := by
 unfold ref03_skip at hF
 refine fn_of_body (n := 46) Tryz.func96 rfl rfl rfl fun w O => ?_
 iterate 6 refine go ?_
 refine aw_seq ?_
 obtain ⟨lr53, hF, hK54⟩ := bs hF
 refine aw_for (a0.length + 64) (fun s1 => ∃ q, lr53 = .next q ∧ s1 = (sX 46 [pf 3 (.int .i64 q)] [] 0)) ?_ ?_
 ·refine rnd_loop (α := Int) (fun q => (sX 46 [pf 0 (.str a0), pf 3 (.int .i64 q)] [] 0)) (fun k q => ref03_skip_L1 a0 k q = some lr53) 0 (impz []) hF (fun q h => by cases h) ?_
  clear hF
  rintro k x17 hF ih
  refine rnd_succ ?_
  iterate 4 refine go ?_
  refine rgp (op_len_str rfl rfl und_9 rfl rfl) ?_
  iterate 2 refine go ?_
  refine cnd hF (fun hb35 hF => ?_) fun hb35 hF => ?_
  ·iterate 2 refine go ?_
   refine aw_block ?_
   iterate 4 refine go ?_
   obtain ⟨y40, h41, hF⟩ := bs hF
   refine rgp (op_index_str (k := .i64) rfl rfl rfl h41 und_9 rfl rfl) ?_
   obtain ⟨y42, h43, hF⟩ := bs hF
   refine rgp (cl 0 [.int .u8 (y40.toNat : Int)] [.p (.bool y42)] (ref02_Blank_ok h43)) ?_
   refine go ?_
   refine cnd hF (fun hb44 hF => ?_) fun hb44 hF => ?_
   ·iterate 5 refine go ?_
    refine aw_exit ?_
    refine post_then_exit ?_
    refine post_block_exit ?_
    refine post_round ?_
    exact rnd_back (ih (w_i64 (x17 + 1)) hF) (impz [])
   iterate 2 refine go ?_
   refine aw_seq ?_
   refine aw_seq ?_
   obtain ⟨p49, hF, hK50⟩ := bs hF
   refine ctx (sX 46 [pf 3 (.int .i64 x17), pf 31 (.bool true)] [] 0) ?_ ?_
   ·iterate 4 refine go ?_
    refine rgp (op_len_str rfl rfl und_9 rfl rfl) ?_
    iterate 2 refine go ?_
    rcases ie hF with ⟨hb45, hF⟩ | ⟨hb45, hF⟩
    ·refine rgo_t hb45 ?_
     iterate 3 refine rgo_t hb45 ?_
     refine rpt hb45 ?_
     refine go ?_
     iterate 5 refine rgo_t rfl ?_
     refine rpt rfl ?_
     cases hF
     exact rcz []
    iterate 2 (refine rgn hb45 (op_move rfl rfl rfl rfl) ?_)
    obtain ⟨y46, h47, hF⟩ := bs hF
    refine rgn hb45 (op_index_str (k := .i64) rfl rfl rfl h47 und_9 rfl rfl) ?_
    refine gn hb45 ?_
    refine rpf hb45 ?_
    refine go ?_
    rcases ie hF with ⟨hb48, hF⟩ | ⟨hb48, hF⟩
    ·refine rgo_t hb48 ?_
     iterate 4 refine rgo_t hb48 ?_
     refine rpt hb48 ?_
     cases hF
     exact rcz []
    cases hF
   have hF := hK50
   refine go ?_
   refine aw_cond_t rfl rfl ?_
   iterate 8 refine go ?_
   refine post_lp_ret ?_
   cases hF
   have hF := elim_stop hK54
   refine go ?_
   cases hF
   exact prt
  refine aw_exit ?_
  iterate 2 refine post_then_exit ?_
  cases hF
  exact post_lp_break _ ⟨_, rfl, rfl⟩ (impz [])
 rintro _ ⟨x52, rfl, rfl⟩
 have hF := elim_next hK54
 clear hK54
 iterate 6 refine go ?_
 cases hF
 exact prt
theorem ref03_sign_ok {a0 : List UInt8} {r : (List UInt8)} (hF : ref03_sign a0 = some r) : FZ 127 [.str a0] [.p (.str r)] := by
 unfold ref03_sign at hF
 refine fn_of_body (n := 38) Tryz.func127 rfl rfl rfl fun w O => ?_
 iterate 3 refine go ?_
 refine aw_seq ?_
 refine aw_seq ?_
 obtain ⟨x7, hF, hK9⟩ := bs hF
 refine ctx (sX 38 [pf 0 (.str a0), pf 17 (.bool x7)] [] 0) ?_ ?_
 ·iterate 2 refine go ?_
  refine rgp (op_len_str rfl rfl und_9 rfl rfl) ?_
  iterate 2 refine go ?_
  rcases ie hF with ⟨hb1, hF⟩ | ⟨hb1, hF⟩
  ·refine gn hb1 ?_
   obtain ⟨y2, h3, hF⟩ := bs hF
   refine rgn hb1 (op_slice_str (nl := none) (nh := (some 2)) rfl rfl rfl rfl und_9 h3 rfl rfl) ?_
   refine rgn hb1 (op_str rfl rfl rfl rfl rfl rfl) ?_
   refine gn hb1 ?_
   rcases ie hF with ⟨hb4, hF⟩ | ⟨hb4, hF⟩
   ·cases hF
   refine gn hb4 ?_
   obtain ⟨y5, h6, hF⟩ := bs hF
   refine rgn hb4 (op_slice_str (nl := none) (nh := (some 2)) rfl rfl rfl rfl und_9 h6 rfl rfl) ?_
   refine rgn hb4 (op_str rfl rfl rfl rfl rfl rfl) ?_
   refine rgn hb1 (op_pick_f rfl rfl hb4 rfl rfl rfl) ?_
   refine rpt hb1 ?_
   cases hF
   exact rcz []
  iterate 4 refine rgo_f hb1 ?_
  iterate 3 refine go ?_
  refine rgo_f hb1 ?_
  refine rpf hb1 ?_
  cases hF
  exact rcz []
 have hF := hK9
 refine go ?_
 refine cnd hF (fun hb10 hF => ?_) fun hb10 hF => ?_
 ·cases hF
 iterate 9 refine go ?_
 obtain ⟨lr59, hF, hK60⟩ := bs hF
 refine aw_for (a0.length + 64) (fun s1 => ∃ q, lr59 = .next q ∧ s1 = (sX 38 [] [] 0)) ?_ ?_
 ·refine rnd_loop (α := Int) (fun q => (sX 38 [pf 0 (.str a0), pf 3 (.str [123, 125, 40, 41, 60, 62, 44, 59, 46, 61, 43, 45, 42, 33]), pf 4 (.int .i64 q)] [] 0)) (fun k q => ref03_sign_L1 a0 k q = some lr59) 0 (impz []) hF (fun q h => by cases h) ?_
  clear hF
  rintro k x26 hF ih
  refine rnd_succ ?_
  refine aw_seq ?_
  refine aw_seq ?_
  obtain ⟨p44, hF, hK45⟩ := bs hF
  refine ctx (sX 38 [pf 0 (.str a0), pf 3 (.str [123, 125, 40, 41, 60, 62, 44, 59, 46, 61, 43, 45, 42, 33]), pf 4 (.int .i64 x26), pf 27 (.bool (!(a0 == [])))] [] 0) ?_ ?_
  ·iterate 3 refine go ?_
   refine rgp (op_len_str rfl rfl und_9 rfl rfl) ?_
   iterate 2 refine go ?_
   rcases ie hF with ⟨hb43, hF⟩ | ⟨hb43, hF⟩
   ·refine gn hb43 ?_
    refine rgn hb43 (op_str rfl rfl rfl rfl rfl rfl) ?_
    refine rpt hb43 ?_
    cases hF
    exact rcz []
   cases hF
  have hF := hK45
  refine go ?_
  refine cnd hF (fun hb46 hF => ?_) fun hb46 hF => ?_
  ·iterate 2 refine go ?_
   refine aw_seq ?_
   refine aw_block ?_
   refine aw_seq ?_
   refine dr_start ⟨_, _, _⟩ rfl ?_
   iterate 2 refine dgo ?_
   obtain ⟨y51, h52, hF⟩ := bs hF
   refine dr_cons { need := [(30, .pv (.str [123, 125, 40, 41, 60, 62, 44, 59, 46, 61, 43, 45, 42, 33])), (31, .pv (.int .i64 x26))], dst := some 32, val := some (.pv (.int .u8 (y51.toNat : Int))) } (fun m h => step_on (guard_no rfl) (op_index_str (k := .i64) rfl h.1.1 h.1.2.1 h52 und_9 rfl rfl) rfl) ⟨⟨rfl, rfl, trivial⟩, trivial, trivial⟩ ?_
   refine dgo ?_
   obtain ⟨y53, h54, hF⟩ := bs hF
   refine dr_cons { need := [(33, .pv (.str a0))], dst := some 34, val := some (.pv (.int .u8 (y53.toNat : Int))) } (fun m h => step_on (guard_no rfl) (op_index_str (k := .i64) rfl h.1.1 rfl h54 und_9 rfl rfl) rfl) ⟨⟨rfl, trivial⟩, trivial, trivial⟩ ?_
   refine dr_cons { need := [(32, .pv (.int .u8 (y51.toNat : Int))), (34, .pv (.int .u8 (y53.toNat : Int)))], dst := some 35, val := some (.pv (.bool ((y51.toNat : Int) == (y53.toNat : Int)))) } (fun m h => step_on (guard_no rfl) (op_int (k := .u8) (m := (y51.toNat : Int)) (n := (y53.toNat : Int)) rfl h.1.1 h.1.2.1 rfl rfl rfl) rfl) ⟨⟨rfl, rfl, trivial⟩, trivial, trivial⟩ ?_
   refine dr_nil mixed rfl (by kernel_rfl) ?_
   refine piz (sX 38 [pf 0 (.str a0), pf 3 (.str [123, 125, 40, 41, 60, 62, 44, 59, 46, 61, 43, 45, 42, 33]), pf 4 (.int .i64 x26), pf 35 (.bool ((y51.toNat : Int) == (y53.toNat : Int)))] [] 0) [] ?_
   refine go ?_
   refine cnd hF (fun hb55 hF => ?_) fun hb55 hF => ?_
   ·iterate 2 refine go ?_
    obtain ⟨y56, h57, hF⟩ := bs hF
    refine rgp (op_slice_str (nl := none) (nh := (some 1)) rfl rfl rfl rfl und_9 h57 rfl rfl) ?_
    iterate 6 refine go ?_
    refine post_lp_ret ?_
    cases hF
    have hF := elim_stop hK60
    refine go ?_
    cases hF
    exact prt
   iterate 7 refine go ?_
   refine rnr ?_
   exact rnd_back (ih (w_i64 (x26 + 1)) hF) (impz [])
  refine aw_exit ?_
  iterate 2 refine post_then_exit ?_
  cases hF
  exact post_lp_break _ ⟨_, rfl, rfl⟩ (impz [])
 rintro _ ⟨⟨⟩, rfl, rfl⟩
 have hF := elim_next hK60
 clear hK60
 iterate 5 refine go ?_
 cases hF
 exact prt
theorem ref03_one_ok {a0 : List UInt8} {r : GToken} (hF : ref03_one a0 = some r) : FZ 97 [.str a0] [.p (.agg (eGToken r))] := by
 unfold ref03_one at hF
 refine fn_of_body (n := 64) Tryz.func97 rfl rfl rfl fun w O => ?_
 refine go ?_
 refine rgp (al 0 (eGToken zGToken) zer_149) ?_
 iterate 7 refine go ?_
 obtain ⟨y5, h6, hF⟩ := bs hF
 refine rgp (op_index_str (k := .i64) rfl rfl rfl h6 und_9 rfl rfl) ?_
 obtain ⟨y7, h8, hF⟩ := bs hF
 refine rgp (cl 1 [.int .u8 (y5.toNat : Int)] [.p (.bool y7)] (ref02_Letter_ok h8)) ?_
 refine go ?_
 refine cnd hF (fun hb9 hF => ?_) fun hb9 hF => ?_
 ·refine aw_seq ?_
  obtain ⟨x55, hF, hK56⟩ := bs hF
  refine aw_for (a0.length + 64) (fun s1 => s1 = (sX 64 [pf 0 (.str a0), (2, some (.lp 0 0)), pf 3 (.int .i64 x55)] [bf 0 149 (eGToken zGToken)] 1)) ?_ ?_
  ·refine rnd_loop (α := Int) (fun q => (sX 64 [pf 0 (.str a0), (2, some (.lp 0 0)), pf 3 (.int .i64 q)] [bf 0 149 (eGToken zGToken)] 1)) (fun k q => ref03_one_L1 a0 k q = some x55) 0 (impz [0]) hF (fun q h => by cases h) ?_
   clear hF
   rintro k x24 hF ih
   refine rnd_succ ?_
   refine aw_seq ?_
   refine aw_seq ?_
   obtain ⟨x50, hF, hK52⟩ := bs hF
   refine ctx (sX 64 [pf 0 (.str a0), (2, some (.lp 0 0)), pf 3 (.int .i64 x24), pf 22 (.bool x50)] [bf 0 149 (eGToken zGToken)] 1) ?_ ?_
   ·iterate 3 refine go ?_
    refine rgp (op_len_str rfl rfl und_9 rfl rfl) ?_
    iterate 2 refine go ?_
    rcases ie hF with ⟨hb40, hF⟩ | ⟨hb40, hF⟩
    ·iterate 2 refine gn hb40 ?_
     obtain ⟨y41, h42, hF⟩ := bs hF
     refine rgn hb40 (op_index_str (k := .i64) rfl rfl rfl h42 und_9 rfl rfl) ?_
     obtain ⟨y43, h44, hF⟩ := bs hF
     refine rgn hb40 (cl 1 [.int .u8 (y41.toNat : Int)] [.p (.bool y43)] (ref02_Letter_ok h44)) ?_
     refine gn hb40 ?_
     rcases ie hF with ⟨hb45, hF⟩ | ⟨hb45, hF⟩
     ·refine rgo_t hb45 ?_
      iterate 3 refine rgo_t hb45 ?_
      refine rgn hb40 (op_pick_t rfl rfl hb45 rfl rfl rfl) ?_
      refine rpt hb40 ?_
      cases hF
      exact rcz [0]
     iterate 2 (refine rgn hb45 (op_move rfl rfl rfl rfl) ?_)
     obtain ⟨y46, h47, hF⟩ := bs hF
     refine rgn hb45 (op_index_str (k := .i64) rfl rfl rfl h47 und_9 rfl rfl) ?_
     obtain ⟨y48, h49, hF⟩ := bs hF
     refine rgn hb45 (cl 1 [.int .u8 (y46.toNat : Int)] [.p (.bool y48)] (ref02_Digit_ok h49)) ?_
     refine rgn hb40 (op_pick_f rfl rfl hb45 rfl rfl rfl) ?_
     refine rpt hb40 ?_
     cases hF
     exact rcz [0]
    cases hF
   have hF := hK52
   refine go ?_
   refine cnd hF (fun hb53 hF => ?_) fun hb53 hF => ?_
   ·iterate 2 refine go ?_
    refine aw_block ?_
    iterate 4 refine go ?_
    refine reg_nil ?_
    refine piz (sX 64 [pf 0 (.str a0), (2, some (.lp 0 0)), pf 3 (.int .i64 (w_i64 (x24 + 1)))] [bf 0 149 (eGToken zGToken)] 1) [0] ?_
    refine go ?_
    refine post_round ?_
    exact rnd_back (ih (w_i64 (x24 + 1)) hF) (impz [0])
   refine aw_exit ?_
   iterate 2 refine post_then_exit ?_
   cases hF
   exact post_lp_break _ rfl (impz [0])
  rintro _ rfl
  have hF := hK56
  iterate 5 refine go ?_
  obtain ⟨y61, h62, hF⟩ := bs hF
  refine rgp (op_slice_str (nl := none) (nh := (some x55)) rfl rfl rfl rfl und_9 h62 rfl rfl) ?_
  obtain ⟨y63, h64, hF⟩ := bs hF
  refine rgp (cl 1 [.str y61] [.p (.int .i64 y63)] (ref02_Find_ok h64)) ?_
  iterate 2 refine go ?_
  refine cnd hF (fun hb65 hF => ?_) fun hb65 hF => ?_
  ·iterate 3 refine go ?_
   obtain ⟨y66, h67, hF⟩ := bs hF
   refine rgp (op_slice_str (nl := none) (nh := (some x55)) rfl rfl rfl rfl und_9 h67 rfl rfl) ?_
   refine rgp (bd ((eGToken zGToken)) (eGToken ({ fKind := 3, fText := y66, fAt := 0 } : GToken)) zer_149 plc_149) ?_
   iterate 5 refine go ?_
   cases hF
   exact post_ret rfl rfl (.cons _ _ _ _ _ (.agg _ _ _ _ _ 3 _ _ rfl rfl agg_149 rfl rfl rfl) (.p _) .nil) (.inl rfl)
  iterate 5 refine go ?_
  obtain ⟨y68, h69, hF⟩ := bs hF
  refine rgp (op_slice_str (nl := none) (nh := (some x55)) rfl rfl rfl rfl und_9 h69 rfl rfl) ?_
  refine rgp (bd ((eGToken zGToken)) (eGToken ({ fKind := 1, fText := y68, fAt := 0 } : GToken)) zer_149 plc_149) ?_
  iterate 4 refine go ?_
  cases hF
  exact post_ret rfl rfl (.cons _ _ _ _ _ (.agg _ _ _ _ _ 3 _ _ rfl rfl agg_149 rfl rfl rfl) (.p _) .nil) (.inl rfl)
 iterate 5 refine go ?_
 obtain ⟨y74, h75, hF⟩ := bs hF
 refine rgp (op_index_str (k := .i64) rfl rfl rfl h75 und_9 rfl rfl) ?_
 obtain ⟨y76, h77, hF⟩ := bs hF
 refine rgp (cl 1 [.int .u8 (y74.toNat : Int)] [.p (.bool y76)] (ref02_Digit_ok h77)) ?_
 refine go ?_
 refine cnd hF (fun hb78 hF => ?_) fun hb78 hF => ?_
 ·cases hF
 iterate 5 refine go ?_
 obtain ⟨y81, h82, hF⟩ := bs hF
 refine rgp (cl 1 [.str a0] [.p (.str y81)] (ref03_sign_ok h82)) ?_
 refine rgp (op_str rfl rfl rfl rfl rfl rfl) ?_
 refine go ?_
 refine cnd hF (fun hb83 hF => ?_) fun hb83 hF => ?_
 ·iterate 2 refine go ?_
  obtain ⟨y84, h85, hF⟩ := bs hF
  refine rgp (cl 1 [.str a0] [.p (.str y84)] (ref03_sign_ok h85)) ?_
  refine rgp (bd ((eGToken zGToken)) (eGToken ({ fKind := 4, fText := y84, fAt := 0 } : GToken)) zer_149 plc_149) ?_
  iterate 4 refine go ?_
  cases hF
  exact post_ret rfl rfl (.cons _ _ _ _ _ (.agg _ _ _ _ _ 3 _ _ rfl rfl agg_149 rfl rfl rfl) (.p _) .nil) (.inl rfl)
 cases hF
theorem ref02_Number_ok {a0 : List UInt8} {r : Int × Bool} (hF : ref02_Number a0 = some r) : FZ 98 [.str a0] [.p (.int .i64 r.1), .p (.bool r.2)] := by
 unfold ref02_Number at hF
 refine fn_of_body (n := 44) Tryz.func98 rfl rfl rfl fun w O => ?_
 iterate 4 refine go ?_
 refine aw_seq ?_
 refine aw_seq ?_
 obtain ⟨p6, hF, hK7⟩ := bs hF
 refine ctx (sX 44 [pf 0 (.str a0), pf 23 (.bool false)] [] 0) ?_ ?_
 ·iterate 2 refine go ?_
  refine rgp (op_len_str rfl rfl und_9 rfl rfl) ?_
  iterate 2 refine go ?_
  rcases ie hF with ⟨hb1, hF⟩ | ⟨hb1, hF⟩
  ·cases hF
  refine gn hb1 ?_
  refine rgn hb1 (op_len_str rfl rfl und_9 rfl rfl) ?_
  refine gn hb1 ?_
  refine rpf hb1 ?_
  refine go ?_
  rcases ie hF with ⟨hb2, hF⟩ | ⟨hb2, hF⟩
  ·cases hF
  refine gn hb2 ?_
  obtain ⟨y3, h4, hF⟩ := bs hF
  refine rgn hb2 (op_index_str (k := .i64) rfl rfl rfl h4 und_9 rfl rfl) ?_
  iterate 2 refine gn hb2 ?_
  rcases ie hF with ⟨hb5, hF⟩ | ⟨hb5, hF⟩
  ·cases hF
  iterate 3 refine rgo_f hb5 ?_
  refine rgn hb2 (op_pick_f rfl rfl hb5 rfl rfl rfl) ?_
  refine rpf hb2 ?_
  cases hF
  exact rcz []
 have hF := hK7
 refine go ?_
 refine aw_cond_f rfl rfl ?_
 iterate 9 refine go ?_
 obtain ⟨lr38, hF, hK39⟩ := bs hF
 refine aw_for ((a0.length - 0 : Int).toNat + 1) (fun s1 => ∃ q, lr38 = .next q ∧ s1 = (sX 44 [pf 4 (.int .i64 0)] [] 0)) ?_ ?_
 ·refine rnd_loop (α := Unit) (fun q => (sX 44 [pf 0 (.str a0), pf 4 (.int .i64 0), pf 5 (.int .i64 0)] [] 0)) (fun k q => ref02_Number_L1 a0 k = some lr38) () (impz []) hF (fun q h => by cases h) ?_
  clear hF
  rintro k ⟨⟩ hF ih
  refine rnd_succ ?_
  iterate 4 refine go ?_
  refine rgp (op_len_str rfl rfl und_9 rfl rfl) ?_
  iterate 2 refine go ?_
  refine cnd hF (fun hb28 hF => ?_) fun hb28 hF => ?_
  ·iterate 2 refine go ?_
   refine aw_seq ?_
   refine aw_block ?_
   iterate 4 refine go ?_
   obtain ⟨y33, h34, hF⟩ := bs hF
   refine rgp (op_index_str (k := .i64) rfl rfl rfl h34 und_9 rfl rfl) ?_
   obtain ⟨y35, h36, hF⟩ := bs hF
   refine rgp (cl 0 [.int .u8 (y33.toNat : Int)] [.p (.bool y35)] (ref02_Digit_ok h36)) ?_
   iterate 2 refine go ?_
   refine cnd hF (fun hb37 hF => ?_) fun hb37 hF => ?_
   ·iterate 9 refine go ?_
    refine post_lp_ret ?_
    cases hF
    have hF := elim_stop hK39
    refine go ?_
    cases hF
    exact post_ret rfl rfl (.cons _ _ _ _ _ (.tmp _ _ rfl) (.p _) (.cons _ _ _ _ _ (.tmp _ _ rfl) (.p _) .nil)) (.inl rfl)
   cases hF
  refine aw_exit ?_
  iterate 2 refine post_then_exit ?_
  cases hF
  exact post_lp_break _ ⟨_, rfl, rfl⟩ (impz [])
 rintro _ ⟨⟨⟩, rfl, rfl⟩
 have hF := elim_next hK39
 clear hK39
 iterate 7 refine go ?_
 cases hF
 exact post_ret rfl rfl (.cons _ _ _ _ _ (.tmp _ _ rfl) (.p _) (.cons _ _ _ _ _ (.tmp _ _ rfl) (.p _) .nil)) (.inl rfl)
theorem ref03_Of_ok {a0 : List UInt8} {r : (List GToken) × GFault} (hF : ref03_Of a0 = some r) : FZ 69 [.str a0] [.own 149 3 (List.map eGToken r.1), .p (.agg (eGFault r.2))] := by
 unfold ref03_Of at hF
 refine fn_of_body (n := 78) Tryz.func69 rfl rfl rfl fun w O => ?_
 iterate 2 refine go ?_
 refine rgp (al 0 (eGFault zGFault) zer_73) ?_
 iterate 4 refine go ?_
 refine rgp (op_len_str rfl rfl und_9 rfl rfl) ?_
 iterate 2 refine go ?_
 refine cnd hF (fun hb1 hF => ?_) fun hb1 hF => ?_
 ·cases hF
 iterate 4 refine go ?_
 refine reg_imp (imp_nil_own 4 149 3 1 rfl rfl) ?_
 iterate 3 refine go ?_
 obtain ⟨y4, h5, hF⟩ := bs hF
 refine rgp (cl 2 [.str a0] [.p (.int .i64 y4)] (ref03_skip_ok h5)) ?_
 iterate 2 refine go ?_
 refine aw_seq ?_
 obtain ⟨x96, hF, hK97⟩ := bs hF
 refine aw_for ((((a0.length : Int) : Int) - (y4)).toNat + 1) (fun s1 => s1 = (sX 78 [pf 0 (.str a0), (3, some (.lp 0 0)), (4, some (.ls 1))] [bf 0 73 (eGFault zGFault), (1, some (.row 149 3 (List.map eGToken x96)))] 2)) ?_ ?_
 ·refine rnd_loop (α := (List GToken) × Int) (fun q => (sX 78 [pf 0 (.str a0), (3, some (.lp 0 0)), (4, some (.ls 1)), pf 5 (.int .i64 q.2)] [bf 0 73 (eGFault zGFault), (1, some (.row 149 3 (List.map eGToken q.1)))] 2)) (fun k q => ref03_Of_L1 a0 k q.1 q.2 = some x96) ([], y4) (impz [0, 1]) hF (fun q h => by cases h) ?_
  clear hF
  rintro k ⟨x34, x35⟩ hF ih
  refine rnd_succ ?_
  iterate 4 refine go ?_
  refine rgp (op_len_str rfl rfl und_9 rfl rfl) ?_
  iterate 2 refine go ?_
  refine cnd hF (fun hb66 hF => ?_) fun hb66 hF => ?_
  ·iterate 2 refine go ?_
   refine aw_block ?_
   iterate 3 refine go ?_
   obtain ⟨y71, h72, hF⟩ := bs hF
   refine rgp (op_slice_str (nl := (some x35)) (nh := none) rfl rfl rfl rfl und_9 h72 rfl rfl) ?_
   obtain ⟨y73, h74, hF⟩ := bs hF
   refine rgp (cl 2 [.str y71] [.p (.agg (eGToken y73))] (ref03_one_ok h74)) ?_
   refine rgp (al 2 (eGToken zGToken) zer_149) ?_
   iterate 13 refine go ?_
   refine cnd hF (fun hb75 hF => ?_) fun hb75 hF => ?_
   ·cases hF
   iterate 5 refine go ?_
   obtain ⟨y78, h79, hF⟩ := bs hF
   refine rgp (cl 3 [.str (({ y73 with fAt := x35 } : GToken).fText)] [.p (.int .i64 y78.1), .p (.bool y78.2)] (ref02_Number_ok h79)) ?_
   refine go ?_
   iterate 2 (refine rgp (op_extract rfl rfl rfl rfl rfl) ?_)
   iterate 3 refine go ?_
   refine aw_seq ?_
   refine aw_seq ?_
   obtain ⟨p84, hF, hK85⟩ := bs hF
   refine ctx (sX 78 [pf 0 (.str a0), (3, some (.lp 0 0)), (4, some (.ls 1)), pf 5 (.int .i64 x35), (6, some (.lp 2 0)), pf 53 (.bool false)] [bf 0 73 (eGFault zGFault), (1, some (.row 149 3 (List.map eGToken x34))), bf 2 149 (eGToken ({ y73 with fAt := x35 } : GToken))] 3) ?_ ?_
   ·iterate 5 refine go ?_
    rcases ie hF with ⟨hb80, hF⟩ | ⟨hb80, hF⟩
    ·iterate 2 refine gn hb80 ?_
     refine rgn hb80 (op_len_str rfl rfl und_9 rfl rfl) ?_
     refine gn hb80 ?_
     refine rpt hb80 ?_
     refine go ?_
     rcases ie hF with ⟨hb81, hF⟩ | ⟨hb81, hF⟩
     ·cases hF
     iterate 4 refine gn hb81 ?_
     rcases ie hF with ⟨hb82, hF⟩ | ⟨hb82, hF⟩
     ·cases hF
     iterate 2 refine rgo_f hb82 ?_
     refine rgn hb81 (op_pick_f rfl rfl hb82 rfl rfl rfl) ?_
     refine rpf hb81 ?_
     cases hF
     exact rcz [0, 1, 2]
    iterate 4 refine rgo_f hb80 ?_
    refine rpf hb80 ?_
    refine go ?_
    iterate 4 refine gn rfl ?_
    rcases ie hF with ⟨hb83, hF⟩ | ⟨hb83, hF⟩
    ·cases hF
    iterate 2 refine rgo_f hb83 ?_
    refine rgn rfl (op_pick_f rfl rfl hb83 rfl rfl rfl) ?_
    refine rpf rfl ?_
    cases hF
    exact rcz [0, 1, 2]
   have hF := hK85
   refine go ?_
   refine aw_cond_f rfl rfl ?_
   iterate 4 refine go ?_
   refine rgp (la (eGToken ({ y73 with fAt := x35 } : GToken)) agg_149) ?_
   refine rgp (op_lit (rows := List.map eGToken ([({ y73 with fAt := x35 } : GToken)] : List GToken)) (zs := (eGToken zGToken)) rfl rfl slc_145 zer_149 (by exact ⟨rfl, rfl, rfl, trivial⟩) rfl rfl rfl rfl rfl rfl rfl rfl) ?_
   obtain ⟨u88, h89, hF⟩ := bs hF
   refine rgp (op_append 3 rfl rfl rfl rfl rfl slc_145 elm_149 zer_149 rfl rfl rfl (room_map (f := eGToken) (g := eGToken) h89) (List.map_append (f := eGToken) (l₁ := x34) (l₂ := [({ y73 with fAt := x35 } : GToken)])).symm rfl rfl) ?_
   iterate 6 refine go ?_
   refine rgp (op_len_str rfl rfl und_9 rfl rfl) ?_
   iterate 7 refine go ?_
   obtain ⟨y90, h91, hF⟩ := bs hF
   refine rgp (op_slice_str (nl := (some (w_i64 (x35 + ((({ y73 with fAt := x35 } : GToken).fText).length : Int))))) (nh := none) rfl rfl rfl rfl und_9 h91 rfl rfl) ?_
   obtain ⟨y92, h93, hF⟩ := bs hF
   refine rgp (cl 4 [.str y90] [.p (.int .i64 y92)] (ref03_skip_ok h93)) ?_
   iterate 2 refine go ?_
   refine reg_nil ?_
   refine piz (sX 78 [pf 0 (.str a0), (3, some (.lp 0 0)), (4, some (.ls 1)), pf 5 (.int .i64 (w_i64 ((w_i64 (x35 + ((({ y73 with fAt := x35 } : GToken).fText).length : Int))) + y92)))] [bf 0 73 (eGFault zGFault), (1, some (.row 149 3 (List.map eGToken (x34 ++ [({ y73 with fAt := x35 } : GToken)]))))] 2) [0, 3] ?_
   refine go ?_
   refine post_round ?_
   exact rnd_back (ih ((x34 ++ [({ y73 with fAt := x35 } : GToken)]), w_i64 ((w_i64 (x35 + ((({ y73 with fAt := x35 } : GToken).fText).length : Int))) + y92)) hF) (impz [0, 1])
  refine aw_exit ?_
  iterate 2 refine post_then_exit ?_
  cases hF
  exact post_lp_break _ rfl (impz [0, 1])
 rintro _ rfl
 have hF := hK97
 iterate 4 refine go ?_
 refine rgp (op_len_str rfl rfl und_9 rfl rfl) ?_
 refine rgp (bd ((eGToken zGToken)) (eGToken ({ fKind := 0, fText := [], fAt := (a0.length : Int) } : GToken)) zer_149 plc_149) ?_
 refine rgp (op_lit (rows := List.map eGToken ([({ fKind := 0, fText := [], fAt := (a0.length : Int) } : GToken)] : List GToken)) (zs := (eGToken zGToken)) rfl rfl slc_145 zer_149 (by exact ⟨rfl, rfl, rfl, trivial⟩) rfl rfl rfl rfl rfl rfl rfl rfl) ?_
 obtain ⟨u98, h99, hF⟩ := bs hF
 refine rgp (op_append 2 rfl rfl rfl rfl rfl slc_145 elm_149 zer_149 rfl rfl rfl (room_map (f := eGToken) (g := eGToken) h99) (List.map_append (f := eGToken) (l₁ := x96) (l₂ := [({ fKind := 0, fText := [], fAt := (a0.length : Int) } : GToken)])).symm rfl rfl) ?_
 refine rgp (bd ((eGFault zGFault)) (eGFault ({ fErr := 0, fAt := 0 } : GFault)) zer_73 plc_73) ?_
 iterate 4 refine go ?_
 cases hF
 exact post_ret rfl rfl (.cons _ _ _ _ _ (.tmp _ _ rfl) (.own _ _ _ _ rfl nolent3) (.cons _ _ _ _ _ (.agg _ _ _ _ _ 2 _ _ rfl rfl agg_73 rfl rfl rfl) (.p _) .nil)) (.inl rfl)
end Go.Proofs.YthhdlpggmmfaiaaGreat
