/- A part of the proof that the law AdaptThis gives true for every input. -/
import Derived.Test.YtkfgkkbfipgklaaAdaptThisT
import Derived.Test.YtkfgkkbfipgklaaAdaptThisX
import Derived.Test.YtkfgkkbfipgklaaAdaptThisI
import Derived.Test.YtkfgkkbfipgklaaAdaptThisW0
/- Each Go function computes its plain function. -/
namespace Go.Proofs.Ytkfgkkbfipgklaa
open Go.RowKit Go.Abs
set_option maxRecDepth 100000
set_option maxHeartbeats 4000000
theorem law26_awake_ok  {r : Bool} (hF : law26_awake = some r) : Abs.Fn Try.prog 16 [] [.p (.bool r)] := by
  unfold law26_awake at hF
  refine fn_of_body (n := 30) Try.func16 rfl rfl rfl ?_
  intro w O
  refine aw_seq ?_
  refine aw_region ?_
  refine ras ?_
  refine reg_nil ?_
  refine post_imp (s' := ⟨30, [], [], 0, [], [], 0, []⟩) (imps [] trivial trivial) ?_
  refine post_next ?_
  refine aw_seq ?_
  refine aw_region ?_
  refine reg_cons (guard_no rfl) (op_build (zs := (eGClass zGClass)) (r := eGClass ({ fName := [65], fParams := [], fSuper := [], fAbove := [], fFields := [], fMethods := [], fAt := 0 } : GClass)) rfl Try_zer_43 (by exact ⟨rfl, trivial, rfl, trivial, trivial, trivial, rfl, trivial⟩) Try_plc_43 rfl rfl rfl rfl) ?_
  refine reg_cons (guard_no rfl) (op_lit (rows := List.map eGClass ([({ fName := [65], fParams := [], fSuper := [], fAbove := [], fFields := [], fMethods := [], fAt := 0 } : GClass)] : List GClass)) (zs := (eGClass zGClass)) rfl rfl Try_slc_22 Try_zer_43 (by exact ⟨rfl, trivial, rfl, trivial, trivial, trivial, rfl, trivial⟩) rfl rfl rfl rfl rfl rfl rfl rfl) ?_
  refine ras ?_
  refine reg_nil ?_
  refine post_imp (s' := ⟨30, [(1, some (.pv (.vs 7 (List.map eGClass [({ fName := [65], fParams := [], fSuper := [], fAbove := [], fFields := [], fMethods := [], fAt := 0 } : GClass)]))))], [], 0, [], [], 0, []⟩) (imps [] ⟨by kernel_rfl, trivial⟩ trivial) ?_
  refine post_next ?_
  refine aw_seq ?_
  refine aw_region ?_
  refine reg_cons (guard_no rfl) (op_build (zs := (eGOwner zGOwner)) (r := eGOwner ({ fKind := 1, fN := 0 } : GOwner)) rfl Try_zer_24 (by exact ⟨rfl, rfl, trivial⟩) Try_plc_24 rfl rfl rfl rfl) ?_
  refine reg_cons (guard_no rfl) (op_buildArr (zs := ((eA4 eGOwner) (⟨zGOwner, zGOwner, zGOwner, zGOwner⟩ : A4 GOwner))) (r := (eA4 eGOwner) (⟨({ fKind := 1, fN := 0 } : GOwner), zGOwner, zGOwner, zGOwner⟩ : A4 GOwner)) rfl Try_zer_25 (by exact ⟨rfl, rfl, rfl, rfl, rfl, rfl, rfl, rfl, trivial⟩) Try_arr_25 rfl rfl rfl rfl) ?_
  refine reg_cons (guard_no rfl) (op_build (zs := (eGType zGType)) (r := eGType ({ fKind := 2, fClass := [65], fN := 0, fOwn := (⟨({ fKind := 1, fN := 0 } : GOwner), zGOwner, zGOwner, zGOwner⟩ : A4 GOwner) } : GType)) rfl Try_zer_27 (by exact ⟨rfl, rfl, rfl, rfl, rfl, rfl, rfl, rfl, rfl, rfl, rfl, trivial⟩) Try_plc_27 rfl rfl rfl rfl) ?_
  refine reg_cons (guard_no rfl) (op_build (zs := (eGView_adapt zGView_adapt)) (r := eGView_adapt ({ fMode := 1, fObject := ({ fKind := 2, fClass := [65], fN := 0, fOwn := (⟨({ fKind := 1, fN := 0 } : GOwner), zGOwner, zGOwner, zGOwner⟩ : A4 GOwner) } : GType), fThis := false } : GView_adapt)) rfl Try_zer_47 (by exact ⟨rfl, rfl, rfl, rfl, rfl, rfl, rfl, rfl, rfl, rfl, rfl, rfl, rfl, trivial⟩) Try_plc_47 rfl rfl rfl rfl) ?_
  refine reg_cons (guard_no rfl) (op_alloc 0 rfl (ps := (eGView_adapt zGView_adapt)) rfl Try_zer_47 (by exact ⟨rfl, rfl, rfl, rfl, rfl, rfl, rfl, rfl, rfl, rfl, rfl, rfl, rfl, trivial⟩) rfl rfl) ?_
  refine reg_cons (guard_no rfl) (op_store_lp (n := 13) rfl rfl rfl rfl rfl (or_agg Try_agg_47) (by rw [Try_non_47]; rfl) rfl rfl rfl) ?_
  refine reg_nil ?_
  refine post_imp (s' := ⟨30, [(1, some (.pv (.vs 7 (List.map eGClass [({ fName := [65], fParams := [], fSuper := [], fAbove := [], fFields := [], fMethods := [], fAt := 0 } : GClass)])))), (2, some (.lp 0 0))], [(0, some (.box 47 (bxv (eGView_adapt ({ fMode := 1, fObject := ({ fKind := 2, fClass := [65], fN := 0, fOwn := (⟨({ fKind := 1, fN := 0 } : GOwner), zGOwner, zGOwner, zGOwner⟩ : A4 GOwner) } : GType), fThis := false } : GView_adapt)))))], 1, [], [], 0, []⟩) (imps [0] ⟨by kernel_rfl, by kernel_rfl, trivial⟩ ⟨by kernel_rfl, trivial⟩) ?_
  refine post_next ?_
  refine aw_seq ?_
  refine aw_region ?_
  refine reg_cons (guard_no rfl) (op_build (zs := (eGOwner zGOwner)) (r := eGOwner ({ fKind := 2, fN := 0 } : GOwner)) rfl Try_zer_24 (by exact ⟨rfl, rfl, trivial⟩) Try_plc_24 rfl rfl rfl rfl) ?_
  refine reg_cons (guard_no rfl) (op_buildArr (zs := ((eA4 eGOwner) (⟨zGOwner, zGOwner, zGOwner, zGOwner⟩ : A4 GOwner))) (r := (eA4 eGOwner) (⟨({ fKind := 2, fN := 0 } : GOwner), zGOwner, zGOwner, zGOwner⟩ : A4 GOwner)) rfl Try_zer_25 (by exact ⟨rfl, rfl, rfl, rfl, rfl, rfl, rfl, rfl, trivial⟩) Try_arr_25 rfl rfl rfl rfl) ?_
  refine reg_cons (guard_no rfl) (op_build (zs := (eGType zGType)) (r := eGType ({ fKind := 2, fClass := [66], fN := 0, fOwn := (⟨({ fKind := 2, fN := 0 } : GOwner), zGOwner, zGOwner, zGOwner⟩ : A4 GOwner) } : GType)) rfl Try_zer_27 (by exact ⟨rfl, rfl, rfl, rfl, rfl, rfl, rfl, rfl, rfl, rfl, rfl, trivial⟩) Try_plc_27 rfl rfl rfl rfl) ?_
  refine reg_cons (guard_no rfl) (op_alloc 1 rfl (ps := (eGType zGType)) rfl Try_zer_27 (by exact ⟨rfl, rfl, rfl, rfl, rfl, rfl, rfl, rfl, rfl, rfl, rfl, trivial⟩) rfl rfl) ?_
  refine reg_cons (guard_no rfl) (op_store_lp (n := 11) rfl rfl rfl rfl rfl (or_agg Try_agg_27) (by rw [Try_non_27]; rfl) rfl rfl rfl) ?_
  refine reg_nil ?_
  refine post_imp (s' := ⟨30, [(1, some (.pv (.vs 7 (List.map eGClass [({ fName := [65], fParams := [], fSuper := [], fAbove := [], fFields := [], fMethods := [], fAt := 0 } : GClass)])))), (2, some (.lp 0 0)), (3, some (.lp 1 0))], [(0, some (.box 47 (bxv (eGView_adapt ({ fMode := 1, fObject := ({ fKind := 2, fClass := [65], fN := 0, fOwn := (⟨({ fKind := 1, fN := 0 } : GOwner), zGOwner, zGOwner, zGOwner⟩ : A4 GOwner) } : GType), fThis := false } : GView_adapt))))), (1, some (.box 27 (bxv (eGType ({ fKind := 2, fClass := [66], fN := 0, fOwn := (⟨({ fKind := 2, fN := 0 } : GOwner), zGOwner, zGOwner, zGOwner⟩ : A4 GOwner) } : GType)))))], 2, [], [], 0, []⟩) (imps [0, 1] ⟨by kernel_rfl, by kernel_rfl, by kernel_rfl, trivial⟩ ⟨by kernel_rfl, by kernel_rfl, trivial⟩) ?_
  refine post_next ?_
  refine aw_seq ?_
  refine aw_region ?_
  refine reg_cons (guard_no rfl) (op_build (zs := (eGOwner zGOwner)) (r := eGOwner ({ fKind := 1, fN := 0 } : GOwner)) rfl Try_zer_24 (by exact ⟨rfl, rfl, trivial⟩) Try_plc_24 rfl rfl rfl rfl) ?_
  refine reg_cons (guard_no rfl) (op_buildArr (zs := ((eA4 eGOwner) (⟨zGOwner, zGOwner, zGOwner, zGOwner⟩ : A4 GOwner))) (r := (eA4 eGOwner) (⟨({ fKind := 1, fN := 0 } : GOwner), zGOwner, zGOwner, zGOwner⟩ : A4 GOwner)) rfl Try_zer_25 (by exact ⟨rfl, rfl, rfl, rfl, rfl, rfl, rfl, rfl, trivial⟩) Try_arr_25 rfl rfl rfl rfl) ?_
  refine reg_cons (guard_no rfl) (op_build (zs := (eGType zGType)) (r := eGType ({ fKind := 2, fClass := [66], fN := 0, fOwn := (⟨({ fKind := 1, fN := 0 } : GOwner), zGOwner, zGOwner, zGOwner⟩ : A4 GOwner) } : GType)) rfl Try_zer_27 (by exact ⟨rfl, rfl, rfl, rfl, rfl, rfl, rfl, rfl, rfl, rfl, rfl, trivial⟩) Try_plc_27 rfl rfl rfl rfl) ?_
  refine reg_cons (guard_no rfl) (op_alloc 2 rfl (ps := (eGType zGType)) rfl Try_zer_27 (by exact ⟨rfl, rfl, rfl, rfl, rfl, rfl, rfl, rfl, rfl, rfl, rfl, trivial⟩) rfl rfl) ?_
  refine reg_cons (guard_no rfl) (op_store_lp (n := 11) rfl rfl rfl rfl rfl (or_agg Try_agg_27) (by rw [Try_non_27]; rfl) rfl rfl rfl) ?_
  refine reg_nil ?_
  refine post_imp (s' := ⟨30, [(1, some (.pv (.vs 7 (List.map eGClass [({ fName := [65], fParams := [], fSuper := [], fAbove := [], fFields := [], fMethods := [], fAt := 0 } : GClass)])))), (2, some (.lp 0 0)), (3, some (.lp 1 0)), (4, some (.lp 2 0))], [(0, some (.box 47 (bxv (eGView_adapt ({ fMode := 1, fObject := ({ fKind := 2, fClass := [65], fN := 0, fOwn := (⟨({ fKind := 1, fN := 0 } : GOwner), zGOwner, zGOwner, zGOwner⟩ : A4 GOwner) } : GType), fThis := false } : GView_adapt))))), (1, some (.box 27 (bxv (eGType ({ fKind := 2, fClass := [66], fN := 0, fOwn := (⟨({ fKind := 2, fN := 0 } : GOwner), zGOwner, zGOwner, zGOwner⟩ : A4 GOwner) } : GType))))), (2, some (.box 27 (bxv (eGType ({ fKind := 2, fClass := [66], fN := 0, fOwn := (⟨({ fKind := 1, fN := 0 } : GOwner), zGOwner, zGOwner, zGOwner⟩ : A4 GOwner) } : GType)))))], 3, [], [], 0, []⟩) (imps [0, 1, 2] ⟨by kernel_rfl, by kernel_rfl, by kernel_rfl, by kernel_rfl, trivial⟩ ⟨by kernel_rfl, by kernel_rfl, by kernel_rfl, trivial⟩) ?_
  refine post_next ?_
  refine aw_seq ?_
  refine dr_start ⟨_, _, _⟩ rfl ?_
  refine drm ?_
  refine dr_cons { need := [(2, .lp 0 0)], hneed := [(0, .box 47 (bxv (eGView_adapt ({ fMode := 1, fObject := ({ fKind := 2, fClass := [65], fN := 0, fOwn := (⟨({ fKind := 1, fN := 0 } : GOwner), zGOwner, zGOwner, zGOwner⟩ : A4 GOwner) } : GType), fThis := false } : GView_adapt))))], dst := some 18, val := some (.pv (.agg (eGView_adapt ({ fMode := 1, fObject := ({ fKind := 2, fClass := [65], fN := 0, fOwn := (⟨({ fKind := 1, fN := 0 } : GOwner), zGOwner, zGOwner, zGOwner⟩ : A4 GOwner) } : GType), fThis := false } : GView_adapt)))) } (fun m h => step_on (guard_no rfl) (op_load_lp_agg (ps := eGView_adapt ({ fMode := 1, fObject := ({ fKind := 2, fClass := [65], fN := 0, fOwn := (⟨({ fKind := 1, fN := 0 } : GOwner), zGOwner, zGOwner, zGOwner⟩ : A4 GOwner) } : GType), fThis := false } : GView_adapt)) rfl h.1.1 h.2.1.1 rfl rfl rfl Try_agg_47 rfl rfl) rfl) ⟨⟨rfl, trivial⟩, ⟨rfl, trivial⟩, trivial⟩ ?_
  refine dr_cons { need := [(3, .lp 1 0)], hneed := [(1, .box 27 (bxv (eGType ({ fKind := 2, fClass := [66], fN := 0, fOwn := (⟨({ fKind := 2, fN := 0 } : GOwner), zGOwner, zGOwner, zGOwner⟩ : A4 GOwner) } : GType))))], dst := some 19, val := some (.pv (.agg (eGType ({ fKind := 2, fClass := [66], fN := 0, fOwn := (⟨({ fKind := 2, fN := 0 } : GOwner), zGOwner, zGOwner, zGOwner⟩ : A4 GOwner) } : GType)))) } (fun m h => step_on (guard_no rfl) (op_load_lp_agg (ps := eGType ({ fKind := 2, fClass := [66], fN := 0, fOwn := (⟨({ fKind := 2, fN := 0 } : GOwner), zGOwner, zGOwner, zGOwner⟩ : A4 GOwner) } : GType)) rfl h.1.1 h.2.1.1 rfl rfl rfl Try_agg_27 rfl rfl) rfl) ⟨⟨rfl, trivial⟩, ⟨rfl, trivial⟩, trivial⟩ ?_
  obtain ⟨y1, h2, hF⟩ := bind_some hF
  refine dr_cons { need := [(19, .pv (.agg (eGType ({ fKind := 2, fClass := [66], fN := 0, fOwn := (⟨({ fKind := 2, fN := 0 } : GOwner), zGOwner, zGOwner, zGOwner⟩ : A4 GOwner) } : GType)))), (18, .pv (.agg (eGView_adapt ({ fMode := 1, fObject := ({ fKind := 2, fClass := [65], fN := 0, fOwn := (⟨({ fKind := 1, fN := 0 } : GOwner), zGOwner, zGOwner, zGOwner⟩ : A4 GOwner) } : GType), fThis := false } : GView_adapt)))), (17, .pv (.vs 7 (List.map eGClass [({ fName := [65], fParams := [], fSuper := [], fAbove := [], fFields := [], fMethods := [], fAt := 0 } : GClass)])))], dst := some 20, val := some (.pv (.agg (eGType y1))) } (fun m h => step_on (guard_no rfl) (op_call 3 rfl (caps := []) (args := [.vs 7 (List.map eGClass [({ fName := [65], fParams := [], fSuper := [], fAbove := [], fFields := [], fMethods := [], fAt := 0 } : GClass)]), .agg (eGView_adapt ({ fMode := 1, fObject := ({ fKind := 2, fClass := [65], fN := 0, fOwn := (⟨({ fKind := 1, fN := 0 } : GOwner), zGOwner, zGOwner, zGOwner⟩ : A4 GOwner) } : GType), fThis := false } : GView_adapt)), .str [65], .agg (eGType ({ fKind := 2, fClass := [66], fN := 0, fOwn := (⟨({ fKind := 2, fN := 0 } : GOwner), zGOwner, zGOwner, zGOwner⟩ : A4 GOwner) } : GType))]) (rs := [.p (.agg (eGType y1))]) rfl rfl (evl_cons h.1.2.2.1 (evl_cons h.1.2.1 (evl_cons rfl (evl_cons h.1.1 evl_nil)))) Try_cal_18 (adapt_See_ok h2) rfl rfl rfl) rfl) ⟨⟨rfl, rfl, rfl, trivial⟩, trivial, trivial⟩ ?_
  refine dr_cons { need := [(4, .lp 2 0)], hneed := [(2, .box 27 (bxv (eGType ({ fKind := 2, fClass := [66], fN := 0, fOwn := (⟨({ fKind := 1, fN := 0 } : GOwner), zGOwner, zGOwner, zGOwner⟩ : A4 GOwner) } : GType))))], dst := some 21, val := some (.pv (.agg (eGType ({ fKind := 2, fClass := [66], fN := 0, fOwn := (⟨({ fKind := 1, fN := 0 } : GOwner), zGOwner, zGOwner, zGOwner⟩ : A4 GOwner) } : GType)))) } (fun m h => step_on (guard_no rfl) (op_load_lp_agg (ps := eGType ({ fKind := 2, fClass := [66], fN := 0, fOwn := (⟨({ fKind := 1, fN := 0 } : GOwner), zGOwner, zGOwner, zGOwner⟩ : A4 GOwner) } : GType)) rfl h.1.1 h.2.1.1 rfl rfl rfl Try_agg_27 rfl rfl) rfl) ⟨⟨rfl, trivial⟩, ⟨rfl, trivial⟩, trivial⟩ ?_
  refine dr_cons { need := [(20, .pv (.agg (eGType y1))), (21, .pv (.agg (eGType ({ fKind := 2, fClass := [66], fN := 0, fOwn := (⟨({ fKind := 1, fN := 0 } : GOwner), zGOwner, zGOwner, zGOwner⟩ : A4 GOwner) } : GType))))], dst := some 22, val := some (.pv (.bool (bGType y1 ({ fKind := 2, fClass := [66], fN := 0, fOwn := (⟨({ fKind := 1, fN := 0 } : GOwner), zGOwner, zGOwner, zGOwner⟩ : A4 GOwner) } : GType)))) } (fun m h => step_on (guard_no rfl) (op_eqAgg_eql (r := bGType y1 ({ fKind := 2, fClass := [66], fN := 0, fOwn := (⟨({ fKind := 1, fN := 0 } : GOwner), zGOwner, zGOwner, zGOwner⟩ : A4 GOwner) } : GType)) rfl h.1.1 h.1.2.1 Try_eqt_27 rfl rfl rfl rfl rfl) rfl) ⟨⟨rfl, rfl, trivial⟩, trivial, trivial⟩ ?_
  refine drm ?_
  rcases ite_some hF with ⟨hb3, hF⟩ | ⟨hb3, hF⟩
  · refine dr_cons { need := [(23, .pv (.bool (bGType y1 ({ fKind := 2, fClass := [66], fN := 0, fOwn := (⟨({ fKind := 1, fN := 0 } : GOwner), zGOwner, zGOwner, zGOwner⟩ : A4 GOwner) } : GType)))), (1, .pv (.vs 7 (List.map eGClass [({ fName := [65], fParams := [], fSuper := [], fAbove := [], fFields := [], fMethods := [], fAt := 0 } : GClass)])))], dst := some 24, val := some (.pv (.vs 7 (List.map eGClass [({ fName := [65], fParams := [], fSuper := [], fAbove := [], fFields := [], fMethods := [], fAt := 0 } : GClass)]))) } (fun m h => step_on (guard_on rfl rfl rfl h.1.1 hb3) (op_move rfl h.1.2.1 rfl rfl) rfl) ⟨⟨rfl, rfl, trivial⟩, trivial, trivial⟩ ?_
    refine dr_cons { need := [(23, .pv (.bool (bGType y1 ({ fKind := 2, fClass := [66], fN := 0, fOwn := (⟨({ fKind := 1, fN := 0 } : GOwner), zGOwner, zGOwner, zGOwner⟩ : A4 GOwner) } : GType)))), (2, .lp 0 0)], hneed := [(0, .box 47 (bxv (eGView_adapt ({ fMode := 1, fObject := ({ fKind := 2, fClass := [65], fN := 0, fOwn := (⟨({ fKind := 1, fN := 0 } : GOwner), zGOwner, zGOwner, zGOwner⟩ : A4 GOwner) } : GType), fThis := false } : GView_adapt))))], dst := some 25, val := some (.pv (.agg (eGView_adapt ({ fMode := 1, fObject := ({ fKind := 2, fClass := [65], fN := 0, fOwn := (⟨({ fKind := 1, fN := 0 } : GOwner), zGOwner, zGOwner, zGOwner⟩ : A4 GOwner) } : GType), fThis := false } : GView_adapt)))) } (fun m h => step_on (guard_on rfl rfl rfl h.1.1 hb3) (op_load_lp_agg (ps := eGView_adapt ({ fMode := 1, fObject := ({ fKind := 2, fClass := [65], fN := 0, fOwn := (⟨({ fKind := 1, fN := 0 } : GOwner), zGOwner, zGOwner, zGOwner⟩ : A4 GOwner) } : GType), fThis := false } : GView_adapt)) rfl h.1.2.1 h.2.1.1 rfl rfl rfl Try_agg_47 rfl rfl) rfl) ⟨⟨rfl, rfl, trivial⟩, ⟨rfl, trivial⟩, trivial⟩ ?_
    refine dr_cons { need := [(23, .pv (.bool (bGType y1 ({ fKind := 2, fClass := [66], fN := 0, fOwn := (⟨({ fKind := 1, fN := 0 } : GOwner), zGOwner, zGOwner, zGOwner⟩ : A4 GOwner) } : GType)))), (4, .lp 2 0)], hneed := [(2, .box 27 (bxv (eGType ({ fKind := 2, fClass := [66], fN := 0, fOwn := (⟨({ fKind := 1, fN := 0 } : GOwner), zGOwner, zGOwner, zGOwner⟩ : A4 GOwner) } : GType))))], dst := some 26, val := some (.pv (.agg (eGType ({ fKind := 2, fClass := [66], fN := 0, fOwn := (⟨({ fKind := 1, fN := 0 } : GOwner), zGOwner, zGOwner, zGOwner⟩ : A4 GOwner) } : GType)))) } (fun m h => step_on (guard_on rfl rfl rfl h.1.1 hb3) (op_load_lp_agg (ps := eGType ({ fKind := 2, fClass := [66], fN := 0, fOwn := (⟨({ fKind := 1, fN := 0 } : GOwner), zGOwner, zGOwner, zGOwner⟩ : A4 GOwner) } : GType)) rfl h.1.2.1 h.2.1.1 rfl rfl rfl Try_agg_27 rfl rfl) rfl) ⟨⟨rfl, rfl, trivial⟩, ⟨rfl, trivial⟩, trivial⟩ ?_
    obtain ⟨y4, h5, hF⟩ := bind_some hF
    refine dr_cons { need := [(23, .pv (.bool (bGType y1 ({ fKind := 2, fClass := [66], fN := 0, fOwn := (⟨({ fKind := 1, fN := 0 } : GOwner), zGOwner, zGOwner, zGOwner⟩ : A4 GOwner) } : GType)))), (26, .pv (.agg (eGType ({ fKind := 2, fClass := [66], fN := 0, fOwn := (⟨({ fKind := 1, fN := 0 } : GOwner), zGOwner, zGOwner, zGOwner⟩ : A4 GOwner) } : GType)))), (25, .pv (.agg (eGView_adapt ({ fMode := 1, fObject := ({ fKind := 2, fClass := [65], fN := 0, fOwn := (⟨({ fKind := 1, fN := 0 } : GOwner), zGOwner, zGOwner, zGOwner⟩ : A4 GOwner) } : GType), fThis := false } : GView_adapt)))), (24, .pv (.vs 7 (List.map eGClass [({ fName := [65], fParams := [], fSuper := [], fAbove := [], fFields := [], fMethods := [], fAt := 0 } : GClass)])))], dst := some 27, val := some (.pv (.agg (eGType y4))) } (fun m h => step_on (guard_on rfl rfl rfl h.1.1 hb3) (op_call 3 rfl (caps := []) (args := [.vs 7 (List.map eGClass [({ fName := [65], fParams := [], fSuper := [], fAbove := [], fFields := [], fMethods := [], fAt := 0 } : GClass)]), .agg (eGView_adapt ({ fMode := 1, fObject := ({ fKind := 2, fClass := [65], fN := 0, fOwn := (⟨({ fKind := 1, fN := 0 } : GOwner), zGOwner, zGOwner, zGOwner⟩ : A4 GOwner) } : GType), fThis := false } : GView_adapt)), .str [65], .agg (eGType ({ fKind := 2, fClass := [66], fN := 0, fOwn := (⟨({ fKind := 1, fN := 0 } : GOwner), zGOwner, zGOwner, zGOwner⟩ : A4 GOwner) } : GType))]) (rs := [.p (.agg (eGType y4))]) rfl rfl (evl_cons h.1.2.2.2.1 (evl_cons h.1.2.2.1 (evl_cons rfl (evl_cons h.1.2.1 evl_nil)))) Try_cal_18 (adapt_See_ok h5) rfl rfl rfl) rfl) ⟨⟨rfl, rfl, rfl, rfl, trivial⟩, trivial, trivial⟩ ?_
    obtain ⟨y6, h7, hF⟩ := bind_some hF
    refine dr_cons { need := [(23, .pv (.bool (bGType y1 ({ fKind := 2, fClass := [66], fN := 0, fOwn := (⟨({ fKind := 1, fN := 0 } : GOwner), zGOwner, zGOwner, zGOwner⟩ : A4 GOwner) } : GType)))), (27, .pv (.agg (eGType y4)))], dst := some 28, val := some (.pv (.bool y6)) } (fun m h => step_on (guard_on rfl rfl rfl h.1.1 hb3) (op_call 3 rfl (caps := []) (args := [.agg (eGType y4)]) (rs := [.p (.bool y6)]) rfl rfl (evl_cons h.1.2.1 evl_nil) Try_cal_23 (adapt_Hidden_ok h7) rfl rfl rfl) rfl) ⟨⟨rfl, rfl, trivial⟩, trivial, trivial⟩ ?_
    refine dr_cons { need := [(23, .pv (.bool (bGType y1 ({ fKind := 2, fClass := [66], fN := 0, fOwn := (⟨({ fKind := 1, fN := 0 } : GOwner), zGOwner, zGOwner, zGOwner⟩ : A4 GOwner) } : GType)))), (28, .pv (.bool y6))], dst := some 29, val := some (.pv (.bool y6)) } (fun m h => step_on (guard_no rfl) (op_pick_t rfl h.1.1 hb3 h.1.2.1 rfl rfl) rfl) ⟨⟨rfl, rfl, trivial⟩, trivial, trivial⟩ ?_
    refine dr_cons { need := [(29, .pv (.bool y6))], dst := some 0, val := some (.pv (.bool y6)) } (fun m h => step_on (guard_no rfl) (op_assign rfl h.1.1 rfl rfl) rfl) ⟨⟨rfl, trivial⟩, trivial, trivial⟩ ?_
    refine dr_nil Try_mixed rfl (by kernel_rfl) ?_
    refine post_imp (s' := ⟨30, [(0, some (.pv (.bool y6)))], [], 0, [], [], 0, []⟩) (imps [] ⟨by kernel_rfl, trivial⟩ trivial) ?_
    refine post_next ?_
    refine aw_ret ?_
    obtain rfl := Option.some.inj hF
    exact post_ret rfl rfl (.cons _ _ _ _ _ (.tmp _ _ rfl) (.p _) .nil) (.inl rfl)
  iterate 5 (refine dro_f hb3 ?_)
  refine drpf hb3 ?_
  refine dr_cons { need := [(29, .pv (.bool false))], dst := some 0, val := some (.pv (.bool false)) } (fun m h => step_on (guard_no rfl) (op_assign rfl h.1.1 rfl rfl) rfl) ⟨⟨rfl, trivial⟩, trivial, trivial⟩ ?_
  refine dr_nil Try_mixed rfl (by kernel_rfl) ?_
  refine post_imp (s' := ⟨30, [(0, some (.pv (.bool false)))], [], 0, [], [], 0, []⟩) (imps [] ⟨by kernel_rfl, trivial⟩ trivial) ?_
  refine post_next ?_
  refine aw_ret ?_
  obtain rfl := Option.some.inj hF
  exact post_ret rfl rfl (.cons _ _ _ _ _ (.tmp _ _ rfl) (.p _) .nil) (.inl rfl)
theorem ref15_This_ok {a0 : GClass} {r : (List GOwner)} (hF : ref15_This a0 = some r) : Abs.Fn Try.prog 43 [.agg (eGClass a0)] [.own 24 2 (List.map eGOwner r)] := by
  unfold ref15_This at hF
  refine fn_of_body (n := 21) Try.func43 rfl rfl rfl ?_
  intro w O
  refine aw_seq ?_
  refine aw_region ?_
  refine reg_cons (guard_no rfl) (op_box 0 rfl rfl rfl rfl rfl rfl) ?_
  refine ras ?_
  refine reg_nil ?_
  refine post_imp (s' := ⟨21, [(1, some (.lp 0 0))], [(0, some (.box 43 (bxv (eGClass a0))))], 1, [], [], 0, []⟩) (imps [0] ⟨by kernel_rfl, trivial⟩ ⟨by kernel_rfl, trivial⟩) ?_
  refine post_next ?_
  refine aw_seq ?_
  refine aw_region ?_
  refine reg_cons (guard_no rfl) (op_build (zs := (eGOwner zGOwner)) (r := eGOwner ({ fKind := 2, fN := 0 } : GOwner)) rfl Try_zer_24 (by exact ⟨rfl, rfl, trivial⟩) Try_plc_24 rfl rfl rfl rfl) ?_
  refine reg_cons (guard_no rfl) (op_litOwn 1 rfl (rows := List.map eGOwner ([({ fKind := 2, fN := 0 } : GOwner)] : List GOwner)) (zs := (eGOwner zGOwner)) rfl rfl Try_slc_39 Try_zer_24 (by exact ⟨rfl, rfl, trivial⟩) rfl rfl rfl rfl rfl rfl rfl rfl) ?_
  refine ras ?_
  refine reg_nil ?_
  refine post_imp (s' := ⟨21, [(1, some (.lp 0 0)), (3, some (.ls 1))], [(0, some (.box 43 (bxv (eGClass a0)))), (1, some (.row 24 2 (List.map eGOwner [({ fKind := 2, fN := 0 } : GOwner)])))], 2, [], [], 0, []⟩) (imps [0, 1] ⟨by kernel_rfl, by kernel_rfl, trivial⟩ ⟨by kernel_rfl, by kernel_rfl, trivial⟩) ?_
  refine post_next ?_
  iterate 2 (refine aw_seq ?_)
  refine aw_region ?_
  refine ras ?_
  refine reg_nil ?_
  refine post_imp (s' := ⟨21, [(1, some (.lp 0 0)), (3, some (.ls 1)), (4, some (.pv (.int .i64 0)))], [(0, some (.box 43 (bxv (eGClass a0)))), (1, some (.row 24 2 (List.map eGOwner [({ fKind := 2, fN := 0 } : GOwner)])))], 2, [], [], 0, []⟩) (imps [0, 1] ⟨by kernel_rfl, by kernel_rfl, by kernel_rfl, trivial⟩ ⟨by kernel_rfl, by kernel_rfl, trivial⟩) ?_
  refine post_next ?_
  obtain ⟨x22, hF, hK23⟩ := bind_some hF
  refine aw_for ((((a0.fParams.length : Int) : Int) - (0)).toNat + 1) (fun s1 => s1 = ⟨21, [(3, some (.ls 0))], [(0, some (.row 24 2 (List.map eGOwner x22)))], 1, [], [], 0, []⟩) ?_ ?_
  · refine rnd_loop (α := (List GOwner) × Int) (fun q => ⟨21, [(1, some (.lp 0 0)), (3, some (.ls 1)), (4, some (.pv (.int .i64 q.2)))], [(0, some (.box 43 (bxv (eGClass a0)))), (1, some (.row 24 2 (List.map eGOwner q.1)))], 2, [], [], 0, []⟩) (fun k q => ref15_This_L1 a0 k q.1 q.2 = some x22) ([({ fKind := 2, fN := 0 } : GOwner)], 0) (imps [0, 1] ⟨by kernel_rfl, by kernel_rfl, by kernel_rfl, trivial⟩ ⟨by kernel_rfl, by kernel_rfl, trivial⟩) hF (fun q h => by cases h) ?_
    clear hF
    rintro k ⟨x6, x7⟩ hF ih
    refine rnd_succ ?_
    iterate 2 (refine aw_seq ?_)
    refine aw_region ?_
    refine rmv ?_
    refine reg_cons (guard_no rfl) (op_field_lp rfl rfl Try_fld_43_1 rfl rfl) ?_
    refine reg_cons (guard_no rfl) (op_load_lp (v := .pv (.vs 1 (List.map eS a0.fParams))) rfl rfl rfl rfl Try_one_38 rfl rfl) ?_
    refine reg_cons (guard_no rfl) (op_len_vs (n := a0.fParams.length) rfl rfl (List.length_map ..) Try_slc_38 rfl rfl) ?_
    refine reg_cons (guard_no rfl) (op_int (k := .i64) (m := x7) (n := (a0.fParams.length : Int)) rfl rfl rfl rfl rfl rfl) ?_
    refine reg_nil ?_
    refine post_imp (s' := ⟨21, [(1, some (.lp 0 0)), (3, some (.ls 1)), (4, some (.pv (.int .i64 x7))), (11, some (.pv (.bool (decide (x7 < (a0.fParams.length : Int))))))], [(0, some (.box 43 (bxv (eGClass a0)))), (1, some (.row 24 2 (List.map eGOwner x6)))], 2, [], [], 0, []⟩) (imps [0, 1] ⟨by kernel_rfl, by kernel_rfl, by kernel_rfl, by kernel_rfl, trivial⟩ ⟨by kernel_rfl, by kernel_rfl, trivial⟩) ?_
    refine post_next ?_
    rcases ite_some hF with ⟨hb15, hF⟩ | ⟨hb15, hF⟩
    · refine aw_cond_t rfl hb15 ?_
      refine aw_skip ?_
      refine post_next ?_
      refine aw_seq ?_
      refine aw_block ?_
      refine aw_region ?_
      iterate 2 (refine rmv ?_)
      refine reg_cons (guard_no rfl) (op_int (k := .i64) (m := x7) (n := 1) rfl rfl rfl rfl rfl rfl) ?_
      refine reg_cons (guard_no rfl) (op_build (zs := (eGOwner zGOwner)) (r := eGOwner ({ fKind := 3, fN := w_i64 (x7 + 1) } : GOwner)) rfl Try_zer_24 (by exact ⟨rfl, rfl, trivial⟩) Try_plc_24 rfl rfl rfl rfl) ?_
      refine reg_cons (guard_no rfl) (op_lit (rows := List.map eGOwner ([({ fKind := 3, fN := w_i64 (x7 + 1) } : GOwner)] : List GOwner)) (zs := (eGOwner zGOwner)) rfl rfl Try_slc_39 Try_zer_24 (by exact ⟨rfl, rfl, trivial⟩) rfl rfl rfl rfl rfl rfl rfl rfl) ?_
      obtain ⟨u18, h19, hF⟩ := bind_some hF
      refine reg_cons (guard_no rfl) (op_append 2 rfl rfl rfl rfl rfl Try_slc_39 Try_elm_24 Try_zer_24 rfl rfl rfl (room_map (f := eGOwner) (g := eGOwner) h19) (List.map_append (f := eGOwner) (l₁ := x6) (l₂ := [({ fKind := 3, fN := w_i64 (x7 + 1) } : GOwner)])).symm rfl rfl) ?_
      refine ras ?_
      refine reg_nil ?_
      refine post_imp (s' := ⟨21, [(1, some (.lp 0 0)), (3, some (.ls 1)), (4, some (.pv (.int .i64 x7)))], [(0, some (.box 43 (bxv (eGClass a0)))), (1, some (.row 24 2 (List.map eGOwner (x6 ++ [({ fKind := 3, fN := w_i64 (x7 + 1) } : GOwner)]))))], 2, [], [], 0, []⟩) (imps [0, 2] ⟨by kernel_rfl, by kernel_rfl, by kernel_rfl, trivial⟩ ⟨by kernel_rfl, by kernel_rfl, trivial⟩) ?_
      refine post_block_normal ?_
      refine post_next ?_
      refine aw_region ?_
      refine rmv ?_
      refine reg_cons (guard_no rfl) (op_int (k := .i64) (m := x7) (n := 1) rfl rfl rfl rfl rfl rfl) ?_
      refine ras ?_
      refine reg_nil ?_
      refine post_round ?_
      exact rnd_back (ih ((x6 ++ [({ fKind := 3, fN := w_i64 (x7 + 1) } : GOwner)]), w_i64 (x7 + 1)) hF) (imps [0, 1] ⟨by kernel_rfl, by kernel_rfl, by kernel_rfl, trivial⟩ ⟨by kernel_rfl, by kernel_rfl, trivial⟩)
    refine aw_cond_f rfl hb15 ?_
    refine aw_exit ?_
    iterate 2 (refine post_then_exit ?_)
    obtain rfl := Option.some.inj hF
    exact post_lp_break _ rfl (imps [1] ⟨by kernel_rfl, trivial⟩ ⟨by kernel_rfl, trivial⟩)
  rintro _ rfl
  have hF := hK23
  clear hK23
  refine post_next ?_
  refine aw_seq ?_
  refine aw_region ?_
  refine rmv ?_
  refine ras ?_
  refine reg_nil ?_
  refine post_imp (s' := ⟨21, [(2, some (.ls 0))], [(0, some (.row 24 2 (List.map eGOwner x22)))], 1, [], [], 0, []⟩) (imps [0] ⟨by kernel_rfl, trivial⟩ ⟨by kernel_rfl, trivial⟩) ?_
  refine post_next ?_
  refine aw_ret ?_
  obtain rfl := Option.some.inj hF
  exact post_ret rfl rfl (.cons _ _ _ _ _ (.tmp _ _ rfl) (.own _ _ _ _ rfl nolent3) .nil) (.inl rfl)
theorem ref18_This_ok {a0 : GClass} {r : GType} (hF : ref18_This a0 = some r) : Abs.Fn Try.prog 17 [.agg (eGClass a0)] [.p (.agg (eGType r))] := by
  unfold ref18_This at hF
  refine fn_of_body (n := 29) Try.func17 rfl rfl rfl ?_
  intro w O
  refine aw_seq ?_
  refine aw_region ?_
  refine reg_cons (guard_no rfl) (op_box 0 rfl rfl rfl rfl rfl rfl) ?_
  refine reg_cons (guard_no rfl) (op_alloc 1 rfl (ps := (eGType zGType)) rfl Try_zer_27 (by exact ⟨rfl, rfl, rfl, rfl, rfl, rfl, rfl, rfl, rfl, rfl, rfl, trivial⟩) rfl rfl) ?_
  refine reg_nil ?_
  refine post_imp (s' := ⟨29, [(1, some (.lp 0 0)), (2, some (.lp 1 0))], [(0, some (.box 43 (bxv (eGClass a0)))), (1, some (.box 27 (bxv (eGType zGType))))], 2, [], [], 0, []⟩) (imps [0, 1] ⟨by kernel_rfl, by kernel_rfl, trivial⟩ ⟨by kernel_rfl, by kernel_rfl, trivial⟩) ?_
  refine post_next ?_
  refine aw_seq ?_
  refine aw_region ?_
  refine reg_cons (guard_no rfl) (op_field_lp rfl rfl Try_fld_43_0 rfl rfl) ?_
  refine reg_cons (guard_no rfl) (op_load_lp (v := .pv (.str a0.fName)) rfl rfl rfl rfl Try_one_9 rfl rfl) ?_
  refine reg_cons (guard_no rfl) (op_field_lp rfl rfl Try_fld_43_1 rfl rfl) ?_
  refine reg_cons (guard_no rfl) (op_load_lp (v := .pv (.vs 1 (List.map eS a0.fParams))) rfl rfl rfl rfl Try_one_38 rfl rfl) ?_
  refine reg_cons (guard_no rfl) (op_len_vs (n := a0.fParams.length) rfl rfl (List.length_map ..) Try_slc_38 rfl rfl) ?_
  refine reg_cons (guard_no rfl) (op_min2 rfl rfl rfl rfl rfl) ?_
  refine reg_cons (guard_no rfl) (op_build (zs := (eGType zGType)) (r := eGType ({ fKind := 2, fClass := a0.fName, fN := (if (a0.fParams.length : Int) < 3 then (a0.fParams.length : Int) else 3), fOwn := (⟨zGOwner, zGOwner, zGOwner, zGOwner⟩ : A4 GOwner) } : GType)) rfl Try_zer_27 (by exact ⟨rfl, rfl, rfl, rfl, rfl, rfl, rfl, rfl, rfl, rfl, rfl, trivial⟩) Try_plc_27 rfl rfl rfl rfl) ?_
  refine reg_cons (guard_no rfl) (op_alloc 2 rfl (ps := (eGType zGType)) rfl Try_zer_27 (by exact ⟨rfl, rfl, rfl, rfl, rfl, rfl, rfl, rfl, rfl, rfl, rfl, trivial⟩) rfl rfl) ?_
  refine reg_cons (guard_no rfl) (op_store_lp (n := 11) rfl rfl rfl rfl rfl (or_agg Try_agg_27) (by rw [Try_non_27]; rfl) rfl rfl rfl) ?_
  refine reg_nil ?_
  refine post_imp (s' := ⟨29, [(1, some (.lp 0 0)), (2, some (.lp 1 0)), (3, some (.lp 2 0))], [(0, some (.box 43 (bxv (eGClass a0)))), (1, some (.box 27 (bxv (eGType zGType)))), (2, some (.box 27 (bxv (eGType ({ fKind := 2, fClass := a0.fName, fN := (if (a0.fParams.length : Int) < 3 then (a0.fParams.length : Int) else 3), fOwn := (⟨zGOwner, zGOwner, zGOwner, zGOwner⟩ : A4 GOwner) } : GType)))))], 3, [], [], 0, []⟩) (imps [0, 1, 2] ⟨by kernel_rfl, by kernel_rfl, by kernel_rfl, trivial⟩ ⟨by kernel_rfl, by kernel_rfl, by kernel_rfl, trivial⟩) ?_
  refine post_next ?_
  refine aw_seq ?_
  refine aw_region ?_
  refine reg_cons (guard_no rfl) (op_load_lp_agg (ps := eGClass a0) rfl rfl rfl rfl rfl rfl Try_agg_43 rfl rfl) ?_
  obtain ⟨y3, h4, hF⟩ := bind_some hF
  refine reg_cons (guard_no rfl) (op_call 3 rfl (caps := []) (args := [.agg (eGClass a0)]) (rs := [.p (.vs 2 (List.map eGOwner y3))]) rfl rfl rfl Try_cal_43 (Fn.frozen (ref15_This_ok h4)) rfl rfl rfl) ?_
  refine ras ?_
  refine reg_nil ?_
  refine post_imp (s' := ⟨29, [(2, some (.lp 0 0)), (3, some (.lp 1 0)), (4, some (.pv (.vs 2 (List.map eGOwner y3))))], [(0, some (.box 27 (bxv (eGType zGType)))), (1, some (.box 27 (bxv (eGType ({ fKind := 2, fClass := a0.fName, fN := (if (a0.fParams.length : Int) < 3 then (a0.fParams.length : Int) else 3), fOwn := (⟨zGOwner, zGOwner, zGOwner, zGOwner⟩ : A4 GOwner) } : GType)))))], 2, [], [], 0, []⟩) (imps [1, 2] ⟨by kernel_rfl, by kernel_rfl, by kernel_rfl, trivial⟩ ⟨by kernel_rfl, by kernel_rfl, trivial⟩) ?_
  refine post_next ?_
  iterate 2 (refine aw_seq ?_)
  refine aw_region ?_
  refine ras ?_
  refine reg_nil ?_
  refine post_imp (s' := ⟨29, [(2, some (.lp 0 0)), (3, some (.lp 1 0)), (4, some (.pv (.vs 2 (List.map eGOwner y3)))), (5, some (.pv (.int .i64 0)))], [(0, some (.box 27 (bxv (eGType zGType)))), (1, some (.box 27 (bxv (eGType ({ fKind := 2, fClass := a0.fName, fN := (if (a0.fParams.length : Int) < 3 then (a0.fParams.length : Int) else 3), fOwn := (⟨zGOwner, zGOwner, zGOwner, zGOwner⟩ : A4 GOwner) } : GType)))))], 2, [], [], 0, []⟩) (imps [0, 1] ⟨by kernel_rfl, by kernel_rfl, by kernel_rfl, by kernel_rfl, trivial⟩ ⟨by kernel_rfl, by kernel_rfl, trivial⟩) ?_
  refine post_next ?_
  obtain ⟨x34, hF, hK35⟩ := bind_some hF
  refine aw_for 5 (fun s1 => s1 = ⟨29, [(2, some (.lp 0 0)), (3, some (.lp 1 0))], [(0, some (.box 27 (bxv (eGType zGType)))), (1, some (.box 27 (bxv (eGType x34))))], 2, [], [], 0, []⟩) ?_ ?_
  · refine rnd_loop (α := GType × Int) (fun q => ⟨29, [(2, some (.lp 0 0)), (3, some (.lp 1 0)), (4, some (.pv (.vs 2 (List.map eGOwner y3)))), (5, some (.pv (.int .i64 q.2)))], [(0, some (.box 27 (bxv (eGType zGType)))), (1, some (.box 27 (bxv (eGType q.1))))], 2, [], [], 0, []⟩) (fun k q => ref18_This_L1 y3 k q.1 q.2 = some x34) (({ fKind := 2, fClass := a0.fName, fN := (if (a0.fParams.length : Int) < 3 then (a0.fParams.length : Int) else 3), fOwn := (⟨zGOwner, zGOwner, zGOwner, zGOwner⟩ : A4 GOwner) } : GType), 0) (imps [0, 1] ⟨by kernel_rfl, by kernel_rfl, by kernel_rfl, by kernel_rfl, trivial⟩ ⟨by kernel_rfl, by kernel_rfl, trivial⟩) hF (fun q h => by cases h) ?_
    clear hF
    rintro k ⟨x10, x11⟩ hF ih
    refine rnd_succ ?_
    iterate 2 (refine aw_seq ?_)
    refine aw_region ?_
    refine rmv ?_
    refine reg_cons (guard_no rfl) (op_field_lp rfl rfl Try_fld_27_2 rfl rfl) ?_
    refine reg_cons (guard_no rfl) (op_load_lp (v := .pv (.int .i64 x10.fN)) rfl rfl rfl rfl Try_one_3 rfl rfl) ?_
    refine reg_cons (guard_no rfl) (op_int (k := .i64) (m := x11) (n := x10.fN) rfl rfl rfl rfl rfl rfl) ?_
    refine reg_nil ?_
    refine post_imp (s' := ⟨29, [(2, some (.lp 0 0)), (3, some (.lp 1 0)), (4, some (.pv (.vs 2 (List.map eGOwner y3)))), (5, some (.pv (.int .i64 x11))), (18, some (.pv (.bool (decide (x11 ≤ x10.fN)))))], [(0, some (.box 27 (bxv (eGType zGType)))), (1, some (.box 27 (bxv (eGType x10))))], 2, [], [], 0, []⟩) (imps [0, 1] ⟨by kernel_rfl, by kernel_rfl, by kernel_rfl, by kernel_rfl, by kernel_rfl, trivial⟩ ⟨by kernel_rfl, by kernel_rfl, trivial⟩) ?_
    refine post_next ?_
    rcases ite_some hF with ⟨hb23, hF⟩ | ⟨hb23, hF⟩
    · refine aw_cond_t rfl hb23 ?_
      refine aw_skip ?_
      refine post_next ?_
      refine aw_seq ?_
      refine aw_block ?_
      refine aw_region ?_
      iterate 3 (refine rmv ?_)
      obtain ⟨y28, h29, hF⟩ := bind_some hF
      refine reg_cons (guard_no rfl) (op_index_vs (k := .i64) rfl rfl rfl (idx_map eGOwner h29) Try_slc_39 rfl rfl) ?_
      refine reg_cons (guard_no rfl) (op_load_vp_agg (ps := eGOwner y28) rfl rfl rfl rfl Try_agg_24 rfl rfl) ?_
      refine reg_cons (guard_no rfl) (op_field_lp rfl rfl Try_fld_27_3 rfl rfl) ?_
      obtain ⟨y30, h31, hF⟩ := bind_some hF
      refine reg_cons (guard_no rfl) (op_arr_lpN (l := (x10.fOwn).l) rfl rfl rfl Try_arr_25 rfl h31 rfl rfl) ?_
      refine reg_cons (guard_no rfl) (op_store_lpV (cells' := bxv (eGType ({ x10 with fOwn := (A4.set x10.fOwn (x11 : Int).toNat y28) } : GType))) (n := 2) rfl rfl rfl rfl rfl (or_agg Try_agg_24) (by rw [Try_non_24]; rfl) (by rcases idx_l4 h31 with e | e | e | e <;> rw [e] <;> exact Nat.le_of_ble_eq_true rfl) (by rcases idx_l4 h31 with e | e | e | e <;> rw [e] <;> rfl) rfl rfl) ?_
      refine reg_nil ?_
      refine post_imp (s' := ⟨29, [(2, some (.lp 0 0)), (3, some (.lp 1 0)), (4, some (.pv (.vs 2 (List.map eGOwner y3)))), (5, some (.pv (.int .i64 x11)))], [(0, some (.box 27 (bxv (eGType zGType)))), (1, some (.box 27 (bxv (eGType ({ x10 with fOwn := (A4.set x10.fOwn (x11 : Int).toNat y28) } : GType)))))], 2, [], [], 0, []⟩) (imps [0, 1] ⟨by kernel_rfl, by kernel_rfl, by kernel_rfl, by kernel_rfl, trivial⟩ ⟨by kernel_rfl, by kernel_rfl, trivial⟩) ?_
      refine post_block_normal ?_
      refine post_next ?_
      refine aw_region ?_
      refine rmv ?_
      refine reg_cons (guard_no rfl) (op_int (k := .i64) (m := x11) (n := 1) rfl rfl rfl rfl rfl rfl) ?_
      refine ras ?_
      refine reg_nil ?_
      refine post_round ?_
      exact rnd_back (ih (({ x10 with fOwn := (A4.set x10.fOwn (x11 : Int).toNat y28) } : GType), w_i64 (x11 + 1)) hF) (imps [0, 1] ⟨by kernel_rfl, by kernel_rfl, by kernel_rfl, by kernel_rfl, trivial⟩ ⟨by kernel_rfl, by kernel_rfl, trivial⟩)
    refine aw_cond_f rfl hb23 ?_
    refine aw_exit ?_
    iterate 2 (refine post_then_exit ?_)
    obtain rfl := Option.some.inj hF
    exact post_lp_break _ rfl (imps [0, 1] ⟨by kernel_rfl, by kernel_rfl, trivial⟩ ⟨by kernel_rfl, by kernel_rfl, trivial⟩)
  rintro _ rfl
  have hF := hK35
  clear hK35
  refine post_next ?_
  refine aw_seq ?_
  refine aw_region ?_
  refine reg_cons (guard_no rfl) (op_load_lp_agg (ps := eGType x34) rfl rfl rfl rfl rfl rfl Try_agg_27 rfl rfl) ?_
  refine reg_cons (guard_no rfl) (op_store_lp (n := 11) rfl rfl rfl rfl rfl (or_agg Try_agg_27) (by rw [Try_non_27]; rfl) rfl rfl rfl) ?_
  refine reg_nil ?_
  refine post_imp (s' := ⟨29, [(2, some (.lp 0 0))], [(0, some (.box 27 (bxv (eGType x34))))], 1, [], [], 0, []⟩) (imps [0] ⟨by kernel_rfl, trivial⟩ ⟨by kernel_rfl, trivial⟩) ?_
  refine post_next ?_
  refine aw_ret ?_
  obtain rfl := Option.some.inj hF
  exact post_ret rfl rfl (.cons _ _ _ _ _ (.agg _ _ _ _ _ 11 _ _ rfl rfl Try_agg_27 rfl rfl rfl) (.p _) .nil) (.inl rfl)
theorem adapt_Read_ok {a0 : List GClass} {a1 : GView_adapt} {a2 : List UInt8} {a3 : GType} {r : GType} (hF : adapt_Read a0 a1 a2 a3 = some r) : Abs.Fn Try.prog 19 [.vs 7 (List.map eGClass a0), .agg (eGView_adapt a1), .str a2, .agg (eGType a3)] [.p (.agg (eGType r))] := by
  unfold adapt_Read at hF
  refine fn_of_body (n := 39) Try.func19 rfl rfl rfl ?_
  intro w O
  refine aw_seq ?_
  refine aw_region ?_
  refine reg_cons (guard_no rfl) (op_box 0 rfl rfl rfl rfl rfl rfl) ?_
  refine reg_cons (guard_no rfl) (op_box 1 rfl rfl rfl rfl rfl rfl) ?_
  refine reg_cons (guard_no rfl) (op_alloc 2 rfl (ps := (eGType zGType)) rfl Try_zer_27 (by exact ⟨rfl, rfl, rfl, rfl, rfl, rfl, rfl, rfl, rfl, rfl, rfl, trivial⟩) rfl rfl) ?_
  refine reg_nil ?_
  refine post_imp (s' := ⟨39, [(0, some (.pv (.vs 7 (List.map eGClass a0)))), (2, some (.pv (.str a2))), (5, some (.lp 0 0)), (7, some (.lp 1 0)), (8, some (.lp 2 0))], [(0, some (.box 47 (bxv (eGView_adapt a1)))), (1, some (.box 27 (bxv (eGType a3)))), (2, some (.box 27 (bxv (eGType zGType))))], 3, [], [], 0, []⟩) (imps [0, 1, 2] ⟨by kernel_rfl, by kernel_rfl, by kernel_rfl, by kernel_rfl, by kernel_rfl, trivial⟩ ⟨by kernel_rfl, by kernel_rfl, by kernel_rfl, trivial⟩) ?_
  refine post_next ?_
  refine aw_seq ?_
  refine aw_region ?_
  refine rmv ?_
  refine reg_cons (guard_no rfl) (op_load_lp_agg (ps := eGView_adapt a1) rfl rfl rfl rfl rfl rfl Try_agg_47 rfl rfl) ?_
  refine rmv ?_
  refine reg_cons (guard_no rfl) (op_load_lp_agg (ps := eGType a3) rfl rfl rfl rfl rfl rfl Try_agg_27 rfl rfl) ?_
  obtain ⟨y3, h4, hF⟩ := bind_some hF
  refine reg_cons (guard_no rfl) (op_call 3 rfl (caps := []) (args := [.vs 7 (List.map eGClass a0), .agg (eGView_adapt a1), .str a2, .agg (eGType a3)]) (rs := [.p (.agg (eGType y3))]) rfl rfl rfl Try_cal_18 (adapt_See_ok h4) rfl rfl rfl) ?_
  refine reg_cons (guard_no rfl) (op_store_lp (n := 11) rfl rfl rfl rfl rfl (or_agg Try_agg_27) (by rw [Try_non_27]; rfl) rfl rfl rfl) ?_
  refine reg_nil ?_
  refine post_imp (s' := ⟨39, [(5, some (.lp 0 0)), (7, some (.lp 1 0)), (8, some (.lp 2 0))], [(0, some (.box 47 (bxv (eGView_adapt a1)))), (1, some (.box 27 (bxv (eGType y3)))), (2, some (.box 27 (bxv (eGType zGType))))], 3, [], [], 0, []⟩) (imps [0, 1, 2] ⟨by kernel_rfl, by kernel_rfl, by kernel_rfl, trivial⟩ ⟨by kernel_rfl, by kernel_rfl, by kernel_rfl, trivial⟩) ?_
  refine post_next ?_
  iterate 2 (refine aw_seq ?_)
  obtain ⟨x10, hF, hK12⟩ := bind_some hF
  refine aw_cut (fun s1 => s1 = ⟨39, [(7, some (.lp 0 0)), (8, some (.lp 1 0)), (34, some (.pv (.bool x10)))], [(0, some (.box 27 (bxv (eGType y3)))), (1, some (.box 27 (bxv (eGType zGType))))], 2, [], [], 0, []⟩) ?_ ?_
  · refine aw_region ?_
    refine reg_cons (guard_no rfl) (op_field_lp rfl rfl Try_fld_27_0 rfl rfl) ?_
    refine reg_cons (guard_no rfl) (op_load_lp (v := .pv (.int .i64 y3.fKind)) rfl rfl rfl rfl Try_one_3 rfl rfl) ?_
    refine reg_cons (guard_no rfl) (op_int (k := .i64) (m := y3.fKind) (n := 2) rfl rfl rfl rfl rfl rfl) ?_
    refine rmv ?_
    rcases ite_some hF with ⟨hb5, hF⟩ | ⟨hb5, hF⟩
    · refine reg_cons (guard_on rfl rfl rfl rfl hb5) (op_field_lp rfl rfl Try_fld_47_0 rfl rfl) ?_
      refine reg_cons (guard_on rfl rfl rfl rfl hb5) (op_load_lp (v := .pv (.int .i64 a1.fMode)) rfl rfl rfl rfl Try_one_3 rfl rfl) ?_
      refine reg_cons (guard_on rfl rfl rfl rfl hb5) (op_int (k := .i64) (m := a1.fMode) (n := 2) rfl rfl rfl rfl rfl rfl) ?_
      refine rpt hb5 ?_
      refine rmv ?_
      rcases ite_some hF with ⟨hb6, hF⟩ | ⟨hb6, hF⟩
      · refine reg_cons (guard_on rfl rfl rfl rfl hb6) (op_field_lp rfl rfl Try_fld_47_1 rfl rfl) ?_
        refine reg_cons (guard_on rfl rfl rfl rfl hb6) (op_load_lp_agg (ps := eGType a1.fObject) rfl rfl rfl rfl rfl rfl Try_agg_27 rfl rfl) ?_
        obtain ⟨y7, h8, hF⟩ := bind_some hF
        refine reg_cons (guard_on rfl rfl rfl rfl hb6) (op_call 3 rfl (caps := []) (args := [.agg (eGType a1.fObject)]) (rs := [.p (.bool y7)]) rfl rfl rfl Try_cal_46 (kind_Unique_ok h8) rfl rfl rfl) ?_
        refine reg_cons (guard_on rfl rfl rfl rfl hb6) (op_not rfl rfl rfl rfl) ?_
        refine rpt hb6 ?_
        refine rmv ?_
        rcases ite_some hF with ⟨hb9, hF⟩ | ⟨hb9, hF⟩
        · refine reg_cons (guard_on rfl rfl rfl rfl hb9) (op_field_lp rfl rfl Try_fld_27_3 rfl rfl) ?_
          refine reg_cons (guard_on rfl rfl rfl rfl hb9) (op_arr_lp (k := .i64) (m := 0) (n := 4) rfl rfl rfl Try_arr_25 rfl rfl rfl rfl) ?_
          refine reg_cons (guard_on rfl rfl rfl rfl hb9) (op_field_lp rfl rfl Try_fld_24_0 rfl rfl) ?_
          refine reg_cons (guard_on rfl rfl rfl rfl hb9) (op_load_lp (v := .pv (.int .i64 y3.fOwn.a0.fKind)) rfl rfl rfl rfl Try_one_3 rfl rfl) ?_
          refine reg_cons (guard_on rfl rfl rfl rfl hb9) (op_int (k := .i64) (m := y3.fOwn.a0.fKind) (n := 8) rfl rfl rfl rfl rfl rfl) ?_
          refine rpt hb9 ?_
          refine reg_nil ?_
          cases hF
          exact post_cut _ rfl (imps [1, 2] ⟨by kernel_rfl, by kernel_rfl, by kernel_rfl, trivial⟩ ⟨by kernel_rfl, by kernel_rfl, trivial⟩)
        iterate 5 (refine rgo_f hb9 ?_)
        refine rpf hb9 ?_
        refine reg_nil ?_
        cases hF
        exact post_cut _ rfl (imps [1, 2] ⟨by kernel_rfl, by kernel_rfl, by kernel_rfl, trivial⟩ ⟨by kernel_rfl, by kernel_rfl, trivial⟩)
      iterate 4 (refine rgo_f hb6 ?_)
      refine rpf hb6 ?_
      refine rmv ?_
      iterate 5 (refine rgo_f rfl ?_)
      refine rpf rfl ?_
      refine reg_nil ?_
      cases hF
      exact post_cut _ rfl (imps [1, 2] ⟨by kernel_rfl, by kernel_rfl, by kernel_rfl, trivial⟩ ⟨by kernel_rfl, by kernel_rfl, trivial⟩)
    iterate 3 (refine rgo_f hb5 ?_)
    refine rpf hb5 ?_
    refine rmv ?_
    iterate 4 (refine rgo_f rfl ?_)
    refine rpf rfl ?_
    refine rmv ?_
    iterate 5 (refine rgo_f rfl ?_)
    refine rpf rfl ?_
    refine reg_nil ?_
    cases hF
    exact post_cut _ rfl (imps [1, 2] ⟨by kernel_rfl, by kernel_rfl, by kernel_rfl, trivial⟩ ⟨by kernel_rfl, by kernel_rfl, trivial⟩)
  rintro _ rfl
  have hF := hK12
  clear hK12
  refine post_next ?_
  rcases ite_some hF with ⟨hb13, hF⟩ | ⟨hb13, hF⟩
  · refine aw_cond_t rfl hb13 ?_
    refine aw_region ?_
    refine reg_cons (guard_no rfl) (op_build (zs := (eGOwner zGOwner)) (r := eGOwner ({ fKind := 5, fN := 0 } : GOwner)) rfl Try_zer_24 (by exact ⟨rfl, rfl, trivial⟩) Try_plc_24 rfl rfl rfl rfl) ?_
    refine reg_cons (guard_no rfl) (op_field_lp rfl rfl Try_fld_27_3 rfl rfl) ?_
    refine reg_cons (guard_no rfl) (op_arr_lp (k := .i64) (m := 0) (n := 4) rfl rfl rfl Try_arr_25 rfl rfl rfl rfl) ?_
    refine reg_cons (guard_no rfl) (op_store_lp (n := 2) rfl rfl rfl rfl rfl (or_agg Try_agg_24) (by rw [Try_non_24]; rfl) rfl rfl rfl) ?_
    refine reg_nil ?_
    refine post_imp (s' := ⟨39, [(7, some (.lp 0 0)), (8, some (.lp 1 0))], [(0, some (.box 27 (bxv (eGType ({ y3 with fOwn := ({ y3.fOwn with a0 := ({ fKind := 5, fN := 0 } : GOwner) } : A4 GOwner) } : GType))))), (1, some (.box 27 (bxv (eGType zGType))))], 2, [], [], 0, []⟩) (imps [0, 1] ⟨by kernel_rfl, by kernel_rfl, trivial⟩ ⟨by kernel_rfl, by kernel_rfl, trivial⟩) ?_
    refine post_next ?_
    refine aw_seq ?_
    refine aw_region ?_
    refine reg_cons (guard_no rfl) (op_load_lp_agg (ps := eGType ({ y3 with fOwn := ({ y3.fOwn with a0 := ({ fKind := 5, fN := 0 } : GOwner) } : A4 GOwner) } : GType)) rfl rfl rfl rfl rfl rfl Try_agg_27 rfl rfl) ?_
    refine reg_cons (guard_no rfl) (op_store_lp (n := 11) rfl rfl rfl rfl rfl (or_agg Try_agg_27) (by rw [Try_non_27]; rfl) rfl rfl rfl) ?_
    refine reg_nil ?_
    refine post_imp (s' := ⟨39, [(8, some (.lp 0 0))], [(0, some (.box 27 (bxv (eGType ({ y3 with fOwn := ({ y3.fOwn with a0 := ({ fKind := 5, fN := 0 } : GOwner) } : A4 GOwner) } : GType)))))], 1, [], [], 0, []⟩) (imps [1] ⟨by kernel_rfl, trivial⟩ ⟨by kernel_rfl, trivial⟩) ?_
    refine post_next ?_
    refine aw_ret ?_
    obtain rfl := Option.some.inj hF
    exact post_ret rfl rfl (.cons _ _ _ _ _ (.agg _ _ _ _ _ 11 _ _ rfl rfl Try_agg_27 rfl rfl rfl) (.p _) .nil) (.inl rfl)
  refine aw_cond_f rfl hb13 ?_
  refine aw_skip ?_
  refine post_next ?_
  refine aw_seq ?_
  refine aw_region ?_
  refine reg_cons (guard_no rfl) (op_load_lp_agg (ps := eGType y3) rfl rfl rfl rfl rfl rfl Try_agg_27 rfl rfl) ?_
  refine reg_cons (guard_no rfl) (op_store_lp (n := 11) rfl rfl rfl rfl rfl (or_agg Try_agg_27) (by rw [Try_non_27]; rfl) rfl rfl rfl) ?_
  refine reg_nil ?_
  refine post_imp (s' := ⟨39, [(8, some (.lp 0 0))], [(0, some (.box 27 (bxv (eGType y3))))], 1, [], [], 0, []⟩) (imps [1] ⟨by kernel_rfl, trivial⟩ ⟨by kernel_rfl, trivial⟩) ?_
  refine post_next ?_
  refine aw_ret ?_
  obtain rfl := Option.some.inj hF
  exact post_ret rfl rfl (.cons _ _ _ _ _ (.agg _ _ _ _ _ 11 _ _ rfl rfl Try_agg_27 rfl rfl rfl) (.p _) .nil) (.inl rfl)
theorem law26_AdaptThis_ok {a0 : List GClass} {a1 : List UInt8} {a2 : GType} {r : Bool} (hF : law26_AdaptThis a0 a1 a2 = some r) : Abs.Fn Try.prog 4 [.vs 7 (List.map eGClass a0), .str a1, .agg (eGType a2)] [.p (.bool r)] := by
  unfold law26_AdaptThis at hF
  refine fn_of_body (n := 68) Try.func4 rfl rfl rfl ?_
  intro w O
  refine aw_seq ?_
  refine aw_region ?_
  refine reg_cons (guard_no rfl) (op_box 0 rfl rfl rfl rfl rfl rfl) ?_
  refine ras ?_
  refine reg_nil ?_
  refine post_imp (s' := ⟨68, [(0, some (.pv (.vs 7 (List.map eGClass a0)))), (1, some (.pv (.str a1))), (5, some (.lp 0 0))], [(0, some (.box 27 (bxv (eGType a2))))], 1, [], [], 0, []⟩) (imps [0] ⟨by kernel_rfl, by kernel_rfl, by kernel_rfl, trivial⟩ ⟨by kernel_rfl, trivial⟩) ?_
  refine post_next ?_
  refine aw_seq ?_
  refine aw_region ?_
  iterate 2 (refine rmv ?_)
  obtain ⟨y3, h4, hF⟩ := bind_some hF
  refine reg_cons (guard_no rfl) (op_call 1 rfl (caps := []) (args := [.vs 7 (List.map eGClass a0), .str a1]) (rs := [.p (.int .i64 y3)]) rfl rfl rfl Try_cal_13 (ref13_Find_ok h4) rfl rfl rfl) ?_
  refine ras ?_
  refine reg_nil ?_
  refine post_imp (s' := ⟨68, [(0, some (.pv (.vs 7 (List.map eGClass a0)))), (1, some (.pv (.str a1))), (5, some (.lp 0 0)), (7, some (.pv (.int .i64 y3)))], [(0, some (.box 27 (bxv (eGType a2))))], 1, [], [], 0, []⟩) (imps [0] ⟨by kernel_rfl, by kernel_rfl, by kernel_rfl, by kernel_rfl, trivial⟩ ⟨by kernel_rfl, trivial⟩) ?_
  refine post_next ?_
  iterate 2 (refine aw_seq ?_)
  obtain ⟨x18, hF, hK20⟩ := bind_some hF
  refine aw_cut (fun s1 => s1 = ⟨68, [(0, some (.pv (.vs 7 (List.map eGClass a0)))), (1, some (.pv (.str a1))), (5, some (.lp 0 0)), (7, some (.pv (.int .i64 y3))), (38, some (.pv (.bool x18)))], [(0, some (.box 27 (bxv (eGType a2))))], 1, [], [], 0, []⟩) ?_ ?_
  · refine dr_start ⟨_, _, _⟩ rfl ?_
    refine drm ?_
    obtain ⟨y7, h8, hF⟩ := bind_some hF
    refine dr_cons { need := [(13, .pv (.vs 7 (List.map eGClass a0)))], dst := some 14, val := some (.pv (.bool y7)) } (fun m h => step_on (guard_no rfl) (op_call 1 rfl (caps := []) (args := [.vs 7 (List.map eGClass a0)]) (rs := [.p (.bool y7)]) rfl rfl (evl_cons h.1.1 evl_nil) Try_cal_14 (law26_great_ok h8) rfl rfl rfl) rfl) ⟨⟨rfl, trivial⟩, trivial, trivial⟩ ?_
    refine drm ?_
    rcases ite_some hF with ⟨hb9, hF⟩ | ⟨hb9, hF⟩
    · refine dro_t hb9 ?_
      refine dro_t hb9 ?_
      refine drpt hb9 ?_
      refine drm ?_
      iterate 7 (refine dro_t rfl ?_)
      refine drpt rfl ?_
      refine drm ?_
      iterate 9 (refine dro_t rfl ?_)
      refine drpt rfl ?_
      refine dr_nil Try_mixed rfl (by kernel_rfl) ?_
      refine post_imp (s' := ⟨68, [(0, some (.pv (.vs 7 (List.map eGClass a0)))), (1, some (.pv (.str a1))), (5, some (.lp 0 0)), (7, some (.pv (.int .i64 y3))), (38, some (.pv (.bool true)))], [(0, some (.box 27 (bxv (eGType a2))))], 1, [], [], 0, []⟩) (imps [0] ⟨by kernel_rfl, by kernel_rfl, by kernel_rfl, by kernel_rfl, by kernel_rfl, trivial⟩ ⟨by kernel_rfl, trivial⟩) ?_
      cases hF
      exact post_cut _ rfl (imps [0] ⟨by kernel_rfl, by kernel_rfl, by kernel_rfl, by kernel_rfl, by kernel_rfl, trivial⟩ ⟨by kernel_rfl, trivial⟩)
    refine dr_cons { need := [(15, .pv (.bool y7)), (7, .pv (.int .i64 y3))], dst := some 16, val := some (.pv (.int .i64 y3)) } (fun m h => step_on (guard_on rfl rfl rfl h.1.1 hb9) (op_move rfl h.1.2.1 rfl rfl) rfl) ⟨⟨rfl, rfl, trivial⟩, trivial, trivial⟩ ?_
    refine dr_cons { need := [(15, .pv (.bool y7)), (16, .pv (.int .i64 y3))], dst := some 17, val := some (.pv (.bool (decide (y3 < 0)))) } (fun m h => step_on (guard_on rfl rfl rfl h.1.1 hb9) (op_int (k := .i64) (m := y3) (n := 0) rfl h.1.2.1 rfl rfl rfl rfl) rfl) ⟨⟨rfl, rfl, trivial⟩, trivial, trivial⟩ ?_
    refine dr_cons { need := [(15, .pv (.bool y7)), (17, .pv (.bool (decide (y3 < 0))))], dst := some 18, val := some (.pv (.bool (decide (y3 < 0)))) } (fun m h => step_on (guard_no rfl) (op_pick_f rfl h.1.1 hb9 h.1.2.1 rfl rfl) rfl) ⟨⟨rfl, rfl, trivial⟩, trivial, trivial⟩ ?_
    refine drm ?_
    rcases ite_some hF with ⟨hb10, hF⟩ | ⟨hb10, hF⟩
    · refine dro_t hb10 ?_
      iterate 6 (refine dro_t hb10 ?_)
      refine drpt hb10 ?_
      refine drm ?_
      iterate 9 (refine dro_t rfl ?_)
      refine drpt rfl ?_
      refine dr_nil Try_mixed rfl (by kernel_rfl) ?_
      refine post_imp (s' := ⟨68, [(0, some (.pv (.vs 7 (List.map eGClass a0)))), (1, some (.pv (.str a1))), (5, some (.lp 0 0)), (7, some (.pv (.int .i64 y3))), (38, some (.pv (.bool true)))], [(0, some (.box 27 (bxv (eGType a2))))], 1, [], [], 0, []⟩) (imps [0] ⟨by kernel_rfl, by kernel_rfl, by kernel_rfl, by kernel_rfl, by kernel_rfl, trivial⟩ ⟨by kernel_rfl, trivial⟩) ?_
      cases hF
      exact post_cut _ rfl (imps [0] ⟨by kernel_rfl, by kernel_rfl, by kernel_rfl, by kernel_rfl, by kernel_rfl, trivial⟩ ⟨by kernel_rfl, trivial⟩)
    refine dr_cons { need := [(19, .pv (.bool (decide (y3 < 0)))), (0, .pv (.vs 7 (List.map eGClass a0)))], dst := some 20, val := some (.pv (.vs 7 (List.map eGClass a0))) } (fun m h => step_on (guard_on rfl rfl rfl h.1.1 hb10) (op_move rfl h.1.2.1 rfl rfl) rfl) ⟨⟨rfl, rfl, trivial⟩, trivial, trivial⟩ ?_
    refine dr_cons { need := [(19, .pv (.bool (decide (y3 < 0)))), (7, .pv (.int .i64 y3))], dst := some 21, val := some (.pv (.int .i64 y3)) } (fun m h => step_on (guard_on rfl rfl rfl h.1.1 hb10) (op_move rfl h.1.2.1 rfl rfl) rfl) ⟨⟨rfl, rfl, trivial⟩, trivial, trivial⟩ ?_
    obtain ⟨y11, h12, hF⟩ := bind_some hF
    refine dr_cons { need := [(19, .pv (.bool (decide (y3 < 0)))), (20, .pv (.vs 7 (List.map eGClass a0))), (21, .pv (.int .i64 y3))], dst := some 22, val := some (.pv (.vp (eGClass y11))) } (fun m h => step_on (guard_on rfl rfl rfl h.1.1 hb10) (op_index_vs (k := .i64) rfl h.1.2.1 h.1.2.2.1 (idx_map eGClass h12) Try_slc_22 rfl rfl) rfl) ⟨⟨rfl, rfl, rfl, trivial⟩, trivial, trivial⟩ ?_
    refine dr_cons { need := [(19, .pv (.bool (decide (y3 < 0)))), (22, .pv (.vp (eGClass y11)))], dst := some 23, val := some (.pv (.vp (List.drop 1 (eGClass y11)))) } (fun m h => step_on (guard_on rfl rfl rfl h.1.1 hb10) (op_field_vp rfl h.1.2.1 Try_fld_43_1 rfl rfl) rfl) ⟨⟨rfl, rfl, trivial⟩, trivial, trivial⟩ ?_
    refine dr_cons { need := [(19, .pv (.bool (decide (y3 < 0)))), (23, .pv (.vp (List.drop 1 (eGClass y11))))], dst := some 24, val := some (.pv (.vs 1 (List.map eS y11.fParams))) } (fun m h => step_on (guard_on rfl rfl rfl h.1.1 hb10) (op_load_vp (p := .vs 1 (List.map eS y11.fParams)) rfl h.1.2.1 rfl Try_one_38 rfl rfl) rfl) ⟨⟨rfl, rfl, trivial⟩, trivial, trivial⟩ ?_
    refine dr_cons { need := [(19, .pv (.bool (decide (y3 < 0)))), (24, .pv (.vs 1 (List.map eS y11.fParams)))], dst := some 25, val := some (.pv (.int .i64 (y11.fParams.length : Int))) } (fun m h => step_on (guard_on rfl rfl rfl h.1.1 hb10) (op_len_vs (n := y11.fParams.length) rfl h.1.2.1 (List.length_map ..) Try_slc_38 rfl rfl) rfl) ⟨⟨rfl, rfl, trivial⟩, trivial, trivial⟩ ?_
    refine dr_cons { need := [(19, .pv (.bool (decide (y3 < 0)))), (25, .pv (.int .i64 (y11.fParams.length : Int)))], dst := some 26, val := some (.pv (.bool (decide ((y11.fParams.length : Int) > 3)))) } (fun m h => step_on (guard_on rfl rfl rfl h.1.1 hb10) (op_int (k := .i64) (m := (y11.fParams.length : Int)) (n := 3) rfl h.1.2.1 rfl rfl rfl rfl) rfl) ⟨⟨rfl, rfl, trivial⟩, trivial, trivial⟩ ?_
    refine dr_cons { need := [(19, .pv (.bool (decide (y3 < 0)))), (26, .pv (.bool (decide ((y11.fParams.length : Int) > 3))))], dst := some 27, val := some (.pv (.bool (decide ((y11.fParams.length : Int) > 3)))) } (fun m h => step_on (guard_no rfl) (op_pick_f rfl h.1.1 hb10 h.1.2.1 rfl rfl) rfl) ⟨⟨rfl, rfl, trivial⟩, trivial, trivial⟩ ?_
    refine drm ?_
    rcases ite_some hF with ⟨hb13, hF⟩ | ⟨hb13, hF⟩
    · refine dro_t hb13 ?_
      iterate 8 (refine dro_t hb13 ?_)
      refine drpt hb13 ?_
      refine dr_nil Try_mixed rfl (by kernel_rfl) ?_
      refine post_imp (s' := ⟨68, [(0, some (.pv (.vs 7 (List.map eGClass a0)))), (1, some (.pv (.str a1))), (5, some (.lp 0 0)), (7, some (.pv (.int .i64 y3))), (38, some (.pv (.bool true)))], [(0, some (.box 27 (bxv (eGType a2))))], 1, [], [], 0, []⟩) (imps [0] ⟨by kernel_rfl, by kernel_rfl, by kernel_rfl, by kernel_rfl, by kernel_rfl, trivial⟩ ⟨by kernel_rfl, trivial⟩) ?_
      cases hF
      exact post_cut _ rfl (imps [0] ⟨by kernel_rfl, by kernel_rfl, by kernel_rfl, by kernel_rfl, by kernel_rfl, trivial⟩ ⟨by kernel_rfl, trivial⟩)
    refine dr_cons { need := [(28, .pv (.bool (decide ((y11.fParams.length : Int) > 3)))), (5, .lp 0 0)], hneed := [(0, .box 27 (bxv (eGType a2)))], dst := some 29, val := some (.pv (.agg (eGType a2))) } (fun m h => step_on (guard_on rfl rfl rfl h.1.1 hb13) (op_load_lp_agg (ps := eGType a2) rfl h.1.2.1 h.2.1.1 rfl rfl rfl Try_agg_27 rfl rfl) rfl) ⟨⟨rfl, rfl, trivial⟩, ⟨rfl, trivial⟩, trivial⟩ ?_
    refine dr_cons { need := [(28, .pv (.bool (decide ((y11.fParams.length : Int) > 3)))), (0, .pv (.vs 7 (List.map eGClass a0)))], dst := some 30, val := some (.pv (.vs 7 (List.map eGClass a0))) } (fun m h => step_on (guard_on rfl rfl rfl h.1.1 hb13) (op_move rfl h.1.2.1 rfl rfl) rfl) ⟨⟨rfl, rfl, trivial⟩, trivial, trivial⟩ ?_
    refine dr_cons { need := [(28, .pv (.bool (decide ((y11.fParams.length : Int) > 3)))), (7, .pv (.int .i64 y3))], dst := some 31, val := some (.pv (.int .i64 y3)) } (fun m h => step_on (guard_on rfl rfl rfl h.1.1 hb13) (op_move rfl h.1.2.1 rfl rfl) rfl) ⟨⟨rfl, rfl, trivial⟩, trivial, trivial⟩ ?_
    obtain ⟨y14, h15, hF⟩ := bind_some hF
    refine dr_cons { need := [(28, .pv (.bool (decide ((y11.fParams.length : Int) > 3)))), (30, .pv (.vs 7 (List.map eGClass a0))), (31, .pv (.int .i64 y3))], dst := some 32, val := some (.pv (.vp (eGClass y14))) } (fun m h => step_on (guard_on rfl rfl rfl h.1.1 hb13) (op_index_vs (k := .i64) rfl h.1.2.1 h.1.2.2.1 (idx_map eGClass h15) Try_slc_22 rfl rfl) rfl) ⟨⟨rfl, rfl, rfl, trivial⟩, trivial, trivial⟩ ?_
    refine dr_cons { need := [(28, .pv (.bool (decide ((y11.fParams.length : Int) > 3)))), (32, .pv (.vp (eGClass y14)))], dst := some 33, val := some (.pv (.vp (List.drop 1 (eGClass y14)))) } (fun m h => step_on (guard_on rfl rfl rfl h.1.1 hb13) (op_field_vp rfl h.1.2.1 Try_fld_43_1 rfl rfl) rfl) ⟨⟨rfl, rfl, trivial⟩, trivial, trivial⟩ ?_
    refine dr_cons { need := [(28, .pv (.bool (decide ((y11.fParams.length : Int) > 3)))), (33, .pv (.vp (List.drop 1 (eGClass y14))))], dst := some 34, val := some (.pv (.vs 1 (List.map eS y14.fParams))) } (fun m h => step_on (guard_on rfl rfl rfl h.1.1 hb13) (op_load_vp (p := .vs 1 (List.map eS y14.fParams)) rfl h.1.2.1 rfl Try_one_38 rfl rfl) rfl) ⟨⟨rfl, rfl, trivial⟩, trivial, trivial⟩ ?_
    refine dr_cons { need := [(28, .pv (.bool (decide ((y11.fParams.length : Int) > 3)))), (34, .pv (.vs 1 (List.map eS y14.fParams)))], dst := some 35, val := some (.pv (.int .i64 (y14.fParams.length : Int))) } (fun m h => step_on (guard_on rfl rfl rfl h.1.1 hb13) (op_len_vs (n := y14.fParams.length) rfl h.1.2.1 (List.length_map ..) Try_slc_38 rfl rfl) rfl) ⟨⟨rfl, rfl, trivial⟩, trivial, trivial⟩ ?_
    obtain ⟨y16, h17, hF⟩ := bind_some hF
    refine dr_cons { need := [(28, .pv (.bool (decide ((y11.fParams.length : Int) > 3)))), (35, .pv (.int .i64 (y14.fParams.length : Int))), (29, .pv (.agg (eGType a2)))], dst := some 36, val := some (.pv (.bool y16)) } (fun m h => step_on (guard_on rfl rfl rfl h.1.1 hb13) (op_call 1 rfl (caps := []) (args := [.agg (eGType a2), .int .i64 (y14.fParams.length : Int)]) (rs := [.p (.bool y16)]) rfl rfl (evl_cons h.1.2.2.1 (evl_cons h.1.2.1 evl_nil)) Try_cal_15 (ref05_Right_ok h17) rfl rfl rfl) rfl) ⟨⟨rfl, rfl, rfl, trivial⟩, trivial, trivial⟩ ?_
    refine dr_cons { need := [(28, .pv (.bool (decide ((y11.fParams.length : Int) > 3)))), (36, .pv (.bool y16))], dst := some 37, val := some (.pv (.bool (!y16))) } (fun m h => step_on (guard_on rfl rfl rfl h.1.1 hb13) (op_not rfl h.1.2.1 rfl rfl) rfl) ⟨⟨rfl, rfl, trivial⟩, trivial, trivial⟩ ?_
    refine dr_cons { need := [(28, .pv (.bool (decide ((y11.fParams.length : Int) > 3)))), (37, .pv (.bool (!y16)))], dst := some 38, val := some (.pv (.bool (!y16))) } (fun m h => step_on (guard_no rfl) (op_pick_f rfl h.1.1 hb13 h.1.2.1 rfl rfl) rfl) ⟨⟨rfl, rfl, trivial⟩, trivial, trivial⟩ ?_
    refine dr_nil Try_mixed rfl (by kernel_rfl) ?_
    refine post_imp (s' := ⟨68, [(0, some (.pv (.vs 7 (List.map eGClass a0)))), (1, some (.pv (.str a1))), (5, some (.lp 0 0)), (7, some (.pv (.int .i64 y3))), (38, some (.pv (.bool (!y16))))], [(0, some (.box 27 (bxv (eGType a2))))], 1, [], [], 0, []⟩) (imps [0] ⟨by kernel_rfl, by kernel_rfl, by kernel_rfl, by kernel_rfl, by kernel_rfl, trivial⟩ ⟨by kernel_rfl, trivial⟩) ?_
    cases hF
    exact post_cut _ rfl (imps [0] ⟨by kernel_rfl, by kernel_rfl, by kernel_rfl, by kernel_rfl, by kernel_rfl, trivial⟩ ⟨by kernel_rfl, trivial⟩)
  rintro _ rfl
  have hF := hK20
  clear hK20
  refine post_next ?_
  rcases ite_some hF with ⟨hb21, hF⟩ | ⟨hb21, hF⟩
  · refine aw_cond_t rfl hb21 ?_
    refine aw_seq ?_
    refine aw_region ?_
    obtain ⟨y22, h23, hF⟩ := bind_some hF
    refine reg_cons (guard_no rfl) (op_call 1 rfl (caps := []) (args := []) (rs := [.p (.bool y22)]) rfl rfl rfl Try_cal_16 (law26_awake_ok h23) rfl rfl rfl) ?_
    refine ras ?_
    refine reg_nil ?_
    refine post_imp (s' := ⟨68, [(6, some (.pv (.bool y22)))], [], 0, [], [], 0, []⟩) (imps [] ⟨by kernel_rfl, trivial⟩ trivial) ?_
    refine post_next ?_
    refine aw_ret ?_
    refine post_then_ret ?_
    obtain rfl := Option.some.inj hF
    exact post_ret rfl rfl (.cons _ _ _ _ _ (.tmp _ _ rfl) (.p _) .nil) (.inl rfl)
  refine aw_cond_f rfl hb21 ?_
  refine aw_skip ?_
  refine post_next ?_
  iterate 2 (refine aw_seq ?_)
  refine aw_region ?_
  refine ras ?_
  refine reg_nil ?_
  refine post_imp (s' := ⟨68, [(0, some (.pv (.vs 7 (List.map eGClass a0)))), (1, some (.pv (.str a1))), (5, some (.lp 0 0)), (7, some (.pv (.int .i64 y3))), (8, some (.pv (.int .i64 1)))], [(0, some (.box 27 (bxv (eGType a2))))], 1, [], [], 0, []⟩) (imps [0] ⟨by kernel_rfl, by kernel_rfl, by kernel_rfl, by kernel_rfl, by kernel_rfl, trivial⟩ ⟨by kernel_rfl, trivial⟩) ?_
  refine post_next ?_
  obtain ⟨lr87, hF, hK88⟩ := bind_some hF
  refine aw_for 3 (fun s1 => ∃ q, lr87 = .next q ∧ s1 = ⟨68, [], [], 0, [], [], 0, []⟩) ?_ ?_
  · refine rnd_loop (α := Int) (fun q => ⟨68, [(0, some (.pv (.vs 7 (List.map eGClass a0)))), (1, some (.pv (.str a1))), (5, some (.lp 0 0)), (7, some (.pv (.int .i64 y3))), (8, some (.pv (.int .i64 q)))], [(0, some (.box 27 (bxv (eGType a2))))], 1, [], [], 0, []⟩) (fun k q => law26_AdaptThis_L1 a0 a1 a2 y3 k q = some lr87) 1 (imps [0] ⟨by kernel_rfl, by kernel_rfl, by kernel_rfl, by kernel_rfl, by kernel_rfl, trivial⟩ ⟨by kernel_rfl, trivial⟩) hF (fun q h => by cases h) ?_
    clear hF
    rintro k x44 hF ih
    refine rnd_succ ?_
    iterate 2 (refine aw_seq ?_)
    refine aw_region ?_
    refine rmv ?_
    refine reg_cons (guard_no rfl) (op_int (k := .i64) (m := x44) (n := 2) rfl rfl rfl rfl rfl rfl) ?_
    refine reg_nil ?_
    refine post_imp (s' := ⟨68, [(0, some (.pv (.vs 7 (List.map eGClass a0)))), (1, some (.pv (.str a1))), (5, some (.lp 0 0)), (7, some (.pv (.int .i64 y3))), (8, some (.pv (.int .i64 x44))), (41, some (.pv (.bool (decide (x44 ≤ 2)))))], [(0, some (.box 27 (bxv (eGType a2))))], 1, [], [], 0, []⟩) (imps [0] ⟨by kernel_rfl, by kernel_rfl, by kernel_rfl, by kernel_rfl, by kernel_rfl, by kernel_rfl, trivial⟩ ⟨by kernel_rfl, trivial⟩) ?_
    refine post_next ?_
    rcases ite_some hF with ⟨hb66, hF⟩ | ⟨hb66, hF⟩
    · refine aw_cond_t rfl hb66 ?_
      refine aw_skip ?_
      refine post_next ?_
      refine aw_seq ?_
      refine aw_block ?_
      refine aw_seq ?_
      refine aw_region ?_
      iterate 3 (refine rmv ?_)
      obtain ⟨y71, h72, hF⟩ := bind_some hF
      refine reg_cons (guard_no rfl) (op_index_vs (k := .i64) rfl rfl rfl (idx_map eGClass h72) Try_slc_22 rfl rfl) ?_
      refine reg_cons (guard_no rfl) (op_load_vp_agg (ps := eGClass y71) rfl rfl rfl rfl Try_agg_43 rfl rfl) ?_
      obtain ⟨y73, h74, hF⟩ := bind_some hF
      refine reg_cons (guard_no rfl) (op_call 1 rfl (caps := []) (args := [.agg (eGClass y71)]) (rs := [.p (.agg (eGType y73))]) rfl rfl rfl Try_cal_17 (ref18_This_ok h74) rfl rfl rfl) ?_
      refine reg_cons (guard_no rfl) (op_build (zs := (eGView_adapt zGView_adapt)) (r := eGView_adapt ({ fMode := x44, fObject := y73, fThis := true } : GView_adapt)) rfl Try_zer_47 (by exact ⟨rfl, rfl, rfl, rfl, rfl, rfl, rfl, rfl, rfl, rfl, rfl, rfl, rfl, trivial⟩) Try_plc_47 rfl rfl rfl rfl) ?_
      refine reg_cons (guard_no rfl) (op_alloc 1 rfl (ps := (eGView_adapt zGView_adapt)) rfl Try_zer_47 (by exact ⟨rfl, rfl, rfl, rfl, rfl, rfl, rfl, rfl, rfl, rfl, rfl, rfl, rfl, trivial⟩) rfl rfl) ?_
      refine reg_cons (guard_no rfl) (op_store_lp (n := 13) rfl rfl rfl rfl rfl (or_agg Try_agg_47) (by rw [Try_non_47]; rfl) rfl rfl rfl) ?_
      refine reg_nil ?_
      refine post_imp (s' := ⟨68, [(0, some (.pv (.vs 7 (List.map eGClass a0)))), (1, some (.pv (.str a1))), (5, some (.lp 0 0)), (7, some (.pv (.int .i64 y3))), (8, some (.pv (.int .i64 x44))), (9, some (.lp 1 0))], [(0, some (.box 27 (bxv (eGType a2)))), (1, some (.box 47 (bxv (eGView_adapt ({ fMode := x44, fObject := y73, fThis := true } : GView_adapt)))))], 2, [], [], 0, []⟩) (imps [0, 1] ⟨by kernel_rfl, by kernel_rfl, by kernel_rfl, by kernel_rfl, by kernel_rfl, by kernel_rfl, trivial⟩ ⟨by kernel_rfl, by kernel_rfl, trivial⟩) ?_
      refine post_next ?_
      refine aw_seq ?_
      obtain ⟨x82, hF, hK84⟩ := bind_some hF
      refine aw_cut (fun s1 => s1 = ⟨68, [(0, some (.pv (.vs 7 (List.map eGClass a0)))), (1, some (.pv (.str a1))), (5, some (.lp 0 0)), (7, some (.pv (.int .i64 y3))), (8, some (.pv (.int .i64 x44))), (66, some (.pv (.bool x82)))], [(0, some (.box 27 (bxv (eGType a2))))], 1, [], [], 0, []⟩) ?_ ?_
      · refine dr_start ⟨_, _, _⟩ rfl ?_
        refine drm ?_
        refine dr_cons { need := [(9, .lp 1 0)], hneed := [(1, .box 47 (bxv (eGView_adapt ({ fMode := x44, fObject := y73, fThis := true } : GView_adapt))))], dst := some 52, val := some (.pv (.agg (eGView_adapt ({ fMode := x44, fObject := y73, fThis := true } : GView_adapt)))) } (fun m h => step_on (guard_no rfl) (op_load_lp_agg (ps := eGView_adapt ({ fMode := x44, fObject := y73, fThis := true } : GView_adapt)) rfl h.1.1 h.2.1.1 rfl rfl rfl Try_agg_47 rfl rfl) rfl) ⟨⟨rfl, trivial⟩, ⟨rfl, trivial⟩, trivial⟩ ?_
        refine drm ?_
        refine dr_cons { need := [(5, .lp 0 0)], hneed := [(0, .box 27 (bxv (eGType a2)))], dst := some 54, val := some (.pv (.agg (eGType a2))) } (fun m h => step_on (guard_no rfl) (op_load_lp_agg (ps := eGType a2) rfl h.1.1 h.2.1.1 rfl rfl rfl Try_agg_27 rfl rfl) rfl) ⟨⟨rfl, trivial⟩, ⟨rfl, trivial⟩, trivial⟩ ?_
        obtain ⟨y77, h78, hF⟩ := bind_some hF
        refine dr_cons { need := [(54, .pv (.agg (eGType a2))), (53, .pv (.str a1)), (52, .pv (.agg (eGView_adapt ({ fMode := x44, fObject := y73, fThis := true } : GView_adapt)))), (51, .pv (.vs 7 (List.map eGClass a0)))], dst := some 55, val := some (.pv (.agg (eGType y77))) } (fun m h => step_on (guard_no rfl) (op_call 2 rfl (caps := []) (args := [.vs 7 (List.map eGClass a0), .agg (eGView_adapt ({ fMode := x44, fObject := y73, fThis := true } : GView_adapt)), .str a1, .agg (eGType a2)]) (rs := [.p (.agg (eGType y77))]) rfl rfl (evl_cons h.1.2.2.2.1 (evl_cons h.1.2.2.1 (evl_cons h.1.2.1 (evl_cons h.1.1 evl_nil)))) Try_cal_18 (adapt_See_ok h78) rfl rfl rfl) rfl) ⟨⟨rfl, rfl, rfl, rfl, trivial⟩, trivial, trivial⟩ ?_
        refine dr_cons { need := [(5, .lp 0 0)], hneed := [(0, .box 27 (bxv (eGType a2)))], dst := some 56, val := some (.pv (.agg (eGType a2))) } (fun m h => step_on (guard_no rfl) (op_load_lp_agg (ps := eGType a2) rfl h.1.1 h.2.1.1 rfl rfl rfl Try_agg_27 rfl rfl) rfl) ⟨⟨rfl, trivial⟩, ⟨rfl, trivial⟩, trivial⟩ ?_
        refine dr_cons { need := [(55, .pv (.agg (eGType y77))), (56, .pv (.agg (eGType a2)))], dst := some 57, val := some (.pv (.bool (!(bGType y77 a2)))) } (fun m h => step_on (guard_no rfl) (op_eqAgg_neq (r := bGType y77 a2) rfl h.1.1 h.1.2.1 Try_eqt_27 rfl rfl rfl rfl rfl) rfl) ⟨⟨rfl, rfl, trivial⟩, trivial, trivial⟩ ?_
        refine drm ?_
        rcases ite_some hF with ⟨hb79, hF⟩ | ⟨hb79, hF⟩
        · refine dro_t hb79 ?_
          iterate 6 (refine dro_t hb79 ?_)
          refine drpt hb79 ?_
          refine dr_nil Try_mixed rfl (by kernel_rfl) ?_
          refine post_imp (s' := ⟨68, [(0, some (.pv (.vs 7 (List.map eGClass a0)))), (1, some (.pv (.str a1))), (5, some (.lp 0 0)), (7, some (.pv (.int .i64 y3))), (8, some (.pv (.int .i64 x44))), (66, some (.pv (.bool true)))], [(0, some (.box 27 (bxv (eGType a2))))], 1, [], [], 0, []⟩) (imps [0] ⟨by kernel_rfl, by kernel_rfl, by kernel_rfl, by kernel_rfl, by kernel_rfl, by kernel_rfl, trivial⟩ ⟨by kernel_rfl, trivial⟩) ?_
          cases hF
          exact post_cut _ rfl (imps [0] ⟨by kernel_rfl, by kernel_rfl, by kernel_rfl, by kernel_rfl, by kernel_rfl, by kernel_rfl, trivial⟩ ⟨by kernel_rfl, trivial⟩)
        refine dr_cons { need := [(58, .pv (.bool (!(bGType y77 a2)))), (0, .pv (.vs 7 (List.map eGClass a0)))], dst := some 59, val := some (.pv (.vs 7 (List.map eGClass a0))) } (fun m h => step_on (guard_on rfl rfl rfl h.1.1 hb79) (op_move rfl h.1.2.1 rfl rfl) rfl) ⟨⟨rfl, rfl, trivial⟩, trivial, trivial⟩ ?_
        refine dr_cons { need := [(58, .pv (.bool (!(bGType y77 a2)))), (9, .lp 1 0)], hneed := [(1, .box 47 (bxv (eGView_adapt ({ fMode := x44, fObject := y73, fThis := true } : GView_adapt))))], dst := some 60, val := some (.pv (.agg (eGView_adapt ({ fMode := x44, fObject := y73, fThis := true } : GView_adapt)))) } (fun m h => step_on (guard_on rfl rfl rfl h.1.1 hb79) (op_load_lp_agg (ps := eGView_adapt ({ fMode := x44, fObject := y73, fThis := true } : GView_adapt)) rfl h.1.2.1 h.2.1.1 rfl rfl rfl Try_agg_47 rfl rfl) rfl) ⟨⟨rfl, rfl, trivial⟩, ⟨rfl, trivial⟩, trivial⟩ ?_
        refine dr_cons { need := [(58, .pv (.bool (!(bGType y77 a2)))), (1, .pv (.str a1))], dst := some 61, val := some (.pv (.str a1)) } (fun m h => step_on (guard_on rfl rfl rfl h.1.1 hb79) (op_move rfl h.1.2.1 rfl rfl) rfl) ⟨⟨rfl, rfl, trivial⟩, trivial, trivial⟩ ?_
        refine dr_cons { need := [(58, .pv (.bool (!(bGType y77 a2)))), (5, .lp 0 0)], hneed := [(0, .box 27 (bxv (eGType a2)))], dst := some 62, val := some (.pv (.agg (eGType a2))) } (fun m h => step_on (guard_on rfl rfl rfl h.1.1 hb79) (op_load_lp_agg (ps := eGType a2) rfl h.1.2.1 h.2.1.1 rfl rfl rfl Try_agg_27 rfl rfl) rfl) ⟨⟨rfl, rfl, trivial⟩, ⟨rfl, trivial⟩, trivial⟩ ?_
        obtain ⟨y80, h81, hF⟩ := bind_some hF
        refine dr_cons { need := [(58, .pv (.bool (!(bGType y77 a2)))), (62, .pv (.agg (eGType a2))), (61, .pv (.str a1)), (60, .pv (.agg (eGView_adapt ({ fMode := x44, fObject := y73, fThis := true } : GView_adapt)))), (59, .pv (.vs 7 (List.map eGClass a0)))], dst := some 63, val := some (.pv (.agg (eGType y80))) } (fun m h => step_on (guard_on rfl rfl rfl h.1.1 hb79) (op_call 2 rfl (caps := []) (args := [.vs 7 (List.map eGClass a0), .agg (eGView_adapt ({ fMode := x44, fObject := y73, fThis := true } : GView_adapt)), .str a1, .agg (eGType a2)]) (rs := [.p (.agg (eGType y80))]) rfl rfl (evl_cons h.1.2.2.2.2.1 (evl_cons h.1.2.2.2.1 (evl_cons h.1.2.2.1 (evl_cons h.1.2.1 evl_nil)))) Try_cal_19 (adapt_Read_ok h81) rfl rfl rfl) rfl) ⟨⟨rfl, rfl, rfl, rfl, rfl, trivial⟩, trivial, trivial⟩ ?_
        refine dr_cons { need := [(58, .pv (.bool (!(bGType y77 a2)))), (5, .lp 0 0)], hneed := [(0, .box 27 (bxv (eGType a2)))], dst := some 64, val := some (.pv (.agg (eGType a2))) } (fun m h => step_on (guard_on rfl rfl rfl h.1.1 hb79) (op_load_lp_agg (ps := eGType a2) rfl h.1.2.1 h.2.1.1 rfl rfl rfl Try_agg_27 rfl rfl) rfl) ⟨⟨rfl, rfl, trivial⟩, ⟨rfl, trivial⟩, trivial⟩ ?_
        refine dr_cons { need := [(58, .pv (.bool (!(bGType y77 a2)))), (63, .pv (.agg (eGType y80))), (64, .pv (.agg (eGType a2)))], dst := some 65, val := some (.pv (.bool (!(bGType y80 a2)))) } (fun m h => step_on (guard_on rfl rfl rfl h.1.1 hb79) (op_eqAgg_neq (r := bGType y80 a2) rfl h.1.2.1 h.1.2.2.1 Try_eqt_27 rfl rfl rfl rfl rfl) rfl) ⟨⟨rfl, rfl, rfl, trivial⟩, trivial, trivial⟩ ?_
        refine dr_cons { need := [(58, .pv (.bool (!(bGType y77 a2)))), (65, .pv (.bool (!(bGType y80 a2))))], dst := some 66, val := some (.pv (.bool (!(bGType y80 a2)))) } (fun m h => step_on (guard_no rfl) (op_pick_f rfl h.1.1 hb79 h.1.2.1 rfl rfl) rfl) ⟨⟨rfl, rfl, trivial⟩, trivial, trivial⟩ ?_
        refine dr_nil Try_mixed rfl (by kernel_rfl) ?_
        refine post_imp (s' := ⟨68, [(0, some (.pv (.vs 7 (List.map eGClass a0)))), (1, some (.pv (.str a1))), (5, some (.lp 0 0)), (7, some (.pv (.int .i64 y3))), (8, some (.pv (.int .i64 x44))), (66, some (.pv (.bool (!(bGType y80 a2)))))], [(0, some (.box 27 (bxv (eGType a2))))], 1, [], [], 0, []⟩) (imps [0] ⟨by kernel_rfl, by kernel_rfl, by kernel_rfl, by kernel_rfl, by kernel_rfl, by kernel_rfl, trivial⟩ ⟨by kernel_rfl, trivial⟩) ?_
        cases hF
        exact post_cut _ rfl (imps [0] ⟨by kernel_rfl, by kernel_rfl, by kernel_rfl, by kernel_rfl, by kernel_rfl, by kernel_rfl, trivial⟩ ⟨by kernel_rfl, trivial⟩)
      rintro _ rfl
      have hF := hK84
      clear hK84
      refine post_next ?_
      rcases ite_some hF with ⟨hb85, hF⟩ | ⟨hb85, hF⟩
      · refine aw_cond_t rfl hb85 ?_
        refine aw_seq ?_
        refine aw_region ?_
        refine ras ?_
        refine reg_nil ?_
        refine post_imp (s' := ⟨68, [(6, some (.pv (.bool false)))], [], 0, [], [], 0, []⟩) (imps [] ⟨by kernel_rfl, trivial⟩ trivial) ?_
        refine post_next ?_
        refine aw_ret ?_
        refine post_block_ret ?_
        iterate 2 (refine post_then_ret ?_)
        refine post_lp_ret ?_
        obtain rfl := Option.some.inj hF
        have hF := elim_stop hK88
        refine post_then_ret ?_
        obtain rfl := Option.some.inj hF
        exact post_ret rfl rfl (.cons _ _ _ _ _ (.tmp _ _ rfl) (.p _) .nil) (.inl rfl)
      refine aw_cond_f rfl hb85 ?_
      refine aw_skip ?_
      refine post_block_normal ?_
      refine post_next ?_
      refine aw_region ?_
      refine rmv ?_
      refine reg_cons (guard_no rfl) (op_int (k := .i64) (m := x44) (n := 1) rfl rfl rfl rfl rfl rfl) ?_
      refine ras ?_
      refine reg_nil ?_
      refine post_round ?_
      exact rnd_back (ih (w_i64 (x44 + 1)) hF) (imps [0] ⟨by kernel_rfl, by kernel_rfl, by kernel_rfl, by kernel_rfl, by kernel_rfl, trivial⟩ ⟨by kernel_rfl, trivial⟩)
    refine aw_cond_f rfl hb66 ?_
    refine aw_exit ?_
    iterate 2 (refine post_then_exit ?_)
    obtain rfl := Option.some.inj hF
    exact post_lp_break _ ⟨_, rfl, rfl⟩ (imps [] trivial trivial)
  rintro _ ⟨⟨⟩, rfl, rfl⟩
  have hF := elim_next hK88
  clear hK88
  refine post_next ?_
  refine aw_seq ?_
  refine aw_region ?_
  obtain ⟨y89, h90, hF⟩ := bind_some hF
  refine reg_cons (guard_no rfl) (op_call 0 rfl (caps := []) (args := []) (rs := [.p (.bool y89)]) rfl rfl rfl Try_cal_16 (law26_awake_ok h90) rfl rfl rfl) ?_
  refine ras ?_
  refine reg_nil ?_
  refine post_imp (s' := ⟨68, [(6, some (.pv (.bool y89)))], [], 0, [], [], 0, []⟩) (imps [] ⟨by kernel_rfl, trivial⟩ trivial) ?_
  refine post_next ?_
  refine aw_ret ?_
  obtain rfl := Option.some.inj hF
  exact post_ret rfl rfl (.cons _ _ _ _ _ (.tmp _ _ rfl) (.p _) .nil) (.inl rfl)
end Go.Proofs.Ytkfgkkbfipgklaa
