/- A part of the proof that the law AdaptShown gives true for every input. -/
import Derived.Test.YtkfgkkbfipgklaaAdaptShownT
import Derived.Test.YtkfgkkbfipgklaaAdaptShownX
import Derived.Test.YtkfgkkbfipgklaaAdaptShownI
import Derived.Test.YtkfgkkbfipgklaaAdaptShownW0
/- Each Go function computes its plain function. -/
namespace Go.Proofs.Ytkfgkkbfipgklaa
open Go.RowKit Go.Abs
set_option maxRecDepth 100000
set_option maxHeartbeats 4000000
theorem law26_awake_ok  {r : Bool} (hF : law26_awake = some r) : Abs.Fn Try.prog 16 [] [.p (.bool r)] := by
  unfold law26_awake at hF
  refine fn_of_body (n := 30) Try.func16 rfl rfl rfl ?_
  intro w O
  refine aw_seq ?_
  refine aw_region ?_
  refine ras ?_
  refine reg_nil ?_
  refine post_imp (s' := ⟨30, [], [], 0, [], [], 0, []⟩) (imps [] trivial trivial) ?_
  refine post_next ?_
  refine aw_seq ?_
  refine aw_region ?_
  refine reg_cons (guard_no rfl) (op_build (zs := (eGClass zGClass)) (r := eGClass ({ fName := [65], fParams := [], fSuper := [], fAbove := [], fFields := [], fMethods := [], fAt := 0 } : GClass)) rfl Try_zer_43 (by exact ⟨rfl, trivial, rfl, trivial, trivial, trivial, rfl, trivial⟩) Try_plc_43 rfl rfl rfl rfl) ?_
  refine reg_cons (guard_no rfl) (op_lit (rows := List.map eGClass ([({ fName := [65], fParams := [], fSuper := [], fAbove := [], fFields := [], fMethods := [], fAt := 0 } : GClass)] : List GClass)) (zs := (eGClass zGClass)) rfl rfl Try_slc_22 Try_zer_43 (by exact ⟨rfl, trivial, rfl, trivial, trivial, trivial, rfl, trivial⟩) rfl rfl rfl rfl rfl rfl rfl rfl) ?_
  refine ras ?_
  refine reg_nil ?_
  refine post_imp (s' := ⟨30, [(1, some (.pv (.vs 7 (List.map eGClass [({ fName := [65], fParams := [], fSuper := [], fAbove := [], fFields := [], fMethods := [], fAt := 0 } : GClass)]))))], [], 0, [], [], 0, []⟩) (imps [] ⟨by kernel_rfl, trivial⟩ trivial) ?_
  refine post_next ?_
  refine aw_seq ?_
  refine aw_region ?_
  refine reg_cons (guard_no rfl) (op_build (zs := (eGOwner zGOwner)) (r := eGOwner ({ fKind := 1, fN := 0 } : GOwner)) rfl Try_zer_24 (by exact ⟨rfl, rfl, trivial⟩) Try_plc_24 rfl rfl rfl rfl) ?_
  refine reg_cons (guard_no rfl) (op_buildArr (zs := ((eA4 eGOwner) (⟨zGOwner, zGOwner, zGOwner, zGOwner⟩ : A4 GOwner))) (r := (eA4 eGOwner) (⟨({ fKind := 1, fN := 0 } : GOwner), zGOwner, zGOwner, zGOwner⟩ : A4 GOwner)) rfl Try_zer_25 (by exact ⟨rfl, rfl, rfl, rfl, rfl, rfl, rfl, rfl, trivial⟩) Try_arr_25 rfl rfl rfl rfl) ?_
  refine reg_cons (guard_no rfl) (op_build (zs := (eGType zGType)) (r := eGType ({ fKind := 2, fClass := [65], fN := 0, fOwn := (⟨({ fKind := 1, fN := 0 } : GOwner), zGOwner, zGOwner, zGOwner⟩ : A4 GOwner) } : GType)) rfl Try_zer_27 (by exact ⟨rfl, rfl, rfl, rfl, rfl, rfl, rfl, rfl, rfl, rfl, rfl, trivial⟩) Try_plc_27 rfl rfl rfl rfl) ?_
  refine reg_cons (guard_no rfl) (op_build (zs := (eGView_adapt zGView_adapt)) (r := eGView_adapt ({ fMode := 1, fObject := ({ fKind := 2, fClass := [65], fN := 0, fOwn := (⟨({ fKind := 1, fN := 0 } : GOwner), zGOwner, zGOwner, zGOwner⟩ : A4 GOwner) } : GType), fThis := false } : GView_adapt)) rfl Try_zer_47 (by exact ⟨rfl, rfl, rfl, rfl, rfl, rfl, rfl, rfl, rfl, rfl, rfl, rfl, rfl, trivial⟩) Try_plc_47 rfl rfl rfl rfl) ?_
  refine reg_cons (guard_no rfl) (op_alloc 0 rfl (ps := (eGView_adapt zGView_adapt)) rfl Try_zer_47 (by exact ⟨rfl, rfl, rfl, rfl, rfl, rfl, rfl, rfl, rfl, rfl, rfl, rfl, rfl, trivial⟩) rfl rfl) ?_
  refine reg_cons (guard_no rfl) (op_store_lp (n := 13) rfl rfl rfl rfl rfl (or_agg Try_agg_47) (by rw [Try_non_47]; rfl) rfl rfl rfl) ?_
  refine reg_nil ?_
  refine post_imp (s' := ⟨30, [(1, some (.pv (.vs 7 (List.map eGClass [({ fName := [65], fParams := [], fSuper := [], fAbove := [], fFields := [], fMethods := [], fAt := 0 } : GClass)])))), (2, some (.lp 0 0))], [(0, some (.box 47 (bxv (eGView_adapt ({ fMode := 1, fObject := ({ fKind := 2, fClass := [65], fN := 0, fOwn := (⟨({ fKind := 1, fN := 0 } : GOwner), zGOwner, zGOwner, zGOwner⟩ : A4 GOwner) } : GType), fThis := false } : GView_adapt)))))], 1, [], [], 0, []⟩) (imps [0] ⟨by kernel_rfl, by kernel_rfl, trivial⟩ ⟨by kernel_rfl, trivial⟩) ?_
  refine post_next ?_
  refine aw_seq ?_
  refine aw_region ?_
  refine reg_cons (guard_no rfl) (op_build (zs := (eGOwner zGOwner)) (r := eGOwner ({ fKind := 2, fN := 0 } : GOwner)) rfl Try_zer_24 (by exact ⟨rfl, rfl, trivial⟩) Try_plc_24 rfl rfl rfl rfl) ?_
  refine reg_cons (guard_no rfl) (op_buildArr (zs := ((eA4 eGOwner) (⟨zGOwner, zGOwner, zGOwner, zGOwner⟩ : A4 GOwner))) (r := (eA4 eGOwner) (⟨({ fKind := 2, fN := 0 } : GOwner), zGOwner, zGOwner, zGOwner⟩ : A4 GOwner)) rfl Try_zer_25 (by exact ⟨rfl, rfl, rfl, rfl, rfl, rfl, rfl, rfl, trivial⟩) Try_arr_25 rfl rfl rfl rfl) ?_
  refine reg_cons (guard_no rfl) (op_build (zs := (eGType zGType)) (r := eGType ({ fKind := 2, fClass := [66], fN := 0, fOwn := (⟨({ fKind := 2, fN := 0 } : GOwner), zGOwner, zGOwner, zGOwner⟩ : A4 GOwner) } : GType)) rfl Try_zer_27 (by exact ⟨rfl, rfl, rfl, rfl, rfl, rfl, rfl, rfl, rfl, rfl, rfl, trivial⟩) Try_plc_27 rfl rfl rfl rfl) ?_
  refine reg_cons (guard_no rfl) (op_alloc 1 rfl (ps := (eGType zGType)) rfl Try_zer_27 (by exact ⟨rfl, rfl, rfl, rfl, rfl, rfl, rfl, rfl, rfl, rfl, rfl, trivial⟩) rfl rfl) ?_
  refine reg_cons (guard_no rfl) (op_store_lp (n := 11) rfl rfl rfl rfl rfl (or_agg Try_agg_27) (by rw [Try_non_27]; rfl) rfl rfl rfl) ?_
  refine reg_nil ?_
  refine post_imp (s' := ⟨30, [(1, some (.pv (.vs 7 (List.map eGClass [({ fName := [65], fParams := [], fSuper := [], fAbove := [], fFields := [], fMethods := [], fAt := 0 } : GClass)])))), (2, some (.lp 0 0)), (3, some (.lp 1 0))], [(0, some (.box 47 (bxv (eGView_adapt ({ fMode := 1, fObject := ({ fKind := 2, fClass := [65], fN := 0, fOwn := (⟨({ fKind := 1, fN := 0 } : GOwner), zGOwner, zGOwner, zGOwner⟩ : A4 GOwner) } : GType), fThis := false } : GView_adapt))))), (1, some (.box 27 (bxv (eGType ({ fKind := 2, fClass := [66], fN := 0, fOwn := (⟨({ fKind := 2, fN := 0 } : GOwner), zGOwner, zGOwner, zGOwner⟩ : A4 GOwner) } : GType)))))], 2, [], [], 0, []⟩) (imps [0, 1] ⟨by kernel_rfl, by kernel_rfl, by kernel_rfl, trivial⟩ ⟨by kernel_rfl, by kernel_rfl, trivial⟩) ?_
  refine post_next ?_
  refine aw_seq ?_
  refine aw_region ?_
  refine reg_cons (guard_no rfl) (op_build (zs := (eGOwner zGOwner)) (r := eGOwner ({ fKind := 1, fN := 0 } : GOwner)) rfl Try_zer_24 (by exact ⟨rfl, rfl, trivial⟩) Try_plc_24 rfl rfl rfl rfl) ?_
  refine reg_cons (guard_no rfl) (op_buildArr (zs := ((eA4 eGOwner) (⟨zGOwner, zGOwner, zGOwner, zGOwner⟩ : A4 GOwner))) (r := (eA4 eGOwner) (⟨({ fKind := 1, fN := 0 } : GOwner), zGOwner, zGOwner, zGOwner⟩ : A4 GOwner)) rfl Try_zer_25 (by exact ⟨rfl, rfl, rfl, rfl, rfl, rfl, rfl, rfl, trivial⟩) Try_arr_25 rfl rfl rfl rfl) ?_
  refine reg_cons (guard_no rfl) (op_build (zs := (eGType zGType)) (r := eGType ({ fKind := 2, fClass := [66], fN := 0, fOwn := (⟨({ fKind := 1, fN := 0 } : GOwner), zGOwner, zGOwner, zGOwner⟩ : A4 GOwner) } : GType)) rfl Try_zer_27 (by exact ⟨rfl, rfl, rfl, rfl, rfl, rfl, rfl, rfl, rfl, rfl, rfl, trivial⟩) Try_plc_27 rfl rfl rfl rfl) ?_
  refine reg_cons (guard_no rfl) (op_alloc 2 rfl (ps := (eGType zGType)) rfl Try_zer_27 (by exact ⟨rfl, rfl, rfl, rfl, rfl, rfl, rfl, rfl, rfl, rfl, rfl, trivial⟩) rfl rfl) ?_
  refine reg_cons (guard_no rfl) (op_store_lp (n := 11) rfl rfl rfl rfl rfl (or_agg Try_agg_27) (by rw [Try_non_27]; rfl) rfl rfl rfl) ?_
  refine reg_nil ?_
  refine post_imp (s' := ⟨30, [(1, some (.pv (.vs 7 (List.map eGClass [({ fName := [65], fParams := [], fSuper := [], fAbove := [], fFields := [], fMethods := [], fAt := 0 } : GClass)])))), (2, some (.lp 0 0)), (3, some (.lp 1 0)), (4, some (.lp 2 0))], [(0, some (.box 47 (bxv (eGView_adapt ({ fMode := 1, fObject := ({ fKind := 2, fClass := [65], fN := 0, fOwn := (⟨({ fKind := 1, fN := 0 } : GOwner), zGOwner, zGOwner, zGOwner⟩ : A4 GOwner) } : GType), fThis := false } : GView_adapt))))), (1, some (.box 27 (bxv (eGType ({ fKind := 2, fClass := [66], fN := 0, fOwn := (⟨({ fKind := 2, fN := 0 } : GOwner), zGOwner, zGOwner, zGOwner⟩ : A4 GOwner) } : GType))))), (2, some (.box 27 (bxv (eGType ({ fKind := 2, fClass := [66], fN := 0, fOwn := (⟨({ fKind := 1, fN := 0 } : GOwner), zGOwner, zGOwner, zGOwner⟩ : A4 GOwner) } : GType)))))], 3, [], [], 0, []⟩) (imps [0, 1, 2] ⟨by kernel_rfl, by kernel_rfl, by kernel_rfl, by kernel_rfl, trivial⟩ ⟨by kernel_rfl, by kernel_rfl, by kernel_rfl, trivial⟩) ?_
  refine post_next ?_
  refine aw_seq ?_
  refine dr_start ⟨_, _, _⟩ rfl ?_
  refine drm ?_
  refine dr_cons { need := [(2, .lp 0 0)], hneed := [(0, .box 47 (bxv (eGView_adapt ({ fMode := 1, fObject := ({ fKind := 2, fClass := [65], fN := 0, fOwn := (⟨({ fKind := 1, fN := 0 } : GOwner), zGOwner, zGOwner, zGOwner⟩ : A4 GOwner) } : GType), fThis := false } : GView_adapt))))], dst := some 18, val := some (.pv (.agg (eGView_adapt ({ fMode := 1, fObject := ({ fKind := 2, fClass := [65], fN := 0, fOwn := (⟨({ fKind := 1, fN := 0 } : GOwner), zGOwner, zGOwner, zGOwner⟩ : A4 GOwner) } : GType), fThis := false } : GView_adapt)))) } (fun m h => step_on (guard_no rfl) (op_load_lp_agg (ps := eGView_adapt ({ fMode := 1, fObject := ({ fKind := 2, fClass := [65], fN := 0, fOwn := (⟨({ fKind := 1, fN := 0 } : GOwner), zGOwner, zGOwner, zGOwner⟩ : A4 GOwner) } : GType), fThis := false } : GView_adapt)) rfl h.1.1 h.2.1.1 rfl rfl rfl Try_agg_47 rfl rfl) rfl) ⟨⟨rfl, trivial⟩, ⟨rfl, trivial⟩, trivial⟩ ?_
  refine dr_cons { need := [(3, .lp 1 0)], hneed := [(1, .box 27 (bxv (eGType ({ fKind := 2, fClass := [66], fN := 0, fOwn := (⟨({ fKind := 2, fN := 0 } : GOwner), zGOwner, zGOwner, zGOwner⟩ : A4 GOwner) } : GType))))], dst := some 19, val := some (.pv (.agg (eGType ({ fKind := 2, fClass := [66], fN := 0, fOwn := (⟨({ fKind := 2, fN := 0 } : GOwner), zGOwner, zGOwner, zGOwner⟩ : A4 GOwner) } : GType)))) } (fun m h => step_on (guard_no rfl) (op_load_lp_agg (ps := eGType ({ fKind := 2, fClass := [66], fN := 0, fOwn := (⟨({ fKind := 2, fN := 0 } : GOwner), zGOwner, zGOwner, zGOwner⟩ : A4 GOwner) } : GType)) rfl h.1.1 h.2.1.1 rfl rfl rfl Try_agg_27 rfl rfl) rfl) ⟨⟨rfl, trivial⟩, ⟨rfl, trivial⟩, trivial⟩ ?_
  obtain ⟨y1, h2, hF⟩ := bind_some hF
  refine dr_cons { need := [(19, .pv (.agg (eGType ({ fKind := 2, fClass := [66], fN := 0, fOwn := (⟨({ fKind := 2, fN := 0 } : GOwner), zGOwner, zGOwner, zGOwner⟩ : A4 GOwner) } : GType)))), (18, .pv (.agg (eGView_adapt ({ fMode := 1, fObject := ({ fKind := 2, fClass := [65], fN := 0, fOwn := (⟨({ fKind := 1, fN := 0 } : GOwner), zGOwner, zGOwner, zGOwner⟩ : A4 GOwner) } : GType), fThis := false } : GView_adapt)))), (17, .pv (.vs 7 (List.map eGClass [({ fName := [65], fParams := [], fSuper := [], fAbove := [], fFields := [], fMethods := [], fAt := 0 } : GClass)])))], dst := some 20, val := some (.pv (.agg (eGType y1))) } (fun m h => step_on (guard_no rfl) (op_call 3 rfl (caps := []) (args := [.vs 7 (List.map eGClass [({ fName := [65], fParams := [], fSuper := [], fAbove := [], fFields := [], fMethods := [], fAt := 0 } : GClass)]), .agg (eGView_adapt ({ fMode := 1, fObject := ({ fKind := 2, fClass := [65], fN := 0, fOwn := (⟨({ fKind := 1, fN := 0 } : GOwner), zGOwner, zGOwner, zGOwner⟩ : A4 GOwner) } : GType), fThis := false } : GView_adapt)), .str [65], .agg (eGType ({ fKind := 2, fClass := [66], fN := 0, fOwn := (⟨({ fKind := 2, fN := 0 } : GOwner), zGOwner, zGOwner, zGOwner⟩ : A4 GOwner) } : GType))]) (rs := [.p (.agg (eGType y1))]) rfl rfl (evl_cons h.1.2.2.1 (evl_cons h.1.2.1 (evl_cons rfl (evl_cons h.1.1 evl_nil)))) Try_cal_18 (adapt_See_ok h2) rfl rfl rfl) rfl) ⟨⟨rfl, rfl, rfl, trivial⟩, trivial, trivial⟩ ?_
  refine dr_cons { need := [(4, .lp 2 0)], hneed := [(2, .box 27 (bxv (eGType ({ fKind := 2, fClass := [66], fN := 0, fOwn := (⟨({ fKind := 1, fN := 0 } : GOwner), zGOwner, zGOwner, zGOwner⟩ : A4 GOwner) } : GType))))], dst := some 21, val := some (.pv (.agg (eGType ({ fKind := 2, fClass := [66], fN := 0, fOwn := (⟨({ fKind := 1, fN := 0 } : GOwner), zGOwner, zGOwner, zGOwner⟩ : A4 GOwner) } : GType)))) } (fun m h => step_on (guard_no rfl) (op_load_lp_agg (ps := eGType ({ fKind := 2, fClass := [66], fN := 0, fOwn := (⟨({ fKind := 1, fN := 0 } : GOwner), zGOwner, zGOwner, zGOwner⟩ : A4 GOwner) } : GType)) rfl h.1.1 h.2.1.1 rfl rfl rfl Try_agg_27 rfl rfl) rfl) ⟨⟨rfl, trivial⟩, ⟨rfl, trivial⟩, trivial⟩ ?_
  refine dr_cons { need := [(20, .pv (.agg (eGType y1))), (21, .pv (.agg (eGType ({ fKind := 2, fClass := [66], fN := 0, fOwn := (⟨({ fKind := 1, fN := 0 } : GOwner), zGOwner, zGOwner, zGOwner⟩ : A4 GOwner) } : GType))))], dst := some 22, val := some (.pv (.bool (bGType y1 ({ fKind := 2, fClass := [66], fN := 0, fOwn := (⟨({ fKind := 1, fN := 0 } : GOwner), zGOwner, zGOwner, zGOwner⟩ : A4 GOwner) } : GType)))) } (fun m h => step_on (guard_no rfl) (op_eqAgg_eql (r := bGType y1 ({ fKind := 2, fClass := [66], fN := 0, fOwn := (⟨({ fKind := 1, fN := 0 } : GOwner), zGOwner, zGOwner, zGOwner⟩ : A4 GOwner) } : GType)) rfl h.1.1 h.1.2.1 Try_eqt_27 rfl rfl rfl rfl rfl) rfl) ⟨⟨rfl, rfl, trivial⟩, trivial, trivial⟩ ?_
  refine drm ?_
  rcases ite_some hF with ⟨hb3, hF⟩ | ⟨hb3, hF⟩
  · refine dr_cons { need := [(23, .pv (.bool (bGType y1 ({ fKind := 2, fClass := [66], fN := 0, fOwn := (⟨({ fKind := 1, fN := 0 } : GOwner), zGOwner, zGOwner, zGOwner⟩ : A4 GOwner) } : GType)))), (1, .pv (.vs 7 (List.map eGClass [({ fName := [65], fParams := [], fSuper := [], fAbove := [], fFields := [], fMethods := [], fAt := 0 } : GClass)])))], dst := some 24, val := some (.pv (.vs 7 (List.map eGClass [({ fName := [65], fParams := [], fSuper := [], fAbove := [], fFields := [], fMethods := [], fAt := 0 } : GClass)]))) } (fun m h => step_on (guard_on rfl rfl rfl h.1.1 hb3) (op_move rfl h.1.2.1 rfl rfl) rfl) ⟨⟨rfl, rfl, trivial⟩, trivial, trivial⟩ ?_
    refine dr_cons { need := [(23, .pv (.bool (bGType y1 ({ fKind := 2, fClass := [66], fN := 0, fOwn := (⟨({ fKind := 1, fN := 0 } : GOwner), zGOwner, zGOwner, zGOwner⟩ : A4 GOwner) } : GType)))), (2, .lp 0 0)], hneed := [(0, .box 47 (bxv (eGView_adapt ({ fMode := 1, fObject := ({ fKind := 2, fClass := [65], fN := 0, fOwn := (⟨({ fKind := 1, fN := 0 } : GOwner), zGOwner, zGOwner, zGOwner⟩ : A4 GOwner) } : GType), fThis := false } : GView_adapt))))], dst := some 25, val := some (.pv (.agg (eGView_adapt ({ fMode := 1, fObject := ({ fKind := 2, fClass := [65], fN := 0, fOwn := (⟨({ fKind := 1, fN := 0 } : GOwner), zGOwner, zGOwner, zGOwner⟩ : A4 GOwner) } : GType), fThis := false } : GView_adapt)))) } (fun m h => step_on (guard_on rfl rfl rfl h.1.1 hb3) (op_load_lp_agg (ps := eGView_adapt ({ fMode := 1, fObject := ({ fKind := 2, fClass := [65], fN := 0, fOwn := (⟨({ fKind := 1, fN := 0 } : GOwner), zGOwner, zGOwner, zGOwner⟩ : A4 GOwner) } : GType), fThis := false } : GView_adapt)) rfl h.1.2.1 h.2.1.1 rfl rfl rfl Try_agg_47 rfl rfl) rfl) ⟨⟨rfl, rfl, trivial⟩, ⟨rfl, trivial⟩, trivial⟩ ?_
    refine dr_cons { need := [(23, .pv (.bool (bGType y1 ({ fKind := 2, fClass := [66], fN := 0, fOwn := (⟨({ fKind := 1, fN := 0 } : GOwner), zGOwner, zGOwner, zGOwner⟩ : A4 GOwner) } : GType)))), (4, .lp 2 0)], hneed := [(2, .box 27 (bxv (eGType ({ fKind := 2, fClass := [66], fN := 0, fOwn := (⟨({ fKind := 1, fN := 0 } : GOwner), zGOwner, zGOwner, zGOwner⟩ : A4 GOwner) } : GType))))], dst := some 26, val := some (.pv (.agg (eGType ({ fKind := 2, fClass := [66], fN := 0, fOwn := (⟨({ fKind := 1, fN := 0 } : GOwner), zGOwner, zGOwner, zGOwner⟩ : A4 GOwner) } : GType)))) } (fun m h => step_on (guard_on rfl rfl rfl h.1.1 hb3) (op_load_lp_agg (ps := eGType ({ fKind := 2, fClass := [66], fN := 0, fOwn := (⟨({ fKind := 1, fN := 0 } : GOwner), zGOwner, zGOwner, zGOwner⟩ : A4 GOwner) } : GType)) rfl h.1.2.1 h.2.1.1 rfl rfl rfl Try_agg_27 rfl rfl) rfl) ⟨⟨rfl, rfl, trivial⟩, ⟨rfl, trivial⟩, trivial⟩ ?_
    obtain ⟨y4, h5, hF⟩ := bind_some hF
    refine dr_cons { need := [(23, .pv (.bool (bGType y1 ({ fKind := 2, fClass := [66], fN := 0, fOwn := (⟨({ fKind := 1, fN := 0 } : GOwner), zGOwner, zGOwner, zGOwner⟩ : A4 GOwner) } : GType)))), (26, .pv (.agg (eGType ({ fKind := 2, fClass := [66], fN := 0, fOwn := (⟨({ fKind := 1, fN := 0 } : GOwner), zGOwner, zGOwner, zGOwner⟩ : A4 GOwner) } : GType)))), (25, .pv (.agg (eGView_adapt ({ fMode := 1, fObject := ({ fKind := 2, fClass := [65], fN := 0, fOwn := (⟨({ fKind := 1, fN := 0 } : GOwner), zGOwner, zGOwner, zGOwner⟩ : A4 GOwner) } : GType), fThis := false } : GView_adapt)))), (24, .pv (.vs 7 (List.map eGClass [({ fName := [65], fParams := [], fSuper := [], fAbove := [], fFields := [], fMethods := [], fAt := 0 } : GClass)])))], dst := some 27, val := some (.pv (.agg (eGType y4))) } (fun m h => step_on (guard_on rfl rfl rfl h.1.1 hb3) (op_call 3 rfl (caps := []) (args := [.vs 7 (List.map eGClass [({ fName := [65], fParams := [], fSuper := [], fAbove := [], fFields := [], fMethods := [], fAt := 0 } : GClass)]), .agg (eGView_adapt ({ fMode := 1, fObject := ({ fKind := 2, fClass := [65], fN := 0, fOwn := (⟨({ fKind := 1, fN := 0 } : GOwner), zGOwner, zGOwner, zGOwner⟩ : A4 GOwner) } : GType), fThis := false } : GView_adapt)), .str [65], .agg (eGType ({ fKind := 2, fClass := [66], fN := 0, fOwn := (⟨({ fKind := 1, fN := 0 } : GOwner), zGOwner, zGOwner, zGOwner⟩ : A4 GOwner) } : GType))]) (rs := [.p (.agg (eGType y4))]) rfl rfl (evl_cons h.1.2.2.2.1 (evl_cons h.1.2.2.1 (evl_cons rfl (evl_cons h.1.2.1 evl_nil)))) Try_cal_18 (adapt_See_ok h5) rfl rfl rfl) rfl) ⟨⟨rfl, rfl, rfl, rfl, trivial⟩, trivial, trivial⟩ ?_
    obtain ⟨y6, h7, hF⟩ := bind_some hF
    refine dr_cons { need := [(23, .pv (.bool (bGType y1 ({ fKind := 2, fClass := [66], fN := 0, fOwn := (⟨({ fKind := 1, fN := 0 } : GOwner), zGOwner, zGOwner, zGOwner⟩ : A4 GOwner) } : GType)))), (27, .pv (.agg (eGType y4)))], dst := some 28, val := some (.pv (.bool y6)) } (fun m h => step_on (guard_on rfl rfl rfl h.1.1 hb3) (op_call 3 rfl (caps := []) (args := [.agg (eGType y4)]) (rs := [.p (.bool y6)]) rfl rfl (evl_cons h.1.2.1 evl_nil) Try_cal_23 (adapt_Hidden_ok h7) rfl rfl rfl) rfl) ⟨⟨rfl, rfl, trivial⟩, trivial, trivial⟩ ?_
    refine dr_cons { need := [(23, .pv (.bool (bGType y1 ({ fKind := 2, fClass := [66], fN := 0, fOwn := (⟨({ fKind := 1, fN := 0 } : GOwner), zGOwner, zGOwner, zGOwner⟩ : A4 GOwner) } : GType)))), (28, .pv (.bool y6))], dst := some 29, val := some (.pv (.bool y6)) } (fun m h => step_on (guard_no rfl) (op_pick_t rfl h.1.1 hb3 h.1.2.1 rfl rfl) rfl) ⟨⟨rfl, rfl, trivial⟩, trivial, trivial⟩ ?_
    refine dr_cons { need := [(29, .pv (.bool y6))], dst := some 0, val := some (.pv (.bool y6)) } (fun m h => step_on (guard_no rfl) (op_assign rfl h.1.1 rfl rfl) rfl) ⟨⟨rfl, trivial⟩, trivial, trivial⟩ ?_
    refine dr_nil Try_mixed rfl (by kernel_rfl) ?_
    refine post_imp (s' := ⟨30, [(0, some (.pv (.bool y6)))], [], 0, [], [], 0, []⟩) (imps [] ⟨by kernel_rfl, trivial⟩ trivial) ?_
    refine post_next ?_
    refine aw_ret ?_
    obtain rfl := Option.some.inj hF
    exact post_ret rfl rfl (.cons _ _ _ _ _ (.tmp _ _ rfl) (.p _) .nil) (.inl rfl)
  iterate 5 (refine dro_f hb3 ?_)
  refine drpf hb3 ?_
  refine dr_cons { need := [(29, .pv (.bool false))], dst := some 0, val := some (.pv (.bool false)) } (fun m h => step_on (guard_no rfl) (op_assign rfl h.1.1 rfl rfl) rfl) ⟨⟨rfl, trivial⟩, trivial, trivial⟩ ?_
  refine dr_nil Try_mixed rfl (by kernel_rfl) ?_
  refine post_imp (s' := ⟨30, [(0, some (.pv (.bool false)))], [], 0, [], [], 0, []⟩) (imps [] ⟨by kernel_rfl, trivial⟩ trivial) ?_
  refine post_next ?_
  refine aw_ret ?_
  obtain rfl := Option.some.inj hF
  exact post_ret rfl rfl (.cons _ _ _ _ _ (.tmp _ _ rfl) (.p _) .nil) (.inl rfl)
theorem adapt_Read_ok {a0 : List GClass} {a1 : GView_adapt} {a2 : List UInt8} {a3 : GType} {r : GType} (hF : adapt_Read a0 a1 a2 a3 = some r) : Abs.Fn Try.prog 19 [.vs 7 (List.map eGClass a0), .agg (eGView_adapt a1), .str a2, .agg (eGType a3)] [.p (.agg (eGType r))] := by
  unfold adapt_Read at hF
  refine fn_of_body (n := 39) Try.func19 rfl rfl rfl ?_
  intro w O
  refine aw_seq ?_
  refine aw_region ?_
  refine reg_cons (guard_no rfl) (op_box 0 rfl rfl rfl rfl rfl rfl) ?_
  refine reg_cons (guard_no rfl) (op_box 1 rfl rfl rfl rfl rfl rfl) ?_
  refine reg_cons (guard_no rfl) (op_alloc 2 rfl (ps := (eGType zGType)) rfl Try_zer_27 (by exact ⟨rfl, rfl, rfl, rfl, rfl, rfl, rfl, rfl, rfl, rfl, rfl, trivial⟩) rfl rfl) ?_
  refine reg_nil ?_
  refine post_imp (s' := ⟨39, [(0, some (.pv (.vs 7 (List.map eGClass a0)))), (2, some (.pv (.str a2))), (5, some (.lp 0 0)), (7, some (.lp 1 0)), (8, some (.lp 2 0))], [(0, some (.box 47 (bxv (eGView_adapt a1)))), (1, some (.box 27 (bxv (eGType a3)))), (2, some (.box 27 (bxv (eGType zGType))))], 3, [], [], 0, []⟩) (imps [0, 1, 2] ⟨by kernel_rfl, by kernel_rfl, by kernel_rfl, by kernel_rfl, by kernel_rfl, trivial⟩ ⟨by kernel_rfl, by kernel_rfl, by kernel_rfl, trivial⟩) ?_
  refine post_next ?_
  refine aw_seq ?_
  refine aw_region ?_
  refine rmv ?_
  refine reg_cons (guard_no rfl) (op_load_lp_agg (ps := eGView_adapt a1) rfl rfl rfl rfl rfl rfl Try_agg_47 rfl rfl) ?_
  refine rmv ?_
  refine reg_cons (guard_no rfl) (op_load_lp_agg (ps := eGType a3) rfl rfl rfl rfl rfl rfl Try_agg_27 rfl rfl) ?_
  obtain ⟨y3, h4, hF⟩ := bind_some hF
  refine reg_cons (guard_no rfl) (op_call 3 rfl (caps := []) (args := [.vs 7 (List.map eGClass a0), .agg (eGView_adapt a1), .str a2, .agg (eGType a3)]) (rs := [.p (.agg (eGType y3))]) rfl rfl rfl Try_cal_18 (adapt_See_ok h4) rfl rfl rfl) ?_
  refine reg_cons (guard_no rfl) (op_store_lp (n := 11) rfl rfl rfl rfl rfl (or_agg Try_agg_27) (by rw [Try_non_27]; rfl) rfl rfl rfl) ?_
  refine reg_nil ?_
  refine post_imp (s' := ⟨39, [(5, some (.lp 0 0)), (7, some (.lp 1 0)), (8, some (.lp 2 0))], [(0, some (.box 47 (bxv (eGView_adapt a1)))), (1, some (.box 27 (bxv (eGType y3)))), (2, some (.box 27 (bxv (eGType zGType))))], 3, [], [], 0, []⟩) (imps [0, 1, 2] ⟨by kernel_rfl, by kernel_rfl, by kernel_rfl, trivial⟩ ⟨by kernel_rfl, by kernel_rfl, by kernel_rfl, trivial⟩) ?_
  refine post_next ?_
  iterate 2 (refine aw_seq ?_)
  obtain ⟨x10, hF, hK12⟩ := bind_some hF
  refine aw_cut (fun s1 => s1 = ⟨39, [(7, some (.lp 0 0)), (8, some (.lp 1 0)), (34, some (.pv (.bool x10)))], [(0, some (.box 27 (bxv (eGType y3)))), (1, some (.box 27 (bxv (eGType zGType))))], 2, [], [], 0, []⟩) ?_ ?_
  · refine aw_region ?_
    refine reg_cons (guard_no rfl) (op_field_lp rfl rfl Try_fld_27_0 rfl rfl) ?_
    refine reg_cons (guard_no rfl) (op_load_lp (v := .pv (.int .i64 y3.fKind)) rfl rfl rfl rfl Try_one_3 rfl rfl) ?_
    refine reg_cons (guard_no rfl) (op_int (k := .i64) (m := y3.fKind) (n := 2) rfl rfl rfl rfl rfl rfl) ?_
    refine rmv ?_
    rcases ite_some hF with ⟨hb5, hF⟩ | ⟨hb5, hF⟩
    · refine reg_cons (guard_on rfl rfl rfl rfl hb5) (op_field_lp rfl rfl Try_fld_47_0 rfl rfl) ?_
      refine reg_cons (guard_on rfl rfl rfl rfl hb5) (op_load_lp (v := .pv (.int .i64 a1.fMode)) rfl rfl rfl rfl Try_one_3 rfl rfl) ?_
      refine reg_cons (guard_on rfl rfl rfl rfl hb5) (op_int (k := .i64) (m := a1.fMode) (n := 2) rfl rfl rfl rfl rfl rfl) ?_
      refine rpt hb5 ?_
      refine rmv ?_
      rcases ite_some hF with ⟨hb6, hF⟩ | ⟨hb6, hF⟩
      · refine reg_cons (guard_on rfl rfl rfl rfl hb6) (op_field_lp rfl rfl Try_fld_47_1 rfl rfl) ?_
        refine reg_cons (guard_on rfl rfl rfl rfl hb6) (op_load_lp_agg (ps := eGType a1.fObject) rfl rfl rfl rfl rfl rfl Try_agg_27 rfl rfl) ?_
        obtain ⟨y7, h8, hF⟩ := bind_some hF
        refine reg_cons (guard_on rfl rfl rfl rfl hb6) (op_call 3 rfl (caps := []) (args := [.agg (eGType a1.fObject)]) (rs := [.p (.bool y7)]) rfl rfl rfl Try_cal_46 (kind_Unique_ok h8) rfl rfl rfl) ?_
        refine reg_cons (guard_on rfl rfl rfl rfl hb6) (op_not rfl rfl rfl rfl) ?_
        refine rpt hb6 ?_
        refine rmv ?_
        rcases ite_some hF with ⟨hb9, hF⟩ | ⟨hb9, hF⟩
        · refine reg_cons (guard_on rfl rfl rfl rfl hb9) (op_field_lp rfl rfl Try_fld_27_3 rfl rfl) ?_
          refine reg_cons (guard_on rfl rfl rfl rfl hb9) (op_arr_lp (k := .i64) (m := 0) (n := 4) rfl rfl rfl Try_arr_25 rfl rfl rfl rfl) ?_
          refine reg_cons (guard_on rfl rfl rfl rfl hb9) (op_field_lp rfl rfl Try_fld_24_0 rfl rfl) ?_
          refine reg_cons (guard_on rfl rfl rfl rfl hb9) (op_load_lp (v := .pv (.int .i64 y3.fOwn.a0.fKind)) rfl rfl rfl rfl Try_one_3 rfl rfl) ?_
          refine reg_cons (guard_on rfl rfl rfl rfl hb9) (op_int (k := .i64) (m := y3.fOwn.a0.fKind) (n := 8) rfl rfl rfl rfl rfl rfl) ?_
          refine rpt hb9 ?_
          refine reg_nil ?_
          cases hF
          exact post_cut _ rfl (imps [1, 2] ⟨by kernel_rfl, by kernel_rfl, by kernel_rfl, trivial⟩ ⟨by kernel_rfl, by kernel_rfl, trivial⟩)
        iterate 5 (refine rgo_f hb9 ?_)
        refine rpf hb9 ?_
        refine reg_nil ?_
        cases hF
        exact post_cut _ rfl (imps [1, 2] ⟨by kernel_rfl, by kernel_rfl, by kernel_rfl, trivial⟩ ⟨by kernel_rfl, by kernel_rfl, trivial⟩)
      iterate 4 (refine rgo_f hb6 ?_)
      refine rpf hb6 ?_
      refine rmv ?_
      iterate 5 (refine rgo_f rfl ?_)
      refine rpf rfl ?_
      refine reg_nil ?_
      cases hF
      exact post_cut _ rfl (imps [1, 2] ⟨by kernel_rfl, by kernel_rfl, by kernel_rfl, trivial⟩ ⟨by kernel_rfl, by kernel_rfl, trivial⟩)
    iterate 3 (refine rgo_f hb5 ?_)
    refine rpf hb5 ?_
    refine rmv ?_
    iterate 4 (refine rgo_f rfl ?_)
    refine rpf rfl ?_
    refine rmv ?_
    iterate 5 (refine rgo_f rfl ?_)
    refine rpf rfl ?_
    refine reg_nil ?_
    cases hF
    exact post_cut _ rfl (imps [1, 2] ⟨by kernel_rfl, by kernel_rfl, by kernel_rfl, trivial⟩ ⟨by kernel_rfl, by kernel_rfl, trivial⟩)
  rintro _ rfl
  have hF := hK12
  clear hK12
  refine post_next ?_
  rcases ite_some hF with ⟨hb13, hF⟩ | ⟨hb13, hF⟩
  · refine aw_cond_t rfl hb13 ?_
    refine aw_region ?_
    refine reg_cons (guard_no rfl) (op_build (zs := (eGOwner zGOwner)) (r := eGOwner ({ fKind := 5, fN := 0 } : GOwner)) rfl Try_zer_24 (by exact ⟨rfl, rfl, trivial⟩) Try_plc_24 rfl rfl rfl rfl) ?_
    refine reg_cons (guard_no rfl) (op_field_lp rfl rfl Try_fld_27_3 rfl rfl) ?_
    refine reg_cons (guard_no rfl) (op_arr_lp (k := .i64) (m := 0) (n := 4) rfl rfl rfl Try_arr_25 rfl rfl rfl rfl) ?_
    refine reg_cons (guard_no rfl) (op_store_lp (n := 2) rfl rfl rfl rfl rfl (or_agg Try_agg_24) (by rw [Try_non_24]; rfl) rfl rfl rfl) ?_
    refine reg_nil ?_
    refine post_imp (s' := ⟨39, [(7, some (.lp 0 0)), (8, some (.lp 1 0))], [(0, some (.box 27 (bxv (eGType ({ y3 with fOwn := ({ y3.fOwn with a0 := ({ fKind := 5, fN := 0 } : GOwner) } : A4 GOwner) } : GType))))), (1, some (.box 27 (bxv (eGType zGType))))], 2, [], [], 0, []⟩) (imps [0, 1] ⟨by kernel_rfl, by kernel_rfl, trivial⟩ ⟨by kernel_rfl, by kernel_rfl, trivial⟩) ?_
    refine post_next ?_
    refine aw_seq ?_
    refine aw_region ?_
    refine reg_cons (guard_no rfl) (op_load_lp_agg (ps := eGType ({ y3 with fOwn := ({ y3.fOwn with a0 := ({ fKind := 5, fN := 0 } : GOwner) } : A4 GOwner) } : GType)) rfl rfl rfl rfl rfl rfl Try_agg_27 rfl rfl) ?_
    refine reg_cons (guard_no rfl) (op_store_lp (n := 11) rfl rfl rfl rfl rfl (or_agg Try_agg_27) (by rw [Try_non_27]; rfl) rfl rfl rfl) ?_
    refine reg_nil ?_
    refine post_imp (s' := ⟨39, [(8, some (.lp 0 0))], [(0, some (.box 27 (bxv (eGType ({ y3 with fOwn := ({ y3.fOwn with a0 := ({ fKind := 5, fN := 0 } : GOwner) } : A4 GOwner) } : GType)))))], 1, [], [], 0, []⟩) (imps [1] ⟨by kernel_rfl, trivial⟩ ⟨by kernel_rfl, trivial⟩) ?_
    refine post_next ?_
    refine aw_ret ?_
    obtain rfl := Option.some.inj hF
    exact post_ret rfl rfl (.cons _ _ _ _ _ (.agg _ _ _ _ _ 11 _ _ rfl rfl Try_agg_27 rfl rfl rfl) (.p _) .nil) (.inl rfl)
  refine aw_cond_f rfl hb13 ?_
  refine aw_skip ?_
  refine post_next ?_
  refine aw_seq ?_
  refine aw_region ?_
  refine reg_cons (guard_no rfl) (op_load_lp_agg (ps := eGType y3) rfl rfl rfl rfl rfl rfl Try_agg_27 rfl rfl) ?_
  refine reg_cons (guard_no rfl) (op_store_lp (n := 11) rfl rfl rfl rfl rfl (or_agg Try_agg_27) (by rw [Try_non_27]; rfl) rfl rfl rfl) ?_
  refine reg_nil ?_
  refine post_imp (s' := ⟨39, [(8, some (.lp 0 0))], [(0, some (.box 27 (bxv (eGType y3))))], 1, [], [], 0, []⟩) (imps [1] ⟨by kernel_rfl, trivial⟩ ⟨by kernel_rfl, trivial⟩) ?_
  refine post_next ?_
  refine aw_ret ?_
  obtain rfl := Option.some.inj hF
  exact post_ret rfl rfl (.cons _ _ _ _ _ (.agg _ _ _ _ _ 11 _ _ rfl rfl Try_agg_27 rfl rfl rfl) (.p _) .nil) (.inl rfl)
theorem law26_AdaptShown_ok {a0 : List GClass} {a1 : GType} {a2 : GType} {r : Bool} (hF : law26_AdaptShown a0 a1 a2 = some r) : Abs.Fn Try.prog 5 [.vs 7 (List.map eGClass a0), .agg (eGType a1), .agg (eGType a2)] [.p (.bool r)] := by
  unfold law26_AdaptShown at hF
  refine fn_of_body (n := 130) Try.func5 rfl rfl rfl ?_
  intro w O
  refine aw_seq ?_
  refine aw_region ?_
  refine reg_cons (guard_no rfl) (op_box 0 rfl rfl rfl rfl rfl rfl) ?_
  refine reg_cons (guard_no rfl) (op_box 1 rfl rfl rfl rfl rfl rfl) ?_
  refine ras ?_
  refine reg_nil ?_
  refine post_imp (s' := ⟨130, [(0, some (.pv (.vs 7 (List.map eGClass a0)))), (4, some (.lp 0 0)), (5, some (.lp 1 0))], [(0, some (.box 27 (bxv (eGType a1)))), (1, some (.box 27 (bxv (eGType a2))))], 2, [], [], 0, []⟩) (imps [0, 1] ⟨by kernel_rfl, by kernel_rfl, by kernel_rfl, trivial⟩ ⟨by kernel_rfl, by kernel_rfl, trivial⟩) ?_
  refine post_next ?_
  refine aw_seq ?_
  refine aw_region ?_
  refine rmv ?_
  refine reg_cons (guard_no rfl) (op_field_lp rfl rfl Try_fld_27_1 rfl rfl) ?_
  refine reg_cons (guard_no rfl) (op_load_lp (v := .pv (.str a1.fClass)) rfl rfl rfl rfl Try_one_9 rfl rfl) ?_
  obtain ⟨y3, h4, hF⟩ := bind_some hF
  refine reg_cons (guard_no rfl) (op_call 2 rfl (caps := []) (args := [.vs 7 (List.map eGClass a0), .str a1.fClass]) (rs := [.p (.int .i64 y3)]) rfl rfl rfl Try_cal_13 (ref13_Find_ok h4) rfl rfl rfl) ?_
  refine ras ?_
  refine reg_nil ?_
  refine post_imp (s' := ⟨130, [(0, some (.pv (.vs 7 (List.map eGClass a0)))), (4, some (.lp 0 0)), (5, some (.lp 1 0)), (7, some (.pv (.int .i64 y3)))], [(0, some (.box 27 (bxv (eGType a1)))), (1, some (.box 27 (bxv (eGType a2))))], 2, [], [], 0, []⟩) (imps [0, 1] ⟨by kernel_rfl, by kernel_rfl, by kernel_rfl, by kernel_rfl, trivial⟩ ⟨by kernel_rfl, by kernel_rfl, trivial⟩) ?_
  refine post_next ?_
  iterate 2 (refine aw_seq ?_)
  obtain ⟨x28, hF, hK30⟩ := bind_some hF
  refine aw_cut (fun s1 => s1 = ⟨130, [(0, some (.pv (.vs 7 (List.map eGClass a0)))), (4, some (.lp 0 0)), (5, some (.lp 1 0)), (66, some (.pv (.bool x28)))], [(0, some (.box 27 (bxv (eGType a1)))), (1, some (.box 27 (bxv (eGType a2))))], 2, [], [], 0, []⟩) ?_ ?_
  · refine dr_start ⟨_, _, _⟩ rfl ?_
    refine drm ?_
    obtain ⟨y7, h8, hF⟩ := bind_some hF
    refine dr_cons { need := [(17, .pv (.vs 7 (List.map eGClass a0)))], dst := some 18, val := some (.pv (.bool y7)) } (fun m h => step_on (guard_no rfl) (op_call 2 rfl (caps := []) (args := [.vs 7 (List.map eGClass a0)]) (rs := [.p (.bool y7)]) rfl rfl (evl_cons h.1.1 evl_nil) Try_cal_14 (law26_great_ok h8) rfl rfl rfl) rfl) ⟨⟨rfl, trivial⟩, trivial, trivial⟩ ?_
    refine drm ?_
    rcases ite_some hF with ⟨hb9, hF⟩ | ⟨hb9, hF⟩
    · refine dro_t hb9 ?_
      refine dro_t hb9 ?_
      refine drpt hb9 ?_
      refine drm ?_
      iterate 7 (refine dro_t rfl ?_)
      refine drpt rfl ?_
      refine drm ?_
      iterate 3 (refine dro_t rfl ?_)
      refine drpt rfl ?_
      refine drm ?_
      iterate 9 (refine dro_t rfl ?_)
      refine drpt rfl ?_
      refine drm ?_
      iterate 2 (refine dro_t rfl ?_)
      refine drpt rfl ?_
      refine drm ?_
      iterate 9 (refine dro_t rfl ?_)
      refine drpt rfl ?_
      refine drm ?_
      iterate 2 (refine dro_t rfl ?_)
      refine drpt rfl ?_
      refine dr_nil Try_mixed rfl (by kernel_rfl) ?_
      refine post_imp (s' := ⟨130, [(0, some (.pv (.vs 7 (List.map eGClass a0)))), (4, some (.lp 0 0)), (5, some (.lp 1 0)), (66, some (.pv (.bool true)))], [(0, some (.box 27 (bxv (eGType a1)))), (1, some (.box 27 (bxv (eGType a2))))], 2, [], [], 0, []⟩) (imps [0, 1] ⟨by kernel_rfl, by kernel_rfl, by kernel_rfl, by kernel_rfl, trivial⟩ ⟨by kernel_rfl, by kernel_rfl, trivial⟩) ?_
      cases hF
      exact post_cut _ rfl (imps [0, 1] ⟨by kernel_rfl, by kernel_rfl, by kernel_rfl, by kernel_rfl, trivial⟩ ⟨by kernel_rfl, by kernel_rfl, trivial⟩)
    refine dr_cons { need := [(19, .pv (.bool y7)), (7, .pv (.int .i64 y3))], dst := some 20, val := some (.pv (.int .i64 y3)) } (fun m h => step_on (guard_on rfl rfl rfl h.1.1 hb9) (op_move rfl h.1.2.1 rfl rfl) rfl) ⟨⟨rfl, rfl, trivial⟩, trivial, trivial⟩ ?_
    refine dr_cons { need := [(19, .pv (.bool y7)), (20, .pv (.int .i64 y3))], dst := some 21, val := some (.pv (.bool (decide (y3 < 0)))) } (fun m h => step_on (guard_on rfl rfl rfl h.1.1 hb9) (op_int (k := .i64) (m := y3) (n := 0) rfl h.1.2.1 rfl rfl rfl rfl) rfl) ⟨⟨rfl, rfl, trivial⟩, trivial, trivial⟩ ?_
    refine dr_cons { need := [(19, .pv (.bool y7)), (21, .pv (.bool (decide (y3 < 0))))], dst := some 22, val := some (.pv (.bool (decide (y3 < 0)))) } (fun m h => step_on (guard_no rfl) (op_pick_f rfl h.1.1 hb9 h.1.2.1 rfl rfl) rfl) ⟨⟨rfl, rfl, trivial⟩, trivial, trivial⟩ ?_
    refine drm ?_
    rcases ite_some hF with ⟨hb10, hF⟩ | ⟨hb10, hF⟩
    · refine dro_t hb10 ?_
      iterate 6 (refine dro_t hb10 ?_)
      refine drpt hb10 ?_
      refine drm ?_
      iterate 3 (refine dro_t rfl ?_)
      refine drpt rfl ?_
      refine drm ?_
      iterate 9 (refine dro_t rfl ?_)
      refine drpt rfl ?_
      refine drm ?_
      iterate 2 (refine dro_t rfl ?_)
      refine drpt rfl ?_
      refine drm ?_
      iterate 9 (refine dro_t rfl ?_)
      refine drpt rfl ?_
      refine drm ?_
      iterate 2 (refine dro_t rfl ?_)
      refine drpt rfl ?_
      refine dr_nil Try_mixed rfl (by kernel_rfl) ?_
      refine post_imp (s' := ⟨130, [(0, some (.pv (.vs 7 (List.map eGClass a0)))), (4, some (.lp 0 0)), (5, some (.lp 1 0)), (66, some (.pv (.bool true)))], [(0, some (.box 27 (bxv (eGType a1)))), (1, some (.box 27 (bxv (eGType a2))))], 2, [], [], 0, []⟩) (imps [0, 1] ⟨by kernel_rfl, by kernel_rfl, by kernel_rfl, by kernel_rfl, trivial⟩ ⟨by kernel_rfl, by kernel_rfl, trivial⟩) ?_
      cases hF
      exact post_cut _ rfl (imps [0, 1] ⟨by kernel_rfl, by kernel_rfl, by kernel_rfl, by kernel_rfl, trivial⟩ ⟨by kernel_rfl, by kernel_rfl, trivial⟩)
    refine dr_cons { need := [(23, .pv (.bool (decide (y3 < 0)))), (0, .pv (.vs 7 (List.map eGClass a0)))], dst := some 24, val := some (.pv (.vs 7 (List.map eGClass a0))) } (fun m h => step_on (guard_on rfl rfl rfl h.1.1 hb10) (op_move rfl h.1.2.1 rfl rfl) rfl) ⟨⟨rfl, rfl, trivial⟩, trivial, trivial⟩ ?_
    refine dr_cons { need := [(23, .pv (.bool (decide (y3 < 0)))), (7, .pv (.int .i64 y3))], dst := some 25, val := some (.pv (.int .i64 y3)) } (fun m h => step_on (guard_on rfl rfl rfl h.1.1 hb10) (op_move rfl h.1.2.1 rfl rfl) rfl) ⟨⟨rfl, rfl, trivial⟩, trivial, trivial⟩ ?_
    obtain ⟨y11, h12, hF⟩ := bind_some hF
    refine dr_cons { need := [(23, .pv (.bool (decide (y3 < 0)))), (24, .pv (.vs 7 (List.map eGClass a0))), (25, .pv (.int .i64 y3))], dst := some 26, val := some (.pv (.vp (eGClass y11))) } (fun m h => step_on (guard_on rfl rfl rfl h.1.1 hb10) (op_index_vs (k := .i64) rfl h.1.2.1 h.1.2.2.1 (idx_map eGClass h12) Try_slc_22 rfl rfl) rfl) ⟨⟨rfl, rfl, rfl, trivial⟩, trivial, trivial⟩ ?_
    refine dr_cons { need := [(23, .pv (.bool (decide (y3 < 0)))), (26, .pv (.vp (eGClass y11)))], dst := some 27, val := some (.pv (.vp (List.drop 1 (eGClass y11)))) } (fun m h => step_on (guard_on rfl rfl rfl h.1.1 hb10) (op_field_vp rfl h.1.2.1 Try_fld_43_1 rfl rfl) rfl) ⟨⟨rfl, rfl, trivial⟩, trivial, trivial⟩ ?_
    refine dr_cons { need := [(23, .pv (.bool (decide (y3 < 0)))), (27, .pv (.vp (List.drop 1 (eGClass y11))))], dst := some 28, val := some (.pv (.vs 1 (List.map eS y11.fParams))) } (fun m h => step_on (guard_on rfl rfl rfl h.1.1 hb10) (op_load_vp (p := .vs 1 (List.map eS y11.fParams)) rfl h.1.2.1 rfl Try_one_38 rfl rfl) rfl) ⟨⟨rfl, rfl, trivial⟩, trivial, trivial⟩ ?_
    refine dr_cons { need := [(23, .pv (.bool (decide (y3 < 0)))), (28, .pv (.vs 1 (List.map eS y11.fParams)))], dst := some 29, val := some (.pv (.int .i64 (y11.fParams.length : Int))) } (fun m h => step_on (guard_on rfl rfl rfl h.1.1 hb10) (op_len_vs (n := y11.fParams.length) rfl h.1.2.1 (List.length_map ..) Try_slc_38 rfl rfl) rfl) ⟨⟨rfl, rfl, trivial⟩, trivial, trivial⟩ ?_
    refine dr_cons { need := [(23, .pv (.bool (decide (y3 < 0)))), (29, .pv (.int .i64 (y11.fParams.length : Int)))], dst := some 30, val := some (.pv (.bool (decide ((y11.fParams.length : Int) > 3)))) } (fun m h => step_on (guard_on rfl rfl rfl h.1.1 hb10) (op_int (k := .i64) (m := (y11.fParams.length : Int)) (n := 3) rfl h.1.2.1 rfl rfl rfl rfl) rfl) ⟨⟨rfl, rfl, trivial⟩, trivial, trivial⟩ ?_
    refine dr_cons { need := [(23, .pv (.bool (decide (y3 < 0)))), (30, .pv (.bool (decide ((y11.fParams.length : Int) > 3))))], dst := some 31, val := some (.pv (.bool (decide ((y11.fParams.length : Int) > 3)))) } (fun m h => step_on (guard_no rfl) (op_pick_f rfl h.1.1 hb10 h.1.2.1 rfl rfl) rfl) ⟨⟨rfl, rfl, trivial⟩, trivial, trivial⟩ ?_
    refine drm ?_
    rcases ite_some hF with ⟨hb13, hF⟩ | ⟨hb13, hF⟩
    · refine dro_t hb13 ?_
      iterate 2 (refine dro_t hb13 ?_)
      refine drpt hb13 ?_
      refine drm ?_
      iterate 9 (refine dro_t rfl ?_)
      refine drpt rfl ?_
      refine drm ?_
      iterate 2 (refine dro_t rfl ?_)
      refine drpt rfl ?_
      refine drm ?_
      iterate 9 (refine dro_t rfl ?_)
      refine drpt rfl ?_
      refine drm ?_
      iterate 2 (refine dro_t rfl ?_)
      refine drpt rfl ?_
      refine dr_nil Try_mixed rfl (by kernel_rfl) ?_
      refine post_imp (s' := ⟨130, [(0, some (.pv (.vs 7 (List.map eGClass a0)))), (4, some (.lp 0 0)), (5, some (.lp 1 0)), (66, some (.pv (.bool true)))], [(0, some (.box 27 (bxv (eGType a1)))), (1, some (.box 27 (bxv (eGType a2))))], 2, [], [], 0, []⟩) (imps [0, 1] ⟨by kernel_rfl, by kernel_rfl, by kernel_rfl, by kernel_rfl, trivial⟩ ⟨by kernel_rfl, by kernel_rfl, trivial⟩) ?_
      cases hF
      exact post_cut _ rfl (imps [0, 1] ⟨by kernel_rfl, by kernel_rfl, by kernel_rfl, by kernel_rfl, trivial⟩ ⟨by kernel_rfl, by kernel_rfl, trivial⟩)
    refine dr_cons { need := [(32, .pv (.bool (decide ((y11.fParams.length : Int) > 3)))), (4, .lp 0 0)], dst := some 33, val := some (.lp 0 0) } (fun m h => step_on (guard_on rfl rfl rfl h.1.1 hb13) (op_field_lp rfl h.1.2.1 Try_fld_27_0 rfl rfl) rfl) ⟨⟨rfl, rfl, trivial⟩, trivial, trivial⟩ ?_
    refine dr_cons { need := [(32, .pv (.bool (decide ((y11.fParams.length : Int) > 3)))), (33, .lp 0 0)], hneed := [(0, .box 27 (bxv (eGType a1)))], dst := some 34, val := some (.pv (.int .i64 a1.fKind)) } (fun m h => step_on (guard_on rfl rfl rfl h.1.1 hb13) (op_load_lp (v := .pv (.int .i64 a1.fKind)) rfl h.1.2.1 h.2.1.1 rfl Try_one_3 rfl rfl) rfl) ⟨⟨rfl, rfl, trivial⟩, ⟨rfl, trivial⟩, trivial⟩ ?_
    refine dr_cons { need := [(32, .pv (.bool (decide ((y11.fParams.length : Int) > 3)))), (34, .pv (.int .i64 a1.fKind))], dst := some 35, val := some (.pv (.bool (a1.fKind != 2))) } (fun m h => step_on (guard_on rfl rfl rfl h.1.1 hb13) (op_int (k := .i64) (m := a1.fKind) (n := 2) rfl h.1.2.1 rfl rfl rfl rfl) rfl) ⟨⟨rfl, rfl, trivial⟩, trivial, trivial⟩ ?_
    refine dr_cons { need := [(32, .pv (.bool (decide ((y11.fParams.length : Int) > 3)))), (35, .pv (.bool (a1.fKind != 2)))], dst := some 36, val := some (.pv (.bool (a1.fKind != 2))) } (fun m h => step_on (guard_no rfl) (op_pick_f rfl h.1.1 hb13 h.1.2.1 rfl rfl) rfl) ⟨⟨rfl, rfl, trivial⟩, trivial, trivial⟩ ?_
    refine drm ?_
    rcases ite_some hF with ⟨hb14, hF⟩ | ⟨hb14, hF⟩
    · refine dro_t hb14 ?_
      iterate 8 (refine dro_t hb14 ?_)
      refine drpt hb14 ?_
      refine drm ?_
      iterate 2 (refine dro_t rfl ?_)
      refine drpt rfl ?_
      refine drm ?_
      iterate 9 (refine dro_t rfl ?_)
      refine drpt rfl ?_
      refine drm ?_
      iterate 2 (refine dro_t rfl ?_)
      refine drpt rfl ?_
      refine dr_nil Try_mixed rfl (by kernel_rfl) ?_
      refine post_imp (s' := ⟨130, [(0, some (.pv (.vs 7 (List.map eGClass a0)))), (4, some (.lp 0 0)), (5, some (.lp 1 0)), (66, some (.pv (.bool true)))], [(0, some (.box 27 (bxv (eGType a1)))), (1, some (.box 27 (bxv (eGType a2))))], 2, [], [], 0, []⟩) (imps [0, 1] ⟨by kernel_rfl, by kernel_rfl, by kernel_rfl, by kernel_rfl, trivial⟩ ⟨by kernel_rfl, by kernel_rfl, trivial⟩) ?_
      cases hF
      exact post_cut _ rfl (imps [0, 1] ⟨by kernel_rfl, by kernel_rfl, by kernel_rfl, by kernel_rfl, trivial⟩ ⟨by kernel_rfl, by kernel_rfl, trivial⟩)
    refine dr_cons { need := [(37, .pv (.bool (a1.fKind != 2))), (4, .lp 0 0)], dst := some 38, val := some (.lp 0 2) } (fun m h => step_on (guard_on rfl rfl rfl h.1.1 hb14) (op_field_lp rfl h.1.2.1 Try_fld_27_2 rfl rfl) rfl) ⟨⟨rfl, rfl, trivial⟩, trivial, trivial⟩ ?_
    refine dr_cons { need := [(37, .pv (.bool (a1.fKind != 2))), (38, .lp 0 2)], hneed := [(0, .box 27 (bxv (eGType a1)))], dst := some 39, val := some (.pv (.int .i64 a1.fN)) } (fun m h => step_on (guard_on rfl rfl rfl h.1.1 hb14) (op_load_lp (v := .pv (.int .i64 a1.fN)) rfl h.1.2.1 h.2.1.1 rfl Try_one_3 rfl rfl) rfl) ⟨⟨rfl, rfl, trivial⟩, ⟨rfl, trivial⟩, trivial⟩ ?_
    refine dr_cons { need := [(37, .pv (.bool (a1.fKind != 2))), (0, .pv (.vs 7 (List.map eGClass a0)))], dst := some 40, val := some (.pv (.vs 7 (List.map eGClass a0))) } (fun m h => step_on (guard_on rfl rfl rfl h.1.1 hb14) (op_move rfl h.1.2.1 rfl rfl) rfl) ⟨⟨rfl, rfl, trivial⟩, trivial, trivial⟩ ?_
    refine dr_cons { need := [(37, .pv (.bool (a1.fKind != 2))), (7, .pv (.int .i64 y3))], dst := some 41, val := some (.pv (.int .i64 y3)) } (fun m h => step_on (guard_on rfl rfl rfl h.1.1 hb14) (op_move rfl h.1.2.1 rfl rfl) rfl) ⟨⟨rfl, rfl, trivial⟩, trivial, trivial⟩ ?_
    obtain ⟨y15, h16, hF⟩ := bind_some hF
    refine dr_cons { need := [(37, .pv (.bool (a1.fKind != 2))), (40, .pv (.vs 7 (List.map eGClass a0))), (41, .pv (.int .i64 y3))], dst := some 42, val := some (.pv (.vp (eGClass y15))) } (fun m h => step_on (guard_on rfl rfl rfl h.1.1 hb14) (op_index_vs (k := .i64) rfl h.1.2.1 h.1.2.2.1 (idx_map eGClass h16) Try_slc_22 rfl rfl) rfl) ⟨⟨rfl, rfl, rfl, trivial⟩, trivial, trivial⟩ ?_
    refine dr_cons { need := [(37, .pv (.bool (a1.fKind != 2))), (42, .pv (.vp (eGClass y15)))], dst := some 43, val := some (.pv (.vp (List.drop 1 (eGClass y15)))) } (fun m h => step_on (guard_on rfl rfl rfl h.1.1 hb14) (op_field_vp rfl h.1.2.1 Try_fld_43_1 rfl rfl) rfl) ⟨⟨rfl, rfl, trivial⟩, trivial, trivial⟩ ?_
    refine dr_cons { need := [(37, .pv (.bool (a1.fKind != 2))), (43, .pv (.vp (List.drop 1 (eGClass y15))))], dst := some 44, val := some (.pv (.vs 1 (List.map eS y15.fParams))) } (fun m h => step_on (guard_on rfl rfl rfl h.1.1 hb14) (op_load_vp (p := .vs 1 (List.map eS y15.fParams)) rfl h.1.2.1 rfl Try_one_38 rfl rfl) rfl) ⟨⟨rfl, rfl, trivial⟩, trivial, trivial⟩ ?_
    refine dr_cons { need := [(37, .pv (.bool (a1.fKind != 2))), (44, .pv (.vs 1 (List.map eS y15.fParams)))], dst := some 45, val := some (.pv (.int .i64 (y15.fParams.length : Int))) } (fun m h => step_on (guard_on rfl rfl rfl h.1.1 hb14) (op_len_vs (n := y15.fParams.length) rfl h.1.2.1 (List.length_map ..) Try_slc_38 rfl rfl) rfl) ⟨⟨rfl, rfl, trivial⟩, trivial, trivial⟩ ?_
    refine dr_cons { need := [(37, .pv (.bool (a1.fKind != 2))), (39, .pv (.int .i64 a1.fN)), (45, .pv (.int .i64 (y15.fParams.length : Int)))], dst := some 46, val := some (.pv (.bool (a1.fN != (y15.fParams.length : Int)))) } (fun m h => step_on (guard_on rfl rfl rfl h.1.1 hb14) (op_int (k := .i64) (m := a1.fN) (n := (y15.fParams.length : Int)) rfl h.1.2.1 h.1.2.2.1 rfl rfl rfl) rfl) ⟨⟨rfl, rfl, rfl, trivial⟩, trivial, trivial⟩ ?_
    refine dr_cons { need := [(37, .pv (.bool (a1.fKind != 2))), (46, .pv (.bool (a1.fN != (y15.fParams.length : Int))))], dst := some 47, val := some (.pv (.bool (a1.fN != (y15.fParams.length : Int)))) } (fun m h => step_on (guard_no rfl) (op_pick_f rfl h.1.1 hb14 h.1.2.1 rfl rfl) rfl) ⟨⟨rfl, rfl, trivial⟩, trivial, trivial⟩ ?_
    refine drm ?_
    rcases ite_some hF with ⟨hb17, hF⟩ | ⟨hb17, hF⟩
    · refine dro_t hb17 ?_
      refine dro_t hb17 ?_
      refine drpt hb17 ?_
      refine drm ?_
      iterate 9 (refine dro_t rfl ?_)
      refine drpt rfl ?_
      refine drm ?_
      iterate 2 (refine dro_t rfl ?_)
      refine drpt rfl ?_
      refine dr_nil Try_mixed rfl (by kernel_rfl) ?_
      refine post_imp (s' := ⟨130, [(0, some (.pv (.vs 7 (List.map eGClass a0)))), (4, some (.lp 0 0)), (5, some (.lp 1 0)), (66, some (.pv (.bool true)))], [(0, some (.box 27 (bxv (eGType a1)))), (1, some (.box 27 (bxv (eGType a2))))], 2, [], [], 0, []⟩) (imps [0, 1] ⟨by kernel_rfl, by kernel_rfl, by kernel_rfl, by kernel_rfl, trivial⟩ ⟨by kernel_rfl, by kernel_rfl, trivial⟩) ?_
      cases hF
      exact post_cut _ rfl (imps [0, 1] ⟨by kernel_rfl, by kernel_rfl, by kernel_rfl, by kernel_rfl, trivial⟩ ⟨by kernel_rfl, by kernel_rfl, trivial⟩)
    refine dr_cons { need := [(48, .pv (.bool (a1.fN != (y15.fParams.length : Int)))), (4, .lp 0 0)], hneed := [(0, .box 27 (bxv (eGType a1)))], dst := some 49, val := some (.pv (.agg (eGType a1))) } (fun m h => step_on (guard_on rfl rfl rfl h.1.1 hb17) (op_load_lp_agg (ps := eGType a1) rfl h.1.2.1 h.2.1.1 rfl rfl rfl Try_agg_27 rfl rfl) rfl) ⟨⟨rfl, rfl, trivial⟩, ⟨rfl, trivial⟩, trivial⟩ ?_
    obtain ⟨y18, h19, hF⟩ := bind_some hF
    refine dr_cons { need := [(48, .pv (.bool (a1.fN != (y15.fParams.length : Int)))), (49, .pv (.agg (eGType a1)))], dst := some 50, val := some (.pv (.bool y18)) } (fun m h => step_on (guard_on rfl rfl rfl h.1.1 hb17) (op_call 2 rfl (caps := []) (args := [.agg (eGType a1)]) (rs := [.p (.bool y18)]) rfl rfl (evl_cons h.1.2.1 evl_nil) Try_cal_20 (ref05_Unique_ok h19) rfl rfl rfl) rfl) ⟨⟨rfl, rfl, trivial⟩, trivial, trivial⟩ ?_
    refine dr_cons { need := [(48, .pv (.bool (a1.fN != (y15.fParams.length : Int)))), (50, .pv (.bool y18))], dst := some 51, val := some (.pv (.bool y18)) } (fun m h => step_on (guard_no rfl) (op_pick_f rfl h.1.1 hb17 h.1.2.1 rfl rfl) rfl) ⟨⟨rfl, rfl, trivial⟩, trivial, trivial⟩ ?_
    refine drm ?_
    rcases ite_some hF with ⟨hb20, hF⟩ | ⟨hb20, hF⟩
    · refine dro_t hb20 ?_
      iterate 8 (refine dro_t hb20 ?_)
      refine drpt hb20 ?_
      refine drm ?_
      iterate 2 (refine dro_t rfl ?_)
      refine drpt rfl ?_
      refine dr_nil Try_mixed rfl (by kernel_rfl) ?_
      refine post_imp (s' := ⟨130, [(0, some (.pv (.vs 7 (List.map eGClass a0)))), (4, some (.lp 0 0)), (5, some (.lp 1 0)), (66, some (.pv (.bool true)))], [(0, some (.box 27 (bxv (eGType a1)))), (1, some (.box 27 (bxv (eGType a2))))], 2, [], [], 0, []⟩) (imps [0, 1] ⟨by kernel_rfl, by kernel_rfl, by kernel_rfl, by kernel_rfl, trivial⟩ ⟨by kernel_rfl, by kernel_rfl, trivial⟩) ?_
      cases hF
      exact post_cut _ rfl (imps [0, 1] ⟨by kernel_rfl, by kernel_rfl, by kernel_rfl, by kernel_rfl, trivial⟩ ⟨by kernel_rfl, by kernel_rfl, trivial⟩)
    refine dr_cons { need := [(52, .pv (.bool y18)), (5, .lp 1 0)], hneed := [(1, .box 27 (bxv (eGType a2)))], dst := some 53, val := some (.pv (.agg (eGType a2))) } (fun m h => step_on (guard_on rfl rfl rfl h.1.1 hb20) (op_load_lp_agg (ps := eGType a2) rfl h.1.2.1 h.2.1.1 rfl rfl rfl Try_agg_27 rfl rfl) rfl) ⟨⟨rfl, rfl, trivial⟩, ⟨rfl, trivial⟩, trivial⟩ ?_
    refine dr_cons { need := [(52, .pv (.bool y18)), (0, .pv (.vs 7 (List.map eGClass a0)))], dst := some 54, val := some (.pv (.vs 7 (List.map eGClass a0))) } (fun m h => step_on (guard_on rfl rfl rfl h.1.1 hb20) (op_move rfl h.1.2.1 rfl rfl) rfl) ⟨⟨rfl, rfl, trivial⟩, trivial, trivial⟩ ?_
    refine dr_cons { need := [(52, .pv (.bool y18)), (7, .pv (.int .i64 y3))], dst := some 55, val := some (.pv (.int .i64 y3)) } (fun m h => step_on (guard_on rfl rfl rfl h.1.1 hb20) (op_move rfl h.1.2.1 rfl rfl) rfl) ⟨⟨rfl, rfl, trivial⟩, trivial, trivial⟩ ?_
    obtain ⟨y21, h22, hF⟩ := bind_some hF
    refine dr_cons { need := [(52, .pv (.bool y18)), (54, .pv (.vs 7 (List.map eGClass a0))), (55, .pv (.int .i64 y3))], dst := some 56, val := some (.pv (.vp (eGClass y21))) } (fun m h => step_on (guard_on rfl rfl rfl h.1.1 hb20) (op_index_vs (k := .i64) rfl h.1.2.1 h.1.2.2.1 (idx_map eGClass h22) Try_slc_22 rfl rfl) rfl) ⟨⟨rfl, rfl, rfl, trivial⟩, trivial, trivial⟩ ?_
    refine dr_cons { need := [(52, .pv (.bool y18)), (56, .pv (.vp (eGClass y21)))], dst := some 57, val := some (.pv (.vp (List.drop 1 (eGClass y21)))) } (fun m h => step_on (guard_on rfl rfl rfl h.1.1 hb20) (op_field_vp rfl h.1.2.1 Try_fld_43_1 rfl rfl) rfl) ⟨⟨rfl, rfl, trivial⟩, trivial, trivial⟩ ?_
    refine dr_cons { need := [(52, .pv (.bool y18)), (57, .pv (.vp (List.drop 1 (eGClass y21))))], dst := some 58, val := some (.pv (.vs 1 (List.map eS y21.fParams))) } (fun m h => step_on (guard_on rfl rfl rfl h.1.1 hb20) (op_load_vp (p := .vs 1 (List.map eS y21.fParams)) rfl h.1.2.1 rfl Try_one_38 rfl rfl) rfl) ⟨⟨rfl, rfl, trivial⟩, trivial, trivial⟩ ?_
    refine dr_cons { need := [(52, .pv (.bool y18)), (58, .pv (.vs 1 (List.map eS y21.fParams)))], dst := some 59, val := some (.pv (.int .i64 (y21.fParams.length : Int))) } (fun m h => step_on (guard_on rfl rfl rfl h.1.1 hb20) (op_len_vs (n := y21.fParams.length) rfl h.1.2.1 (List.length_map ..) Try_slc_38 rfl rfl) rfl) ⟨⟨rfl, rfl, trivial⟩, trivial, trivial⟩ ?_
    obtain ⟨y23, h24, hF⟩ := bind_some hF
    refine dr_cons { need := [(52, .pv (.bool y18)), (59, .pv (.int .i64 (y21.fParams.length : Int))), (53, .pv (.agg (eGType a2)))], dst := some 60, val := some (.pv (.bool y23)) } (fun m h => step_on (guard_on rfl rfl rfl h.1.1 hb20) (op_call 2 rfl (caps := []) (args := [.agg (eGType a2), .int .i64 (y21.fParams.length : Int)]) (rs := [.p (.bool y23)]) rfl rfl (evl_cons h.1.2.2.1 (evl_cons h.1.2.1 evl_nil)) Try_cal_15 (ref05_Right_ok h24) rfl rfl rfl) rfl) ⟨⟨rfl, rfl, rfl, trivial⟩, trivial, trivial⟩ ?_
    refine dr_cons { need := [(52, .pv (.bool y18)), (60, .pv (.bool y23))], dst := some 61, val := some (.pv (.bool (!y23))) } (fun m h => step_on (guard_on rfl rfl rfl h.1.1 hb20) (op_not rfl h.1.2.1 rfl rfl) rfl) ⟨⟨rfl, rfl, trivial⟩, trivial, trivial⟩ ?_
    refine dr_cons { need := [(52, .pv (.bool y18)), (61, .pv (.bool (!y23)))], dst := some 62, val := some (.pv (.bool (!y23))) } (fun m h => step_on (guard_no rfl) (op_pick_f rfl h.1.1 hb20 h.1.2.1 rfl rfl) rfl) ⟨⟨rfl, rfl, trivial⟩, trivial, trivial⟩ ?_
    refine drm ?_
    rcases ite_some hF with ⟨hb25, hF⟩ | ⟨hb25, hF⟩
    · refine dro_t hb25 ?_
      refine dro_t hb25 ?_
      refine drpt hb25 ?_
      refine dr_nil Try_mixed rfl (by kernel_rfl) ?_
      refine post_imp (s' := ⟨130, [(0, some (.pv (.vs 7 (List.map eGClass a0)))), (4, some (.lp 0 0)), (5, some (.lp 1 0)), (66, some (.pv (.bool true)))], [(0, some (.box 27 (bxv (eGType a1)))), (1, some (.box 27 (bxv (eGType a2))))], 2, [], [], 0, []⟩) (imps [0, 1] ⟨by kernel_rfl, by kernel_rfl, by kernel_rfl, by kernel_rfl, trivial⟩ ⟨by kernel_rfl, by kernel_rfl, trivial⟩) ?_
      cases hF
      exact post_cut _ rfl (imps [0, 1] ⟨by kernel_rfl, by kernel_rfl, by kernel_rfl, by kernel_rfl, trivial⟩ ⟨by kernel_rfl, by kernel_rfl, trivial⟩)
    refine dr_cons { need := [(63, .pv (.bool (!y23))), (4, .lp 0 0)], hneed := [(0, .box 27 (bxv (eGType a1)))], dst := some 64, val := some (.pv (.agg (eGType a1))) } (fun m h => step_on (guard_on rfl rfl rfl h.1.1 hb25) (op_load_lp_agg (ps := eGType a1) rfl h.1.2.1 h.2.1.1 rfl rfl rfl Try_agg_27 rfl rfl) rfl) ⟨⟨rfl, rfl, trivial⟩, ⟨rfl, trivial⟩, trivial⟩ ?_
    obtain ⟨y26, h27, hF⟩ := bind_some hF
    refine dr_cons { need := [(63, .pv (.bool (!y23))), (64, .pv (.agg (eGType a1)))], dst := some 65, val := some (.pv (.bool y26)) } (fun m h => step_on (guard_on rfl rfl rfl h.1.1 hb25) (op_call 2 rfl (caps := []) (args := [.agg (eGType a1)]) (rs := [.p (.bool y26)]) rfl rfl (evl_cons h.1.2.1 evl_nil) Try_cal_21 (ref26_Hidden_ok h27) rfl rfl rfl) rfl) ⟨⟨rfl, rfl, trivial⟩, trivial, trivial⟩ ?_
    refine dr_cons { need := [(63, .pv (.bool (!y23))), (65, .pv (.bool y26))], dst := some 66, val := some (.pv (.bool y26)) } (fun m h => step_on (guard_no rfl) (op_pick_f rfl h.1.1 hb25 h.1.2.1 rfl rfl) rfl) ⟨⟨rfl, rfl, trivial⟩, trivial, trivial⟩ ?_
    refine dr_nil Try_mixed rfl (by kernel_rfl) ?_
    refine post_imp (s' := ⟨130, [(0, some (.pv (.vs 7 (List.map eGClass a0)))), (4, some (.lp 0 0)), (5, some (.lp 1 0)), (66, some (.pv (.bool y26)))], [(0, some (.box 27 (bxv (eGType a1)))), (1, some (.box 27 (bxv (eGType a2))))], 2, [], [], 0, []⟩) (imps [0, 1] ⟨by kernel_rfl, by kernel_rfl, by kernel_rfl, by kernel_rfl, trivial⟩ ⟨by kernel_rfl, by kernel_rfl, trivial⟩) ?_
    cases hF
    exact post_cut _ rfl (imps [0, 1] ⟨by kernel_rfl, by kernel_rfl, by kernel_rfl, by kernel_rfl, trivial⟩ ⟨by kernel_rfl, by kernel_rfl, trivial⟩)
  rintro _ rfl
  have hF := hK30
  clear hK30
  refine post_next ?_
  rcases ite_some hF with ⟨hb31, hF⟩ | ⟨hb31, hF⟩
  · refine aw_cond_t rfl hb31 ?_
    refine aw_seq ?_
    refine aw_region ?_
    obtain ⟨y32, h33, hF⟩ := bind_some hF
    refine reg_cons (guard_no rfl) (op_call 2 rfl (caps := []) (args := []) (rs := [.p (.bool y32)]) rfl rfl rfl Try_cal_16 (law26_awake_ok h33) rfl rfl rfl) ?_
    refine ras ?_
    refine reg_nil ?_
    refine post_imp (s' := ⟨130, [(6, some (.pv (.bool y32)))], [], 0, [], [], 0, []⟩) (imps [] ⟨by kernel_rfl, trivial⟩ trivial) ?_
    refine post_next ?_
    refine aw_ret ?_
    refine post_then_ret ?_
    obtain rfl := Option.some.inj hF
    exact post_ret rfl rfl (.cons _ _ _ _ _ (.tmp _ _ rfl) (.p _) .nil) (.inl rfl)
  refine aw_cond_f rfl hb31 ?_
  refine aw_skip ?_
  refine post_next ?_
  refine aw_seq ?_
  refine aw_region ?_
  refine ras ?_
  refine reg_nil ?_
  refine post_imp (s' := ⟨130, [(0, some (.pv (.vs 7 (List.map eGClass a0)))), (4, some (.lp 0 0)), (5, some (.lp 1 0)), (8, some (.pv (.bool false)))], [(0, some (.box 27 (bxv (eGType a1)))), (1, some (.box 27 (bxv (eGType a2))))], 2, [], [], 0, []⟩) (imps [0, 1] ⟨by kernel_rfl, by kernel_rfl, by kernel_rfl, by kernel_rfl, trivial⟩ ⟨by kernel_rfl, by kernel_rfl, trivial⟩) ?_
  refine post_next ?_
  refine aw_seq ?_
  refine aw_region ?_
  refine reg_cons (guard_no rfl) (op_load_lp_agg (ps := eGType a2) rfl rfl rfl rfl rfl rfl Try_agg_27 rfl rfl) ?_
  obtain ⟨y36, h37, hF⟩ := bind_some hF
  refine reg_cons (guard_no rfl) (op_call 2 rfl (caps := []) (args := [.agg (eGType a2)]) (rs := [.p (.vs 2 (List.map eGOwner y36))]) rfl rfl rfl Try_cal_22 (Fn.frozen (ref05_Owners_ok h37)) rfl rfl rfl) ?_
  refine ras ?_
  refine reg_nil ?_
  refine post_imp (s' := ⟨130, [(0, some (.pv (.vs 7 (List.map eGClass a0)))), (4, some (.lp 0 0)), (5, some (.lp 1 0)), (8, some (.pv (.bool false))), (9, some (.pv (.vs 2 (List.map eGOwner y36))))], [(0, some (.box 27 (bxv (eGType a1)))), (1, some (.box 27 (bxv (eGType a2))))], 2, [], [], 0, []⟩) (imps [0, 1] ⟨by kernel_rfl, by kernel_rfl, by kernel_rfl, by kernel_rfl, by kernel_rfl, trivial⟩ ⟨by kernel_rfl, by kernel_rfl, trivial⟩) ?_
  refine post_next ?_
  iterate 2 (refine aw_seq ?_)
  refine aw_region ?_
  refine ras ?_
  refine reg_nil ?_
  refine post_imp (s' := ⟨130, [(0, some (.pv (.vs 7 (List.map eGClass a0)))), (4, some (.lp 0 0)), (5, some (.lp 1 0)), (8, some (.pv (.bool false))), (9, some (.pv (.vs 2 (List.map eGOwner y36)))), (10, some (.pv (.int .i64 0)))], [(0, some (.box 27 (bxv (eGType a1)))), (1, some (.box 27 (bxv (eGType a2))))], 2, [], [], 0, []⟩) (imps [0, 1] ⟨by kernel_rfl, by kernel_rfl, by kernel_rfl, by kernel_rfl, by kernel_rfl, by kernel_rfl, trivial⟩ ⟨by kernel_rfl, by kernel_rfl, trivial⟩) ?_
  refine post_next ?_
  obtain ⟨x63, hF, hK64⟩ := bind_some hF
  refine aw_for ((((y36.length : Int) : Int) - (0)).toNat + 1) (fun s1 => s1 = ⟨130, [(0, some (.pv (.vs 7 (List.map eGClass a0)))), (4, some (.lp 0 0)), (5, some (.lp 1 0)), (8, some (.pv (.bool x63))), (9, some (.pv (.vs 2 (List.map eGOwner y36))))], [(0, some (.box 27 (bxv (eGType a1)))), (1, some (.box 27 (bxv (eGType a2))))], 2, [], [], 0, []⟩) ?_ ?_
  · refine rnd_loop (α := Bool × Int) (fun q => ⟨130, [(0, some (.pv (.vs 7 (List.map eGClass a0)))), (4, some (.lp 0 0)), (5, some (.lp 1 0)), (8, some (.pv (.bool q.1))), (9, some (.pv (.vs 2 (List.map eGOwner y36)))), (10, some (.pv (.int .i64 q.2)))], [(0, some (.box 27 (bxv (eGType a1)))), (1, some (.box 27 (bxv (eGType a2))))], 2, [], [], 0, []⟩) (fun k q => law26_AdaptShown_L1 y36 k q.1 q.2 = some x63) (false, 0) (imps [0, 1] ⟨by kernel_rfl, by kernel_rfl, by kernel_rfl, by kernel_rfl, by kernel_rfl, by kernel_rfl, trivial⟩ ⟨by kernel_rfl, by kernel_rfl, trivial⟩) hF (fun q h => by cases h) ?_
    clear hF
    rintro k ⟨x43, x44⟩ hF ih
    refine rnd_succ ?_
    iterate 2 (refine aw_seq ?_)
    refine aw_region ?_
    iterate 2 (refine rmv ?_)
    refine reg_cons (guard_no rfl) (op_len_vs (n := y36.length) rfl rfl (List.length_map ..) Try_slc_39 rfl rfl) ?_
    refine reg_cons (guard_no rfl) (op_int (k := .i64) (m := x44) (n := (y36.length : Int)) rfl rfl rfl rfl rfl rfl) ?_
    refine reg_nil ?_
    refine post_imp (s' := ⟨130, [(0, some (.pv (.vs 7 (List.map eGClass a0)))), (4, some (.lp 0 0)), (5, some (.lp 1 0)), (8, some (.pv (.bool x43))), (9, some (.pv (.vs 2 (List.map eGOwner y36)))), (10, some (.pv (.int .i64 x44))), (73, some (.pv (.bool (decide (x44 < (y36.length : Int))))))], [(0, some (.box 27 (bxv (eGType a1)))), (1, some (.box 27 (bxv (eGType a2))))], 2, [], [], 0, []⟩) (imps [0, 1] ⟨by kernel_rfl, by kernel_rfl, by kernel_rfl, by kernel_rfl, by kernel_rfl, by kernel_rfl, by kernel_rfl, trivial⟩ ⟨by kernel_rfl, by kernel_rfl, trivial⟩) ?_
    refine post_next ?_
    rcases ite_some hF with ⟨hb54, hF⟩ | ⟨hb54, hF⟩
    · refine aw_cond_t rfl hb54 ?_
      refine aw_skip ?_
      refine post_next ?_
      refine aw_seq ?_
      refine aw_block ?_
      obtain ⟨x58, hF, hK60⟩ := bind_some hF
      refine aw_cut (fun s1 => s1 = ⟨130, [(0, some (.pv (.vs 7 (List.map eGClass a0)))), (4, some (.lp 0 0)), (5, some (.lp 1 0)), (8, some (.pv (.bool x58))), (9, some (.pv (.vs 2 (List.map eGOwner y36)))), (10, some (.pv (.int .i64 x44)))], [(0, some (.box 27 (bxv (eGType a1)))), (1, some (.box 27 (bxv (eGType a2))))], 2, [], [], 0, []⟩) ?_ ?_
      · refine aw_region ?_
        iterate 2 (refine rmv ?_)
        rcases ite_some hF with ⟨hb55, hF⟩ | ⟨hb55, hF⟩
        · refine rgo_t hb55 ?_
          iterate 5 (refine rgo_t hb55 ?_)
          refine rpt hb55 ?_
          refine ras ?_
          refine reg_nil ?_
          cases hF
          exact post_cut _ rfl (imps [0, 1] ⟨by kernel_rfl, by kernel_rfl, by kernel_rfl, by kernel_rfl, by kernel_rfl, by kernel_rfl, trivial⟩ ⟨by kernel_rfl, by kernel_rfl, trivial⟩)
        iterate 2 (refine reg_cons (guard_on rfl rfl rfl rfl hb55) (op_move rfl rfl rfl rfl) ?_)
        obtain ⟨y56, h57, hF⟩ := bind_some hF
        refine reg_cons (guard_on rfl rfl rfl rfl hb55) (op_index_vs (k := .i64) rfl rfl rfl (idx_map eGOwner h57) Try_slc_39 rfl rfl) ?_
        refine reg_cons (guard_on rfl rfl rfl rfl hb55) (op_field_vp rfl rfl Try_fld_24_0 rfl rfl) ?_
        refine reg_cons (guard_on rfl rfl rfl rfl hb55) (op_load_vp (p := .int .i64 y56.fKind) rfl rfl rfl Try_one_3 rfl rfl) ?_
        refine reg_cons (guard_on rfl rfl rfl rfl hb55) (op_int (k := .i64) (m := y56.fKind) (n := 1) rfl rfl rfl rfl rfl rfl) ?_
        refine rpf hb55 ?_
        refine ras ?_
        refine reg_nil ?_
        cases hF
        exact post_cut _ rfl (imps [0, 1] ⟨by kernel_rfl, by kernel_rfl, by kernel_rfl, by kernel_rfl, by kernel_rfl, by kernel_rfl, trivial⟩ ⟨by kernel_rfl, by kernel_rfl, trivial⟩)
      rintro _ rfl
      have hF := hK60
      clear hK60
      refine post_block_normal ?_
      refine post_next ?_
      refine aw_region ?_
      refine rmv ?_
      refine reg_cons (guard_no rfl) (op_int (k := .i64) (m := x44) (n := 1) rfl rfl rfl rfl rfl rfl) ?_
      refine ras ?_
      refine reg_nil ?_
      refine post_round ?_
      exact rnd_back (ih (x58, w_i64 (x44 + 1)) hF) (imps [0, 1] ⟨by kernel_rfl, by kernel_rfl, by kernel_rfl, by kernel_rfl, by kernel_rfl, by kernel_rfl, trivial⟩ ⟨by kernel_rfl, by kernel_rfl, trivial⟩)
    refine aw_cond_f rfl hb54 ?_
    refine aw_exit ?_
    iterate 2 (refine post_then_exit ?_)
    obtain rfl := Option.some.inj hF
    exact post_lp_break _ rfl (imps [0, 1] ⟨by kernel_rfl, by kernel_rfl, by kernel_rfl, by kernel_rfl, by kernel_rfl, trivial⟩ ⟨by kernel_rfl, by kernel_rfl, trivial⟩)
  rintro _ rfl
  have hF := hK64
  clear hK64
  refine post_next ?_
  refine aw_seq ?_
  refine aw_region ?_
  refine rmv ?_
  refine reg_cons (guard_no rfl) (op_load_lp_agg (ps := eGType a1) rfl rfl rfl rfl rfl rfl Try_agg_27 rfl rfl) ?_
  refine reg_cons (guard_no rfl) (op_build (zs := (eGView_adapt zGView_adapt)) (r := eGView_adapt ({ fMode := 1, fObject := a1, fThis := false } : GView_adapt)) rfl Try_zer_47 (by exact ⟨rfl, rfl, rfl, rfl, rfl, rfl, rfl, rfl, rfl, rfl, rfl, rfl, rfl, trivial⟩) Try_plc_47 rfl rfl rfl rfl) ?_
  refine reg_cons (guard_no rfl) (op_field_lp rfl rfl Try_fld_27_1 rfl rfl) ?_
  refine reg_cons (guard_no rfl) (op_load_lp (v := .pv (.str a1.fClass)) rfl rfl rfl rfl Try_one_9 rfl rfl) ?_
  refine reg_cons (guard_no rfl) (op_load_lp_agg (ps := eGType a2) rfl rfl rfl rfl rfl rfl Try_agg_27 rfl rfl) ?_
  obtain ⟨y67, h68, hF⟩ := bind_some hF
  refine reg_cons (guard_no rfl) (op_call 2 rfl (caps := []) (args := [.vs 7 (List.map eGClass a0), .agg (eGView_adapt ({ fMode := 1, fObject := a1, fThis := false } : GView_adapt)), .str a1.fClass, .agg (eGType a2)]) (rs := [.p (.agg (eGType y67))]) rfl rfl rfl Try_cal_18 (adapt_See_ok h68) rfl rfl rfl) ?_
  refine reg_cons (guard_no rfl) (op_alloc 2 rfl (ps := (eGType zGType)) rfl Try_zer_27 (by exact ⟨rfl, rfl, rfl, rfl, rfl, rfl, rfl, rfl, rfl, rfl, rfl, trivial⟩) rfl rfl) ?_
  refine reg_cons (guard_no rfl) (op_store_lp (n := 11) rfl rfl rfl rfl rfl (or_agg Try_agg_27) (by rw [Try_non_27]; rfl) rfl rfl rfl) ?_
  refine reg_nil ?_
  refine post_imp (s' := ⟨130, [(0, some (.pv (.vs 7 (List.map eGClass a0)))), (4, some (.lp 0 0)), (5, some (.lp 1 0)), (8, some (.pv (.bool x63))), (9, some (.pv (.vs 2 (List.map eGOwner y36)))), (11, some (.lp 2 0))], [(0, some (.box 27 (bxv (eGType a1)))), (1, some (.box 27 (bxv (eGType a2)))), (2, some (.box 27 (bxv (eGType y67))))], 3, [], [], 0, []⟩) (imps [0, 1, 2] ⟨by kernel_rfl, by kernel_rfl, by kernel_rfl, by kernel_rfl, by kernel_rfl, by kernel_rfl, trivial⟩ ⟨by kernel_rfl, by kernel_rfl, by kernel_rfl, trivial⟩) ?_
  refine post_next ?_
  refine aw_seq ?_
  refine aw_region ?_
  refine rmv ?_
  refine reg_cons (guard_no rfl) (op_load_lp_agg (ps := eGType a1) rfl rfl rfl rfl rfl rfl Try_agg_27 rfl rfl) ?_
  refine reg_cons (guard_no rfl) (op_build (zs := (eGView_adapt zGView_adapt)) (r := eGView_adapt ({ fMode := 2, fObject := a1, fThis := false } : GView_adapt)) rfl Try_zer_47 (by exact ⟨rfl, rfl, rfl, rfl, rfl, rfl, rfl, rfl, rfl, rfl, rfl, rfl, rfl, trivial⟩) Try_plc_47 rfl rfl rfl rfl) ?_
  refine reg_cons (guard_no rfl) (op_field_lp rfl rfl Try_fld_27_1 rfl rfl) ?_
  refine reg_cons (guard_no rfl) (op_load_lp (v := .pv (.str a1.fClass)) rfl rfl rfl rfl Try_one_9 rfl rfl) ?_
  refine reg_cons (guard_no rfl) (op_load_lp_agg (ps := eGType a2) rfl rfl rfl rfl rfl rfl Try_agg_27 rfl rfl) ?_
  obtain ⟨y71, h72, hF⟩ := bind_some hF
  refine reg_cons (guard_no rfl) (op_call 3 rfl (caps := []) (args := [.vs 7 (List.map eGClass a0), .agg (eGView_adapt ({ fMode := 2, fObject := a1, fThis := false } : GView_adapt)), .str a1.fClass, .agg (eGType a2)]) (rs := [.p (.agg (eGType y71))]) rfl rfl rfl Try_cal_19 (adapt_Read_ok h72) rfl rfl rfl) ?_
  refine reg_cons (guard_no rfl) (op_alloc 3 rfl (ps := (eGType zGType)) rfl Try_zer_27 (by exact ⟨rfl, rfl, rfl, rfl, rfl, rfl, rfl, rfl, rfl, rfl, rfl, trivial⟩) rfl rfl) ?_
  refine reg_cons (guard_no rfl) (op_store_lp (n := 11) rfl rfl rfl rfl rfl (or_agg Try_agg_27) (by rw [Try_non_27]; rfl) rfl rfl rfl) ?_
  refine reg_nil ?_
  refine post_imp (s' := ⟨130, [(5, some (.lp 0 0)), (8, some (.pv (.bool x63))), (9, some (.pv (.vs 2 (List.map eGOwner y36)))), (11, some (.lp 1 0)), (12, some (.lp 2 0))], [(0, some (.box 27 (bxv (eGType a2)))), (1, some (.box 27 (bxv (eGType y67)))), (2, some (.box 27 (bxv (eGType y71))))], 3, [], [], 0, []⟩) (imps [1, 2, 3] ⟨by kernel_rfl, by kernel_rfl, by kernel_rfl, by kernel_rfl, by kernel_rfl, trivial⟩ ⟨by kernel_rfl, by kernel_rfl, by kernel_rfl, trivial⟩) ?_
  refine post_next ?_
  refine aw_seq ?_
  refine aw_region ?_
  refine reg_cons (guard_no rfl) (op_load_lp_agg (ps := eGType y67) rfl rfl rfl rfl rfl rfl Try_agg_27 rfl rfl) ?_
  obtain ⟨y73, h74, hF⟩ := bind_some hF
  refine reg_cons (guard_no rfl) (op_call 3 rfl (caps := []) (args := [.agg (eGType y67)]) (rs := [.p (.bool y73)]) rfl rfl rfl Try_cal_23 (adapt_Hidden_ok h74) rfl rfl rfl) ?_
  refine rmv ?_
  refine reg_cons (guard_no rfl) (op_eqBool_eql rfl rfl rfl Try_und_4 rfl rfl) ?_
  refine rmv ?_
  rcases ite_some hF with ⟨hb75, hF⟩ | ⟨hb75, hF⟩
  · refine reg_cons (guard_on rfl rfl rfl rfl hb75) (op_move rfl rfl rfl rfl) ?_
    refine reg_cons (guard_on rfl rfl rfl rfl hb75) (op_len_vs (n := y36.length) rfl rfl (List.length_map ..) Try_slc_39 rfl rfl) ?_
    refine reg_cons (guard_on rfl rfl rfl rfl hb75) (op_int (k := .i64) (m := (y36.length : Int)) (n := 1) rfl rfl rfl rfl rfl rfl) ?_
    refine reg_cons (guard_on rfl rfl rfl rfl hb75) (op_move rfl rfl rfl rfl) ?_
    rcases ite_some hF with ⟨hb76, hF⟩ | ⟨hb76, hF⟩
    · refine rgo_t hb76 ?_
      iterate 2 (refine rgo_t hb76 ?_)
      refine reg_cons (guard_on rfl rfl rfl rfl hb75) (op_pick_t rfl rfl hb76 rfl rfl rfl) ?_
      refine rpt hb75 ?_
      refine rmv ?_
      refine reg_cons (guard_on rfl rfl rfl rfl rfl) (op_field_lp rfl rfl Try_fld_27_1 rfl rfl) ?_
      refine reg_cons (guard_on rfl rfl rfl rfl rfl) (op_load_lp (v := .pv (.str y67.fClass)) rfl rfl rfl rfl Try_one_9 rfl rfl) ?_
      refine reg_cons (guard_on rfl rfl rfl rfl rfl) (op_field_lp rfl rfl Try_fld_27_1 rfl rfl) ?_
      refine reg_cons (guard_on rfl rfl rfl rfl rfl) (op_load_lp (v := .pv (.str a2.fClass)) rfl rfl rfl rfl Try_one_9 rfl rfl) ?_
      refine reg_cons (guard_on rfl rfl rfl rfl rfl) (op_str rfl rfl rfl rfl rfl rfl) ?_
      refine rpt rfl ?_
      refine rmv ?_
      rcases ite_some hF with ⟨hb77, hF⟩ | ⟨hb77, hF⟩
      · refine reg_cons (guard_on rfl rfl rfl rfl hb77) (op_field_lp rfl rfl Try_fld_27_2 rfl rfl) ?_
        refine reg_cons (guard_on rfl rfl rfl rfl hb77) (op_load_lp (v := .pv (.int .i64 y67.fN)) rfl rfl rfl rfl Try_one_3 rfl rfl) ?_
        refine reg_cons (guard_on rfl rfl rfl rfl hb77) (op_field_lp rfl rfl Try_fld_27_2 rfl rfl) ?_
        refine reg_cons (guard_on rfl rfl rfl rfl hb77) (op_load_lp (v := .pv (.int .i64 a2.fN)) rfl rfl rfl rfl Try_one_3 rfl rfl) ?_
        refine reg_cons (guard_on rfl rfl rfl rfl hb77) (op_int (k := .i64) (m := y67.fN) (n := a2.fN) rfl rfl rfl rfl rfl rfl) ?_
        refine rpt hb77 ?_
        refine rmv ?_
        rcases ite_some hF with ⟨hb78, hF⟩ | ⟨hb78, hF⟩
        · obtain ⟨y79, h80, hF⟩ := bind_some hF
          refine reg_cons (guard_on rfl rfl rfl rfl hb78) (op_call 3 rfl (caps := []) (args := []) (rs := [.p (.bool y79)]) rfl rfl rfl Try_cal_16 (law26_awake_ok h80) rfl rfl rfl) ?_
          refine rpt hb78 ?_
          refine ras ?_
          refine reg_nil ?_
          refine post_imp (s' := ⟨130, [(6, some (.pv (.bool y79)))], [], 0, [], [], 0, []⟩) (imps [] ⟨by kernel_rfl, trivial⟩ trivial) ?_
          refine post_next ?_
          refine aw_ret ?_
          obtain rfl := Option.some.inj hF
          exact post_ret rfl rfl (.cons _ _ _ _ _ (.tmp _ _ rfl) (.p _) .nil) (.inl rfl)
        refine rgo_f hb78 ?_
        refine rpf hb78 ?_
        refine ras ?_
        refine reg_nil ?_
        refine post_imp (s' := ⟨130, [(6, some (.pv (.bool false)))], [], 0, [], [], 0, []⟩) (imps [] ⟨by kernel_rfl, trivial⟩ trivial) ?_
        refine post_next ?_
        refine aw_ret ?_
        obtain rfl := Option.some.inj hF
        exact post_ret rfl rfl (.cons _ _ _ _ _ (.tmp _ _ rfl) (.p _) .nil) (.inl rfl)
      iterate 5 (refine rgo_f hb77 ?_)
      refine rpf hb77 ?_
      refine rmv ?_
      refine rgo_f rfl ?_
      refine rpf rfl ?_
      refine ras ?_
      refine reg_nil ?_
      refine post_imp (s' := ⟨130, [(6, some (.pv (.bool false)))], [], 0, [], [], 0, []⟩) (imps [] ⟨by kernel_rfl, trivial⟩ trivial) ?_
      refine post_next ?_
      refine aw_ret ?_
      obtain rfl := Option.some.inj hF
      exact post_ret rfl rfl (.cons _ _ _ _ _ (.tmp _ _ rfl) (.p _) .nil) (.inl rfl)
    refine reg_cons (guard_on rfl rfl rfl rfl hb76) (op_load_lp_agg (ps := eGType y71) rfl rfl rfl rfl rfl rfl Try_agg_27 rfl rfl) ?_
    obtain ⟨y81, h82, hF⟩ := bind_some hF
    refine reg_cons (guard_on rfl rfl rfl rfl hb76) (op_call 3 rfl (caps := []) (args := [.agg (eGType y71)]) (rs := [.p (.bool y81)]) rfl rfl rfl Try_cal_23 (adapt_Hidden_ok h82) rfl rfl rfl) ?_
    refine reg_cons (guard_on rfl rfl rfl rfl hb76) (op_not rfl rfl rfl rfl) ?_
    refine reg_cons (guard_on rfl rfl rfl rfl hb75) (op_pick_f rfl rfl hb76 rfl rfl rfl) ?_
    refine rpt hb75 ?_
    refine rmv ?_
    rcases ite_some hF with ⟨hb83, hF⟩ | ⟨hb83, hF⟩
    · refine reg_cons (guard_on rfl rfl rfl rfl hb83) (op_field_lp rfl rfl Try_fld_27_1 rfl rfl) ?_
      refine reg_cons (guard_on rfl rfl rfl rfl hb83) (op_load_lp (v := .pv (.str y67.fClass)) rfl rfl rfl rfl Try_one_9 rfl rfl) ?_
      refine reg_cons (guard_on rfl rfl rfl rfl hb83) (op_field_lp rfl rfl Try_fld_27_1 rfl rfl) ?_
      refine reg_cons (guard_on rfl rfl rfl rfl hb83) (op_load_lp (v := .pv (.str a2.fClass)) rfl rfl rfl rfl Try_one_9 rfl rfl) ?_
      refine reg_cons (guard_on rfl rfl rfl rfl hb83) (op_str rfl rfl rfl rfl rfl rfl) ?_
      refine rpt hb83 ?_
      refine rmv ?_
      rcases ite_some hF with ⟨hb84, hF⟩ | ⟨hb84, hF⟩
      · refine reg_cons (guard_on rfl rfl rfl rfl hb84) (op_field_lp rfl rfl Try_fld_27_2 rfl rfl) ?_
        refine reg_cons (guard_on rfl rfl rfl rfl hb84) (op_load_lp (v := .pv (.int .i64 y67.fN)) rfl rfl rfl rfl Try_one_3 rfl rfl) ?_
        refine reg_cons (guard_on rfl rfl rfl rfl hb84) (op_field_lp rfl rfl Try_fld_27_2 rfl rfl) ?_
        refine reg_cons (guard_on rfl rfl rfl rfl hb84) (op_load_lp (v := .pv (.int .i64 a2.fN)) rfl rfl rfl rfl Try_one_3 rfl rfl) ?_
        refine reg_cons (guard_on rfl rfl rfl rfl hb84) (op_int (k := .i64) (m := y67.fN) (n := a2.fN) rfl rfl rfl rfl rfl rfl) ?_
        refine rpt hb84 ?_
        refine rmv ?_
        rcases ite_some hF with ⟨hb85, hF⟩ | ⟨hb85, hF⟩
        · obtain ⟨y86, h87, hF⟩ := bind_some hF
          refine reg_cons (guard_on rfl rfl rfl rfl hb85) (op_call 3 rfl (caps := []) (args := []) (rs := [.p (.bool y86)]) rfl rfl rfl Try_cal_16 (law26_awake_ok h87) rfl rfl rfl) ?_
          refine rpt hb85 ?_
          refine ras ?_
          refine reg_nil ?_
          refine post_imp (s' := ⟨130, [(6, some (.pv (.bool y86)))], [], 0, [], [], 0, []⟩) (imps [] ⟨by kernel_rfl, trivial⟩ trivial) ?_
          refine post_next ?_
          refine aw_ret ?_
          obtain rfl := Option.some.inj hF
          exact post_ret rfl rfl (.cons _ _ _ _ _ (.tmp _ _ rfl) (.p _) .nil) (.inl rfl)
        refine rgo_f hb85 ?_
        refine rpf hb85 ?_
        refine ras ?_
        refine reg_nil ?_
        refine post_imp (s' := ⟨130, [(6, some (.pv (.bool false)))], [], 0, [], [], 0, []⟩) (imps [] ⟨by kernel_rfl, trivial⟩ trivial) ?_
        refine post_next ?_
        refine aw_ret ?_
        obtain rfl := Option.some.inj hF
        exact post_ret rfl rfl (.cons _ _ _ _ _ (.tmp _ _ rfl) (.p _) .nil) (.inl rfl)
      iterate 5 (refine rgo_f hb84 ?_)
      refine rpf hb84 ?_
      refine rmv ?_
      refine rgo_f rfl ?_
      refine rpf rfl ?_
      refine ras ?_
      refine reg_nil ?_
      refine post_imp (s' := ⟨130, [(6, some (.pv (.bool false)))], [], 0, [], [], 0, []⟩) (imps [] ⟨by kernel_rfl, trivial⟩ trivial) ?_
      refine post_next ?_
      refine aw_ret ?_
      obtain rfl := Option.some.inj hF
      exact post_ret rfl rfl (.cons _ _ _ _ _ (.tmp _ _ rfl) (.p _) .nil) (.inl rfl)
    iterate 5 (refine rgo_f hb83 ?_)
    refine rpf hb83 ?_
    refine rmv ?_
    iterate 5 (refine rgo_f rfl ?_)
    refine rpf rfl ?_
    refine rmv ?_
    refine rgo_f rfl ?_
    refine rpf rfl ?_
    refine ras ?_
    refine reg_nil ?_
    refine post_imp (s' := ⟨130, [(6, some (.pv (.bool false)))], [], 0, [], [], 0, []⟩) (imps [] ⟨by kernel_rfl, trivial⟩ trivial) ?_
    refine post_next ?_
    refine aw_ret ?_
    obtain rfl := Option.some.inj hF
    exact post_ret rfl rfl (.cons _ _ _ _ _ (.tmp _ _ rfl) (.p _) .nil) (.inl rfl)
  iterate 4 (refine rgo_f hb75 ?_)
  iterate 3 (refine rgu ?_)
  refine rgo_f hb75 ?_
  refine rpf hb75 ?_
  refine rmv ?_
  iterate 5 (refine rgo_f rfl ?_)
  refine rpf rfl ?_
  refine rmv ?_
  iterate 5 (refine rgo_f rfl ?_)
  refine rpf rfl ?_
  refine rmv ?_
  refine rgo_f rfl ?_
  refine rpf rfl ?_
  refine ras ?_
  refine reg_nil ?_
  refine post_imp (s' := ⟨130, [(6, some (.pv (.bool false)))], [], 0, [], [], 0, []⟩) (imps [] ⟨by kernel_rfl, trivial⟩ trivial) ?_
  refine post_next ?_
  refine aw_ret ?_
  obtain rfl := Option.some.inj hF
  exact post_ret rfl rfl (.cons _ _ _ _ _ (.tmp _ _ rfl) (.p _) .nil) (.inl rfl)
end Go.Proofs.Ytkfgkkbfipgklaa
