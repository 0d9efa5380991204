/- A part of the proof that the law FieldFind gives true for every input. -/
import Derived.Test.YtpbbeljmmabeeaaFieldFindT
import Derived.Test.YtpbbeljmmabeeaaFieldFindX
import Derived.Test.YtpbbeljmmabeeaaFieldFindI
import Derived.Test.YtpbbeljmmabeeaaFieldFindW0
/- Each Go function computes its plain function. -/
namespace Go.Proofs.Ytpbbeljmmabeeaa
open Go.RowKit Go.Abs
set_option maxRecDepth 100000
theorem ref16_Of_ok {a0 : List GClass} {a1 : List UInt8} {a2 : List UInt8} {r : GSlot_ref16 × Bool} (hF : ref16_Of a0 a1 a2 = some r) : Abs.Fn Try.prog 56 [.vs 7 (List.map eGClass a0), .str a1, .str a2] [.p (.agg (eGSlot_ref16 r.1)), .p (.bool r.2)] := by
  unfold ref16_Of at hF
  refine fn_of_body (n := 22) Try.func56 rfl rfl rfl ?_
  intro w O
  refine aw_seq ?_
  refine aw_region ?_
  refine reg_cons (guard_no rfl) (op_alloc 0 rfl (ps := [.str (({ fClass := [], fVar := ({ fName := [], fType := ({ fKind := 0, fClass := [], fN := 0, fOwn := (⟨({ fKind := 0, fN := 0 } : GOwner), ({ fKind := 0, fN := 0 } : GOwner), ({ fKind := 0, fN := 0 } : GOwner), ({ fKind := 0, fN := 0 } : GOwner)⟩ : A4 GOwner) } : GType), fAt := 0 } : GVar) } : GSlot_ref16).fClass), .str ((({ fClass := [], fVar := ({ fName := [], fType := ({ fKind := 0, fClass := [], fN := 0, fOwn := (⟨({ fKind := 0, fN := 0 } : GOwner), ({ fKind := 0, fN := 0 } : GOwner), ({ fKind := 0, fN := 0 } : GOwner), ({ fKind := 0, fN := 0 } : GOwner)⟩ : A4 GOwner) } : GType), fAt := 0 } : GVar) } : GSlot_ref16).fVar).fName), .int .i64 (((({ fClass := [], fVar := ({ fName := [], fType := ({ fKind := 0, fClass := [], fN := 0, fOwn := (⟨({ fKind := 0, fN := 0 } : GOwner), ({ fKind := 0, fN := 0 } : GOwner), ({ fKind := 0, fN := 0 } : GOwner), ({ fKind := 0, fN := 0 } : GOwner)⟩ : A4 GOwner) } : GType), fAt := 0 } : GVar) } : GSlot_ref16).fVar).fType).fKind), .str (((({ fClass := [], fVar := ({ fName := [], fType := ({ fKind := 0, fClass := [], fN := 0, fOwn := (⟨({ fKind := 0, fN := 0 } : GOwner), ({ fKind := 0, fN := 0 } : GOwner), ({ fKind := 0, fN := 0 } : GOwner), ({ fKind := 0, fN := 0 } : GOwner)⟩ : A4 GOwner) } : GType), fAt := 0 } : GVar) } : GSlot_ref16).fVar).fType).fClass), .int .i64 (((({ fClass := [], fVar := ({ fName := [], fType := ({ fKind := 0, fClass := [], fN := 0, fOwn := (⟨({ fKind := 0, fN := 0 } : GOwner), ({ fKind := 0, fN := 0 } : GOwner), ({ fKind := 0, fN := 0 } : GOwner), ({ fKind := 0, fN := 0 } : GOwner)⟩ : A4 GOwner) } : GType), fAt := 0 } : GVar) } : GSlot_ref16).fVar).fType).fN), .int .i64 (((((({ fClass := [], fVar := ({ fName := [], fType := ({ fKind := 0, fClass := [], fN := 0, fOwn := (⟨({ fKind := 0, fN := 0 } : GOwner), ({ fKind := 0, fN := 0 } : GOwner), ({ fKind := 0, fN := 0 } : GOwner), ({ fKind := 0, fN := 0 } : GOwner)⟩ : A4 GOwner) } : GType), fAt := 0 } : GVar) } : GSlot_ref16).fVar).fType).fOwn).a0).fKind), .int .i64 (((((({ fClass := [], fVar := ({ fName := [], fType := ({ fKind := 0, fClass := [], fN := 0, fOwn := (⟨({ fKind := 0, fN := 0 } : GOwner), ({ fKind := 0, fN := 0 } : GOwner), ({ fKind := 0, fN := 0 } : GOwner), ({ fKind := 0, fN := 0 } : GOwner)⟩ : A4 GOwner) } : GType), fAt := 0 } : GVar) } : GSlot_ref16).fVar).fType).fOwn).a0).fN), .int .i64 (((((({ fClass := [], fVar := ({ fName := [], fType := ({ fKind := 0, fClass := [], fN := 0, fOwn := (⟨({ fKind := 0, fN := 0 } : GOwner), ({ fKind := 0, fN := 0 } : GOwner), ({ fKind := 0, fN := 0 } : GOwner), ({ fKind := 0, fN := 0 } : GOwner)⟩ : A4 GOwner) } : GType), fAt := 0 } : GVar) } : GSlot_ref16).fVar).fType).fOwn).a1).fKind), .int .i64 (((((({ fClass := [], fVar := ({ fName := [], fType := ({ fKind := 0, fClass := [], fN := 0, fOwn := (⟨({ fKind := 0, fN := 0 } : GOwner), ({ fKind := 0, fN := 0 } : GOwner), ({ fKind := 0, fN := 0 } : GOwner), ({ fKind := 0, fN := 0 } : GOwner)⟩ : A4 GOwner) } : GType), fAt := 0 } : GVar) } : GSlot_ref16).fVar).fType).fOwn).a1).fN), .int .i64 (((((({ fClass := [], fVar := ({ fName := [], fType := ({ fKind := 0, fClass := [], fN := 0, fOwn := (⟨({ fKind := 0, fN := 0 } : GOwner), ({ fKind := 0, fN := 0 } : GOwner), ({ fKind := 0, fN := 0 } : GOwner), ({ fKind := 0, fN := 0 } : GOwner)⟩ : A4 GOwner) } : GType), fAt := 0 } : GVar) } : GSlot_ref16).fVar).fType).fOwn).a2).fKind), .int .i64 (((((({ fClass := [], fVar := ({ fName := [], fType := ({ fKind := 0, fClass := [], fN := 0, fOwn := (⟨({ fKind := 0, fN := 0 } : GOwner), ({ fKind := 0, fN := 0 } : GOwner), ({ fKind := 0, fN := 0 } : GOwner), ({ fKind := 0, fN := 0 } : GOwner)⟩ : A4 GOwner) } : GType), fAt := 0 } : GVar) } : GSlot_ref16).fVar).fType).fOwn).a2).fN), .int .i64 (((((({ fClass := [], fVar := ({ fName := [], fType := ({ fKind := 0, fClass := [], fN := 0, fOwn := (⟨({ fKind := 0, fN := 0 } : GOwner), ({ fKind := 0, fN := 0 } : GOwner), ({ fKind := 0, fN := 0 } : GOwner), ({ fKind := 0, fN := 0 } : GOwner)⟩ : A4 GOwner) } : GType), fAt := 0 } : GVar) } : GSlot_ref16).fVar).fType).fOwn).a3).fKind), .int .i64 (((((({ fClass := [], fVar := ({ fName := [], fType := ({ fKind := 0, fClass := [], fN := 0, fOwn := (⟨({ fKind := 0, fN := 0 } : GOwner), ({ fKind := 0, fN := 0 } : GOwner), ({ fKind := 0, fN := 0 } : GOwner), ({ fKind := 0, fN := 0 } : GOwner)⟩ : A4 GOwner) } : GType), fAt := 0 } : GVar) } : GSlot_ref16).fVar).fType).fOwn).a3).fN), .int .i64 ((({ fClass := [], fVar := ({ fName := [], fType := ({ fKind := 0, fClass := [], fN := 0, fOwn := (⟨({ fKind := 0, fN := 0 } : GOwner), ({ fKind := 0, fN := 0 } : GOwner), ({ fKind := 0, fN := 0 } : GOwner), ({ fKind := 0, fN := 0 } : GOwner)⟩ : A4 GOwner) } : GType), fAt := 0 } : GVar) } : GSlot_ref16).fVar).fAt)]) rfl Try_zer_82 (by exact ⟨rfl, rfl, rfl, rfl, rfl, rfl, rfl, rfl, rfl, rfl, rfl, rfl, rfl, rfl, trivial⟩) rfl rfl) ?_
  refine reg_cons (guard_no rfl) (op_assign rfl rfl rfl rfl) ?_
  refine reg_nil ?_
  refine post_imp (s' := ⟨22, [(0, some (.pv (.vs 7 (List.map eGClass a0)))), (1, some (.pv (.str a1))), (2, some (.pv (.str a2))), (6, some (.lp 0 0))], [(0, some (.box 82 [.pv (.str (({ fClass := [], fVar := ({ fName := [], fType := ({ fKind := 0, fClass := [], fN := 0, fOwn := (⟨({ fKind := 0, fN := 0 } : GOwner), ({ fKind := 0, fN := 0 } : GOwner), ({ fKind := 0, fN := 0 } : GOwner), ({ fKind := 0, fN := 0 } : GOwner)⟩ : A4 GOwner) } : GType), fAt := 0 } : GVar) } : GSlot_ref16).fClass)), .pv (.str ((({ fClass := [], fVar := ({ fName := [], fType := ({ fKind := 0, fClass := [], fN := 0, fOwn := (⟨({ fKind := 0, fN := 0 } : GOwner), ({ fKind := 0, fN := 0 } : GOwner), ({ fKind := 0, fN := 0 } : GOwner), ({ fKind := 0, fN := 0 } : GOwner)⟩ : A4 GOwner) } : GType), fAt := 0 } : GVar) } : GSlot_ref16).fVar).fName)), .pv (.int .i64 (((({ fClass := [], fVar := ({ fName := [], fType := ({ fKind := 0, fClass := [], fN := 0, fOwn := (⟨({ fKind := 0, fN := 0 } : GOwner), ({ fKind := 0, fN := 0 } : GOwner), ({ fKind := 0, fN := 0 } : GOwner), ({ fKind := 0, fN := 0 } : GOwner)⟩ : A4 GOwner) } : GType), fAt := 0 } : GVar) } : GSlot_ref16).fVar).fType).fKind)), .pv (.str (((({ fClass := [], fVar := ({ fName := [], fType := ({ fKind := 0, fClass := [], fN := 0, fOwn := (⟨({ fKind := 0, fN := 0 } : GOwner), ({ fKind := 0, fN := 0 } : GOwner), ({ fKind := 0, fN := 0 } : GOwner), ({ fKind := 0, fN := 0 } : GOwner)⟩ : A4 GOwner) } : GType), fAt := 0 } : GVar) } : GSlot_ref16).fVar).fType).fClass)), .pv (.int .i64 (((({ fClass := [], fVar := ({ fName := [], fType := ({ fKind := 0, fClass := [], fN := 0, fOwn := (⟨({ fKind := 0, fN := 0 } : GOwner), ({ fKind := 0, fN := 0 } : GOwner), ({ fKind := 0, fN := 0 } : GOwner), ({ fKind := 0, fN := 0 } : GOwner)⟩ : A4 GOwner) } : GType), fAt := 0 } : GVar) } : GSlot_ref16).fVar).fType).fN)), .pv (.int .i64 (((((({ fClass := [], fVar := ({ fName := [], fType := ({ fKind := 0, fClass := [], fN := 0, fOwn := (⟨({ fKind := 0, fN := 0 } : GOwner), ({ fKind := 0, fN := 0 } : GOwner), ({ fKind := 0, fN := 0 } : GOwner), ({ fKind := 0, fN := 0 } : GOwner)⟩ : A4 GOwner) } : GType), fAt := 0 } : GVar) } : GSlot_ref16).fVar).fType).fOwn).a0).fKind)), .pv (.int .i64 (((((({ fClass := [], fVar := ({ fName := [], fType := ({ fKind := 0, fClass := [], fN := 0, fOwn := (⟨({ fKind := 0, fN := 0 } : GOwner), ({ fKind := 0, fN := 0 } : GOwner), ({ fKind := 0, fN := 0 } : GOwner), ({ fKind := 0, fN := 0 } : GOwner)⟩ : A4 GOwner) } : GType), fAt := 0 } : GVar) } : GSlot_ref16).fVar).fType).fOwn).a0).fN)), .pv (.int .i64 (((((({ fClass := [], fVar := ({ fName := [], fType := ({ fKind := 0, fClass := [], fN := 0, fOwn := (⟨({ fKind := 0, fN := 0 } : GOwner), ({ fKind := 0, fN := 0 } : GOwner), ({ fKind := 0, fN := 0 } : GOwner), ({ fKind := 0, fN := 0 } : GOwner)⟩ : A4 GOwner) } : GType), fAt := 0 } : GVar) } : GSlot_ref16).fVar).fType).fOwn).a1).fKind)), .pv (.int .i64 (((((({ fClass := [], fVar := ({ fName := [], fType := ({ fKind := 0, fClass := [], fN := 0, fOwn := (⟨({ fKind := 0, fN := 0 } : GOwner), ({ fKind := 0, fN := 0 } : GOwner), ({ fKind := 0, fN := 0 } : GOwner), ({ fKind := 0, fN := 0 } : GOwner)⟩ : A4 GOwner) } : GType), fAt := 0 } : GVar) } : GSlot_ref16).fVar).fType).fOwn).a1).fN)), .pv (.int .i64 (((((({ fClass := [], fVar := ({ fName := [], fType := ({ fKind := 0, fClass := [], fN := 0, fOwn := (⟨({ fKind := 0, fN := 0 } : GOwner), ({ fKind := 0, fN := 0 } : GOwner), ({ fKind := 0, fN := 0 } : GOwner), ({ fKind := 0, fN := 0 } : GOwner)⟩ : A4 GOwner) } : GType), fAt := 0 } : GVar) } : GSlot_ref16).fVar).fType).fOwn).a2).fKind)), .pv (.int .i64 (((((({ fClass := [], fVar := ({ fName := [], fType := ({ fKind := 0, fClass := [], fN := 0, fOwn := (⟨({ fKind := 0, fN := 0 } : GOwner), ({ fKind := 0, fN := 0 } : GOwner), ({ fKind := 0, fN := 0 } : GOwner), ({ fKind := 0, fN := 0 } : GOwner)⟩ : A4 GOwner) } : GType), fAt := 0 } : GVar) } : GSlot_ref16).fVar).fType).fOwn).a2).fN)), .pv (.int .i64 (((((({ fClass := [], fVar := ({ fName := [], fType := ({ fKind := 0, fClass := [], fN := 0, fOwn := (⟨({ fKind := 0, fN := 0 } : GOwner), ({ fKind := 0, fN := 0 } : GOwner), ({ fKind := 0, fN := 0 } : GOwner), ({ fKind := 0, fN := 0 } : GOwner)⟩ : A4 GOwner) } : GType), fAt := 0 } : GVar) } : GSlot_ref16).fVar).fType).fOwn).a3).fKind)), .pv (.int .i64 (((((({ fClass := [], fVar := ({ fName := [], fType := ({ fKind := 0, fClass := [], fN := 0, fOwn := (⟨({ fKind := 0, fN := 0 } : GOwner), ({ fKind := 0, fN := 0 } : GOwner), ({ fKind := 0, fN := 0 } : GOwner), ({ fKind := 0, fN := 0 } : GOwner)⟩ : A4 GOwner) } : GType), fAt := 0 } : GVar) } : GSlot_ref16).fVar).fType).fOwn).a3).fN)), .pv (.int .i64 ((({ fClass := [], fVar := ({ fName := [], fType := ({ fKind := 0, fClass := [], fN := 0, fOwn := (⟨({ fKind := 0, fN := 0 } : GOwner), ({ fKind := 0, fN := 0 } : GOwner), ({ fKind := 0, fN := 0 } : GOwner), ({ fKind := 0, fN := 0 } : GOwner)⟩ : A4 GOwner) } : GType), fAt := 0 } : GVar) } : GSlot_ref16).fVar).fAt))]))], 1, [], [], 0, []⟩) (imp_sub [0] rfl (by decide) rfl rfl ⟨by kernel_rfl, by kernel_rfl, by kernel_rfl, by kernel_rfl, trivial⟩ ⟨by kernel_rfl, trivial⟩ rfl rfl rfl) ?_
  refine post_next ?_
  refine aw_seq ?_
  refine aw_region ?_
  refine reg_cons (guard_no rfl) (op_move rfl rfl rfl rfl) ?_
  refine reg_cons (guard_no rfl) (op_move rfl rfl rfl rfl) ?_
  refine reg_cons (guard_no rfl) (op_move rfl rfl rfl rfl) ?_
  obtain ⟨y3, h4, hF⟩ := bind_some hF
  refine reg_cons (guard_no rfl) (op_call 1 rfl (caps := []) (args := [.vs 7 (List.map eGClass a0), .str a1, .str a2]) (rs := [.p (.int .i64 y3)]) rfl rfl rfl Try_cal_57 (ref16_Find_ok h4) rfl rfl rfl) ?_
  refine reg_cons (guard_no rfl) (op_assign rfl rfl rfl rfl) ?_
  refine reg_nil ?_
  refine post_imp (s' := ⟨22, [(0, some (.pv (.vs 7 (List.map eGClass a0)))), (1, some (.pv (.str a1))), (6, some (.lp 0 0)), (8, some (.pv (.int .i64 y3)))], [(0, some (.box 82 [.pv (.str (({ fClass := [], fVar := ({ fName := [], fType := ({ fKind := 0, fClass := [], fN := 0, fOwn := (⟨({ fKind := 0, fN := 0 } : GOwner), ({ fKind := 0, fN := 0 } : GOwner), ({ fKind := 0, fN := 0 } : GOwner), ({ fKind := 0, fN := 0 } : GOwner)⟩ : A4 GOwner) } : GType), fAt := 0 } : GVar) } : GSlot_ref16).fClass)), .pv (.str ((({ fClass := [], fVar := ({ fName := [], fType := ({ fKind := 0, fClass := [], fN := 0, fOwn := (⟨({ fKind := 0, fN := 0 } : GOwner), ({ fKind := 0, fN := 0 } : GOwner), ({ fKind := 0, fN := 0 } : GOwner), ({ fKind := 0, fN := 0 } : GOwner)⟩ : A4 GOwner) } : GType), fAt := 0 } : GVar) } : GSlot_ref16).fVar).fName)), .pv (.int .i64 (((({ fClass := [], fVar := ({ fName := [], fType := ({ fKind := 0, fClass := [], fN := 0, fOwn := (⟨({ fKind := 0, fN := 0 } : GOwner), ({ fKind := 0, fN := 0 } : GOwner), ({ fKind := 0, fN := 0 } : GOwner), ({ fKind := 0, fN := 0 } : GOwner)⟩ : A4 GOwner) } : GType), fAt := 0 } : GVar) } : GSlot_ref16).fVar).fType).fKind)), .pv (.str (((({ fClass := [], fVar := ({ fName := [], fType := ({ fKind := 0, fClass := [], fN := 0, fOwn := (⟨({ fKind := 0, fN := 0 } : GOwner), ({ fKind := 0, fN := 0 } : GOwner), ({ fKind := 0, fN := 0 } : GOwner), ({ fKind := 0, fN := 0 } : GOwner)⟩ : A4 GOwner) } : GType), fAt := 0 } : GVar) } : GSlot_ref16).fVar).fType).fClass)), .pv (.int .i64 (((({ fClass := [], fVar := ({ fName := [], fType := ({ fKind := 0, fClass := [], fN := 0, fOwn := (⟨({ fKind := 0, fN := 0 } : GOwner), ({ fKind := 0, fN := 0 } : GOwner), ({ fKind := 0, fN := 0 } : GOwner), ({ fKind := 0, fN := 0 } : GOwner)⟩ : A4 GOwner) } : GType), fAt := 0 } : GVar) } : GSlot_ref16).fVar).fType).fN)), .pv (.int .i64 (((((({ fClass := [], fVar := ({ fName := [], fType := ({ fKind := 0, fClass := [], fN := 0, fOwn := (⟨({ fKind := 0, fN := 0 } : GOwner), ({ fKind := 0, fN := 0 } : GOwner), ({ fKind := 0, fN := 0 } : GOwner), ({ fKind := 0, fN := 0 } : GOwner)⟩ : A4 GOwner) } : GType), fAt := 0 } : GVar) } : GSlot_ref16).fVar).fType).fOwn).a0).fKind)), .pv (.int .i64 (((((({ fClass := [], fVar := ({ fName := [], fType := ({ fKind := 0, fClass := [], fN := 0, fOwn := (⟨({ fKind := 0, fN := 0 } : GOwner), ({ fKind := 0, fN := 0 } : GOwner), ({ fKind := 0, fN := 0 } : GOwner), ({ fKind := 0, fN := 0 } : GOwner)⟩ : A4 GOwner) } : GType), fAt := 0 } : GVar) } : GSlot_ref16).fVar).fType).fOwn).a0).fN)), .pv (.int .i64 (((((({ fClass := [], fVar := ({ fName := [], fType := ({ fKind := 0, fClass := [], fN := 0, fOwn := (⟨({ fKind := 0, fN := 0 } : GOwner), ({ fKind := 0, fN := 0 } : GOwner), ({ fKind := 0, fN := 0 } : GOwner), ({ fKind := 0, fN := 0 } : GOwner)⟩ : A4 GOwner) } : GType), fAt := 0 } : GVar) } : GSlot_ref16).fVar).fType).fOwn).a1).fKind)), .pv (.int .i64 (((((({ fClass := [], fVar := ({ fName := [], fType := ({ fKind := 0, fClass := [], fN := 0, fOwn := (⟨({ fKind := 0, fN := 0 } : GOwner), ({ fKind := 0, fN := 0 } : GOwner), ({ fKind := 0, fN := 0 } : GOwner), ({ fKind := 0, fN := 0 } : GOwner)⟩ : A4 GOwner) } : GType), fAt := 0 } : GVar) } : GSlot_ref16).fVar).fType).fOwn).a1).fN)), .pv (.int .i64 (((((({ fClass := [], fVar := ({ fName := [], fType := ({ fKind := 0, fClass := [], fN := 0, fOwn := (⟨({ fKind := 0, fN := 0 } : GOwner), ({ fKind := 0, fN := 0 } : GOwner), ({ fKind := 0, fN := 0 } : GOwner), ({ fKind := 0, fN := 0 } : GOwner)⟩ : A4 GOwner) } : GType), fAt := 0 } : GVar) } : GSlot_ref16).fVar).fType).fOwn).a2).fKind)), .pv (.int .i64 (((((({ fClass := [], fVar := ({ fName := [], fType := ({ fKind := 0, fClass := [], fN := 0, fOwn := (⟨({ fKind := 0, fN := 0 } : GOwner), ({ fKind := 0, fN := 0 } : GOwner), ({ fKind := 0, fN := 0 } : GOwner), ({ fKind := 0, fN := 0 } : GOwner)⟩ : A4 GOwner) } : GType), fAt := 0 } : GVar) } : GSlot_ref16).fVar).fType).fOwn).a2).fN)), .pv (.int .i64 (((((({ fClass := [], fVar := ({ fName := [], fType := ({ fKind := 0, fClass := [], fN := 0, fOwn := (⟨({ fKind := 0, fN := 0 } : GOwner), ({ fKind := 0, fN := 0 } : GOwner), ({ fKind := 0, fN := 0 } : GOwner), ({ fKind := 0, fN := 0 } : GOwner)⟩ : A4 GOwner) } : GType), fAt := 0 } : GVar) } : GSlot_ref16).fVar).fType).fOwn).a3).fKind)), .pv (.int .i64 (((((({ fClass := [], fVar := ({ fName := [], fType := ({ fKind := 0, fClass := [], fN := 0, fOwn := (⟨({ fKind := 0, fN := 0 } : GOwner), ({ fKind := 0, fN := 0 } : GOwner), ({ fKind := 0, fN := 0 } : GOwner), ({ fKind := 0, fN := 0 } : GOwner)⟩ : A4 GOwner) } : GType), fAt := 0 } : GVar) } : GSlot_ref16).fVar).fType).fOwn).a3).fN)), .pv (.int .i64 ((({ fClass := [], fVar := ({ fName := [], fType := ({ fKind := 0, fClass := [], fN := 0, fOwn := (⟨({ fKind := 0, fN := 0 } : GOwner), ({ fKind := 0, fN := 0 } : GOwner), ({ fKind := 0, fN := 0 } : GOwner), ({ fKind := 0, fN := 0 } : GOwner)⟩ : A4 GOwner) } : GType), fAt := 0 } : GVar) } : GSlot_ref16).fVar).fAt))]))], 1, [], [], 0, []⟩) (imp_sub [0] rfl (by decide) rfl rfl ⟨by kernel_rfl, by kernel_rfl, by kernel_rfl, by kernel_rfl, trivial⟩ ⟨by kernel_rfl, trivial⟩ rfl rfl rfl) ?_
  refine post_next ?_
  refine aw_seq ?_
  refine aw_seq ?_
  refine aw_region ?_
  refine reg_cons (guard_no rfl) (op_move rfl rfl rfl rfl) ?_
  refine reg_cons (guard_no rfl) (op_int (k := .i64) (m := y3) (n := 0) rfl rfl rfl rfl rfl rfl) ?_
  refine reg_nil ?_
  refine post_imp (s' := ⟨22, [(0, some (.pv (.vs 7 (List.map eGClass a0)))), (1, some (.pv (.str a1))), (6, some (.lp 0 0)), (8, some (.pv (.int .i64 y3))), (14, some (.pv (.bool (decide (y3 < 0)))))], [(0, some (.box 82 [.pv (.str (({ fClass := [], fVar := ({ fName := [], fType := ({ fKind := 0, fClass := [], fN := 0, fOwn := (⟨({ fKind := 0, fN := 0 } : GOwner), ({ fKind := 0, fN := 0 } : GOwner), ({ fKind := 0, fN := 0 } : GOwner), ({ fKind := 0, fN := 0 } : GOwner)⟩ : A4 GOwner) } : GType), fAt := 0 } : GVar) } : GSlot_ref16).fClass)), .pv (.str ((({ fClass := [], fVar := ({ fName := [], fType := ({ fKind := 0, fClass := [], fN := 0, fOwn := (⟨({ fKind := 0, fN := 0 } : GOwner), ({ fKind := 0, fN := 0 } : GOwner), ({ fKind := 0, fN := 0 } : GOwner), ({ fKind := 0, fN := 0 } : GOwner)⟩ : A4 GOwner) } : GType), fAt := 0 } : GVar) } : GSlot_ref16).fVar).fName)), .pv (.int .i64 (((({ fClass := [], fVar := ({ fName := [], fType := ({ fKind := 0, fClass := [], fN := 0, fOwn := (⟨({ fKind := 0, fN := 0 } : GOwner), ({ fKind := 0, fN := 0 } : GOwner), ({ fKind := 0, fN := 0 } : GOwner), ({ fKind := 0, fN := 0 } : GOwner)⟩ : A4 GOwner) } : GType), fAt := 0 } : GVar) } : GSlot_ref16).fVar).fType).fKind)), .pv (.str (((({ fClass := [], fVar := ({ fName := [], fType := ({ fKind := 0, fClass := [], fN := 0, fOwn := (⟨({ fKind := 0, fN := 0 } : GOwner), ({ fKind := 0, fN := 0 } : GOwner), ({ fKind := 0, fN := 0 } : GOwner), ({ fKind := 0, fN := 0 } : GOwner)⟩ : A4 GOwner) } : GType), fAt := 0 } : GVar) } : GSlot_ref16).fVar).fType).fClass)), .pv (.int .i64 (((({ fClass := [], fVar := ({ fName := [], fType := ({ fKind := 0, fClass := [], fN := 0, fOwn := (⟨({ fKind := 0, fN := 0 } : GOwner), ({ fKind := 0, fN := 0 } : GOwner), ({ fKind := 0, fN := 0 } : GOwner), ({ fKind := 0, fN := 0 } : GOwner)⟩ : A4 GOwner) } : GType), fAt := 0 } : GVar) } : GSlot_ref16).fVar).fType).fN)), .pv (.int .i64 (((((({ fClass := [], fVar := ({ fName := [], fType := ({ fKind := 0, fClass := [], fN := 0, fOwn := (⟨({ fKind := 0, fN := 0 } : GOwner), ({ fKind := 0, fN := 0 } : GOwner), ({ fKind := 0, fN := 0 } : GOwner), ({ fKind := 0, fN := 0 } : GOwner)⟩ : A4 GOwner) } : GType), fAt := 0 } : GVar) } : GSlot_ref16).fVar).fType).fOwn).a0).fKind)), .pv (.int .i64 (((((({ fClass := [], fVar := ({ fName := [], fType := ({ fKind := 0, fClass := [], fN := 0, fOwn := (⟨({ fKind := 0, fN := 0 } : GOwner), ({ fKind := 0, fN := 0 } : GOwner), ({ fKind := 0, fN := 0 } : GOwner), ({ fKind := 0, fN := 0 } : GOwner)⟩ : A4 GOwner) } : GType), fAt := 0 } : GVar) } : GSlot_ref16).fVar).fType).fOwn).a0).fN)), .pv (.int .i64 (((((({ fClass := [], fVar := ({ fName := [], fType := ({ fKind := 0, fClass := [], fN := 0, fOwn := (⟨({ fKind := 0, fN := 0 } : GOwner), ({ fKind := 0, fN := 0 } : GOwner), ({ fKind := 0, fN := 0 } : GOwner), ({ fKind := 0, fN := 0 } : GOwner)⟩ : A4 GOwner) } : GType), fAt := 0 } : GVar) } : GSlot_ref16).fVar).fType).fOwn).a1).fKind)), .pv (.int .i64 (((((({ fClass := [], fVar := ({ fName := [], fType := ({ fKind := 0, fClass := [], fN := 0, fOwn := (⟨({ fKind := 0, fN := 0 } : GOwner), ({ fKind := 0, fN := 0 } : GOwner), ({ fKind := 0, fN := 0 } : GOwner), ({ fKind := 0, fN := 0 } : GOwner)⟩ : A4 GOwner) } : GType), fAt := 0 } : GVar) } : GSlot_ref16).fVar).fType).fOwn).a1).fN)), .pv (.int .i64 (((((({ fClass := [], fVar := ({ fName := [], fType := ({ fKind := 0, fClass := [], fN := 0, fOwn := (⟨({ fKind := 0, fN := 0 } : GOwner), ({ fKind := 0, fN := 0 } : GOwner), ({ fKind := 0, fN := 0 } : GOwner), ({ fKind := 0, fN := 0 } : GOwner)⟩ : A4 GOwner) } : GType), fAt := 0 } : GVar) } : GSlot_ref16).fVar).fType).fOwn).a2).fKind)), .pv (.int .i64 (((((({ fClass := [], fVar := ({ fName := [], fType := ({ fKind := 0, fClass := [], fN := 0, fOwn := (⟨({ fKind := 0, fN := 0 } : GOwner), ({ fKind := 0, fN := 0 } : GOwner), ({ fKind := 0, fN := 0 } : GOwner), ({ fKind := 0, fN := 0 } : GOwner)⟩ : A4 GOwner) } : GType), fAt := 0 } : GVar) } : GSlot_ref16).fVar).fType).fOwn).a2).fN)), .pv (.int .i64 (((((({ fClass := [], fVar := ({ fName := [], fType := ({ fKind := 0, fClass := [], fN := 0, fOwn := (⟨({ fKind := 0, fN := 0 } : GOwner), ({ fKind := 0, fN := 0 } : GOwner), ({ fKind := 0, fN := 0 } : GOwner), ({ fKind := 0, fN := 0 } : GOwner)⟩ : A4 GOwner) } : GType), fAt := 0 } : GVar) } : GSlot_ref16).fVar).fType).fOwn).a3).fKind)), .pv (.int .i64 (((((({ fClass := [], fVar := ({ fName := [], fType := ({ fKind := 0, fClass := [], fN := 0, fOwn := (⟨({ fKind := 0, fN := 0 } : GOwner), ({ fKind := 0, fN := 0 } : GOwner), ({ fKind := 0, fN := 0 } : GOwner), ({ fKind := 0, fN := 0 } : GOwner)⟩ : A4 GOwner) } : GType), fAt := 0 } : GVar) } : GSlot_ref16).fVar).fType).fOwn).a3).fN)), .pv (.int .i64 ((({ fClass := [], fVar := ({ fName := [], fType := ({ fKind := 0, fClass := [], fN := 0, fOwn := (⟨({ fKind := 0, fN := 0 } : GOwner), ({ fKind := 0, fN := 0 } : GOwner), ({ fKind := 0, fN := 0 } : GOwner), ({ fKind := 0, fN := 0 } : GOwner)⟩ : A4 GOwner) } : GType), fAt := 0 } : GVar) } : GSlot_ref16).fVar).fAt))]))], 1, [], [], 0, []⟩) (imp_sub [0] rfl (by decide) rfl rfl ⟨by kernel_rfl, by kernel_rfl, by kernel_rfl, by kernel_rfl, by kernel_rfl, trivial⟩ ⟨by kernel_rfl, trivial⟩ rfl rfl rfl) ?_
  refine post_next ?_
  rcases ite_some hF with ⟨hb5, hF⟩ | ⟨hb5, hF⟩
  · refine aw_cond_t rfl hb5 ?_
    refine aw_seq ?_
    refine aw_region ?_
    refine reg_cons (guard_no rfl) (op_build (zs := [.str (({ fClass := [], fVar := ({ fName := [], fType := ({ fKind := 0, fClass := [], fN := 0, fOwn := (⟨({ fKind := 0, fN := 0 } : GOwner), ({ fKind := 0, fN := 0 } : GOwner), ({ fKind := 0, fN := 0 } : GOwner), ({ fKind := 0, fN := 0 } : GOwner)⟩ : A4 GOwner) } : GType), fAt := 0 } : GVar) } : GSlot_ref16).fClass), .str ((({ fClass := [], fVar := ({ fName := [], fType := ({ fKind := 0, fClass := [], fN := 0, fOwn := (⟨({ fKind := 0, fN := 0 } : GOwner), ({ fKind := 0, fN := 0 } : GOwner), ({ fKind := 0, fN := 0 } : GOwner), ({ fKind := 0, fN := 0 } : GOwner)⟩ : A4 GOwner) } : GType), fAt := 0 } : GVar) } : GSlot_ref16).fVar).fName), .int .i64 (((({ fClass := [], fVar := ({ fName := [], fType := ({ fKind := 0, fClass := [], fN := 0, fOwn := (⟨({ fKind := 0, fN := 0 } : GOwner), ({ fKind := 0, fN := 0 } : GOwner), ({ fKind := 0, fN := 0 } : GOwner), ({ fKind := 0, fN := 0 } : GOwner)⟩ : A4 GOwner) } : GType), fAt := 0 } : GVar) } : GSlot_ref16).fVar).fType).fKind), .str (((({ fClass := [], fVar := ({ fName := [], fType := ({ fKind := 0, fClass := [], fN := 0, fOwn := (⟨({ fKind := 0, fN := 0 } : GOwner), ({ fKind := 0, fN := 0 } : GOwner), ({ fKind := 0, fN := 0 } : GOwner), ({ fKind := 0, fN := 0 } : GOwner)⟩ : A4 GOwner) } : GType), fAt := 0 } : GVar) } : GSlot_ref16).fVar).fType).fClass), .int .i64 (((({ fClass := [], fVar := ({ fName := [], fType := ({ fKind := 0, fClass := [], fN := 0, fOwn := (⟨({ fKind := 0, fN := 0 } : GOwner), ({ fKind := 0, fN := 0 } : GOwner), ({ fKind := 0, fN := 0 } : GOwner), ({ fKind := 0, fN := 0 } : GOwner)⟩ : A4 GOwner) } : GType), fAt := 0 } : GVar) } : GSlot_ref16).fVar).fType).fN), .int .i64 (((((({ fClass := [], fVar := ({ fName := [], fType := ({ fKind := 0, fClass := [], fN := 0, fOwn := (⟨({ fKind := 0, fN := 0 } : GOwner), ({ fKind := 0, fN := 0 } : GOwner), ({ fKind := 0, fN := 0 } : GOwner), ({ fKind := 0, fN := 0 } : GOwner)⟩ : A4 GOwner) } : GType), fAt := 0 } : GVar) } : GSlot_ref16).fVar).fType).fOwn).a0).fKind), .int .i64 (((((({ fClass := [], fVar := ({ fName := [], fType := ({ fKind := 0, fClass := [], fN := 0, fOwn := (⟨({ fKind := 0, fN := 0 } : GOwner), ({ fKind := 0, fN := 0 } : GOwner), ({ fKind := 0, fN := 0 } : GOwner), ({ fKind := 0, fN := 0 } : GOwner)⟩ : A4 GOwner) } : GType), fAt := 0 } : GVar) } : GSlot_ref16).fVar).fType).fOwn).a0).fN), .int .i64 (((((({ fClass := [], fVar := ({ fName := [], fType := ({ fKind := 0, fClass := [], fN := 0, fOwn := (⟨({ fKind := 0, fN := 0 } : GOwner), ({ fKind := 0, fN := 0 } : GOwner), ({ fKind := 0, fN := 0 } : GOwner), ({ fKind := 0, fN := 0 } : GOwner)⟩ : A4 GOwner) } : GType), fAt := 0 } : GVar) } : GSlot_ref16).fVar).fType).fOwn).a1).fKind), .int .i64 (((((({ fClass := [], fVar := ({ fName := [], fType := ({ fKind := 0, fClass := [], fN := 0, fOwn := (⟨({ fKind := 0, fN := 0 } : GOwner), ({ fKind := 0, fN := 0 } : GOwner), ({ fKind := 0, fN := 0 } : GOwner), ({ fKind := 0, fN := 0 } : GOwner)⟩ : A4 GOwner) } : GType), fAt := 0 } : GVar) } : GSlot_ref16).fVar).fType).fOwn).a1).fN), .int .i64 (((((({ fClass := [], fVar := ({ fName := [], fType := ({ fKind := 0, fClass := [], fN := 0, fOwn := (⟨({ fKind := 0, fN := 0 } : GOwner), ({ fKind := 0, fN := 0 } : GOwner), ({ fKind := 0, fN := 0 } : GOwner), ({ fKind := 0, fN := 0 } : GOwner)⟩ : A4 GOwner) } : GType), fAt := 0 } : GVar) } : GSlot_ref16).fVar).fType).fOwn).a2).fKind), .int .i64 (((((({ fClass := [], fVar := ({ fName := [], fType := ({ fKind := 0, fClass := [], fN := 0, fOwn := (⟨({ fKind := 0, fN := 0 } : GOwner), ({ fKind := 0, fN := 0 } : GOwner), ({ fKind := 0, fN := 0 } : GOwner), ({ fKind := 0, fN := 0 } : GOwner)⟩ : A4 GOwner) } : GType), fAt := 0 } : GVar) } : GSlot_ref16).fVar).fType).fOwn).a2).fN), .int .i64 (((((({ fClass := [], fVar := ({ fName := [], fType := ({ fKind := 0, fClass := [], fN := 0, fOwn := (⟨({ fKind := 0, fN := 0 } : GOwner), ({ fKind := 0, fN := 0 } : GOwner), ({ fKind := 0, fN := 0 } : GOwner), ({ fKind := 0, fN := 0 } : GOwner)⟩ : A4 GOwner) } : GType), fAt := 0 } : GVar) } : GSlot_ref16).fVar).fType).fOwn).a3).fKind), .int .i64 (((((({ fClass := [], fVar := ({ fName := [], fType := ({ fKind := 0, fClass := [], fN := 0, fOwn := (⟨({ fKind := 0, fN := 0 } : GOwner), ({ fKind := 0, fN := 0 } : GOwner), ({ fKind := 0, fN := 0 } : GOwner), ({ fKind := 0, fN := 0 } : GOwner)⟩ : A4 GOwner) } : GType), fAt := 0 } : GVar) } : GSlot_ref16).fVar).fType).fOwn).a3).fN), .int .i64 ((({ fClass := [], fVar := ({ fName := [], fType := ({ fKind := 0, fClass := [], fN := 0, fOwn := (⟨({ fKind := 0, fN := 0 } : GOwner), ({ fKind := 0, fN := 0 } : GOwner), ({ fKind := 0, fN := 0 } : GOwner), ({ fKind := 0, fN := 0 } : GOwner)⟩ : A4 GOwner) } : GType), fAt := 0 } : GVar) } : GSlot_ref16).fVar).fAt)]) (r := eGSlot_ref16 ({ fClass := [], fVar := ({ fName := [], fType := ({ fKind := 0, fClass := [], fN := 0, fOwn := (⟨({ fKind := 0, fN := 0 } : GOwner), ({ fKind := 0, fN := 0 } : GOwner), ({ fKind := 0, fN := 0 } : GOwner), ({ fKind := 0, fN := 0 } : GOwner)⟩ : A4 GOwner) } : GType), fAt := 0 } : GVar) } : GSlot_ref16)) rfl Try_zer_82 (by exact ⟨rfl, rfl, rfl, rfl, rfl, rfl, rfl, rfl, rfl, rfl, rfl, rfl, rfl, rfl, trivial⟩) Try_plc_82 rfl rfl rfl rfl) ?_
    refine reg_cons (guard_no rfl) (op_store_lp (n := 14) rfl rfl rfl rfl rfl (or_agg Try_agg_82) (by rw [Try_non_82]; rfl) rfl rfl rfl) ?_
    refine reg_cons (guard_no rfl) (op_assign rfl rfl rfl rfl) ?_
    refine reg_nil ?_
    refine post_imp (s' := ⟨22, [(6, some (.lp 0 0)), (7, some (.pv (.bool false)))], [(0, some (.box 82 [.pv (.str (({ fClass := [], fVar := ({ fName := [], fType := ({ fKind := 0, fClass := [], fN := 0, fOwn := (⟨({ fKind := 0, fN := 0 } : GOwner), ({ fKind := 0, fN := 0 } : GOwner), ({ fKind := 0, fN := 0 } : GOwner), ({ fKind := 0, fN := 0 } : GOwner)⟩ : A4 GOwner) } : GType), fAt := 0 } : GVar) } : GSlot_ref16).fClass)), .pv (.str ((({ fClass := [], fVar := ({ fName := [], fType := ({ fKind := 0, fClass := [], fN := 0, fOwn := (⟨({ fKind := 0, fN := 0 } : GOwner), ({ fKind := 0, fN := 0 } : GOwner), ({ fKind := 0, fN := 0 } : GOwner), ({ fKind := 0, fN := 0 } : GOwner)⟩ : A4 GOwner) } : GType), fAt := 0 } : GVar) } : GSlot_ref16).fVar).fName)), .pv (.int .i64 (((({ fClass := [], fVar := ({ fName := [], fType := ({ fKind := 0, fClass := [], fN := 0, fOwn := (⟨({ fKind := 0, fN := 0 } : GOwner), ({ fKind := 0, fN := 0 } : GOwner), ({ fKind := 0, fN := 0 } : GOwner), ({ fKind := 0, fN := 0 } : GOwner)⟩ : A4 GOwner) } : GType), fAt := 0 } : GVar) } : GSlot_ref16).fVar).fType).fKind)), .pv (.str (((({ fClass := [], fVar := ({ fName := [], fType := ({ fKind := 0, fClass := [], fN := 0, fOwn := (⟨({ fKind := 0, fN := 0 } : GOwner), ({ fKind := 0, fN := 0 } : GOwner), ({ fKind := 0, fN := 0 } : GOwner), ({ fKind := 0, fN := 0 } : GOwner)⟩ : A4 GOwner) } : GType), fAt := 0 } : GVar) } : GSlot_ref16).fVar).fType).fClass)), .pv (.int .i64 (((({ fClass := [], fVar := ({ fName := [], fType := ({ fKind := 0, fClass := [], fN := 0, fOwn := (⟨({ fKind := 0, fN := 0 } : GOwner), ({ fKind := 0, fN := 0 } : GOwner), ({ fKind := 0, fN := 0 } : GOwner), ({ fKind := 0, fN := 0 } : GOwner)⟩ : A4 GOwner) } : GType), fAt := 0 } : GVar) } : GSlot_ref16).fVar).fType).fN)), .pv (.int .i64 (((((({ fClass := [], fVar := ({ fName := [], fType := ({ fKind := 0, fClass := [], fN := 0, fOwn := (⟨({ fKind := 0, fN := 0 } : GOwner), ({ fKind := 0, fN := 0 } : GOwner), ({ fKind := 0, fN := 0 } : GOwner), ({ fKind := 0, fN := 0 } : GOwner)⟩ : A4 GOwner) } : GType), fAt := 0 } : GVar) } : GSlot_ref16).fVar).fType).fOwn).a0).fKind)), .pv (.int .i64 (((((({ fClass := [], fVar := ({ fName := [], fType := ({ fKind := 0, fClass := [], fN := 0, fOwn := (⟨({ fKind := 0, fN := 0 } : GOwner), ({ fKind := 0, fN := 0 } : GOwner), ({ fKind := 0, fN := 0 } : GOwner), ({ fKind := 0, fN := 0 } : GOwner)⟩ : A4 GOwner) } : GType), fAt := 0 } : GVar) } : GSlot_ref16).fVar).fType).fOwn).a0).fN)), .pv (.int .i64 (((((({ fClass := [], fVar := ({ fName := [], fType := ({ fKind := 0, fClass := [], fN := 0, fOwn := (⟨({ fKind := 0, fN := 0 } : GOwner), ({ fKind := 0, fN := 0 } : GOwner), ({ fKind := 0, fN := 0 } : GOwner), ({ fKind := 0, fN := 0 } : GOwner)⟩ : A4 GOwner) } : GType), fAt := 0 } : GVar) } : GSlot_ref16).fVar).fType).fOwn).a1).fKind)), .pv (.int .i64 (((((({ fClass := [], fVar := ({ fName := [], fType := ({ fKind := 0, fClass := [], fN := 0, fOwn := (⟨({ fKind := 0, fN := 0 } : GOwner), ({ fKind := 0, fN := 0 } : GOwner), ({ fKind := 0, fN := 0 } : GOwner), ({ fKind := 0, fN := 0 } : GOwner)⟩ : A4 GOwner) } : GType), fAt := 0 } : GVar) } : GSlot_ref16).fVar).fType).fOwn).a1).fN)), .pv (.int .i64 (((((({ fClass := [], fVar := ({ fName := [], fType := ({ fKind := 0, fClass := [], fN := 0, fOwn := (⟨({ fKind := 0, fN := 0 } : GOwner), ({ fKind := 0, fN := 0 } : GOwner), ({ fKind := 0, fN := 0 } : GOwner), ({ fKind := 0, fN := 0 } : GOwner)⟩ : A4 GOwner) } : GType), fAt := 0 } : GVar) } : GSlot_ref16).fVar).fType).fOwn).a2).fKind)), .pv (.int .i64 (((((({ fClass := [], fVar := ({ fName := [], fType := ({ fKind := 0, fClass := [], fN := 0, fOwn := (⟨({ fKind := 0, fN := 0 } : GOwner), ({ fKind := 0, fN := 0 } : GOwner), ({ fKind := 0, fN := 0 } : GOwner), ({ fKind := 0, fN := 0 } : GOwner)⟩ : A4 GOwner) } : GType), fAt := 0 } : GVar) } : GSlot_ref16).fVar).fType).fOwn).a2).fN)), .pv (.int .i64 (((((({ fClass := [], fVar := ({ fName := [], fType := ({ fKind := 0, fClass := [], fN := 0, fOwn := (⟨({ fKind := 0, fN := 0 } : GOwner), ({ fKind := 0, fN := 0 } : GOwner), ({ fKind := 0, fN := 0 } : GOwner), ({ fKind := 0, fN := 0 } : GOwner)⟩ : A4 GOwner) } : GType), fAt := 0 } : GVar) } : GSlot_ref16).fVar).fType).fOwn).a3).fKind)), .pv (.int .i64 (((((({ fClass := [], fVar := ({ fName := [], fType := ({ fKind := 0, fClass := [], fN := 0, fOwn := (⟨({ fKind := 0, fN := 0 } : GOwner), ({ fKind := 0, fN := 0 } : GOwner), ({ fKind := 0, fN := 0 } : GOwner), ({ fKind := 0, fN := 0 } : GOwner)⟩ : A4 GOwner) } : GType), fAt := 0 } : GVar) } : GSlot_ref16).fVar).fType).fOwn).a3).fN)), .pv (.int .i64 ((({ fClass := [], fVar := ({ fName := [], fType := ({ fKind := 0, fClass := [], fN := 0, fOwn := (⟨({ fKind := 0, fN := 0 } : GOwner), ({ fKind := 0, fN := 0 } : GOwner), ({ fKind := 0, fN := 0 } : GOwner), ({ fKind := 0, fN := 0 } : GOwner)⟩ : A4 GOwner) } : GType), fAt := 0 } : GVar) } : GSlot_ref16).fVar).fAt))]))], 1, [], [], 0, []⟩) (imp_sub [0] rfl (by decide) rfl rfl ⟨by kernel_rfl, by kernel_rfl, trivial⟩ ⟨by kernel_rfl, trivial⟩ rfl rfl rfl) ?_
    refine post_next ?_
    refine aw_ret ?_
    refine post_then_ret ?_
    obtain rfl := Option.some.inj hF
    exact post_ret rfl rfl (.cons _ _ _ _ _ (.agg _ _ _ _ _ 14 _ _ rfl rfl Try_agg_82 rfl rfl rfl) (.p _) (.cons _ _ _ _ _ (.tmp _ _ rfl) (.p _) .nil)) (.inl rfl)
  · refine aw_cond_f rfl hb5 ?_
    refine aw_skip ?_
    refine post_next ?_
    refine aw_seq ?_
    refine aw_region ?_
    refine reg_cons (guard_no rfl) (op_move rfl rfl rfl rfl) ?_
    refine reg_cons (guard_no rfl) (op_move rfl rfl rfl rfl) ?_
    obtain ⟨y6, h7, hF⟩ := bind_some hF
    refine reg_cons (guard_no rfl) (op_call 1 rfl (caps := []) (args := [.vs 7 (List.map eGClass a0), .str a1]) (rs := [.p (.vs 14 (List.map eGSlot_ref16 y6))]) rfl rfl rfl Try_cal_51 (Fn.frozen (ref16_All_ok h7)) rfl rfl rfl) ?_
    refine reg_cons (guard_no rfl) (op_move rfl rfl rfl rfl) ?_
    obtain ⟨y8, h9, hF⟩ := bind_some hF
    refine reg_cons (guard_no rfl) (op_index_vs (k := .i64) rfl rfl rfl (idx_map eGSlot_ref16 h9) Try_slc_73 rfl rfl) ?_
    refine reg_cons (guard_no rfl) (op_load_vp_agg (ps := eGSlot_ref16 y8) rfl rfl rfl rfl Try_agg_82 rfl rfl) ?_
    refine reg_cons (guard_no rfl) (op_store_lp (n := 14) rfl rfl rfl rfl rfl (or_agg Try_agg_82) (by rw [Try_non_82]; rfl) rfl rfl rfl) ?_
    refine reg_cons (guard_no rfl) (op_assign rfl rfl rfl rfl) ?_
    refine reg_nil ?_
    refine post_imp (s' := ⟨22, [(6, some (.lp 0 0)), (7, some (.pv (.bool true)))], [(0, some (.box 82 [.pv (.str y8.fClass), .pv (.str y8.fVar.fName), .pv (.int .i64 y8.fVar.fType.fKind), .pv (.str y8.fVar.fType.fClass), .pv (.int .i64 y8.fVar.fType.fN), .pv (.int .i64 y8.fVar.fType.fOwn.a0.fKind), .pv (.int .i64 y8.fVar.fType.fOwn.a0.fN), .pv (.int .i64 y8.fVar.fType.fOwn.a1.fKind), .pv (.int .i64 y8.fVar.fType.fOwn.a1.fN), .pv (.int .i64 y8.fVar.fType.fOwn.a2.fKind), .pv (.int .i64 y8.fVar.fType.fOwn.a2.fN), .pv (.int .i64 y8.fVar.fType.fOwn.a3.fKind), .pv (.int .i64 y8.fVar.fType.fOwn.a3.fN), .pv (.int .i64 y8.fVar.fAt)]))], 1, [], [], 0, []⟩) (imp_sub [0] rfl (by decide) rfl rfl ⟨by kernel_rfl, by kernel_rfl, trivial⟩ ⟨by kernel_rfl, trivial⟩ rfl rfl rfl) ?_
    refine post_next ?_
    refine aw_ret ?_
    obtain rfl := Option.some.inj hF
    exact post_ret rfl rfl (.cons _ _ _ _ _ (.agg _ _ _ _ _ 14 _ _ rfl rfl Try_agg_82 rfl rfl rfl) (.p _) (.cons _ _ _ _ _ (.tmp _ _ rfl) (.p _) .nil)) (.inl rfl)
theorem field_Check_ok {a0 : List GClass} {r : GFault} (hF : field_Check a0 = some r) : Abs.Fn Try.prog 53 [.vs 7 (List.map eGClass a0)] [.p (.agg (eGFault r))] := by
  unfold field_Check at hF
  refine fn_of_body (n := 67) Try.func53 rfl rfl rfl ?_
  intro w O
  refine aw_seq ?_
  refine aw_region ?_
  refine reg_cons (guard_no rfl) (op_alloc 0 rfl (ps := [.int .i64 (({ fErr := 0, fAt := 0 } : GFault).fErr), .int .i64 (({ fErr := 0, fAt := 0 } : GFault).fAt)]) rfl Try_zer_64 (by exact ⟨rfl, rfl, trivial⟩) rfl rfl) ?_
  refine reg_nil ?_
  refine post_imp (s' := ⟨67, [(0, some (.pv (.vs 7 (List.map eGClass a0)))), (2, some (.lp 0 0))], [(0, some (.box 64 [.pv (.int .i64 (({ fErr := 0, fAt := 0 } : GFault).fErr)), .pv (.int .i64 (({ fErr := 0, fAt := 0 } : GFault).fAt))]))], 1, [], [], 0, []⟩) (imp_sub [0] rfl (by decide) rfl rfl ⟨by kernel_rfl, by kernel_rfl, trivial⟩ ⟨by kernel_rfl, trivial⟩ rfl rfl rfl) ?_
  refine post_next ?_
  refine aw_seq ?_
  refine aw_seq ?_
  refine aw_region ?_
  refine reg_cons (guard_no rfl) (op_move rfl rfl rfl rfl) ?_
  refine reg_cons (guard_no rfl) (op_len_vs (n := a0.length) rfl rfl (List.length_map ..) Try_slc_45 rfl rfl) ?_
  refine reg_cons (guard_no rfl) (op_move rfl rfl rfl rfl) ?_
  refine reg_nil ?_
  refine post_imp (s' := ⟨67, [(0, some (.pv (.vs 7 (List.map eGClass a0)))), (2, some (.lp 0 0)), (12, some (.pv (.vs 7 (List.map eGClass a0)))), (13, some (.pv (.int .i64 (a0.length : Int)))), (14, some (.pv (.int .i64 0)))], [(0, some (.box 64 [.pv (.int .i64 (({ fErr := 0, fAt := 0 } : GFault).fErr)), .pv (.int .i64 (({ fErr := 0, fAt := 0 } : GFault).fAt))]))], 1, [], [], 0, []⟩) (imp_sub [0] rfl (by decide) rfl rfl ⟨by kernel_rfl, by kernel_rfl, by kernel_rfl, by kernel_rfl, by kernel_rfl, trivial⟩ ⟨by kernel_rfl, trivial⟩ rfl rfl rfl) ?_
  refine post_next ?_
  obtain ⟨lr769, hF, hK770⟩ := bind_some hF
  refine aw_for ((((a0.length : Int) : Int) - (0)).toNat + 1) (fun s1 => ∃ q, lr769 = .next q ∧ s1 = ⟨67, [(2, some (.lp 0 0))], [(0, some (.box 64 [.pv (.int .i64 (({ fErr := 0, fAt := 0 } : GFault).fErr)), .pv (.int .i64 (({ fErr := 0, fAt := 0 } : GFault).fAt))]))], 1, [], [], 0, []⟩) ?_ ?_
  · refine rnd_loop (α := Int) (fun q => ⟨67, [(0, some (.pv (.vs 7 (List.map eGClass a0)))), (2, some (.lp 0 0)), (12, some (.pv (.vs 7 (List.map eGClass a0)))), (13, some (.pv (.int .i64 (a0.length : Int)))), (14, some (.pv (.int .i64 q)))], [(0, some (.box 64 [.pv (.int .i64 (({ fErr := 0, fAt := 0 } : GFault).fErr)), .pv (.int .i64 (({ fErr := 0, fAt := 0 } : GFault).fAt))]))], 1, [], [], 0, []⟩) (fun k q => field_Check_L1 a0 k q = some lr769) 0 (imp_sub [0] rfl (by decide) rfl rfl ⟨by kernel_rfl, by kernel_rfl, by kernel_rfl, by kernel_rfl, by kernel_rfl, trivial⟩ ⟨by kernel_rfl, trivial⟩ rfl rfl rfl) hF (fun q h => by cases h) ?_
    clear hF
    rintro k x256 hF ih
    refine rnd_succ ?_
    refine aw_seq ?_
    refine aw_region ?_
    refine reg_cons (guard_no rfl) (op_int (k := .i64) (m := x256) (n := (a0.length : Int)) rfl rfl rfl rfl rfl rfl) ?_
    refine reg_nil ?_
    refine post_imp (s' := ⟨67, [(0, some (.pv (.vs 7 (List.map eGClass a0)))), (2, some (.lp 0 0)), (12, some (.pv (.vs 7 (List.map eGClass a0)))), (13, some (.pv (.int .i64 (a0.length : Int)))), (14, some (.pv (.int .i64 x256))), (15, some (.pv (.bool (decide (x256 < (a0.length : Int))))))], [(0, some (.box 64 [.pv (.int .i64 (({ fErr := 0, fAt := 0 } : GFault).fErr)), .pv (.int .i64 (({ fErr := 0, fAt := 0 } : GFault).fAt))]))], 1, [], [], 0, []⟩) (imp_sub [0] rfl (by decide) rfl rfl ⟨by kernel_rfl, by kernel_rfl, by kernel_rfl, by kernel_rfl, by kernel_rfl, by kernel_rfl, trivial⟩ ⟨by kernel_rfl, trivial⟩ rfl rfl rfl) ?_
    refine post_next ?_
    refine aw_seq ?_
    rcases ite_some hF with ⟨hb513, hF⟩ | ⟨hb513, hF⟩
    · refine aw_cond_t rfl hb513 ?_
      refine aw_skip ?_
      refine post_next ?_
      refine aw_seq ?_
      refine aw_block ?_
      refine aw_seq ?_
      refine aw_region ?_
      refine reg_cons (guard_no rfl) (op_move rfl rfl rfl rfl) ?_
      obtain ⟨y516, h517, hF⟩ := bind_some hF
      refine reg_cons (guard_no rfl) (op_index_vs (k := .i64) rfl rfl rfl (idx_map eGClass h517) Try_slc_45 rfl rfl) ?_
      refine reg_cons (guard_no rfl) (op_load_vp_agg (ps := eGClass y516) rfl rfl rfl rfl Try_agg_94 rfl rfl) ?_
      refine reg_cons (guard_no rfl) (op_alloc 1 rfl (ps := [.str (({ fName := [], fParams := [], fSuper := [], fAbove := [], fFields := [], fMethods := [], fAt := 0 } : GClass).fName), .vs 1 (List.map eS (({ fName := [], fParams := [], fSuper := [], fAbove := [], fFields := [], fMethods := [], fAt := 0 } : GClass).fParams)), .str (({ fName := [], fParams := [], fSuper := [], fAbove := [], fFields := [], fMethods := [], fAt := 0 } : GClass).fSuper), .vs 2 (List.map eGOwner (({ fName := [], fParams := [], fSuper := [], fAbove := [], fFields := [], fMethods := [], fAt := 0 } : GClass).fAbove)), .vs 13 (List.map eGVar (({ fName := [], fParams := [], fSuper := [], fAbove := [], fFields := [], fMethods := [], fAt := 0 } : GClass).fFields)), .vs 17 (List.map eGMethod (({ fName := [], fParams := [], fSuper := [], fAbove := [], fFields := [], fMethods := [], fAt := 0 } : GClass).fMethods)), .int .i64 (({ fName := [], fParams := [], fSuper := [], fAbove := [], fFields := [], fMethods := [], fAt := 0 } : GClass).fAt)]) rfl Try_zer_94 (by exact ⟨rfl, trivial, rfl, trivial, trivial, trivial, rfl, trivial⟩) rfl rfl) ?_
      refine reg_cons (guard_no rfl) (op_assign rfl rfl rfl rfl) ?_
      refine reg_cons (guard_no rfl) (op_store_lp (n := 7) rfl rfl rfl rfl rfl (or_agg Try_agg_94) (by rw [Try_non_94]; rfl) rfl rfl rfl) ?_
      refine reg_nil ?_
      refine post_imp (s' := ⟨67, [(0, some (.pv (.vs 7 (List.map eGClass a0)))), (2, some (.lp 0 0)), (3, some (.pv (.int .i64 x256))), (4, some (.lp 1 0)), (12, some (.pv (.vs 7 (List.map eGClass a0)))), (13, some (.pv (.int .i64 (a0.length : Int)))), (14, some (.pv (.int .i64 x256)))], [(0, some (.box 64 [.pv (.int .i64 (({ fErr := 0, fAt := 0 } : GFault).fErr)), .pv (.int .i64 (({ fErr := 0, fAt := 0 } : GFault).fAt))])), (1, some (.box 94 [.pv (.str y516.fName), .pv (.vs 1 (List.map eS y516.fParams)), .pv (.str y516.fSuper), .pv (.vs 2 (List.map eGOwner y516.fAbove)), .pv (.vs 13 (List.map eGVar y516.fFields)), .pv (.vs 17 (List.map eGMethod y516.fMethods)), .pv (.int .i64 y516.fAt)]))], 2, [], [], 0, []⟩) (imp_sub [0, 1] rfl (by decide) rfl rfl ⟨by kernel_rfl, by kernel_rfl, by kernel_rfl, by kernel_rfl, by kernel_rfl, by kernel_rfl, by kernel_rfl, trivial⟩ ⟨by kernel_rfl, by kernel_rfl, trivial⟩ rfl rfl rfl) ?_
      refine post_next ?_
      refine aw_seq ?_
      refine aw_region ?_
      refine reg_cons (guard_no rfl) (op_makeMap 2 rfl rfl Try_map_119 rfl rfl) ?_
      refine reg_cons (guard_no rfl) (op_assign rfl rfl rfl rfl) ?_
      refine reg_nil ?_
      refine post_imp (s' := ⟨67, [(0, some (.pv (.vs 7 (List.map eGClass a0)))), (2, some (.lp 0 0)), (3, some (.pv (.int .i64 x256))), (4, some (.lp 1 0)), (5, some (.ls 2)), (12, some (.pv (.vs 7 (List.map eGClass a0)))), (13, some (.pv (.int .i64 (a0.length : Int)))), (14, some (.pv (.int .i64 x256)))], [(0, some (.box 64 [.pv (.int .i64 (({ fErr := 0, fAt := 0 } : GFault).fErr)), .pv (.int .i64 (({ fErr := 0, fAt := 0 } : GFault).fAt))])), (1, some (.box 94 [.pv (.str y516.fName), .pv (.vs 1 (List.map eS y516.fParams)), .pv (.str y516.fSuper), .pv (.vs 2 (List.map eGOwner y516.fAbove)), .pv (.vs 13 (List.map eGVar y516.fFields)), .pv (.vs 17 (List.map eGMethod y516.fMethods)), .pv (.int .i64 y516.fAt)])), (2, some (.dict Try.prog 119 0 (fun _ => 0)))], 3, [], [], 0, []⟩) (imp_sub [0, 1, 2] rfl (by decide) rfl rfl ⟨by kernel_rfl, by kernel_rfl, by kernel_rfl, by kernel_rfl, by kernel_rfl, by kernel_rfl, by kernel_rfl, by kernel_rfl, trivial⟩ ⟨by kernel_rfl, by kernel_rfl, by kernel_rfl, trivial⟩ rfl rfl rfl) ?_
      refine post_next ?_
      refine aw_seq ?_
      refine aw_seq ?_
      refine aw_region ?_
      refine reg_cons (guard_no rfl) (op_move rfl rfl rfl rfl) ?_
      refine reg_cons (guard_no rfl) (op_field_lp rfl rfl Try_fld_94_0 rfl rfl) ?_
      refine reg_cons (guard_no rfl) (op_load_lp (v := .pv (.str y516.fName)) rfl rfl rfl rfl Try_one_9 rfl rfl) ?_
      obtain ⟨y520, h521, hF⟩ := bind_some hF
      refine reg_cons (guard_no rfl) (op_call 3 rfl (caps := []) (args := [.vs 7 (List.map eGClass a0), .str y516.fName]) (rs := [.p (.vs 1 (List.map eI y520))]) rfl rfl rfl Try_cal_40 (Fn.frozen (above_Chain_ok h521)) rfl rfl rfl) ?_
      refine reg_cons (guard_no rfl) (op_len_vs (n := y520.length) rfl rfl (List.length_map ..) Try_slc_42 rfl rfl) ?_
      refine reg_cons (guard_no rfl) (op_move rfl rfl rfl rfl) ?_
      refine reg_nil ?_
      refine post_imp (s' := ⟨67, [(0, some (.pv (.vs 7 (List.map eGClass a0)))), (2, some (.lp 0 0)), (3, some (.pv (.int .i64 x256))), (4, some (.lp 1 0)), (5, some (.ls 2)), (12, some (.pv (.vs 7 (List.map eGClass a0)))), (13, some (.pv (.int .i64 (a0.length : Int)))), (14, some (.pv (.int .i64 x256))), (23, some (.pv (.vs 1 (List.map eI y520)))), (24, some (.pv (.int .i64 (y520.length : Int)))), (25, some (.pv (.int .i64 0)))], [(0, some (.box 64 [.pv (.int .i64 (({ fErr := 0, fAt := 0 } : GFault).fErr)), .pv (.int .i64 (({ fErr := 0, fAt := 0 } : GFault).fAt))])), (1, some (.box 94 [.pv (.str y516.fName), .pv (.vs 1 (List.map eS y516.fParams)), .pv (.str y516.fSuper), .pv (.vs 2 (List.map eGOwner y516.fAbove)), .pv (.vs 13 (List.map eGVar y516.fFields)), .pv (.vs 17 (List.map eGMethod y516.fMethods)), .pv (.int .i64 y516.fAt)])), (2, some (.dict Try.prog 119 0 (fun _ => 0)))], 3, [], [], 0, []⟩) (imp_sub [0, 1, 2] rfl (by decide) rfl rfl ⟨by kernel_rfl, by kernel_rfl, by kernel_rfl, by kernel_rfl, by kernel_rfl, by kernel_rfl, by kernel_rfl, by kernel_rfl, by kernel_rfl, by kernel_rfl, by kernel_rfl, trivial⟩ ⟨by kernel_rfl, by kernel_rfl, by kernel_rfl, trivial⟩ rfl rfl rfl) ?_
      refine post_next ?_
      obtain ⟨lr731, hF, hK732⟩ := bind_some hF
      refine aw_for ((((y520.length : Int) : Int) - (0)).toNat + 1) (fun s1 => s1 = ⟨67, [(0, some (.pv (.vs 7 (List.map eGClass a0)))), (2, some (.lp 0 0)), (4, some (.lp 1 0)), (5, some (.ls 2)), (12, some (.pv (.vs 7 (List.map eGClass a0)))), (13, some (.pv (.int .i64 (a0.length : Int)))), (14, some (.pv (.int .i64 x256)))], [(0, some (.box 64 [.pv (.int .i64 (({ fErr := 0, fAt := 0 } : GFault).fErr)), .pv (.int .i64 (({ fErr := 0, fAt := 0 } : GFault).fAt))])), (1, some (.box 94 [.pv (.str y516.fName), .pv (.vs 1 (List.map eS y516.fParams)), .pv (.str y516.fSuper), .pv (.vs 2 (List.map eGOwner y516.fAbove)), .pv (.vs 13 (List.map eGVar y516.fFields)), .pv (.vs 17 (List.map eGMethod y516.fMethods)), .pv (.int .i64 y516.fAt)])), (2, some (.dict Try.prog 119 lr731.1 lr731.2))], 3, [], [], 0, []⟩) ?_ ?_
      · refine rnd_loop (α := Nat × (List UInt8 → Int) × Int) (fun q => ⟨67, [(0, some (.pv (.vs 7 (List.map eGClass a0)))), (2, some (.lp 0 0)), (3, some (.pv (.int .i64 x256))), (4, some (.lp 1 0)), (5, some (.ls 2)), (12, some (.pv (.vs 7 (List.map eGClass a0)))), (13, some (.pv (.int .i64 (a0.length : Int)))), (14, some (.pv (.int .i64 x256))), (23, some (.pv (.vs 1 (List.map eI y520)))), (24, some (.pv (.int .i64 (y520.length : Int)))), (25, some (.pv (.int .i64 q.2.2)))], [(0, some (.box 64 [.pv (.int .i64 (({ fErr := 0, fAt := 0 } : GFault).fErr)), .pv (.int .i64 (({ fErr := 0, fAt := 0 } : GFault).fAt))])), (1, some (.box 94 [.pv (.str y516.fName), .pv (.vs 1 (List.map eS y516.fParams)), .pv (.str y516.fSuper), .pv (.vs 2 (List.map eGOwner y516.fAbove)), .pv (.vs 13 (List.map eGVar y516.fFields)), .pv (.vs 17 (List.map eGMethod y516.fMethods)), .pv (.int .i64 y516.fAt)])), (2, some (.dict Try.prog 119 q.1 q.2.1))], 3, [], [], 0, []⟩) (fun k q => field_Check_L2 a0 x256 y520 k q.1 q.2.1 q.2.2 = some lr731) (0, (fun _ => 0), 0) (imp_sub [0, 1, 2] rfl (by decide) rfl rfl ⟨by kernel_rfl, by kernel_rfl, by kernel_rfl, by kernel_rfl, by kernel_rfl, by kernel_rfl, by kernel_rfl, by kernel_rfl, by kernel_rfl, by kernel_rfl, by kernel_rfl, trivial⟩ ⟨by kernel_rfl, by kernel_rfl, by kernel_rfl, trivial⟩ rfl rfl rfl) hF (fun q h => by cases h) ?_
        clear hF
        rintro k ⟨x588, x589, x590⟩ hF ih
        refine rnd_succ ?_
        refine aw_seq ?_
        refine aw_region ?_
        refine reg_cons (guard_no rfl) (op_int (k := .i64) (m := x590) (n := (y520.length : Int)) rfl rfl rfl rfl rfl rfl) ?_
        refine reg_nil ?_
        refine post_imp (s' := ⟨67, [(0, some (.pv (.vs 7 (List.map eGClass a0)))), (2, some (.lp 0 0)), (3, some (.pv (.int .i64 x256))), (4, some (.lp 1 0)), (5, some (.ls 2)), (12, some (.pv (.vs 7 (List.map eGClass a0)))), (13, some (.pv (.int .i64 (a0.length : Int)))), (14, some (.pv (.int .i64 x256))), (23, some (.pv (.vs 1 (List.map eI y520)))), (24, some (.pv (.int .i64 (y520.length : Int)))), (25, some (.pv (.int .i64 x590))), (26, some (.pv (.bool (decide (x590 < (y520.length : Int))))))], [(0, some (.box 64 [.pv (.int .i64 (({ fErr := 0, fAt := 0 } : GFault).fErr)), .pv (.int .i64 (({ fErr := 0, fAt := 0 } : GFault).fAt))])), (1, some (.box 94 [.pv (.str y516.fName), .pv (.vs 1 (List.map eS y516.fParams)), .pv (.str y516.fSuper), .pv (.vs 2 (List.map eGOwner y516.fAbove)), .pv (.vs 13 (List.map eGVar y516.fFields)), .pv (.vs 17 (List.map eGMethod y516.fMethods)), .pv (.int .i64 y516.fAt)])), (2, some (.dict Try.prog 119 x588 x589))], 3, [], [], 0, []⟩) (imp_sub [0, 1, 2] rfl (by decide) rfl rfl ⟨by kernel_rfl, by kernel_rfl, by kernel_rfl, by kernel_rfl, by kernel_rfl, by kernel_rfl, by kernel_rfl, by kernel_rfl, by kernel_rfl, by kernel_rfl, by kernel_rfl, by kernel_rfl, trivial⟩ ⟨by kernel_rfl, by kernel_rfl, by kernel_rfl, trivial⟩ rfl rfl rfl) ?_
        refine post_next ?_
        refine aw_seq ?_
        rcases ite_some hF with ⟨hb660, hF⟩ | ⟨hb660, hF⟩
        · refine aw_cond_t rfl hb660 ?_
          refine aw_skip ?_
          refine post_next ?_
          refine aw_seq ?_
          obtain ⟨p724, hF, hK725⟩ := bind_some hF
          obtain ⟨x722, x723⟩ := p724
          refine aw_cut (fun s1 => s1 = ⟨67, [(0, some (.pv (.vs 7 (List.map eGClass a0)))), (2, some (.lp 0 0)), (3, some (.pv (.int .i64 x256))), (4, some (.lp 1 0)), (5, some (.ls 2)), (12, some (.pv (.vs 7 (List.map eGClass a0)))), (13, some (.pv (.int .i64 (a0.length : Int)))), (14, some (.pv (.int .i64 x256))), (23, some (.pv (.vs 1 (List.map eI y520)))), (24, some (.pv (.int .i64 (y520.length : Int)))), (25, some (.pv (.int .i64 x590)))], [(0, some (.box 64 [.pv (.int .i64 (({ fErr := 0, fAt := 0 } : GFault).fErr)), .pv (.int .i64 (({ fErr := 0, fAt := 0 } : GFault).fAt))])), (1, some (.box 94 [.pv (.str y516.fName), .pv (.vs 1 (List.map eS y516.fParams)), .pv (.str y516.fSuper), .pv (.vs 2 (List.map eGOwner y516.fAbove)), .pv (.vs 13 (List.map eGVar y516.fFields)), .pv (.vs 17 (List.map eGMethod y516.fMethods)), .pv (.int .i64 y516.fAt)])), (2, some (.dict Try.prog 119 x722 x723))], 3, [], [], 0, []⟩) ?_ ?_
          · refine aw_block ?_
            refine aw_seq ?_
            refine aw_region ?_
            obtain ⟨y663, h664, hF⟩ := bind_some hF
            refine reg_cons (guard_no rfl) (op_index_vs (k := .i64) rfl rfl rfl (idx_map eI h664) Try_slc_42 rfl rfl) ?_
            refine reg_cons (guard_no rfl) (op_load_vp (p := .int .i64 y663) rfl rfl rfl Try_one_3 rfl rfl) ?_
            refine reg_cons (guard_no rfl) (op_assign rfl rfl rfl rfl) ?_
            refine reg_nil ?_
            refine post_imp (s' := ⟨67, [(0, some (.pv (.vs 7 (List.map eGClass a0)))), (2, some (.lp 0 0)), (3, some (.pv (.int .i64 x256))), (4, some (.lp 1 0)), (5, some (.ls 2)), (7, some (.pv (.int .i64 y663))), (12, some (.pv (.vs 7 (List.map eGClass a0)))), (13, some (.pv (.int .i64 (a0.length : Int)))), (14, some (.pv (.int .i64 x256))), (23, some (.pv (.vs 1 (List.map eI y520)))), (24, some (.pv (.int .i64 (y520.length : Int)))), (25, some (.pv (.int .i64 x590)))], [(0, some (.box 64 [.pv (.int .i64 (({ fErr := 0, fAt := 0 } : GFault).fErr)), .pv (.int .i64 (({ fErr := 0, fAt := 0 } : GFault).fAt))])), (1, some (.box 94 [.pv (.str y516.fName), .pv (.vs 1 (List.map eS y516.fParams)), .pv (.str y516.fSuper), .pv (.vs 2 (List.map eGOwner y516.fAbove)), .pv (.vs 13 (List.map eGVar y516.fFields)), .pv (.vs 17 (List.map eGMethod y516.fMethods)), .pv (.int .i64 y516.fAt)])), (2, some (.dict Try.prog 119 x588 x589))], 3, [], [], 0, []⟩) (imp_sub [0, 1, 2] rfl (by decide) rfl rfl ⟨by kernel_rfl, by kernel_rfl, by kernel_rfl, by kernel_rfl, by kernel_rfl, by kernel_rfl, by kernel_rfl, by kernel_rfl, by kernel_rfl, by kernel_rfl, by kernel_rfl, by kernel_rfl, trivial⟩ ⟨by kernel_rfl, by kernel_rfl, by kernel_rfl, trivial⟩ rfl rfl rfl) ?_
            refine post_next ?_
            refine aw_seq ?_
            refine aw_seq ?_
            refine aw_region ?_
            refine reg_cons (guard_no rfl) (op_move rfl rfl rfl rfl) ?_
            refine reg_cons (guard_no rfl) (op_move rfl rfl rfl rfl) ?_
            refine reg_cons (guard_no rfl) (op_int (k := .i64) (m := y663) (n := x256) rfl rfl rfl rfl rfl rfl) ?_
            refine reg_nil ?_
            refine post_imp (s' := ⟨67, [(0, some (.pv (.vs 7 (List.map eGClass a0)))), (2, some (.lp 0 0)), (3, some (.pv (.int .i64 x256))), (4, some (.lp 1 0)), (5, some (.ls 2)), (7, some (.pv (.int .i64 y663))), (12, some (.pv (.vs 7 (List.map eGClass a0)))), (13, some (.pv (.int .i64 (a0.length : Int)))), (14, some (.pv (.int .i64 x256))), (23, some (.pv (.vs 1 (List.map eI y520)))), (24, some (.pv (.int .i64 (y520.length : Int)))), (25, some (.pv (.int .i64 x590))), (31, some (.pv (.bool (y663 == x256))))], [(0, some (.box 64 [.pv (.int .i64 (({ fErr := 0, fAt := 0 } : GFault).fErr)), .pv (.int .i64 (({ fErr := 0, fAt := 0 } : GFault).fAt))])), (1, some (.box 94 [.pv (.str y516.fName), .pv (.vs 1 (List.map eS y516.fParams)), .pv (.str y516.fSuper), .pv (.vs 2 (List.map eGOwner y516.fAbove)), .pv (.vs 13 (List.map eGVar y516.fFields)), .pv (.vs 17 (List.map eGMethod y516.fMethods)), .pv (.int .i64 y516.fAt)])), (2, some (.dict Try.prog 119 x588 x589))], 3, [], [], 0, []⟩) (imp_sub [0, 1, 2] rfl (by decide) rfl rfl ⟨by kernel_rfl, by kernel_rfl, by kernel_rfl, by kernel_rfl, by kernel_rfl, by kernel_rfl, by kernel_rfl, by kernel_rfl, by kernel_rfl, by kernel_rfl, by kernel_rfl, by kernel_rfl, by kernel_rfl, trivial⟩ ⟨by kernel_rfl, by kernel_rfl, by kernel_rfl, trivial⟩ rfl rfl rfl) ?_
            refine post_next ?_
            rcases ite_some hF with ⟨hb665, hF⟩ | ⟨hb665, hF⟩
            · refine aw_cond_t rfl hb665 ?_
              refine aw_exit ?_
              refine post_then_exit ?_
              refine post_block_exit ?_
              cases hF
              exact post_cut _ rfl (imp_sub [0, 1, 2] rfl (by decide) rfl rfl ⟨by kernel_rfl, by kernel_rfl, by kernel_rfl, by kernel_rfl, by kernel_rfl, by kernel_rfl, by kernel_rfl, by kernel_rfl, by kernel_rfl, by kernel_rfl, by kernel_rfl, trivial⟩ ⟨by kernel_rfl, by kernel_rfl, by kernel_rfl, trivial⟩ rfl rfl rfl)
            · refine aw_cond_f rfl hb665 ?_
              refine aw_skip ?_
              refine post_next ?_
              refine aw_seq ?_
              refine aw_region ?_
              refine reg_cons (guard_no rfl) (op_move rfl rfl rfl rfl) ?_
              refine reg_cons (guard_no rfl) (op_move rfl rfl rfl rfl) ?_
              obtain ⟨y668, h669, hF⟩ := bind_some hF
              refine reg_cons (guard_no rfl) (op_index_vs (k := .i64) rfl rfl rfl (idx_map eGClass h669) Try_slc_45 rfl rfl) ?_
              refine reg_cons (guard_no rfl) (op_field_vp rfl rfl Try_fld_94_4 rfl rfl) ?_
              refine reg_cons (guard_no rfl) (op_load_vp (p := .vs 13 (List.map eGVar y668.fFields)) rfl rfl rfl Try_one_91 rfl rfl) ?_
              refine reg_cons (guard_no rfl) (op_len_vs (n := y668.fFields.length) rfl rfl (List.length_map ..) Try_slc_91 rfl rfl) ?_
              refine reg_cons (guard_no rfl) (op_move rfl rfl rfl rfl) ?_
              refine reg_nil ?_
              refine post_imp (s' := ⟨67, [(0, some (.pv (.vs 7 (List.map eGClass a0)))), (2, some (.lp 0 0)), (3, some (.pv (.int .i64 x256))), (4, some (.lp 1 0)), (5, some (.ls 2)), (12, some (.pv (.vs 7 (List.map eGClass a0)))), (13, some (.pv (.int .i64 (a0.length : Int)))), (14, some (.pv (.int .i64 x256))), (23, some (.pv (.vs 1 (List.map eI y520)))), (24, some (.pv (.int .i64 (y520.length : Int)))), (25, some (.pv (.int .i64 x590))), (36, some (.pv (.vs 13 (List.map eGVar y668.fFields)))), (37, some (.pv (.int .i64 (y668.fFields.length : Int)))), (38, some (.pv (.int .i64 0)))], [(0, some (.box 64 [.pv (.int .i64 (({ fErr := 0, fAt := 0 } : GFault).fErr)), .pv (.int .i64 (({ fErr := 0, fAt := 0 } : GFault).fAt))])), (1, some (.box 94 [.pv (.str y516.fName), .pv (.vs 1 (List.map eS y516.fParams)), .pv (.str y516.fSuper), .pv (.vs 2 (List.map eGOwner y516.fAbove)), .pv (.vs 13 (List.map eGVar y516.fFields)), .pv (.vs 17 (List.map eGMethod y516.fMethods)), .pv (.int .i64 y516.fAt)])), (2, some (.dict Try.prog 119 x588 x589))], 3, [], [], 0, []⟩) (imp_sub [0, 1, 2] rfl (by decide) rfl rfl ⟨by kernel_rfl, by kernel_rfl, by kernel_rfl, by kernel_rfl, by kernel_rfl, by kernel_rfl, by kernel_rfl, by kernel_rfl, by kernel_rfl, by kernel_rfl, by kernel_rfl, by kernel_rfl, by kernel_rfl, by kernel_rfl, trivial⟩ ⟨by kernel_rfl, by kernel_rfl, by kernel_rfl, trivial⟩ rfl rfl rfl) ?_
              refine post_next ?_
              obtain ⟨lr720, hF, hK721⟩ := bind_some hF
              refine aw_for ((((y668.fFields.length : Int) : Int) - (0)).toNat + 1) (fun s1 => s1 = ⟨67, [(0, some (.pv (.vs 7 (List.map eGClass a0)))), (2, some (.lp 0 0)), (3, some (.pv (.int .i64 x256))), (4, some (.lp 1 0)), (5, some (.ls 2)), (12, some (.pv (.vs 7 (List.map eGClass a0)))), (13, some (.pv (.int .i64 (a0.length : Int)))), (14, some (.pv (.int .i64 x256))), (23, some (.pv (.vs 1 (List.map eI y520)))), (24, some (.pv (.int .i64 (y520.length : Int)))), (25, some (.pv (.int .i64 x590)))], [(0, some (.box 64 [.pv (.int .i64 (({ fErr := 0, fAt := 0 } : GFault).fErr)), .pv (.int .i64 (({ fErr := 0, fAt := 0 } : GFault).fAt))])), (1, some (.box 94 [.pv (.str y516.fName), .pv (.vs 1 (List.map eS y516.fParams)), .pv (.str y516.fSuper), .pv (.vs 2 (List.map eGOwner y516.fAbove)), .pv (.vs 13 (List.map eGVar y516.fFields)), .pv (.vs 17 (List.map eGMethod y516.fMethods)), .pv (.int .i64 y516.fAt)])), (2, some (.dict Try.prog 119 lr720.1 lr720.2))], 3, [], [], 0, []⟩) ?_ ?_
              · refine rnd_loop (α := Nat × (List UInt8 → Int) × Int) (fun q => ⟨67, [(0, some (.pv (.vs 7 (List.map eGClass a0)))), (2, some (.lp 0 0)), (3, some (.pv (.int .i64 x256))), (4, some (.lp 1 0)), (5, some (.ls 2)), (12, some (.pv (.vs 7 (List.map eGClass a0)))), (13, some (.pv (.int .i64 (a0.length : Int)))), (14, some (.pv (.int .i64 x256))), (23, some (.pv (.vs 1 (List.map eI y520)))), (24, some (.pv (.int .i64 (y520.length : Int)))), (25, some (.pv (.int .i64 x590))), (36, some (.pv (.vs 13 (List.map eGVar y668.fFields)))), (37, some (.pv (.int .i64 (y668.fFields.length : Int)))), (38, some (.pv (.int .i64 q.2.2)))], [(0, some (.box 64 [.pv (.int .i64 (({ fErr := 0, fAt := 0 } : GFault).fErr)), .pv (.int .i64 (({ fErr := 0, fAt := 0 } : GFault).fAt))])), (1, some (.box 94 [.pv (.str y516.fName), .pv (.vs 1 (List.map eS y516.fParams)), .pv (.str y516.fSuper), .pv (.vs 2 (List.map eGOwner y516.fAbove)), .pv (.vs 13 (List.map eGVar y516.fFields)), .pv (.vs 17 (List.map eGMethod y516.fMethods)), .pv (.int .i64 y516.fAt)])), (2, some (.dict Try.prog 119 q.1 q.2.1))], 3, [], [], 0, []⟩) (fun k q => field_Check_L3 y668 k q.1 q.2.1 q.2.2 = some lr720) (x588, x589, 0) (imp_sub [0, 1, 2] rfl (by decide) rfl rfl ⟨by kernel_rfl, by kernel_rfl, by kernel_rfl, by kernel_rfl, by kernel_rfl, by kernel_rfl, by kernel_rfl, by kernel_rfl, by kernel_rfl, by kernel_rfl, by kernel_rfl, by kernel_rfl, by kernel_rfl, by kernel_rfl, trivial⟩ ⟨by kernel_rfl, by kernel_rfl, by kernel_rfl, trivial⟩ rfl rfl rfl) hF (fun q h => by cases h) ?_
                clear hF
                rintro k ⟨x683, x684, x685⟩ hF ih
                refine rnd_succ ?_
                refine aw_seq ?_
                refine aw_region ?_
                refine reg_cons (guard_no rfl) (op_int (k := .i64) (m := x685) (n := (y668.fFields.length : Int)) rfl rfl rfl rfl rfl rfl) ?_
                refine reg_nil ?_
                refine post_imp (s' := ⟨67, [(0, some (.pv (.vs 7 (List.map eGClass a0)))), (2, some (.lp 0 0)), (3, some (.pv (.int .i64 x256))), (4, some (.lp 1 0)), (5, some (.ls 2)), (12, some (.pv (.vs 7 (List.map eGClass a0)))), (13, some (.pv (.int .i64 (a0.length : Int)))), (14, some (.pv (.int .i64 x256))), (23, some (.pv (.vs 1 (List.map eI y520)))), (24, some (.pv (.int .i64 (y520.length : Int)))), (25, some (.pv (.int .i64 x590))), (36, some (.pv (.vs 13 (List.map eGVar y668.fFields)))), (37, some (.pv (.int .i64 (y668.fFields.length : Int)))), (38, some (.pv (.int .i64 x685))), (39, some (.pv (.bool (decide (x685 < (y668.fFields.length : Int))))))], [(0, some (.box 64 [.pv (.int .i64 (({ fErr := 0, fAt := 0 } : GFault).fErr)), .pv (.int .i64 (({ fErr := 0, fAt := 0 } : GFault).fAt))])), (1, some (.box 94 [.pv (.str y516.fName), .pv (.vs 1 (List.map eS y516.fParams)), .pv (.str y516.fSuper), .pv (.vs 2 (List.map eGOwner y516.fAbove)), .pv (.vs 13 (List.map eGVar y516.fFields)), .pv (.vs 17 (List.map eGMethod y516.fMethods)), .pv (.int .i64 y516.fAt)])), (2, some (.dict Try.prog 119 x683 x684))], 3, [], [], 0, []⟩) (imp_sub [0, 1, 2] rfl (by decide) rfl rfl ⟨by kernel_rfl, by kernel_rfl, by kernel_rfl, by kernel_rfl, by kernel_rfl, by kernel_rfl, by kernel_rfl, by kernel_rfl, by kernel_rfl, by kernel_rfl, by kernel_rfl, by kernel_rfl, by kernel_rfl, by kernel_rfl, by kernel_rfl, trivial⟩ ⟨by kernel_rfl, by kernel_rfl, by kernel_rfl, trivial⟩ rfl rfl rfl) ?_
                refine post_next ?_
                refine aw_seq ?_
                rcases ite_some hF with ⟨hb702, hF⟩ | ⟨hb702, hF⟩
                · refine aw_cond_t rfl hb702 ?_
                  refine aw_skip ?_
                  refine post_next ?_
                  refine aw_seq ?_
                  refine aw_block ?_
                  refine aw_seq ?_
                  refine aw_region ?_
                  obtain ⟨y705, h706, hF⟩ := bind_some hF
                  refine reg_cons (guard_no rfl) (op_index_vs (k := .i64) rfl rfl rfl (idx_map eGVar h706) Try_slc_91 rfl rfl) ?_
                  refine reg_cons (guard_no rfl) (op_load_vp_agg (ps := eGVar y705) rfl rfl rfl rfl Try_agg_79 rfl rfl) ?_
                  refine reg_cons (guard_no rfl) (op_alloc 3 rfl (ps := [.str (({ fName := [], fType := ({ fKind := 0, fClass := [], fN := 0, fOwn := (⟨({ fKind := 0, fN := 0 } : GOwner), ({ fKind := 0, fN := 0 } : GOwner), ({ fKind := 0, fN := 0 } : GOwner), ({ fKind := 0, fN := 0 } : GOwner)⟩ : A4 GOwner) } : GType), fAt := 0 } : GVar).fName), .int .i64 ((({ fName := [], fType := ({ fKind := 0, fClass := [], fN := 0, fOwn := (⟨({ fKind := 0, fN := 0 } : GOwner), ({ fKind := 0, fN := 0 } : GOwner), ({ fKind := 0, fN := 0 } : GOwner), ({ fKind := 0, fN := 0 } : GOwner)⟩ : A4 GOwner) } : GType), fAt := 0 } : GVar).fType).fKind), .str ((({ fName := [], fType := ({ fKind := 0, fClass := [], fN := 0, fOwn := (⟨({ fKind := 0, fN := 0 } : GOwner), ({ fKind := 0, fN := 0 } : GOwner), ({ fKind := 0, fN := 0 } : GOwner), ({ fKind := 0, fN := 0 } : GOwner)⟩ : A4 GOwner) } : GType), fAt := 0 } : GVar).fType).fClass), .int .i64 ((({ fName := [], fType := ({ fKind := 0, fClass := [], fN := 0, fOwn := (⟨({ fKind := 0, fN := 0 } : GOwner), ({ fKind := 0, fN := 0 } : GOwner), ({ fKind := 0, fN := 0 } : GOwner), ({ fKind := 0, fN := 0 } : GOwner)⟩ : A4 GOwner) } : GType), fAt := 0 } : GVar).fType).fN), .int .i64 ((((({ fName := [], fType := ({ fKind := 0, fClass := [], fN := 0, fOwn := (⟨({ fKind := 0, fN := 0 } : GOwner), ({ fKind := 0, fN := 0 } : GOwner), ({ fKind := 0, fN := 0 } : GOwner), ({ fKind := 0, fN := 0 } : GOwner)⟩ : A4 GOwner) } : GType), fAt := 0 } : GVar).fType).fOwn).a0).fKind), .int .i64 ((((({ fName := [], fType := ({ fKind := 0, fClass := [], fN := 0, fOwn := (⟨({ fKind := 0, fN := 0 } : GOwner), ({ fKind := 0, fN := 0 } : GOwner), ({ fKind := 0, fN := 0 } : GOwner), ({ fKind := 0, fN := 0 } : GOwner)⟩ : A4 GOwner) } : GType), fAt := 0 } : GVar).fType).fOwn).a0).fN), .int .i64 ((((({ fName := [], fType := ({ fKind := 0, fClass := [], fN := 0, fOwn := (⟨({ fKind := 0, fN := 0 } : GOwner), ({ fKind := 0, fN := 0 } : GOwner), ({ fKind := 0, fN := 0 } : GOwner), ({ fKind := 0, fN := 0 } : GOwner)⟩ : A4 GOwner) } : GType), fAt := 0 } : GVar).fType).fOwn).a1).fKind), .int .i64 ((((({ fName := [], fType := ({ fKind := 0, fClass := [], fN := 0, fOwn := (⟨({ fKind := 0, fN := 0 } : GOwner), ({ fKind := 0, fN := 0 } : GOwner), ({ fKind := 0, fN := 0 } : GOwner), ({ fKind := 0, fN := 0 } : GOwner)⟩ : A4 GOwner) } : GType), fAt := 0 } : GVar).fType).fOwn).a1).fN), .int .i64 ((((({ fName := [], fType := ({ fKind := 0, fClass := [], fN := 0, fOwn := (⟨({ fKind := 0, fN := 0 } : GOwner), ({ fKind := 0, fN := 0 } : GOwner), ({ fKind := 0, fN := 0 } : GOwner), ({ fKind := 0, fN := 0 } : GOwner)⟩ : A4 GOwner) } : GType), fAt := 0 } : GVar).fType).fOwn).a2).fKind), .int .i64 ((((({ fName := [], fType := ({ fKind := 0, fClass := [], fN := 0, fOwn := (⟨({ fKind := 0, fN := 0 } : GOwner), ({ fKind := 0, fN := 0 } : GOwner), ({ fKind := 0, fN := 0 } : GOwner), ({ fKind := 0, fN := 0 } : GOwner)⟩ : A4 GOwner) } : GType), fAt := 0 } : GVar).fType).fOwn).a2).fN), .int .i64 ((((({ fName := [], fType := ({ fKind := 0, fClass := [], fN := 0, fOwn := (⟨({ fKind := 0, fN := 0 } : GOwner), ({ fKind := 0, fN := 0 } : GOwner), ({ fKind := 0, fN := 0 } : GOwner), ({ fKind := 0, fN := 0 } : GOwner)⟩ : A4 GOwner) } : GType), fAt := 0 } : GVar).fType).fOwn).a3).fKind), .int .i64 ((((({ fName := [], fType := ({ fKind := 0, fClass := [], fN := 0, fOwn := (⟨({ fKind := 0, fN := 0 } : GOwner), ({ fKind := 0, fN := 0 } : GOwner), ({ fKind := 0, fN := 0 } : GOwner), ({ fKind := 0, fN := 0 } : GOwner)⟩ : A4 GOwner) } : GType), fAt := 0 } : GVar).fType).fOwn).a3).fN), .int .i64 (({ fName := [], fType := ({ fKind := 0, fClass := [], fN := 0, fOwn := (⟨({ fKind := 0, fN := 0 } : GOwner), ({ fKind := 0, fN := 0 } : GOwner), ({ fKind := 0, fN := 0 } : GOwner), ({ fKind := 0, fN := 0 } : GOwner)⟩ : A4 GOwner) } : GType), fAt := 0 } : GVar).fAt)]) rfl Try_zer_79 (by exact ⟨rfl, rfl, rfl, rfl, rfl, rfl, rfl, rfl, rfl, rfl, rfl, rfl, rfl, trivial⟩) rfl rfl) ?_
                  refine reg_cons (guard_no rfl) (op_store_lp (n := 13) rfl rfl rfl rfl rfl (or_agg Try_agg_79) (by rw [Try_non_79]; rfl) rfl rfl rfl) ?_
                  refine reg_nil ?_
                  refine post_imp (s' := ⟨67, [(0, some (.pv (.vs 7 (List.map eGClass a0)))), (2, some (.lp 0 0)), (3, some (.pv (.int .i64 x256))), (4, some (.lp 1 0)), (5, some (.ls 2)), (9, some (.lp 3 0)), (12, some (.pv (.vs 7 (List.map eGClass a0)))), (13, some (.pv (.int .i64 (a0.length : Int)))), (14, some (.pv (.int .i64 x256))), (23, some (.pv (.vs 1 (List.map eI y520)))), (24, some (.pv (.int .i64 (y520.length : Int)))), (25, some (.pv (.int .i64 x590))), (36, some (.pv (.vs 13 (List.map eGVar y668.fFields)))), (37, some (.pv (.int .i64 (y668.fFields.length : Int)))), (38, some (.pv (.int .i64 x685)))], [(0, some (.box 64 [.pv (.int .i64 (({ fErr := 0, fAt := 0 } : GFault).fErr)), .pv (.int .i64 (({ fErr := 0, fAt := 0 } : GFault).fAt))])), (1, some (.box 94 [.pv (.str y516.fName), .pv (.vs 1 (List.map eS y516.fParams)), .pv (.str y516.fSuper), .pv (.vs 2 (List.map eGOwner y516.fAbove)), .pv (.vs 13 (List.map eGVar y516.fFields)), .pv (.vs 17 (List.map eGMethod y516.fMethods)), .pv (.int .i64 y516.fAt)])), (2, some (.dict Try.prog 119 x683 x684)), (3, some (.box 79 [.pv (.str y705.fName), .pv (.int .i64 y705.fType.fKind), .pv (.str y705.fType.fClass), .pv (.int .i64 y705.fType.fN), .pv (.int .i64 y705.fType.fOwn.a0.fKind), .pv (.int .i64 y705.fType.fOwn.a0.fN), .pv (.int .i64 y705.fType.fOwn.a1.fKind), .pv (.int .i64 y705.fType.fOwn.a1.fN), .pv (.int .i64 y705.fType.fOwn.a2.fKind), .pv (.int .i64 y705.fType.fOwn.a2.fN), .pv (.int .i64 y705.fType.fOwn.a3.fKind), .pv (.int .i64 y705.fType.fOwn.a3.fN), .pv (.int .i64 y705.fAt)]))], 4, [], [], 0, []⟩) (imp_sub [0, 1, 2, 3] rfl (by decide) rfl rfl ⟨by kernel_rfl, by kernel_rfl, by kernel_rfl, by kernel_rfl, by kernel_rfl, by kernel_rfl, by kernel_rfl, by kernel_rfl, by kernel_rfl, by kernel_rfl, by kernel_rfl, by kernel_rfl, by kernel_rfl, by kernel_rfl, by kernel_rfl, trivial⟩ ⟨by kernel_rfl, by kernel_rfl, by kernel_rfl, by kernel_rfl, trivial⟩ rfl rfl rfl) ?_
                  refine post_next ?_
                  refine aw_region ?_
                  refine reg_cons (guard_no rfl) (op_move rfl rfl rfl rfl) ?_
                  refine reg_cons (guard_no rfl) (op_field_lp rfl rfl Try_fld_79_0 rfl rfl) ?_
                  refine reg_cons (guard_no rfl) (op_load_lp (v := .pv (.str y705.fName)) rfl rfl rfl rfl Try_one_9 rfl rfl) ?_
                  obtain ⟨y711, h712, hF⟩ := bind_some hF
                  refine reg_cons (guard_no rfl) (op_lookup rfl rfl rfl rfl Try_map_119 Try_zer_3 h712 rfl rfl) ?_
                  refine reg_cons (guard_no rfl) (op_int (k := .i64) (m := y711) (n := 1) rfl rfl rfl rfl rfl rfl) ?_
                  obtain ⟨y713, h714, hF⟩ := bind_some hF
                  refine reg_cons (guard_no rfl) (op_mapUpdate rfl rfl rfl rfl rfl Try_map_119 h714 rfl) ?_
                  refine reg_nil ?_
                  refine post_imp (s' := ⟨67, [(0, some (.pv (.vs 7 (List.map eGClass a0)))), (2, some (.lp 0 0)), (3, some (.pv (.int .i64 x256))), (4, some (.lp 1 0)), (5, some (.ls 2)), (12, some (.pv (.vs 7 (List.map eGClass a0)))), (13, some (.pv (.int .i64 (a0.length : Int)))), (14, some (.pv (.int .i64 x256))), (23, some (.pv (.vs 1 (List.map eI y520)))), (24, some (.pv (.int .i64 (y520.length : Int)))), (25, some (.pv (.int .i64 x590))), (36, some (.pv (.vs 13 (List.map eGVar y668.fFields)))), (37, some (.pv (.int .i64 (y668.fFields.length : Int)))), (38, some (.pv (.int .i64 x685)))], [(0, some (.box 64 [.pv (.int .i64 (({ fErr := 0, fAt := 0 } : GFault).fErr)), .pv (.int .i64 (({ fErr := 0, fAt := 0 } : GFault).fAt))])), (1, some (.box 94 [.pv (.str y516.fName), .pv (.vs 1 (List.map eS y516.fParams)), .pv (.str y516.fSuper), .pv (.vs 2 (List.map eGOwner y516.fAbove)), .pv (.vs 13 (List.map eGVar y516.fFields)), .pv (.vs 17 (List.map eGMethod y516.fMethods)), .pv (.int .i64 y516.fAt)])), (2, some (.dict Try.prog 119 (x683 + 1) y713))], 3, [], [], 0, []⟩) (imp_sub [0, 1, 2] rfl (by decide) rfl rfl ⟨by kernel_rfl, by kernel_rfl, by kernel_rfl, by kernel_rfl, by kernel_rfl, by kernel_rfl, by kernel_rfl, by kernel_rfl, by kernel_rfl, by kernel_rfl, by kernel_rfl, by kernel_rfl, by kernel_rfl, by kernel_rfl, trivial⟩ ⟨by kernel_rfl, by kernel_rfl, by kernel_rfl, trivial⟩ rfl rfl rfl) ?_
                  refine post_block_normal ?_
                  refine post_next ?_
                  refine aw_region ?_
                  refine reg_cons (guard_no rfl) (op_int (k := .i64) (m := x685) (n := 1) rfl rfl rfl rfl rfl rfl) ?_
                  refine reg_cons (guard_no rfl) (op_move rfl rfl rfl rfl) ?_
                  refine reg_nil ?_
                  refine post_round ?_
                  exact rnd_back (ih ((x683 + 1), y713, w_i64 (x685 + 1)) hF) (imp_sub [0, 1, 2] rfl (by decide) rfl rfl ⟨by kernel_rfl, by kernel_rfl, by kernel_rfl, by kernel_rfl, by kernel_rfl, by kernel_rfl, by kernel_rfl, by kernel_rfl, by kernel_rfl, by kernel_rfl, by kernel_rfl, by kernel_rfl, by kernel_rfl, by kernel_rfl, trivial⟩ ⟨by kernel_rfl, by kernel_rfl, by kernel_rfl, trivial⟩ rfl rfl rfl)
                · refine aw_cond_f rfl hb702 ?_
                  refine aw_exit ?_
                  refine post_then_exit ?_
                  refine post_then_exit ?_
                  obtain rfl := Option.some.inj hF
                  exact post_lp_break _ rfl (imp_sub [0, 1, 2] rfl (by decide) rfl rfl ⟨by kernel_rfl, by kernel_rfl, by kernel_rfl, by kernel_rfl, by kernel_rfl, by kernel_rfl, by kernel_rfl, by kernel_rfl, by kernel_rfl, by kernel_rfl, by kernel_rfl, trivial⟩ ⟨by kernel_rfl, by kernel_rfl, by kernel_rfl, trivial⟩ rfl rfl rfl)
              · rintro _ rfl
                have hF := hK721
                clear hK721
                obtain ⟨x718, x719⟩ := lr720
                refine post_block_normal ?_
                cases hF
                exact post_cut _ rfl (imp_sub [0, 1, 2] rfl (by decide) rfl rfl ⟨by kernel_rfl, by kernel_rfl, by kernel_rfl, by kernel_rfl, by kernel_rfl, by kernel_rfl, by kernel_rfl, by kernel_rfl, by kernel_rfl, by kernel_rfl, by kernel_rfl, trivial⟩ ⟨by kernel_rfl, by kernel_rfl, by kernel_rfl, trivial⟩ rfl rfl rfl)
          · rintro _ rfl
            have hF := hK725
            clear hK725
            refine post_next ?_
            refine aw_region ?_
            refine reg_cons (guard_no rfl) (op_int (k := .i64) (m := x590) (n := 1) rfl rfl rfl rfl rfl rfl) ?_
            refine reg_cons (guard_no rfl) (op_move rfl rfl rfl rfl) ?_
            refine reg_nil ?_
            refine post_round ?_
            exact rnd_back (ih (x722, x723, w_i64 (x590 + 1)) hF) (imp_sub [0, 1, 2] rfl (by decide) rfl rfl ⟨by kernel_rfl, by kernel_rfl, by kernel_rfl, by kernel_rfl, by kernel_rfl, by kernel_rfl, by kernel_rfl, by kernel_rfl, by kernel_rfl, by kernel_rfl, by kernel_rfl, trivial⟩ ⟨by kernel_rfl, by kernel_rfl, by kernel_rfl, trivial⟩ rfl rfl rfl)
        · refine aw_cond_f rfl hb660 ?_
          refine aw_exit ?_
          refine post_then_exit ?_
          refine post_then_exit ?_
          obtain rfl := Option.some.inj hF
          exact post_lp_break _ rfl (imp_sub [0, 1, 2] rfl (by decide) rfl rfl ⟨by kernel_rfl, by kernel_rfl, by kernel_rfl, by kernel_rfl, by kernel_rfl, by kernel_rfl, by kernel_rfl, trivial⟩ ⟨by kernel_rfl, by kernel_rfl, by kernel_rfl, trivial⟩ rfl rfl rfl)
      · rintro _ rfl
        have hF := hK732
        clear hK732
        obtain ⟨x729, x730⟩ := lr731
        refine post_next ?_
        refine aw_seq ?_
        refine aw_region ?_
        refine reg_cons (guard_no rfl) (op_field_lp rfl rfl Try_fld_94_4 rfl rfl) ?_
        refine reg_cons (guard_no rfl) (op_load_lp (v := .pv (.vs 13 (List.map eGVar y516.fFields))) rfl rfl rfl rfl Try_one_91 rfl rfl) ?_
        refine reg_cons (guard_no rfl) (op_len_vs (n := y516.fFields.length) rfl rfl (List.length_map ..) Try_slc_91 rfl rfl) ?_
        refine reg_cons (guard_no rfl) (op_move rfl rfl rfl rfl) ?_
        refine reg_nil ?_
        refine post_imp (s' := ⟨67, [(0, some (.pv (.vs 7 (List.map eGClass a0)))), (2, some (.lp 0 0)), (5, some (.ls 1)), (12, some (.pv (.vs 7 (List.map eGClass a0)))), (13, some (.pv (.int .i64 (a0.length : Int)))), (14, some (.pv (.int .i64 x256))), (50, some (.pv (.vs 13 (List.map eGVar y516.fFields)))), (51, some (.pv (.int .i64 (y516.fFields.length : Int)))), (52, some (.pv (.int .i64 0)))], [(0, some (.box 64 [.pv (.int .i64 (({ fErr := 0, fAt := 0 } : GFault).fErr)), .pv (.int .i64 (({ fErr := 0, fAt := 0 } : GFault).fAt))])), (1, some (.dict Try.prog 119 x729 x730))], 2, [], [], 0, []⟩) (imp_sub [0, 2] rfl (by decide) rfl rfl ⟨by kernel_rfl, by kernel_rfl, by kernel_rfl, by kernel_rfl, by kernel_rfl, by kernel_rfl, by kernel_rfl, by kernel_rfl, by kernel_rfl, trivial⟩ ⟨by kernel_rfl, by kernel_rfl, trivial⟩ rfl rfl rfl) ?_
        refine post_next ?_
        obtain ⟨lr766, hF, hK767⟩ := bind_some hF
        refine aw_for ((((y516.fFields.length : Int) : Int) - (0)).toNat + 1) (fun s1 => ∃ q, lr766 = .next q ∧ s1 = ⟨67, [(0, some (.pv (.vs 7 (List.map eGClass a0)))), (2, some (.lp 0 0)), (12, some (.pv (.vs 7 (List.map eGClass a0)))), (13, some (.pv (.int .i64 (a0.length : Int)))), (14, some (.pv (.int .i64 x256)))], [(0, some (.box 64 [.pv (.int .i64 (({ fErr := 0, fAt := 0 } : GFault).fErr)), .pv (.int .i64 (({ fErr := 0, fAt := 0 } : GFault).fAt))]))], 1, [], [], 0, []⟩) ?_ ?_
        · refine rnd_loop (α := Int) (fun q => ⟨67, [(0, some (.pv (.vs 7 (List.map eGClass a0)))), (2, some (.lp 0 0)), (5, some (.ls 1)), (12, some (.pv (.vs 7 (List.map eGClass a0)))), (13, some (.pv (.int .i64 (a0.length : Int)))), (14, some (.pv (.int .i64 x256))), (50, some (.pv (.vs 13 (List.map eGVar y516.fFields)))), (51, some (.pv (.int .i64 (y516.fFields.length : Int)))), (52, some (.pv (.int .i64 q)))], [(0, some (.box 64 [.pv (.int .i64 (({ fErr := 0, fAt := 0 } : GFault).fErr)), .pv (.int .i64 (({ fErr := 0, fAt := 0 } : GFault).fAt))])), (1, some (.dict Try.prog 119 x729 x730))], 2, [], [], 0, []⟩) (fun k q => field_Check_L4 x730 y516 k q = some lr766) 0 (imp_sub [0, 1] rfl (by decide) rfl rfl ⟨by kernel_rfl, by kernel_rfl, by kernel_rfl, by kernel_rfl, by kernel_rfl, by kernel_rfl, by kernel_rfl, by kernel_rfl, by kernel_rfl, trivial⟩ ⟨by kernel_rfl, by kernel_rfl, trivial⟩ rfl rfl rfl) hF (fun q h => by cases h) ?_
          clear hF
          rintro k x743 hF ih
          refine rnd_succ ?_
          refine aw_seq ?_
          refine aw_region ?_
          refine reg_cons (guard_no rfl) (op_int (k := .i64) (m := x743) (n := (y516.fFields.length : Int)) rfl rfl rfl rfl rfl rfl) ?_
          refine reg_nil ?_
          refine post_imp (s' := ⟨67, [(0, some (.pv (.vs 7 (List.map eGClass a0)))), (2, some (.lp 0 0)), (5, some (.ls 1)), (12, some (.pv (.vs 7 (List.map eGClass a0)))), (13, some (.pv (.int .i64 (a0.length : Int)))), (14, some (.pv (.int .i64 x256))), (50, some (.pv (.vs 13 (List.map eGVar y516.fFields)))), (51, some (.pv (.int .i64 (y516.fFields.length : Int)))), (52, some (.pv (.int .i64 x743))), (53, some (.pv (.bool (decide (x743 < (y516.fFields.length : Int))))))], [(0, some (.box 64 [.pv (.int .i64 (({ fErr := 0, fAt := 0 } : GFault).fErr)), .pv (.int .i64 (({ fErr := 0, fAt := 0 } : GFault).fAt))])), (1, some (.dict Try.prog 119 x729 x730))], 2, [], [], 0, []⟩) (imp_sub [0, 1] rfl (by decide) rfl rfl ⟨by kernel_rfl, by kernel_rfl, by kernel_rfl, by kernel_rfl, by kernel_rfl, by kernel_rfl, by kernel_rfl, by kernel_rfl, by kernel_rfl, by kernel_rfl, trivial⟩ ⟨by kernel_rfl, by kernel_rfl, trivial⟩ rfl rfl rfl) ?_
          refine post_next ?_
          refine aw_seq ?_
          rcases ite_some hF with ⟨hb755, hF⟩ | ⟨hb755, hF⟩
          · refine aw_cond_t rfl hb755 ?_
            refine aw_skip ?_
            refine post_next ?_
            refine aw_seq ?_
            refine aw_block ?_
            refine aw_seq ?_
            refine aw_region ?_
            obtain ⟨y758, h759, hF⟩ := bind_some hF
            refine reg_cons (guard_no rfl) (op_index_vs (k := .i64) rfl rfl rfl (idx_map eGVar h759) Try_slc_91 rfl rfl) ?_
            refine reg_cons (guard_no rfl) (op_load_vp_agg (ps := eGVar y758) rfl rfl rfl rfl Try_agg_79 rfl rfl) ?_
            refine reg_cons (guard_no rfl) (op_alloc 2 rfl (ps := [.str (({ fName := [], fType := ({ fKind := 0, fClass := [], fN := 0, fOwn := (⟨({ fKind := 0, fN := 0 } : GOwner), ({ fKind := 0, fN := 0 } : GOwner), ({ fKind := 0, fN := 0 } : GOwner), ({ fKind := 0, fN := 0 } : GOwner)⟩ : A4 GOwner) } : GType), fAt := 0 } : GVar).fName), .int .i64 ((({ fName := [], fType := ({ fKind := 0, fClass := [], fN := 0, fOwn := (⟨({ fKind := 0, fN := 0 } : GOwner), ({ fKind := 0, fN := 0 } : GOwner), ({ fKind := 0, fN := 0 } : GOwner), ({ fKind := 0, fN := 0 } : GOwner)⟩ : A4 GOwner) } : GType), fAt := 0 } : GVar).fType).fKind), .str ((({ fName := [], fType := ({ fKind := 0, fClass := [], fN := 0, fOwn := (⟨({ fKind := 0, fN := 0 } : GOwner), ({ fKind := 0, fN := 0 } : GOwner), ({ fKind := 0, fN := 0 } : GOwner), ({ fKind := 0, fN := 0 } : GOwner)⟩ : A4 GOwner) } : GType), fAt := 0 } : GVar).fType).fClass), .int .i64 ((({ fName := [], fType := ({ fKind := 0, fClass := [], fN := 0, fOwn := (⟨({ fKind := 0, fN := 0 } : GOwner), ({ fKind := 0, fN := 0 } : GOwner), ({ fKind := 0, fN := 0 } : GOwner), ({ fKind := 0, fN := 0 } : GOwner)⟩ : A4 GOwner) } : GType), fAt := 0 } : GVar).fType).fN), .int .i64 ((((({ fName := [], fType := ({ fKind := 0, fClass := [], fN := 0, fOwn := (⟨({ fKind := 0, fN := 0 } : GOwner), ({ fKind := 0, fN := 0 } : GOwner), ({ fKind := 0, fN := 0 } : GOwner), ({ fKind := 0, fN := 0 } : GOwner)⟩ : A4 GOwner) } : GType), fAt := 0 } : GVar).fType).fOwn).a0).fKind), .int .i64 ((((({ fName := [], fType := ({ fKind := 0, fClass := [], fN := 0, fOwn := (⟨({ fKind := 0, fN := 0 } : GOwner), ({ fKind := 0, fN := 0 } : GOwner), ({ fKind := 0, fN := 0 } : GOwner), ({ fKind := 0, fN := 0 } : GOwner)⟩ : A4 GOwner) } : GType), fAt := 0 } : GVar).fType).fOwn).a0).fN), .int .i64 ((((({ fName := [], fType := ({ fKind := 0, fClass := [], fN := 0, fOwn := (⟨({ fKind := 0, fN := 0 } : GOwner), ({ fKind := 0, fN := 0 } : GOwner), ({ fKind := 0, fN := 0 } : GOwner), ({ fKind := 0, fN := 0 } : GOwner)⟩ : A4 GOwner) } : GType), fAt := 0 } : GVar).fType).fOwn).a1).fKind), .int .i64 ((((({ fName := [], fType := ({ fKind := 0, fClass := [], fN := 0, fOwn := (⟨({ fKind := 0, fN := 0 } : GOwner), ({ fKind := 0, fN := 0 } : GOwner), ({ fKind := 0, fN := 0 } : GOwner), ({ fKind := 0, fN := 0 } : GOwner)⟩ : A4 GOwner) } : GType), fAt := 0 } : GVar).fType).fOwn).a1).fN), .int .i64 ((((({ fName := [], fType := ({ fKind := 0, fClass := [], fN := 0, fOwn := (⟨({ fKind := 0, fN := 0 } : GOwner), ({ fKind := 0, fN := 0 } : GOwner), ({ fKind := 0, fN := 0 } : GOwner), ({ fKind := 0, fN := 0 } : GOwner)⟩ : A4 GOwner) } : GType), fAt := 0 } : GVar).fType).fOwn).a2).fKind), .int .i64 ((((({ fName := [], fType := ({ fKind := 0, fClass := [], fN := 0, fOwn := (⟨({ fKind := 0, fN := 0 } : GOwner), ({ fKind := 0, fN := 0 } : GOwner), ({ fKind := 0, fN := 0 } : GOwner), ({ fKind := 0, fN := 0 } : GOwner)⟩ : A4 GOwner) } : GType), fAt := 0 } : GVar).fType).fOwn).a2).fN), .int .i64 ((((({ fName := [], fType := ({ fKind := 0, fClass := [], fN := 0, fOwn := (⟨({ fKind := 0, fN := 0 } : GOwner), ({ fKind := 0, fN := 0 } : GOwner), ({ fKind := 0, fN := 0 } : GOwner), ({ fKind := 0, fN := 0 } : GOwner)⟩ : A4 GOwner) } : GType), fAt := 0 } : GVar).fType).fOwn).a3).fKind), .int .i64 ((((({ fName := [], fType := ({ fKind := 0, fClass := [], fN := 0, fOwn := (⟨({ fKind := 0, fN := 0 } : GOwner), ({ fKind := 0, fN := 0 } : GOwner), ({ fKind := 0, fN := 0 } : GOwner), ({ fKind := 0, fN := 0 } : GOwner)⟩ : A4 GOwner) } : GType), fAt := 0 } : GVar).fType).fOwn).a3).fN), .int .i64 (({ fName := [], fType := ({ fKind := 0, fClass := [], fN := 0, fOwn := (⟨({ fKind := 0, fN := 0 } : GOwner), ({ fKind := 0, fN := 0 } : GOwner), ({ fKind := 0, fN := 0 } : GOwner), ({ fKind := 0, fN := 0 } : GOwner)⟩ : A4 GOwner) } : GType), fAt := 0 } : GVar).fAt)]) rfl Try_zer_79 (by exact ⟨rfl, rfl, rfl, rfl, rfl, rfl, rfl, rfl, rfl, rfl, rfl, rfl, rfl, trivial⟩) rfl rfl) ?_
            refine reg_cons (guard_no rfl) (op_store_lp (n := 13) rfl rfl rfl rfl rfl (or_agg Try_agg_79) (by rw [Try_non_79]; rfl) rfl rfl rfl) ?_
            refine reg_nil ?_
            refine post_imp (s' := ⟨67, [(0, some (.pv (.vs 7 (List.map eGClass a0)))), (2, some (.lp 0 0)), (5, some (.ls 1)), (11, some (.lp 2 0)), (12, some (.pv (.vs 7 (List.map eGClass a0)))), (13, some (.pv (.int .i64 (a0.length : Int)))), (14, some (.pv (.int .i64 x256))), (50, some (.pv (.vs 13 (List.map eGVar y516.fFields)))), (51, some (.pv (.int .i64 (y516.fFields.length : Int)))), (52, some (.pv (.int .i64 x743)))], [(0, some (.box 64 [.pv (.int .i64 (({ fErr := 0, fAt := 0 } : GFault).fErr)), .pv (.int .i64 (({ fErr := 0, fAt := 0 } : GFault).fAt))])), (1, some (.dict Try.prog 119 x729 x730)), (2, some (.box 79 [.pv (.str y758.fName), .pv (.int .i64 y758.fType.fKind), .pv (.str y758.fType.fClass), .pv (.int .i64 y758.fType.fN), .pv (.int .i64 y758.fType.fOwn.a0.fKind), .pv (.int .i64 y758.fType.fOwn.a0.fN), .pv (.int .i64 y758.fType.fOwn.a1.fKind), .pv (.int .i64 y758.fType.fOwn.a1.fN), .pv (.int .i64 y758.fType.fOwn.a2.fKind), .pv (.int .i64 y758.fType.fOwn.a2.fN), .pv (.int .i64 y758.fType.fOwn.a3.fKind), .pv (.int .i64 y758.fType.fOwn.a3.fN), .pv (.int .i64 y758.fAt)]))], 3, [], [], 0, []⟩) (imp_sub [0, 1, 2] rfl (by decide) rfl rfl ⟨by kernel_rfl, by kernel_rfl, by kernel_rfl, by kernel_rfl, by kernel_rfl, by kernel_rfl, by kernel_rfl, by kernel_rfl, by kernel_rfl, by kernel_rfl, trivial⟩ ⟨by kernel_rfl, by kernel_rfl, by kernel_rfl, trivial⟩ rfl rfl rfl) ?_
            refine post_next ?_
            refine aw_seq ?_
            refine aw_region ?_
            refine reg_cons (guard_no rfl) (op_move rfl rfl rfl rfl) ?_
            refine reg_cons (guard_no rfl) (op_field_lp rfl rfl Try_fld_79_0 rfl rfl) ?_
            refine reg_cons (guard_no rfl) (op_load_lp (v := .pv (.str y758.fName)) rfl rfl rfl rfl Try_one_9 rfl rfl) ?_
            obtain ⟨y762, h763, hF⟩ := bind_some hF
            refine reg_cons (guard_no rfl) (op_lookup rfl rfl rfl rfl Try_map_119 Try_zer_3 h763 rfl rfl) ?_
            refine reg_cons (guard_no rfl) (op_int (k := .i64) (m := y762) (n := 0) rfl rfl rfl rfl rfl rfl) ?_
            refine reg_nil ?_
            refine post_imp (s' := ⟨67, [(0, some (.pv (.vs 7 (List.map eGClass a0)))), (2, some (.lp 0 0)), (5, some (.ls 1)), (11, some (.lp 2 0)), (12, some (.pv (.vs 7 (List.map eGClass a0)))), (13, some (.pv (.int .i64 (a0.length : Int)))), (14, some (.pv (.int .i64 x256))), (50, some (.pv (.vs 13 (List.map eGVar y516.fFields)))), (51, some (.pv (.int .i64 (y516.fFields.length : Int)))), (52, some (.pv (.int .i64 x743))), (60, some (.pv (.bool (decide (y762 > 0)))))], [(0, some (.box 64 [.pv (.int .i64 (({ fErr := 0, fAt := 0 } : GFault).fErr)), .pv (.int .i64 (({ fErr := 0, fAt := 0 } : GFault).fAt))])), (1, some (.dict Try.prog 119 x729 x730)), (2, some (.box 79 [.pv (.str y758.fName), .pv (.int .i64 y758.fType.fKind), .pv (.str y758.fType.fClass), .pv (.int .i64 y758.fType.fN), .pv (.int .i64 y758.fType.fOwn.a0.fKind), .pv (.int .i64 y758.fType.fOwn.a0.fN), .pv (.int .i64 y758.fType.fOwn.a1.fKind), .pv (.int .i64 y758.fType.fOwn.a1.fN), .pv (.int .i64 y758.fType.fOwn.a2.fKind), .pv (.int .i64 y758.fType.fOwn.a2.fN), .pv (.int .i64 y758.fType.fOwn.a3.fKind), .pv (.int .i64 y758.fType.fOwn.a3.fN), .pv (.int .i64 y758.fAt)]))], 3, [], [], 0, []⟩) (imp_sub [0, 1, 2] rfl (by decide) rfl rfl ⟨by kernel_rfl, by kernel_rfl, by kernel_rfl, by kernel_rfl, by kernel_rfl, by kernel_rfl, by kernel_rfl, by kernel_rfl, by kernel_rfl, by kernel_rfl, by kernel_rfl, trivial⟩ ⟨by kernel_rfl, by kernel_rfl, by kernel_rfl, trivial⟩ rfl rfl rfl) ?_
            refine post_next ?_
            rcases ite_some hF with ⟨hb764, hF⟩ | ⟨hb764, hF⟩
            · refine aw_cond_t rfl hb764 ?_
              refine aw_seq ?_
              refine aw_region ?_
              refine reg_cons (guard_no rfl) (op_field_lp rfl rfl Try_fld_79_2 rfl rfl) ?_
              refine reg_cons (guard_no rfl) (op_load_lp (v := .pv (.int .i64 y758.fAt)) rfl rfl rfl rfl Try_one_3 rfl rfl) ?_
              refine reg_cons (guard_no rfl) (op_build (zs := [.int .i64 (({ fErr := 0, fAt := 0 } : GFault).fErr), .int .i64 (({ fErr := 0, fAt := 0 } : GFault).fAt)]) (r := eGFault ({ fErr := 7, fAt := y758.fAt } : GFault)) rfl Try_zer_64 (by exact ⟨rfl, rfl, trivial⟩) Try_plc_64 rfl rfl rfl rfl) ?_
              refine reg_cons (guard_no rfl) (op_store_lp (n := 2) rfl rfl rfl rfl rfl (or_agg Try_agg_64) (by rw [Try_non_64]; rfl) rfl rfl rfl) ?_
              refine reg_nil ?_
              refine post_imp (s' := ⟨67, [(2, some (.lp 0 0))], [(0, some (.box 64 [.pv (.int .i64 (({ fErr := 7, fAt := y758.fAt } : GFault).fErr)), .pv (.int .i64 (({ fErr := 7, fAt := y758.fAt } : GFault).fAt))]))], 1, [], [], 0, []⟩) (imp_sub [0] rfl (by decide) rfl rfl ⟨by kernel_rfl, trivial⟩ ⟨by kernel_rfl, trivial⟩ rfl rfl rfl) ?_
              refine post_next ?_
              refine aw_ret ?_
              refine post_block_ret ?_
              refine post_then_ret ?_
              refine post_then_ret ?_
              refine post_lp_ret ?_
              obtain rfl := Option.some.inj hF
              have hF := elim_stop hK767
              refine post_block_ret ?_
              refine post_then_ret ?_
              refine post_then_ret ?_
              refine post_lp_ret ?_
              obtain rfl := Option.some.inj hF
              have hF := elim_stop hK770
              refine post_then_ret ?_
              obtain rfl := Option.some.inj hF
              exact post_ret rfl rfl (.cons _ _ _ _ _ (.agg _ _ _ _ _ 2 _ _ rfl rfl Try_agg_64 rfl rfl rfl) (.p _) .nil) (.inl rfl)
            · refine aw_cond_f rfl hb764 ?_
              refine aw_skip ?_
              refine post_block_normal ?_
              refine post_next ?_
              refine aw_region ?_
              refine reg_cons (guard_no rfl) (op_int (k := .i64) (m := x743) (n := 1) rfl rfl rfl rfl rfl rfl) ?_
              refine reg_cons (guard_no rfl) (op_move rfl rfl rfl rfl) ?_
              refine reg_nil ?_
              refine post_round ?_
              exact rnd_back (ih (w_i64 (x743 + 1)) hF) (imp_sub [0, 1] rfl (by decide) rfl rfl ⟨by kernel_rfl, by kernel_rfl, by kernel_rfl, by kernel_rfl, by kernel_rfl, by kernel_rfl, by kernel_rfl, by kernel_rfl, by kernel_rfl, trivial⟩ ⟨by kernel_rfl, by kernel_rfl, trivial⟩ rfl rfl rfl)
          · refine aw_cond_f rfl hb755 ?_
            refine aw_exit ?_
            refine post_then_exit ?_
            refine post_then_exit ?_
            obtain rfl := Option.some.inj hF
            exact post_lp_break _ ⟨_, rfl, rfl⟩ (imp_sub [0] rfl (by decide) rfl rfl ⟨by kernel_rfl, by kernel_rfl, by kernel_rfl, by kernel_rfl, by kernel_rfl, trivial⟩ ⟨by kernel_rfl, trivial⟩ rfl rfl rfl)
        · rintro _ ⟨⟨⟩, rfl, rfl⟩
          have hF := elim_next hK767
          clear hK767
          refine post_block_normal ?_
          refine post_next ?_
          refine aw_region ?_
          refine reg_cons (guard_no rfl) (op_int (k := .i64) (m := x256) (n := 1) rfl rfl rfl rfl rfl rfl) ?_
          refine reg_cons (guard_no rfl) (op_move rfl rfl rfl rfl) ?_
          refine reg_nil ?_
          refine post_round ?_
          exact rnd_back (ih (w_i64 (x256 + 1)) hF) (imp_sub [0] rfl (by decide) rfl rfl ⟨by kernel_rfl, by kernel_rfl, by kernel_rfl, by kernel_rfl, by kernel_rfl, trivial⟩ ⟨by kernel_rfl, trivial⟩ rfl rfl rfl)
    · refine aw_cond_f rfl hb513 ?_
      refine aw_exit ?_
      refine post_then_exit ?_
      refine post_then_exit ?_
      obtain rfl := Option.some.inj hF
      exact post_lp_break _ ⟨_, rfl, rfl⟩ (imp_sub [0] rfl (by decide) rfl rfl ⟨by kernel_rfl, trivial⟩ ⟨by kernel_rfl, trivial⟩ rfl rfl rfl)
  · rintro _ ⟨⟨⟩, rfl, rfl⟩
    have hF := elim_next hK770
    clear hK770
    refine post_next ?_
    refine aw_seq ?_
    refine aw_region ?_
    refine reg_cons (guard_no rfl) (op_build (zs := [.int .i64 (({ fErr := 0, fAt := 0 } : GFault).fErr), .int .i64 (({ fErr := 0, fAt := 0 } : GFault).fAt)]) (r := eGFault ({ fErr := 0, fAt := 0 } : GFault)) rfl Try_zer_64 (by exact ⟨rfl, rfl, trivial⟩) Try_plc_64 rfl rfl rfl rfl) ?_
    refine reg_cons (guard_no rfl) (op_store_lp (n := 2) rfl rfl rfl rfl rfl (or_agg Try_agg_64) (by rw [Try_non_64]; rfl) rfl rfl rfl) ?_
    refine reg_nil ?_
    refine post_imp (s' := ⟨67, [(2, some (.lp 0 0))], [(0, some (.box 64 [.pv (.int .i64 (({ fErr := 0, fAt := 0 } : GFault).fErr)), .pv (.int .i64 (({ fErr := 0, fAt := 0 } : GFault).fAt))]))], 1, [], [], 0, []⟩) (imp_sub [0] rfl (by decide) rfl rfl ⟨by kernel_rfl, trivial⟩ ⟨by kernel_rfl, trivial⟩ rfl rfl rfl) ?_
    refine post_next ?_
    refine aw_ret ?_
    obtain rfl := Option.some.inj hF
    exact post_ret rfl rfl (.cons _ _ _ _ _ (.agg _ _ _ _ _ 2 _ _ rfl rfl Try_agg_64 rfl rfl rfl) (.p _) .nil) (.inl rfl)
theorem ref16_Check_ok {a0 : List GClass} {r : GFault} (hF : ref16_Check a0 = some r) : Abs.Fn Try.prog 58 [.vs 7 (List.map eGClass a0)] [.p (.agg (eGFault r))] := by
  unfold ref16_Check at hF
  refine fn_of_body (n := 87) Try.func58 rfl rfl rfl ?_
  intro w O
  refine aw_seq ?_
  refine aw_region ?_
  refine reg_cons (guard_no rfl) (op_alloc 0 rfl (ps := [.int .i64 (({ fErr := 0, fAt := 0 } : GFault).fErr), .int .i64 (({ fErr := 0, fAt := 0 } : GFault).fAt)]) rfl Try_zer_64 (by exact ⟨rfl, rfl, trivial⟩) rfl rfl) ?_
  refine reg_nil ?_
  refine post_imp (s' := ⟨87, [(0, some (.pv (.vs 7 (List.map eGClass a0)))), (2, some (.lp 0 0))], [(0, some (.box 64 [.pv (.int .i64 (({ fErr := 0, fAt := 0 } : GFault).fErr)), .pv (.int .i64 (({ fErr := 0, fAt := 0 } : GFault).fAt))]))], 1, [], [], 0, []⟩) (imp_sub [0] rfl (by decide) rfl rfl ⟨by kernel_rfl, by kernel_rfl, trivial⟩ ⟨by kernel_rfl, trivial⟩ rfl rfl rfl) ?_
  refine post_next ?_
  refine aw_seq ?_
  refine aw_seq ?_
  refine aw_region ?_
  refine reg_cons (guard_no rfl) (op_assign rfl rfl rfl rfl) ?_
  refine reg_nil ?_
  refine post_imp (s' := ⟨87, [(0, some (.pv (.vs 7 (List.map eGClass a0)))), (2, some (.lp 0 0)), (3, some (.pv (.int .i64 0)))], [(0, some (.box 64 [.pv (.int .i64 (({ fErr := 0, fAt := 0 } : GFault).fErr)), .pv (.int .i64 (({ fErr := 0, fAt := 0 } : GFault).fAt))]))], 1, [], [], 0, []⟩) (imp_sub [0] rfl (by decide) rfl rfl ⟨by kernel_rfl, by kernel_rfl, by kernel_rfl, trivial⟩ ⟨by kernel_rfl, trivial⟩ rfl rfl rfl) ?_
  refine post_next ?_
  obtain ⟨lr2464, hF, hK2465⟩ := bind_some hF
  refine aw_for ((((a0.length : Int) : Int) - (0)).toNat + 1) (fun s1 => ∃ q, lr2464 = .next q ∧ s1 = ⟨87, [(2, some (.lp 0 0))], [(0, some (.box 64 [.pv (.int .i64 (({ fErr := 0, fAt := 0 } : GFault).fErr)), .pv (.int .i64 (({ fErr := 0, fAt := 0 } : GFault).fAt))]))], 1, [], [], 0, []⟩) ?_ ?_
  · refine rnd_loop (α := Int) (fun q => ⟨87, [(0, some (.pv (.vs 7 (List.map eGClass a0)))), (2, some (.lp 0 0)), (3, some (.pv (.int .i64 q)))], [(0, some (.box 64 [.pv (.int .i64 (({ fErr := 0, fAt := 0 } : GFault).fErr)), .pv (.int .i64 (({ fErr := 0, fAt := 0 } : GFault).fAt))]))], 1, [], [], 0, []⟩) (fun k q => ref16_Check_L1 a0 k q = some lr2464) 0 (imp_sub [0] rfl (by decide) rfl rfl ⟨by kernel_rfl, by kernel_rfl, by kernel_rfl, trivial⟩ ⟨by kernel_rfl, trivial⟩ rfl rfl rfl) hF (fun q h => by cases h) ?_
    clear hF
    rintro k x821 hF ih
    refine rnd_succ ?_
    refine aw_seq ?_
    refine aw_seq ?_
    refine aw_region ?_
    refine reg_cons (guard_no rfl) (op_move rfl rfl rfl rfl) ?_
    refine reg_cons (guard_no rfl) (op_move rfl rfl rfl rfl) ?_
    refine reg_cons (guard_no rfl) (op_len_vs (n := a0.length) rfl rfl (List.length_map ..) Try_slc_45 rfl rfl) ?_
    refine reg_cons (guard_no rfl) (op_int (k := .i64) (m := x821) (n := (a0.length : Int)) rfl rfl rfl rfl rfl rfl) ?_
    refine reg_nil ?_
    refine post_imp (s' := ⟨87, [(0, some (.pv (.vs 7 (List.map eGClass a0)))), (2, some (.lp 0 0)), (3, some (.pv (.int .i64 x821))), (12, some (.pv (.bool (decide (x821 < (a0.length : Int))))))], [(0, some (.box 64 [.pv (.int .i64 (({ fErr := 0, fAt := 0 } : GFault).fErr)), .pv (.int .i64 (({ fErr := 0, fAt := 0 } : GFault).fAt))]))], 1, [], [], 0, []⟩) (imp_sub [0] rfl (by decide) rfl rfl ⟨by kernel_rfl, by kernel_rfl, by kernel_rfl, by kernel_rfl, trivial⟩ ⟨by kernel_rfl, trivial⟩ rfl rfl rfl) ?_
    refine post_next ?_
    rcases ite_some hF with ⟨hb1643, hF⟩ | ⟨hb1643, hF⟩
    · refine aw_cond_t rfl hb1643 ?_
      refine aw_skip ?_
      refine post_next ?_
      refine aw_seq ?_
      refine aw_block ?_
      refine aw_seq ?_
      refine aw_region ?_
      refine reg_cons (guard_no rfl) (op_move rfl rfl rfl rfl) ?_
      refine reg_cons (guard_no rfl) (op_move rfl rfl rfl rfl) ?_
      refine reg_cons (guard_no rfl) (op_move rfl rfl rfl rfl) ?_
      obtain ⟨y1648, h1649, hF⟩ := bind_some hF
      refine reg_cons (guard_no rfl) (op_index_vs (k := .i64) rfl rfl rfl (idx_map eGClass h1649) Try_slc_45 rfl rfl) ?_
      refine reg_cons (guard_no rfl) (op_field_vp rfl rfl Try_fld_94_0 rfl rfl) ?_
      refine reg_cons (guard_no rfl) (op_load_vp (p := .str y1648.fName) rfl rfl rfl Try_one_9 rfl rfl) ?_
      obtain ⟨y1650, h1651, hF⟩ := bind_some hF
      refine reg_cons (guard_no rfl) (op_call 1 rfl (caps := []) (args := [.vs 7 (List.map eGClass a0), .str y1648.fName]) (rs := [.p (.vs 1 (List.map eI y1650))]) rfl rfl rfl Try_cal_41 (Fn.frozen (ref14_Chain_ok h1651)) rfl rfl rfl) ?_
      refine reg_cons (guard_no rfl) (op_assign rfl rfl rfl rfl) ?_
      refine reg_nil ?_
      refine post_imp (s' := ⟨87, [(0, some (.pv (.vs 7 (List.map eGClass a0)))), (2, some (.lp 0 0)), (3, some (.pv (.int .i64 x821))), (4, some (.pv (.vs 1 (List.map eI y1650))))], [(0, some (.box 64 [.pv (.int .i64 (({ fErr := 0, fAt := 0 } : GFault).fErr)), .pv (.int .i64 (({ fErr := 0, fAt := 0 } : GFault).fAt))]))], 1, [], [], 0, []⟩) (imp_sub [0] rfl (by decide) rfl rfl ⟨by kernel_rfl, by kernel_rfl, by kernel_rfl, by kernel_rfl, trivial⟩ ⟨by kernel_rfl, trivial⟩ rfl rfl rfl) ?_
      refine post_next ?_
      refine aw_seq ?_
      refine aw_region ?_
      refine reg_cons (guard_no rfl) (op_assign rfl rfl rfl rfl) ?_
      refine reg_nil ?_
      refine post_imp (s' := ⟨87, [(0, some (.pv (.vs 7 (List.map eGClass a0)))), (2, some (.lp 0 0)), (3, some (.pv (.int .i64 x821))), (4, some (.pv (.vs 1 (List.map eI y1650)))), (5, some (.pv (.int .i64 0)))], [(0, some (.box 64 [.pv (.int .i64 (({ fErr := 0, fAt := 0 } : GFault).fErr)), .pv (.int .i64 (({ fErr := 0, fAt := 0 } : GFault).fAt))]))], 1, [], [], 0, []⟩) (imp_sub [0] rfl (by decide) rfl rfl ⟨by kernel_rfl, by kernel_rfl, by kernel_rfl, by kernel_rfl, by kernel_rfl, trivial⟩ ⟨by kernel_rfl, trivial⟩ rfl rfl rfl) ?_
      refine post_next ?_
      obtain ⟨lr2459, hF, hK2460⟩ := bind_some hF
      refine aw_for (Option.getD (Option.bind (idx a0 x821) fun (y2461 : GClass) => some ((((y2461.fFields.length : Int) : Int) - (0)).toNat + 1)) 1) (fun s1 => ∃ q, lr2459 = .next q ∧ s1 = ⟨87, [(0, some (.pv (.vs 7 (List.map eGClass a0)))), (2, some (.lp 0 0)), (3, some (.pv (.int .i64 x821)))], [(0, some (.box 64 [.pv (.int .i64 (({ fErr := 0, fAt := 0 } : GFault).fErr)), .pv (.int .i64 (({ fErr := 0, fAt := 0 } : GFault).fAt))]))], 1, [], [], 0, []⟩) ?_ ?_
      · refine rnd_loop (α := Int) (fun q => ⟨87, [(0, some (.pv (.vs 7 (List.map eGClass a0)))), (2, some (.lp 0 0)), (3, some (.pv (.int .i64 x821))), (4, some (.pv (.vs 1 (List.map eI y1650)))), (5, some (.pv (.int .i64 q)))], [(0, some (.box 64 [.pv (.int .i64 (({ fErr := 0, fAt := 0 } : GFault).fErr)), .pv (.int .i64 (({ fErr := 0, fAt := 0 } : GFault).fAt))]))], 1, [], [], 0, []⟩) (fun k q => ref16_Check_L2 a0 x821 y1650 k q = some lr2459) 0 (imp_sub [0] rfl (by decide) rfl rfl ⟨by kernel_rfl, by kernel_rfl, by kernel_rfl, by kernel_rfl, by kernel_rfl, trivial⟩ ⟨by kernel_rfl, trivial⟩ rfl rfl rfl) hF (fun q h => by cases h) ?_
        clear hF
        rintro k x1920 hF ih
        refine rnd_succ ?_
        refine aw_seq ?_
        refine aw_seq ?_
        refine aw_region ?_
        refine reg_cons (guard_no rfl) (op_move rfl rfl rfl rfl) ?_
        refine reg_cons (guard_no rfl) (op_move rfl rfl rfl rfl) ?_
        refine reg_cons (guard_no rfl) (op_move rfl rfl rfl rfl) ?_
        obtain ⟨y2192, h2193, hF⟩ := bind_some hF
        refine reg_cons (guard_no rfl) (op_index_vs (k := .i64) rfl rfl rfl (idx_map eGClass h2193) Try_slc_45 rfl rfl) ?_
        refine reg_cons (guard_no rfl) (op_field_vp rfl rfl Try_fld_94_4 rfl rfl) ?_
        refine reg_cons (guard_no rfl) (op_load_vp (p := .vs 13 (List.map eGVar y2192.fFields)) rfl rfl rfl Try_one_91 rfl rfl) ?_
        refine reg_cons (guard_no rfl) (op_len_vs (n := y2192.fFields.length) rfl rfl (List.length_map ..) Try_slc_91 rfl rfl) ?_
        refine reg_cons (guard_no rfl) (op_int (k := .i64) (m := x1920) (n := (y2192.fFields.length : Int)) rfl rfl rfl rfl rfl rfl) ?_
        refine reg_nil ?_
        refine post_imp (s' := ⟨87, [(0, some (.pv (.vs 7 (List.map eGClass a0)))), (2, some (.lp 0 0)), (3, some (.pv (.int .i64 x821))), (4, some (.pv (.vs 1 (List.map eI y1650)))), (5, some (.pv (.int .i64 x1920))), (29, some (.pv (.bool (decide (x1920 < (y2192.fFields.length : Int))))))], [(0, some (.box 64 [.pv (.int .i64 (({ fErr := 0, fAt := 0 } : GFault).fErr)), .pv (.int .i64 (({ fErr := 0, fAt := 0 } : GFault).fAt))]))], 1, [], [], 0, []⟩) (imp_sub [0] rfl (by decide) rfl rfl ⟨by kernel_rfl, by kernel_rfl, by kernel_rfl, by kernel_rfl, by kernel_rfl, by kernel_rfl, trivial⟩ ⟨by kernel_rfl, trivial⟩ rfl rfl rfl) ?_
        refine post_next ?_
        rcases ite_some hF with ⟨hb2194, hF⟩ | ⟨hb2194, hF⟩
        · refine aw_cond_t rfl hb2194 ?_
          refine aw_skip ?_
          refine post_next ?_
          refine aw_seq ?_
          refine aw_block ?_
          refine aw_seq ?_
          refine aw_region ?_
          refine reg_cons (guard_no rfl) (op_assign rfl rfl rfl rfl) ?_
          refine reg_nil ?_
          refine post_imp (s' := ⟨87, [(0, some (.pv (.vs 7 (List.map eGClass a0)))), (2, some (.lp 0 0)), (3, some (.pv (.int .i64 x821))), (4, some (.pv (.vs 1 (List.map eI y1650)))), (5, some (.pv (.int .i64 x1920))), (6, some (.pv (.int .i64 0)))], [(0, some (.box 64 [.pv (.int .i64 (({ fErr := 0, fAt := 0 } : GFault).fErr)), .pv (.int .i64 (({ fErr := 0, fAt := 0 } : GFault).fAt))]))], 1, [], [], 0, []⟩) (imp_sub [0] rfl (by decide) rfl rfl ⟨by kernel_rfl, by kernel_rfl, by kernel_rfl, by kernel_rfl, by kernel_rfl, by kernel_rfl, trivial⟩ ⟨by kernel_rfl, trivial⟩ rfl rfl rfl) ?_
          refine post_next ?_
          obtain ⟨lr2456, hF, hK2457⟩ := bind_some hF
          refine aw_for ((((y1650.length : Int) : Int) - (0)).toNat + 1) (fun s1 => ∃ q, lr2456 = .next q ∧ s1 = ⟨87, [(0, some (.pv (.vs 7 (List.map eGClass a0)))), (2, some (.lp 0 0)), (3, some (.pv (.int .i64 x821))), (4, some (.pv (.vs 1 (List.map eI y1650)))), (5, some (.pv (.int .i64 x1920)))], [(0, some (.box 64 [.pv (.int .i64 (({ fErr := 0, fAt := 0 } : GFault).fErr)), .pv (.int .i64 (({ fErr := 0, fAt := 0 } : GFault).fAt))]))], 1, [], [], 0, []⟩) ?_ ?_
          · refine rnd_loop (α := Int) (fun q => ⟨87, [(0, some (.pv (.vs 7 (List.map eGClass a0)))), (2, some (.lp 0 0)), (3, some (.pv (.int .i64 x821))), (4, some (.pv (.vs 1 (List.map eI y1650)))), (5, some (.pv (.int .i64 x1920))), (6, some (.pv (.int .i64 q)))], [(0, some (.box 64 [.pv (.int .i64 (({ fErr := 0, fAt := 0 } : GFault).fErr)), .pv (.int .i64 (({ fErr := 0, fAt := 0 } : GFault).fAt))]))], 1, [], [], 0, []⟩) (fun k q => ref16_Check_L3 a0 x821 x1920 y1650 k q = some lr2456) 0 (imp_sub [0] rfl (by decide) rfl rfl ⟨by kernel_rfl, by kernel_rfl, by kernel_rfl, by kernel_rfl, by kernel_rfl, by kernel_rfl, trivial⟩ ⟨by kernel_rfl, trivial⟩ rfl rfl rfl) hF (fun q h => by cases h) ?_
            clear hF
            rintro k x2281 hF ih
            refine rnd_succ ?_
            refine aw_seq ?_
            refine aw_seq ?_
            refine aw_region ?_
            refine reg_cons (guard_no rfl) (op_move rfl rfl rfl rfl) ?_
            refine reg_cons (guard_no rfl) (op_move rfl rfl rfl rfl) ?_
            refine reg_cons (guard_no rfl) (op_len_vs (n := y1650.length) rfl rfl (List.length_map ..) Try_slc_42 rfl rfl) ?_
            refine reg_cons (guard_no rfl) (op_int (k := .i64) (m := x2281) (n := (y1650.length : Int)) rfl rfl rfl rfl rfl rfl) ?_
            refine reg_nil ?_
            refine post_imp (s' := ⟨87, [(0, some (.pv (.vs 7 (List.map eGClass a0)))), (2, some (.lp 0 0)), (3, some (.pv (.int .i64 x821))), (4, some (.pv (.vs 1 (List.map eI y1650)))), (5, some (.pv (.int .i64 x1920))), (6, some (.pv (.int .i64 x2281))), (35, some (.pv (.bool (decide (x2281 < (y1650.length : Int))))))], [(0, some (.box 64 [.pv (.int .i64 (({ fErr := 0, fAt := 0 } : GFault).fErr)), .pv (.int .i64 (({ fErr := 0, fAt := 0 } : GFault).fAt))]))], 1, [], [], 0, []⟩) (imp_sub [0] rfl (by decide) rfl rfl ⟨by kernel_rfl, by kernel_rfl, by kernel_rfl, by kernel_rfl, by kernel_rfl, by kernel_rfl, by kernel_rfl, trivial⟩ ⟨by kernel_rfl, trivial⟩ rfl rfl rfl) ?_
            refine post_next ?_
            rcases ite_some hF with ⟨hb2369, hF⟩ | ⟨hb2369, hF⟩
            · refine aw_cond_t rfl hb2369 ?_
              refine aw_skip ?_
              refine post_next ?_
              refine aw_seq ?_
              refine aw_block ?_
              refine aw_seq ?_
              refine aw_region ?_
              refine reg_cons (guard_no rfl) (op_move rfl rfl rfl rfl) ?_
              refine reg_cons (guard_no rfl) (op_move rfl rfl rfl rfl) ?_
              refine reg_cons (guard_no rfl) (op_move rfl rfl rfl rfl) ?_
              obtain ⟨y2374, h2375, hF⟩ := bind_some hF
              refine reg_cons (guard_no rfl) (op_index_vs (k := .i64) rfl rfl rfl (idx_map eI h2375) Try_slc_42 rfl rfl) ?_
              refine reg_cons (guard_no rfl) (op_load_vp (p := .int .i64 y2374) rfl rfl rfl Try_one_3 rfl rfl) ?_
              obtain ⟨y2376, h2377, hF⟩ := bind_some hF
              refine reg_cons (guard_no rfl) (op_index_vs (k := .i64) rfl rfl rfl (idx_map eGClass h2377) Try_slc_45 rfl rfl) ?_
              refine reg_cons (guard_no rfl) (op_load_vp_agg (ps := eGClass y2376) rfl rfl rfl rfl Try_agg_94 rfl rfl) ?_
              refine reg_cons (guard_no rfl) (op_alloc 1 rfl (ps := [.str (({ fName := [], fParams := [], fSuper := [], fAbove := [], fFields := [], fMethods := [], fAt := 0 } : GClass).fName), .vs 1 (List.map eS (({ fName := [], fParams := [], fSuper := [], fAbove := [], fFields := [], fMethods := [], fAt := 0 } : GClass).fParams)), .str (({ fName := [], fParams := [], fSuper := [], fAbove := [], fFields := [], fMethods := [], fAt := 0 } : GClass).fSuper), .vs 2 (List.map eGOwner (({ fName := [], fParams := [], fSuper := [], fAbove := [], fFields := [], fMethods := [], fAt := 0 } : GClass).fAbove)), .vs 13 (List.map eGVar (({ fName := [], fParams := [], fSuper := [], fAbove := [], fFields := [], fMethods := [], fAt := 0 } : GClass).fFields)), .vs 17 (List.map eGMethod (({ fName := [], fParams := [], fSuper := [], fAbove := [], fFields := [], fMethods := [], fAt := 0 } : GClass).fMethods)), .int .i64 (({ fName := [], fParams := [], fSuper := [], fAbove := [], fFields := [], fMethods := [], fAt := 0 } : GClass).fAt)]) rfl Try_zer_94 (by exact ⟨rfl, trivial, rfl, trivial, trivial, trivial, rfl, trivial⟩) rfl rfl) ?_
              refine reg_cons (guard_no rfl) (op_store_lp (n := 7) rfl rfl rfl rfl rfl (or_agg Try_agg_94) (by rw [Try_non_94]; rfl) rfl rfl rfl) ?_
              refine reg_nil ?_
              refine post_imp (s' := ⟨87, [(0, some (.pv (.vs 7 (List.map eGClass a0)))), (2, some (.lp 0 0)), (3, some (.pv (.int .i64 x821))), (4, some (.pv (.vs 1 (List.map eI y1650)))), (5, some (.pv (.int .i64 x1920))), (6, some (.pv (.int .i64 x2281))), (7, some (.lp 1 0))], [(0, some (.box 64 [.pv (.int .i64 (({ fErr := 0, fAt := 0 } : GFault).fErr)), .pv (.int .i64 (({ fErr := 0, fAt := 0 } : GFault).fAt))])), (1, some (.box 94 [.pv (.str y2376.fName), .pv (.vs 1 (List.map eS y2376.fParams)), .pv (.str y2376.fSuper), .pv (.vs 2 (List.map eGOwner y2376.fAbove)), .pv (.vs 13 (List.map eGVar y2376.fFields)), .pv (.vs 17 (List.map eGMethod y2376.fMethods)), .pv (.int .i64 y2376.fAt)]))], 2, [], [], 0, []⟩) (imp_sub [0, 1] rfl (by decide) rfl rfl ⟨by kernel_rfl, by kernel_rfl, by kernel_rfl, by kernel_rfl, by kernel_rfl, by kernel_rfl, by kernel_rfl, trivial⟩ ⟨by kernel_rfl, by kernel_rfl, trivial⟩ rfl rfl rfl) ?_
              refine post_next ?_
              refine aw_seq ?_
              refine aw_region ?_
              refine reg_cons (guard_no rfl) (op_assign rfl rfl rfl rfl) ?_
              refine reg_nil ?_
              refine post_imp (s' := ⟨87, [(0, some (.pv (.vs 7 (List.map eGClass a0)))), (2, some (.lp 0 0)), (3, some (.pv (.int .i64 x821))), (4, some (.pv (.vs 1 (List.map eI y1650)))), (5, some (.pv (.int .i64 x1920))), (6, some (.pv (.int .i64 x2281))), (7, some (.lp 1 0)), (8, some (.pv (.int .i64 0)))], [(0, some (.box 64 [.pv (.int .i64 (({ fErr := 0, fAt := 0 } : GFault).fErr)), .pv (.int .i64 (({ fErr := 0, fAt := 0 } : GFault).fAt))])), (1, some (.box 94 [.pv (.str y2376.fName), .pv (.vs 1 (List.map eS y2376.fParams)), .pv (.str y2376.fSuper), .pv (.vs 2 (List.map eGOwner y2376.fAbove)), .pv (.vs 13 (List.map eGVar y2376.fFields)), .pv (.vs 17 (List.map eGMethod y2376.fMethods)), .pv (.int .i64 y2376.fAt)]))], 2, [], [], 0, []⟩) (imp_sub [0, 1] rfl (by decide) rfl rfl ⟨by kernel_rfl, by kernel_rfl, by kernel_rfl, by kernel_rfl, by kernel_rfl, by kernel_rfl, by kernel_rfl, by kernel_rfl, trivial⟩ ⟨by kernel_rfl, by kernel_rfl, trivial⟩ rfl rfl rfl) ?_
              refine post_next ?_
              obtain ⟨lr2453, hF, hK2454⟩ := bind_some hF
              refine aw_for 42 (fun s1 => ∃ q, lr2453 = .next q ∧ s1 = ⟨87, [(0, some (.pv (.vs 7 (List.map eGClass a0)))), (2, some (.lp 0 0)), (3, some (.pv (.int .i64 x821))), (4, some (.pv (.vs 1 (List.map eI y1650)))), (5, some (.pv (.int .i64 x1920))), (6, some (.pv (.int .i64 x2281)))], [(0, some (.box 64 [.pv (.int .i64 (({ fErr := 0, fAt := 0 } : GFault).fErr)), .pv (.int .i64 (({ fErr := 0, fAt := 0 } : GFault).fAt))]))], 1, [], [], 0, []⟩) ?_ ?_
              · refine rnd_loop (α := Int) (fun q => ⟨87, [(0, some (.pv (.vs 7 (List.map eGClass a0)))), (2, some (.lp 0 0)), (3, some (.pv (.int .i64 x821))), (4, some (.pv (.vs 1 (List.map eI y1650)))), (5, some (.pv (.int .i64 x1920))), (6, some (.pv (.int .i64 x2281))), (7, some (.lp 1 0)), (8, some (.pv (.int .i64 q)))], [(0, some (.box 64 [.pv (.int .i64 (({ fErr := 0, fAt := 0 } : GFault).fErr)), .pv (.int .i64 (({ fErr := 0, fAt := 0 } : GFault).fAt))])), (1, some (.box 94 [.pv (.str y2376.fName), .pv (.vs 1 (List.map eS y2376.fParams)), .pv (.str y2376.fSuper), .pv (.vs 2 (List.map eGOwner y2376.fAbove)), .pv (.vs 13 (List.map eGVar y2376.fFields)), .pv (.vs 17 (List.map eGMethod y2376.fMethods)), .pv (.int .i64 y2376.fAt)]))], 2, [], [], 0, []⟩) (fun k q => ref16_Check_L4 a0 x821 x1920 x2281 y1650 y2376 k q = some lr2453) 0 (imp_sub [0, 1] rfl (by decide) rfl rfl ⟨by kernel_rfl, by kernel_rfl, by kernel_rfl, by kernel_rfl, by kernel_rfl, by kernel_rfl, by kernel_rfl, by kernel_rfl, trivial⟩ ⟨by kernel_rfl, by kernel_rfl, trivial⟩ rfl rfl rfl) hF (fun q h => by cases h) ?_
                clear hF
                rintro k x2402 hF ih
                refine rnd_succ ?_
                refine aw_seq ?_
                refine aw_seq ?_
                obtain ⟨x2431, hF, hK2433⟩ := bind_some hF
                refine aw_cut (fun s1 => s1 = ⟨87, [(0, some (.pv (.vs 7 (List.map eGClass a0)))), (2, some (.lp 0 0)), (3, some (.pv (.int .i64 x821))), (4, some (.pv (.vs 1 (List.map eI y1650)))), (5, some (.pv (.int .i64 x1920))), (6, some (.pv (.int .i64 x2281))), (7, some (.lp 1 0)), (8, some (.pv (.int .i64 x2402))), (57, some (.pv (.bool x2431)))], [(0, some (.box 64 [.pv (.int .i64 (({ fErr := 0, fAt := 0 } : GFault).fErr)), .pv (.int .i64 (({ fErr := 0, fAt := 0 } : GFault).fAt))])), (1, some (.box 94 [.pv (.str y2376.fName), .pv (.vs 1 (List.map eS y2376.fParams)), .pv (.str y2376.fSuper), .pv (.vs 2 (List.map eGOwner y2376.fAbove)), .pv (.vs 13 (List.map eGVar y2376.fFields)), .pv (.vs 17 (List.map eGMethod y2376.fMethods)), .pv (.int .i64 y2376.fAt)]))], 2, [], [], 0, []⟩) ?_ ?_
                · refine aw_region ?_
                  refine reg_cons (guard_no rfl) (op_move rfl rfl rfl rfl) ?_
                  refine reg_cons (guard_no rfl) (op_field_lp rfl rfl Try_fld_94_4 rfl rfl) ?_
                  refine reg_cons (guard_no rfl) (op_load_lp (v := .pv (.vs 13 (List.map eGVar y2376.fFields))) rfl rfl rfl rfl Try_one_91 rfl rfl) ?_
                  refine reg_cons (guard_no rfl) (op_len_vs (n := y2376.fFields.length) rfl rfl (List.length_map ..) Try_slc_91 rfl rfl) ?_
                  refine reg_cons (guard_no rfl) (op_int (k := .i64) (m := x2402) (n := (y2376.fFields.length : Int)) rfl rfl rfl rfl rfl rfl) ?_
                  refine reg_cons (guard_no rfl) (op_move rfl rfl rfl rfl) ?_
                  rcases ite_some hF with ⟨hb2428, hF⟩ | ⟨hb2428, hF⟩
                  · refine reg_cons (guard_on rfl rfl rfl rfl hb2428) (op_move rfl rfl rfl rfl) ?_
                    refine reg_cons (guard_on rfl rfl rfl rfl hb2428) (op_move rfl rfl rfl rfl) ?_
                    obtain ⟨y2429, h2430, hF⟩ := bind_some hF
                    refine reg_cons (guard_on rfl rfl rfl rfl hb2428) (op_index_vs (k := .i64) rfl rfl rfl (idx_map eI h2430) Try_slc_42 rfl rfl) ?_
                    refine reg_cons (guard_on rfl rfl rfl rfl hb2428) (op_load_vp (p := .int .i64 y2429) rfl rfl rfl Try_one_3 rfl rfl) ?_
                    refine reg_cons (guard_on rfl rfl rfl rfl hb2428) (op_move rfl rfl rfl rfl) ?_
                    refine reg_cons (guard_on rfl rfl rfl rfl hb2428) (op_int (k := .i64) (m := y2429) (n := x821) rfl rfl rfl rfl rfl rfl) ?_
                    refine reg_cons (guard_no rfl) (op_pick_t rfl rfl hb2428 rfl rfl rfl) ?_
                    refine reg_nil ?_
                    cases hF
                    exact post_cut _ rfl (imp_sub [0, 1] rfl (by decide) rfl rfl ⟨by kernel_rfl, by kernel_rfl, by kernel_rfl, by kernel_rfl, by kernel_rfl, by kernel_rfl, by kernel_rfl, by kernel_rfl, by kernel_rfl, trivial⟩ ⟨by kernel_rfl, by kernel_rfl, trivial⟩ rfl rfl rfl)
                  · refine reg_off (guard_off rfl rfl rfl rfl hb2428) rfl rfl ?_
                    refine reg_off (guard_off rfl rfl rfl rfl hb2428) rfl rfl ?_
                    refine reg_off (guard_off rfl rfl rfl rfl hb2428) rfl rfl ?_
                    refine reg_off (guard_off rfl rfl rfl rfl hb2428) rfl rfl ?_
                    refine reg_off (guard_off rfl rfl rfl rfl hb2428) rfl rfl ?_
                    refine reg_off (guard_off rfl rfl rfl rfl hb2428) rfl rfl ?_
                    refine reg_cons (guard_no rfl) (op_pick_f rfl rfl hb2428 rfl rfl rfl) ?_
                    refine reg_nil ?_
                    cases hF
                    exact post_cut _ rfl (imp_sub [0, 1] rfl (by decide) rfl rfl ⟨by kernel_rfl, by kernel_rfl, by kernel_rfl, by kernel_rfl, by kernel_rfl, by kernel_rfl, by kernel_rfl, by kernel_rfl, by kernel_rfl, trivial⟩ ⟨by kernel_rfl, by kernel_rfl, trivial⟩ rfl rfl rfl)
                · rintro _ rfl
                  have hF := hK2433
                  clear hK2433
                  refine post_next ?_
                  rcases ite_some hF with ⟨hb2434, hF⟩ | ⟨hb2434, hF⟩
                  · refine aw_cond_t rfl hb2434 ?_
                    refine aw_skip ?_
                    refine post_next ?_
                    refine aw_seq ?_
                    refine aw_block ?_
                    refine aw_seq ?_
                    obtain ⟨y2441, h2442, hF⟩ := bind_some hF
                    obtain ⟨y2443, h2444, hF⟩ := bind_some hF
                    obtain ⟨y2445, h2446, hF⟩ := bind_some hF
                    refine aw_drawn ({ need := [(7, .lp 1 0)], dst := some 60, val := some (.lp 1 4) } :: { need := [(60, .lp 1 4)], hneed := [(1, .box 94 [.pv (.str y2376.fName), .pv (.vs 1 (List.map eS y2376.fParams)), .pv (.str y2376.fSuper), .pv (.vs 2 (List.map eGOwner y2376.fAbove)), .pv (.vs 13 (List.map eGVar y2376.fFields)), .pv (.vs 17 (List.map eGMethod y2376.fMethods)), .pv (.int .i64 y2376.fAt)])], dst := some 61, val := some (.pv (.vs 13 (List.map eGVar y2376.fFields))) } :: { need := [(8, .pv (.int .i64 x2402))], dst := some 62, val := some (.pv (.int .i64 x2402)) } :: { need := [(61, .pv (.vs 13 (List.map eGVar y2376.fFields))), (62, .pv (.int .i64 x2402))], dst := some 63, val := some (.pv (.vp (eGVar y2441))) } :: { need := [(63, .pv (.vp (eGVar y2441)))], dst := some 64, val := some (.pv (.vp (List.drop 0 (eGVar y2441)))) } :: { need := [(64, .pv (.vp (List.drop 0 (eGVar y2441))))], dst := some 65, val := some (.pv (.str y2441.fName)) } :: { need := [(0, .pv (.vs 7 (List.map eGClass a0)))], dst := some 66, val := some (.pv (.vs 7 (List.map eGClass a0))) } :: { need := [(3, .pv (.int .i64 x821))], dst := some 67, val := some (.pv (.int .i64 x821)) } :: { need := [(66, .pv (.vs 7 (List.map eGClass a0))), (67, .pv (.int .i64 x821))], dst := some 68, val := some (.pv (.vp (eGClass y2443))) } :: { need := [(68, .pv (.vp (eGClass y2443)))], dst := some 69, val := some (.pv (.vp (List.drop 4 (eGClass y2443)))) } :: { need := [(69, .pv (.vp (List.drop 4 (eGClass y2443))))], dst := some 70, val := some (.pv (.vs 13 (List.map eGVar y2443.fFields))) } :: { need := [(5, .pv (.int .i64 x1920))], dst := some 71, val := some (.pv (.int .i64 x1920)) } :: { need := [(70, .pv (.vs 13 (List.map eGVar y2443.fFields))), (71, .pv (.int .i64 x1920))], dst := some 72, val := some (.pv (.vp (eGVar y2445))) } :: { need := [(72, .pv (.vp (eGVar y2445)))], dst := some 73, val := some (.pv (.vp (List.drop 0 (eGVar y2445)))) } :: { need := [(73, .pv (.vp (List.drop 0 (eGVar y2445))))], dst := some 74, val := some (.pv (.str y2445.fName)) } :: { need := [(65, .pv (.str y2441.fName)), (74, .pv (.str y2445.fName))], dst := some 75, val := some (.pv (.bool (y2441.fName == y2445.fName))) } :: []) ⟨_, _, _⟩ Try_mixed rfl ⟨fun m h => step_on (guard_no rfl) (op_field_lp rfl h.1.1 Try_fld_94_4 rfl rfl) rfl, fun m h => step_on (guard_no rfl) (op_load_lp (v := .pv (.vs 13 (List.map eGVar y2376.fFields))) rfl h.1.1 h.2.1.1 rfl Try_one_91 rfl rfl) rfl, fun m h => step_on (guard_no rfl) (op_move rfl h.1.1 rfl rfl) rfl, fun m h => step_on (guard_no rfl) (op_index_vs (k := .i64) rfl h.1.1 h.1.2.1 (idx_map eGVar h2442) Try_slc_91 rfl rfl) rfl, fun m h => step_on (guard_no rfl) (op_field_vp rfl h.1.1 Try_fld_79_0 rfl rfl) rfl, fun m h => step_on (guard_no rfl) (op_load_vp (p := .str y2441.fName) rfl h.1.1 rfl Try_one_9 rfl rfl) rfl, fun m h => step_on (guard_no rfl) (op_move rfl h.1.1 rfl rfl) rfl, fun m h => step_on (guard_no rfl) (op_move rfl h.1.1 rfl rfl) rfl, fun m h => step_on (guard_no rfl) (op_index_vs (k := .i64) rfl h.1.1 h.1.2.1 (idx_map eGClass h2444) Try_slc_45 rfl rfl) rfl, fun m h => step_on (guard_no rfl) (op_field_vp rfl h.1.1 Try_fld_94_4 rfl rfl) rfl, fun m h => step_on (guard_no rfl) (op_load_vp (p := .vs 13 (List.map eGVar y2443.fFields)) rfl h.1.1 rfl Try_one_91 rfl rfl) rfl, fun m h => step_on (guard_no rfl) (op_move rfl h.1.1 rfl rfl) rfl, fun m h => step_on (guard_no rfl) (op_index_vs (k := .i64) rfl h.1.1 h.1.2.1 (idx_map eGVar h2446) Try_slc_91 rfl rfl) rfl, fun m h => step_on (guard_no rfl) (op_field_vp rfl h.1.1 Try_fld_79_0 rfl rfl) rfl, fun m h => step_on (guard_no rfl) (op_load_vp (p := .str y2445.fName) rfl h.1.1 rfl Try_one_9 rfl rfl) rfl, fun m h => step_on (guard_no rfl) (op_str rfl h.1.1 h.1.2.1 rfl rfl rfl) rfl, trivial⟩ ⟨⟨⟨rfl, trivial⟩, trivial, trivial⟩, ⟨⟨rfl, trivial⟩, ⟨rfl, trivial⟩, trivial⟩, ⟨⟨rfl, trivial⟩, trivial, trivial⟩, ⟨⟨rfl, rfl, trivial⟩, trivial, trivial⟩, ⟨⟨rfl, trivial⟩, trivial, trivial⟩, ⟨⟨rfl, trivial⟩, trivial, trivial⟩, ⟨⟨rfl, trivial⟩, trivial, trivial⟩, ⟨⟨rfl, trivial⟩, trivial, trivial⟩, ⟨⟨rfl, rfl, trivial⟩, trivial, trivial⟩, ⟨⟨rfl, trivial⟩, trivial, trivial⟩, ⟨⟨rfl, trivial⟩, trivial, trivial⟩, ⟨⟨rfl, trivial⟩, trivial, trivial⟩, ⟨⟨rfl, rfl, trivial⟩, trivial, trivial⟩, ⟨⟨rfl, trivial⟩, trivial, trivial⟩, ⟨⟨rfl, trivial⟩, trivial, trivial⟩, ⟨⟨rfl, rfl, trivial⟩, trivial, trivial⟩, trivial⟩ (by kernel_rfl) ?_
                    refine post_imp (s' := ⟨87, [(0, some (.pv (.vs 7 (List.map eGClass a0)))), (2, some (.lp 0 0)), (3, some (.pv (.int .i64 x821))), (4, some (.pv (.vs 1 (List.map eI y1650)))), (5, some (.pv (.int .i64 x1920))), (6, some (.pv (.int .i64 x2281))), (7, some (.lp 1 0)), (8, some (.pv (.int .i64 x2402))), (75, some (.pv (.bool (y2441.fName == y2445.fName))))], [(0, some (.box 64 [.pv (.int .i64 (({ fErr := 0, fAt := 0 } : GFault).fErr)), .pv (.int .i64 (({ fErr := 0, fAt := 0 } : GFault).fAt))])), (1, some (.box 94 [.pv (.str y2376.fName), .pv (.vs 1 (List.map eS y2376.fParams)), .pv (.str y2376.fSuper), .pv (.vs 2 (List.map eGOwner y2376.fAbove)), .pv (.vs 13 (List.map eGVar y2376.fFields)), .pv (.vs 17 (List.map eGMethod y2376.fMethods)), .pv (.int .i64 y2376.fAt)]))], 2, [], [], 0, []⟩) (imp_sub [0, 1] rfl (by decide) rfl rfl ⟨by kernel_rfl, by kernel_rfl, by kernel_rfl, by kernel_rfl, by kernel_rfl, by kernel_rfl, by kernel_rfl, by kernel_rfl, by kernel_rfl, trivial⟩ ⟨by kernel_rfl, by kernel_rfl, trivial⟩ rfl rfl rfl) ?_
                    refine post_next ?_
                    rcases ite_some hF with ⟨hb2447, hF⟩ | ⟨hb2447, hF⟩
                    · refine aw_cond_t rfl hb2447 ?_
                      refine aw_seq ?_
                      refine aw_region ?_
                      refine reg_cons (guard_no rfl) (op_move rfl rfl rfl rfl) ?_
                      refine reg_cons (guard_no rfl) (op_move rfl rfl rfl rfl) ?_
                      obtain ⟨y2448, h2449, hF⟩ := bind_some hF
                      refine reg_cons (guard_no rfl) (op_index_vs (k := .i64) rfl rfl rfl (idx_map eGClass h2449) Try_slc_45 rfl rfl) ?_
                      refine reg_cons (guard_no rfl) (op_field_vp rfl rfl Try_fld_94_4 rfl rfl) ?_
                      refine reg_cons (guard_no rfl) (op_load_vp (p := .vs 13 (List.map eGVar y2448.fFields)) rfl rfl rfl Try_one_91 rfl rfl) ?_
                      refine reg_cons (guard_no rfl) (op_move rfl rfl rfl rfl) ?_
                      obtain ⟨y2450, h2451, hF⟩ := bind_some hF
                      refine reg_cons (guard_no rfl) (op_index_vs (k := .i64) rfl rfl rfl (idx_map eGVar h2451) Try_slc_91 rfl rfl) ?_
                      refine reg_cons (guard_no rfl) (op_field_vp rfl rfl Try_fld_79_2 rfl rfl) ?_
                      refine reg_cons (guard_no rfl) (op_load_vp (p := .int .i64 y2450.fAt) rfl rfl rfl Try_one_3 rfl rfl) ?_
                      refine reg_cons (guard_no rfl) (op_build (zs := [.int .i64 (({ fErr := 0, fAt := 0 } : GFault).fErr), .int .i64 (({ fErr := 0, fAt := 0 } : GFault).fAt)]) (r := eGFault ({ fErr := 7, fAt := y2450.fAt } : GFault)) rfl Try_zer_64 (by exact ⟨rfl, rfl, trivial⟩) Try_plc_64 rfl rfl rfl rfl) ?_
                      refine reg_cons (guard_no rfl) (op_store_lp (n := 2) rfl rfl rfl rfl rfl (or_agg Try_agg_64) (by rw [Try_non_64]; rfl) rfl rfl rfl) ?_
                      refine reg_nil ?_
                      refine post_imp (s' := ⟨87, [(2, some (.lp 0 0))], [(0, some (.box 64 [.pv (.int .i64 (({ fErr := 7, fAt := y2450.fAt } : GFault).fErr)), .pv (.int .i64 (({ fErr := 7, fAt := y2450.fAt } : GFault).fAt))]))], 1, [], [], 0, []⟩) (imp_sub [0] rfl (by decide) rfl rfl ⟨by kernel_rfl, trivial⟩ ⟨by kernel_rfl, trivial⟩ rfl rfl rfl) ?_
                      refine post_next ?_
                      refine aw_ret ?_
                      refine post_block_ret ?_
                      refine post_then_ret ?_
                      refine post_then_ret ?_
                      refine post_lp_ret ?_
                      obtain rfl := Option.some.inj hF
                      have hF := elim_stop hK2454
                      refine post_block_ret ?_
                      refine post_then_ret ?_
                      refine post_then_ret ?_
                      refine post_lp_ret ?_
                      obtain rfl := Option.some.inj hF
                      have hF := elim_stop hK2457
                      refine post_block_ret ?_
                      refine post_then_ret ?_
                      refine post_then_ret ?_
                      refine post_lp_ret ?_
                      obtain rfl := Option.some.inj hF
                      have hF := elim_stop hK2460
                      refine post_block_ret ?_
                      refine post_then_ret ?_
                      refine post_then_ret ?_
                      refine post_lp_ret ?_
                      obtain rfl := Option.some.inj hF
                      have hF := elim_stop hK2465
                      refine post_then_ret ?_
                      obtain rfl := Option.some.inj hF
                      exact post_ret rfl rfl (.cons _ _ _ _ _ (.agg _ _ _ _ _ 2 _ _ rfl rfl Try_agg_64 rfl rfl rfl) (.p _) .nil) (.inl rfl)
                    · refine aw_cond_f rfl hb2447 ?_
                      refine aw_skip ?_
                      refine post_block_normal ?_
                      refine post_next ?_
                      refine aw_region ?_
                      refine reg_cons (guard_no rfl) (op_move rfl rfl rfl rfl) ?_
                      refine reg_cons (guard_no rfl) (op_int (k := .i64) (m := x2402) (n := 1) rfl rfl rfl rfl rfl rfl) ?_
                      refine reg_cons (guard_no rfl) (op_assign rfl rfl rfl rfl) ?_
                      refine reg_nil ?_
                      refine post_round ?_
                      exact rnd_back (ih (w_i64 (x2402 + 1)) hF) (imp_sub [0, 1] rfl (by decide) rfl rfl ⟨by kernel_rfl, by kernel_rfl, by kernel_rfl, by kernel_rfl, by kernel_rfl, by kernel_rfl, by kernel_rfl, by kernel_rfl, trivial⟩ ⟨by kernel_rfl, by kernel_rfl, trivial⟩ rfl rfl rfl)
                  · refine aw_cond_f rfl hb2434 ?_
                    refine aw_exit ?_
                    refine post_then_exit ?_
                    refine post_then_exit ?_
                    obtain rfl := Option.some.inj hF
                    exact post_lp_break _ ⟨_, rfl, rfl⟩ (imp_sub [0] rfl (by decide) rfl rfl ⟨by kernel_rfl, by kernel_rfl, by kernel_rfl, by kernel_rfl, by kernel_rfl, by kernel_rfl, trivial⟩ ⟨by kernel_rfl, trivial⟩ rfl rfl rfl)
              · rintro _ ⟨⟨⟩, rfl, rfl⟩
                have hF := elim_next hK2454
                clear hK2454
                refine post_block_normal ?_
                refine post_next ?_
                refine aw_region ?_
                refine reg_cons (guard_no rfl) (op_move rfl rfl rfl rfl) ?_
                refine reg_cons (guard_no rfl) (op_int (k := .i64) (m := x2281) (n := 1) rfl rfl rfl rfl rfl rfl) ?_
                refine reg_cons (guard_no rfl) (op_assign rfl rfl rfl rfl) ?_
                refine reg_nil ?_
                refine post_round ?_
                exact rnd_back (ih (w_i64 (x2281 + 1)) hF) (imp_sub [0] rfl (by decide) rfl rfl ⟨by kernel_rfl, by kernel_rfl, by kernel_rfl, by kernel_rfl, by kernel_rfl, by kernel_rfl, trivial⟩ ⟨by kernel_rfl, trivial⟩ rfl rfl rfl)
            · refine aw_cond_f rfl hb2369 ?_
              refine aw_exit ?_
              refine post_then_exit ?_
              refine post_then_exit ?_
              obtain rfl := Option.some.inj hF
              exact post_lp_break _ ⟨_, rfl, rfl⟩ (imp_sub [0] rfl (by decide) rfl rfl ⟨by kernel_rfl, by kernel_rfl, by kernel_rfl, by kernel_rfl, by kernel_rfl, trivial⟩ ⟨by kernel_rfl, trivial⟩ rfl rfl rfl)
          · rintro _ ⟨⟨⟩, rfl, rfl⟩
            have hF := elim_next hK2457
            clear hK2457
            refine post_block_normal ?_
            refine post_next ?_
            refine aw_region ?_
            refine reg_cons (guard_no rfl) (op_move rfl rfl rfl rfl) ?_
            refine reg_cons (guard_no rfl) (op_int (k := .i64) (m := x1920) (n := 1) rfl rfl rfl rfl rfl rfl) ?_
            refine reg_cons (guard_no rfl) (op_assign rfl rfl rfl rfl) ?_
            refine reg_nil ?_
            refine post_round ?_
            exact rnd_back (ih (w_i64 (x1920 + 1)) hF) (imp_sub [0] rfl (by decide) rfl rfl ⟨by kernel_rfl, by kernel_rfl, by kernel_rfl, by kernel_rfl, by kernel_rfl, trivial⟩ ⟨by kernel_rfl, trivial⟩ rfl rfl rfl)
        · refine aw_cond_f rfl hb2194 ?_
          refine aw_exit ?_
          refine post_then_exit ?_
          refine post_then_exit ?_
          obtain rfl := Option.some.inj hF
          exact post_lp_break _ ⟨_, rfl, rfl⟩ (imp_sub [0] rfl (by decide) rfl rfl ⟨by kernel_rfl, by kernel_rfl, by kernel_rfl, trivial⟩ ⟨by kernel_rfl, trivial⟩ rfl rfl rfl)
      · rintro _ ⟨⟨⟩, rfl, rfl⟩
        have hF := elim_next hK2460
        clear hK2460
        refine post_block_normal ?_
        refine post_next ?_
        refine aw_region ?_
        refine reg_cons (guard_no rfl) (op_move rfl rfl rfl rfl) ?_
        refine reg_cons (guard_no rfl) (op_int (k := .i64) (m := x821) (n := 1) rfl rfl rfl rfl rfl rfl) ?_
        refine reg_cons (guard_no rfl) (op_assign rfl rfl rfl rfl) ?_
        refine reg_nil ?_
        refine post_round ?_
        exact rnd_back (ih (w_i64 (x821 + 1)) hF) (imp_sub [0] rfl (by decide) rfl rfl ⟨by kernel_rfl, by kernel_rfl, by kernel_rfl, trivial⟩ ⟨by kernel_rfl, trivial⟩ rfl rfl rfl)
    · refine aw_cond_f rfl hb1643 ?_
      refine aw_exit ?_
      refine post_then_exit ?_
      refine post_then_exit ?_
      obtain rfl := Option.some.inj hF
      exact post_lp_break _ ⟨_, rfl, rfl⟩ (imp_sub [0] rfl (by decide) rfl rfl ⟨by kernel_rfl, trivial⟩ ⟨by kernel_rfl, trivial⟩ rfl rfl rfl)
  · rintro _ ⟨⟨⟩, rfl, rfl⟩
    have hF := elim_next hK2465
    clear hK2465
    refine post_next ?_
    refine aw_seq ?_
    refine aw_region ?_
    refine reg_cons (guard_no rfl) (op_build (zs := [.int .i64 (({ fErr := 0, fAt := 0 } : GFault).fErr), .int .i64 (({ fErr := 0, fAt := 0 } : GFault).fAt)]) (r := eGFault ({ fErr := 0, fAt := 0 } : GFault)) rfl Try_zer_64 (by exact ⟨rfl, rfl, trivial⟩) Try_plc_64 rfl rfl rfl rfl) ?_
    refine reg_cons (guard_no rfl) (op_store_lp (n := 2) rfl rfl rfl rfl rfl (or_agg Try_agg_64) (by rw [Try_non_64]; rfl) rfl rfl rfl) ?_
    refine reg_nil ?_
    refine post_imp (s' := ⟨87, [(2, some (.lp 0 0))], [(0, some (.box 64 [.pv (.int .i64 (({ fErr := 0, fAt := 0 } : GFault).fErr)), .pv (.int .i64 (({ fErr := 0, fAt := 0 } : GFault).fAt))]))], 1, [], [], 0, []⟩) (imp_sub [0] rfl (by decide) rfl rfl ⟨by kernel_rfl, trivial⟩ ⟨by kernel_rfl, trivial⟩ rfl rfl rfl) ?_
    refine post_next ?_
    refine aw_ret ?_
    obtain rfl := Option.some.inj hF
    exact post_ret rfl rfl (.cons _ _ _ _ _ (.agg _ _ _ _ _ 2 _ _ rfl rfl Try_agg_64 rfl rfl rfl) (.p _) .nil) (.inl rfl)
theorem law16_FieldFind_ok {a0 : List GClass} {a1 : List UInt8} {a2 : List UInt8} {r : Bool} (hF : law16_FieldFind a0 a1 a2 = some r) : Abs.Fn Try.prog 13 [.vs 7 (List.map eGClass a0), .str a1, .str a2] [.p (.bool r)] := by
  unfold law16_FieldFind at hF
  refine fn_of_body (n := 57) Try.func13 rfl rfl rfl ?_
  intro w O
  refine aw_seq ?_
  refine aw_region ?_
  refine reg_cons (guard_no rfl) (op_assign rfl rfl rfl rfl) ?_
  refine reg_nil ?_
  refine post_imp (s' := ⟨57, [(0, some (.pv (.vs 7 (List.map eGClass a0)))), (1, some (.pv (.str a1))), (2, some (.pv (.str a2)))], [], 0, [], [], 0, []⟩) (imp_sub [] rfl (by decide) rfl rfl ⟨by kernel_rfl, by kernel_rfl, by kernel_rfl, trivial⟩ trivial rfl rfl rfl) ?_
  refine post_next ?_
  refine aw_seq ?_
  refine aw_seq ?_
  refine aw_region ?_
  refine reg_cons (guard_no rfl) (op_move rfl rfl rfl rfl) ?_
  obtain ⟨y3, h4, hF⟩ := bind_some hF
  refine reg_cons (guard_no rfl) (op_call 0 rfl (caps := []) (args := [.vs 7 (List.map eGClass a0)]) (rs := [.p (.bool y3)]) rfl rfl rfl Try_cal_48 (law16_great_ok h4) rfl rfl rfl) ?_
  refine reg_nil ?_
  refine post_imp (s' := ⟨57, [(0, some (.pv (.vs 7 (List.map eGClass a0)))), (1, some (.pv (.str a1))), (2, some (.pv (.str a2))), (12, some (.pv (.bool y3)))], [], 0, [], [], 0, []⟩) (imp_sub [] rfl (by decide) rfl rfl ⟨by kernel_rfl, by kernel_rfl, by kernel_rfl, by kernel_rfl, trivial⟩ trivial rfl rfl rfl) ?_
  refine post_next ?_
  rcases ite_some hF with ⟨hb5, hF⟩ | ⟨hb5, hF⟩
  · refine aw_cond_t rfl hb5 ?_
    refine aw_seq ?_
    refine aw_region ?_
    obtain ⟨y6, h7, hF⟩ := bind_some hF
    refine reg_cons (guard_no rfl) (op_call 0 rfl (caps := []) (args := []) (rs := [.p (.bool y6)]) rfl rfl rfl Try_cal_49 (law16_awake_ok h7) rfl rfl rfl) ?_
    refine reg_cons (guard_no rfl) (op_assign rfl rfl rfl rfl) ?_
    refine reg_nil ?_
    refine post_imp (s' := ⟨57, [(6, some (.pv (.bool y6)))], [], 0, [], [], 0, []⟩) (imp_sub [] rfl (by decide) rfl rfl ⟨by kernel_rfl, trivial⟩ trivial rfl rfl rfl) ?_
    refine post_next ?_
    refine aw_ret ?_
    refine post_then_ret ?_
    obtain rfl := Option.some.inj hF
    exact post_ret rfl rfl (.cons _ _ _ _ _ (.tmp _ _ rfl) (.p _) .nil) (.inl rfl)
  · refine aw_cond_f rfl hb5 ?_
    refine aw_skip ?_
    refine post_next ?_
    refine aw_seq ?_
    refine aw_region ?_
    refine reg_cons (guard_no rfl) (op_move rfl rfl rfl rfl) ?_
    refine reg_cons (guard_no rfl) (op_move rfl rfl rfl rfl) ?_
    refine reg_cons (guard_no rfl) (op_move rfl rfl rfl rfl) ?_
    obtain ⟨y10, h11, hF⟩ := bind_some hF
    refine reg_cons (guard_no rfl) (op_call 0 rfl (caps := []) (args := [.vs 7 (List.map eGClass a0), .str a1, .str a2]) (rs := [.p (.agg (eGSlot_field y10.1)), .p (.bool y10.2)]) rfl rfl rfl Try_cal_55 (field_Of_ok h11) rfl rfl rfl) ?_
    refine reg_cons (guard_no rfl) (op_move rfl rfl rfl rfl) ?_
    refine reg_cons (guard_no rfl) (op_extract rfl rfl rfl rfl rfl) ?_
    refine reg_cons (guard_no rfl) (op_extract rfl rfl rfl rfl rfl) ?_
    refine reg_cons (guard_no rfl) (op_alloc 0 rfl (ps := [.str (({ fClass := [], fVar := ({ fName := [], fType := ({ fKind := 0, fClass := [], fN := 0, fOwn := (⟨({ fKind := 0, fN := 0 } : GOwner), ({ fKind := 0, fN := 0 } : GOwner), ({ fKind := 0, fN := 0 } : GOwner), ({ fKind := 0, fN := 0 } : GOwner)⟩ : A4 GOwner) } : GType), fAt := 0 } : GVar) } : GSlot_field).fClass), .str ((({ fClass := [], fVar := ({ fName := [], fType := ({ fKind := 0, fClass := [], fN := 0, fOwn := (⟨({ fKind := 0, fN := 0 } : GOwner), ({ fKind := 0, fN := 0 } : GOwner), ({ fKind := 0, fN := 0 } : GOwner), ({ fKind := 0, fN := 0 } : GOwner)⟩ : A4 GOwner) } : GType), fAt := 0 } : GVar) } : GSlot_field).fVar).fName), .int .i64 (((({ fClass := [], fVar := ({ fName := [], fType := ({ fKind := 0, fClass := [], fN := 0, fOwn := (⟨({ fKind := 0, fN := 0 } : GOwner), ({ fKind := 0, fN := 0 } : GOwner), ({ fKind := 0, fN := 0 } : GOwner), ({ fKind := 0, fN := 0 } : GOwner)⟩ : A4 GOwner) } : GType), fAt := 0 } : GVar) } : GSlot_field).fVar).fType).fKind), .str (((({ fClass := [], fVar := ({ fName := [], fType := ({ fKind := 0, fClass := [], fN := 0, fOwn := (⟨({ fKind := 0, fN := 0 } : GOwner), ({ fKind := 0, fN := 0 } : GOwner), ({ fKind := 0, fN := 0 } : GOwner), ({ fKind := 0, fN := 0 } : GOwner)⟩ : A4 GOwner) } : GType), fAt := 0 } : GVar) } : GSlot_field).fVar).fType).fClass), .int .i64 (((({ fClass := [], fVar := ({ fName := [], fType := ({ fKind := 0, fClass := [], fN := 0, fOwn := (⟨({ fKind := 0, fN := 0 } : GOwner), ({ fKind := 0, fN := 0 } : GOwner), ({ fKind := 0, fN := 0 } : GOwner), ({ fKind := 0, fN := 0 } : GOwner)⟩ : A4 GOwner) } : GType), fAt := 0 } : GVar) } : GSlot_field).fVar).fType).fN), .int .i64 (((((({ fClass := [], fVar := ({ fName := [], fType := ({ fKind := 0, fClass := [], fN := 0, fOwn := (⟨({ fKind := 0, fN := 0 } : GOwner), ({ fKind := 0, fN := 0 } : GOwner), ({ fKind := 0, fN := 0 } : GOwner), ({ fKind := 0, fN := 0 } : GOwner)⟩ : A4 GOwner) } : GType), fAt := 0 } : GVar) } : GSlot_field).fVar).fType).fOwn).a0).fKind), .int .i64 (((((({ fClass := [], fVar := ({ fName := [], fType := ({ fKind := 0, fClass := [], fN := 0, fOwn := (⟨({ fKind := 0, fN := 0 } : GOwner), ({ fKind := 0, fN := 0 } : GOwner), ({ fKind := 0, fN := 0 } : GOwner), ({ fKind := 0, fN := 0 } : GOwner)⟩ : A4 GOwner) } : GType), fAt := 0 } : GVar) } : GSlot_field).fVar).fType).fOwn).a0).fN), .int .i64 (((((({ fClass := [], fVar := ({ fName := [], fType := ({ fKind := 0, fClass := [], fN := 0, fOwn := (⟨({ fKind := 0, fN := 0 } : GOwner), ({ fKind := 0, fN := 0 } : GOwner), ({ fKind := 0, fN := 0 } : GOwner), ({ fKind := 0, fN := 0 } : GOwner)⟩ : A4 GOwner) } : GType), fAt := 0 } : GVar) } : GSlot_field).fVar).fType).fOwn).a1).fKind), .int .i64 (((((({ fClass := [], fVar := ({ fName := [], fType := ({ fKind := 0, fClass := [], fN := 0, fOwn := (⟨({ fKind := 0, fN := 0 } : GOwner), ({ fKind := 0, fN := 0 } : GOwner), ({ fKind := 0, fN := 0 } : GOwner), ({ fKind := 0, fN := 0 } : GOwner)⟩ : A4 GOwner) } : GType), fAt := 0 } : GVar) } : GSlot_field).fVar).fType).fOwn).a1).fN), .int .i64 (((((({ fClass := [], fVar := ({ fName := [], fType := ({ fKind := 0, fClass := [], fN := 0, fOwn := (⟨({ fKind := 0, fN := 0 } : GOwner), ({ fKind := 0, fN := 0 } : GOwner), ({ fKind := 0, fN := 0 } : GOwner), ({ fKind := 0, fN := 0 } : GOwner)⟩ : A4 GOwner) } : GType), fAt := 0 } : GVar) } : GSlot_field).fVar).fType).fOwn).a2).fKind), .int .i64 (((((({ fClass := [], fVar := ({ fName := [], fType := ({ fKind := 0, fClass := [], fN := 0, fOwn := (⟨({ fKind := 0, fN := 0 } : GOwner), ({ fKind := 0, fN := 0 } : GOwner), ({ fKind := 0, fN := 0 } : GOwner), ({ fKind := 0, fN := 0 } : GOwner)⟩ : A4 GOwner) } : GType), fAt := 0 } : GVar) } : GSlot_field).fVar).fType).fOwn).a2).fN), .int .i64 (((((({ fClass := [], fVar := ({ fName := [], fType := ({ fKind := 0, fClass := [], fN := 0, fOwn := (⟨({ fKind := 0, fN := 0 } : GOwner), ({ fKind := 0, fN := 0 } : GOwner), ({ fKind := 0, fN := 0 } : GOwner), ({ fKind := 0, fN := 0 } : GOwner)⟩ : A4 GOwner) } : GType), fAt := 0 } : GVar) } : GSlot_field).fVar).fType).fOwn).a3).fKind), .int .i64 (((((({ fClass := [], fVar := ({ fName := [], fType := ({ fKind := 0, fClass := [], fN := 0, fOwn := (⟨({ fKind := 0, fN := 0 } : GOwner), ({ fKind := 0, fN := 0 } : GOwner), ({ fKind := 0, fN := 0 } : GOwner), ({ fKind := 0, fN := 0 } : GOwner)⟩ : A4 GOwner) } : GType), fAt := 0 } : GVar) } : GSlot_field).fVar).fType).fOwn).a3).fN), .int .i64 ((({ fClass := [], fVar := ({ fName := [], fType := ({ fKind := 0, fClass := [], fN := 0, fOwn := (⟨({ fKind := 0, fN := 0 } : GOwner), ({ fKind := 0, fN := 0 } : GOwner), ({ fKind := 0, fN := 0 } : GOwner), ({ fKind := 0, fN := 0 } : GOwner)⟩ : A4 GOwner) } : GType), fAt := 0 } : GVar) } : GSlot_field).fVar).fAt)]) rfl Try_zer_81 (by exact ⟨rfl, rfl, rfl, rfl, rfl, rfl, rfl, rfl, rfl, rfl, rfl, rfl, rfl, rfl, trivial⟩) rfl rfl) ?_
    refine reg_cons (guard_no rfl) (op_store_lp (n := 14) rfl rfl rfl rfl rfl (or_agg Try_agg_81) (by rw [Try_non_81]; rfl) rfl rfl rfl) ?_
    refine reg_cons (guard_no rfl) (op_assign rfl rfl rfl rfl) ?_
    refine reg_nil ?_
    refine post_imp (s' := ⟨57, [(0, some (.pv (.vs 7 (List.map eGClass a0)))), (1, some (.pv (.str a1))), (2, some (.pv (.str a2))), (7, some (.lp 0 0)), (8, some (.pv (.bool y10.2)))], [(0, some (.box 81 [.pv (.str y10.1.fClass), .pv (.str y10.1.fVar.fName), .pv (.int .i64 y10.1.fVar.fType.fKind), .pv (.str y10.1.fVar.fType.fClass), .pv (.int .i64 y10.1.fVar.fType.fN), .pv (.int .i64 y10.1.fVar.fType.fOwn.a0.fKind), .pv (.int .i64 y10.1.fVar.fType.fOwn.a0.fN), .pv (.int .i64 y10.1.fVar.fType.fOwn.a1.fKind), .pv (.int .i64 y10.1.fVar.fType.fOwn.a1.fN), .pv (.int .i64 y10.1.fVar.fType.fOwn.a2.fKind), .pv (.int .i64 y10.1.fVar.fType.fOwn.a2.fN), .pv (.int .i64 y10.1.fVar.fType.fOwn.a3.fKind), .pv (.int .i64 y10.1.fVar.fType.fOwn.a3.fN), .pv (.int .i64 y10.1.fVar.fAt)]))], 1, [], [], 0, []⟩) (imp_sub [0] rfl (by decide) rfl rfl ⟨by kernel_rfl, by kernel_rfl, by kernel_rfl, by kernel_rfl, by kernel_rfl, trivial⟩ ⟨by kernel_rfl, trivial⟩ rfl rfl rfl) ?_
    refine post_next ?_
    refine aw_seq ?_
    refine aw_region ?_
    refine reg_cons (guard_no rfl) (op_move rfl rfl rfl rfl) ?_
    refine reg_cons (guard_no rfl) (op_move rfl rfl rfl rfl) ?_
    refine reg_cons (guard_no rfl) (op_move rfl rfl rfl rfl) ?_
    obtain ⟨y14, h15, hF⟩ := bind_some hF
    refine reg_cons (guard_no rfl) (op_call 1 rfl (caps := []) (args := [.vs 7 (List.map eGClass a0), .str a1, .str a2]) (rs := [.p (.agg (eGSlot_ref16 y14.1)), .p (.bool y14.2)]) rfl rfl rfl Try_cal_56 (ref16_Of_ok h15) rfl rfl rfl) ?_
    refine reg_cons (guard_no rfl) (op_move rfl rfl rfl rfl) ?_
    refine reg_cons (guard_no rfl) (op_extract rfl rfl rfl rfl rfl) ?_
    refine reg_cons (guard_no rfl) (op_extract rfl rfl rfl rfl rfl) ?_
    refine reg_cons (guard_no rfl) (op_alloc 1 rfl (ps := [.str (({ fClass := [], fVar := ({ fName := [], fType := ({ fKind := 0, fClass := [], fN := 0, fOwn := (⟨({ fKind := 0, fN := 0 } : GOwner), ({ fKind := 0, fN := 0 } : GOwner), ({ fKind := 0, fN := 0 } : GOwner), ({ fKind := 0, fN := 0 } : GOwner)⟩ : A4 GOwner) } : GType), fAt := 0 } : GVar) } : GSlot_ref16).fClass), .str ((({ fClass := [], fVar := ({ fName := [], fType := ({ fKind := 0, fClass := [], fN := 0, fOwn := (⟨({ fKind := 0, fN := 0 } : GOwner), ({ fKind := 0, fN := 0 } : GOwner), ({ fKind := 0, fN := 0 } : GOwner), ({ fKind := 0, fN := 0 } : GOwner)⟩ : A4 GOwner) } : GType), fAt := 0 } : GVar) } : GSlot_ref16).fVar).fName), .int .i64 (((({ fClass := [], fVar := ({ fName := [], fType := ({ fKind := 0, fClass := [], fN := 0, fOwn := (⟨({ fKind := 0, fN := 0 } : GOwner), ({ fKind := 0, fN := 0 } : GOwner), ({ fKind := 0, fN := 0 } : GOwner), ({ fKind := 0, fN := 0 } : GOwner)⟩ : A4 GOwner) } : GType), fAt := 0 } : GVar) } : GSlot_ref16).fVar).fType).fKind), .str (((({ fClass := [], fVar := ({ fName := [], fType := ({ fKind := 0, fClass := [], fN := 0, fOwn := (⟨({ fKind := 0, fN := 0 } : GOwner), ({ fKind := 0, fN := 0 } : GOwner), ({ fKind := 0, fN := 0 } : GOwner), ({ fKind := 0, fN := 0 } : GOwner)⟩ : A4 GOwner) } : GType), fAt := 0 } : GVar) } : GSlot_ref16).fVar).fType).fClass), .int .i64 (((({ fClass := [], fVar := ({ fName := [], fType := ({ fKind := 0, fClass := [], fN := 0, fOwn := (⟨({ fKind := 0, fN := 0 } : GOwner), ({ fKind := 0, fN := 0 } : GOwner), ({ fKind := 0, fN := 0 } : GOwner), ({ fKind := 0, fN := 0 } : GOwner)⟩ : A4 GOwner) } : GType), fAt := 0 } : GVar) } : GSlot_ref16).fVar).fType).fN), .int .i64 (((((({ fClass := [], fVar := ({ fName := [], fType := ({ fKind := 0, fClass := [], fN := 0, fOwn := (⟨({ fKind := 0, fN := 0 } : GOwner), ({ fKind := 0, fN := 0 } : GOwner), ({ fKind := 0, fN := 0 } : GOwner), ({ fKind := 0, fN := 0 } : GOwner)⟩ : A4 GOwner) } : GType), fAt := 0 } : GVar) } : GSlot_ref16).fVar).fType).fOwn).a0).fKind), .int .i64 (((((({ fClass := [], fVar := ({ fName := [], fType := ({ fKind := 0, fClass := [], fN := 0, fOwn := (⟨({ fKind := 0, fN := 0 } : GOwner), ({ fKind := 0, fN := 0 } : GOwner), ({ fKind := 0, fN := 0 } : GOwner), ({ fKind := 0, fN := 0 } : GOwner)⟩ : A4 GOwner) } : GType), fAt := 0 } : GVar) } : GSlot_ref16).fVar).fType).fOwn).a0).fN), .int .i64 (((((({ fClass := [], fVar := ({ fName := [], fType := ({ fKind := 0, fClass := [], fN := 0, fOwn := (⟨({ fKind := 0, fN := 0 } : GOwner), ({ fKind := 0, fN := 0 } : GOwner), ({ fKind := 0, fN := 0 } : GOwner), ({ fKind := 0, fN := 0 } : GOwner)⟩ : A4 GOwner) } : GType), fAt := 0 } : GVar) } : GSlot_ref16).fVar).fType).fOwn).a1).fKind), .int .i64 (((((({ fClass := [], fVar := ({ fName := [], fType := ({ fKind := 0, fClass := [], fN := 0, fOwn := (⟨({ fKind := 0, fN := 0 } : GOwner), ({ fKind := 0, fN := 0 } : GOwner), ({ fKind := 0, fN := 0 } : GOwner), ({ fKind := 0, fN := 0 } : GOwner)⟩ : A4 GOwner) } : GType), fAt := 0 } : GVar) } : GSlot_ref16).fVar).fType).fOwn).a1).fN), .int .i64 (((((({ fClass := [], fVar := ({ fName := [], fType := ({ fKind := 0, fClass := [], fN := 0, fOwn := (⟨({ fKind := 0, fN := 0 } : GOwner), ({ fKind := 0, fN := 0 } : GOwner), ({ fKind := 0, fN := 0 } : GOwner), ({ fKind := 0, fN := 0 } : GOwner)⟩ : A4 GOwner) } : GType), fAt := 0 } : GVar) } : GSlot_ref16).fVar).fType).fOwn).a2).fKind), .int .i64 (((((({ fClass := [], fVar := ({ fName := [], fType := ({ fKind := 0, fClass := [], fN := 0, fOwn := (⟨({ fKind := 0, fN := 0 } : GOwner), ({ fKind := 0, fN := 0 } : GOwner), ({ fKind := 0, fN := 0 } : GOwner), ({ fKind := 0, fN := 0 } : GOwner)⟩ : A4 GOwner) } : GType), fAt := 0 } : GVar) } : GSlot_ref16).fVar).fType).fOwn).a2).fN), .int .i64 (((((({ fClass := [], fVar := ({ fName := [], fType := ({ fKind := 0, fClass := [], fN := 0, fOwn := (⟨({ fKind := 0, fN := 0 } : GOwner), ({ fKind := 0, fN := 0 } : GOwner), ({ fKind := 0, fN := 0 } : GOwner), ({ fKind := 0, fN := 0 } : GOwner)⟩ : A4 GOwner) } : GType), fAt := 0 } : GVar) } : GSlot_ref16).fVar).fType).fOwn).a3).fKind), .int .i64 (((((({ fClass := [], fVar := ({ fName := [], fType := ({ fKind := 0, fClass := [], fN := 0, fOwn := (⟨({ fKind := 0, fN := 0 } : GOwner), ({ fKind := 0, fN := 0 } : GOwner), ({ fKind := 0, fN := 0 } : GOwner), ({ fKind := 0, fN := 0 } : GOwner)⟩ : A4 GOwner) } : GType), fAt := 0 } : GVar) } : GSlot_ref16).fVar).fType).fOwn).a3).fN), .int .i64 ((({ fClass := [], fVar := ({ fName := [], fType := ({ fKind := 0, fClass := [], fN := 0, fOwn := (⟨({ fKind := 0, fN := 0 } : GOwner), ({ fKind := 0, fN := 0 } : GOwner), ({ fKind := 0, fN := 0 } : GOwner), ({ fKind := 0, fN := 0 } : GOwner)⟩ : A4 GOwner) } : GType), fAt := 0 } : GVar) } : GSlot_ref16).fVar).fAt)]) rfl Try_zer_82 (by exact ⟨rfl, rfl, rfl, rfl, rfl, rfl, rfl, rfl, rfl, rfl, rfl, rfl, rfl, rfl, trivial⟩) rfl rfl) ?_
    refine reg_cons (guard_no rfl) (op_store_lp (n := 14) rfl rfl rfl rfl rfl (or_agg Try_agg_82) (by rw [Try_non_82]; rfl) rfl rfl rfl) ?_
    refine reg_cons (guard_no rfl) (op_assign rfl rfl rfl rfl) ?_
    refine reg_nil ?_
    refine post_imp (s' := ⟨57, [(0, some (.pv (.vs 7 (List.map eGClass a0)))), (1, some (.pv (.str a1))), (2, some (.pv (.str a2))), (7, some (.lp 0 0)), (8, some (.pv (.bool y10.2))), (9, some (.lp 1 0)), (10, some (.pv (.bool y14.2)))], [(0, some (.box 81 [.pv (.str y10.1.fClass), .pv (.str y10.1.fVar.fName), .pv (.int .i64 y10.1.fVar.fType.fKind), .pv (.str y10.1.fVar.fType.fClass), .pv (.int .i64 y10.1.fVar.fType.fN), .pv (.int .i64 y10.1.fVar.fType.fOwn.a0.fKind), .pv (.int .i64 y10.1.fVar.fType.fOwn.a0.fN), .pv (.int .i64 y10.1.fVar.fType.fOwn.a1.fKind), .pv (.int .i64 y10.1.fVar.fType.fOwn.a1.fN), .pv (.int .i64 y10.1.fVar.fType.fOwn.a2.fKind), .pv (.int .i64 y10.1.fVar.fType.fOwn.a2.fN), .pv (.int .i64 y10.1.fVar.fType.fOwn.a3.fKind), .pv (.int .i64 y10.1.fVar.fType.fOwn.a3.fN), .pv (.int .i64 y10.1.fVar.fAt)])), (1, some (.box 82 [.pv (.str y14.1.fClass), .pv (.str y14.1.fVar.fName), .pv (.int .i64 y14.1.fVar.fType.fKind), .pv (.str y14.1.fVar.fType.fClass), .pv (.int .i64 y14.1.fVar.fType.fN), .pv (.int .i64 y14.1.fVar.fType.fOwn.a0.fKind), .pv (.int .i64 y14.1.fVar.fType.fOwn.a0.fN), .pv (.int .i64 y14.1.fVar.fType.fOwn.a1.fKind), .pv (.int .i64 y14.1.fVar.fType.fOwn.a1.fN), .pv (.int .i64 y14.1.fVar.fType.fOwn.a2.fKind), .pv (.int .i64 y14.1.fVar.fType.fOwn.a2.fN), .pv (.int .i64 y14.1.fVar.fType.fOwn.a3.fKind), .pv (.int .i64 y14.1.fVar.fType.fOwn.a3.fN), .pv (.int .i64 y14.1.fVar.fAt)]))], 2, [], [], 0, []⟩) (imp_sub [0, 1] rfl (by decide) rfl rfl ⟨by kernel_rfl, by kernel_rfl, by kernel_rfl, by kernel_rfl, by kernel_rfl, by kernel_rfl, by kernel_rfl, trivial⟩ ⟨by kernel_rfl, by kernel_rfl, trivial⟩ rfl rfl rfl) ?_
    refine post_next ?_
    refine aw_seq ?_
    refine aw_region ?_
    refine reg_cons (guard_no rfl) (op_move rfl rfl rfl rfl) ?_
    refine reg_cons (guard_no rfl) (op_move rfl rfl rfl rfl) ?_
    refine reg_cons (guard_no rfl) (op_move rfl rfl rfl rfl) ?_
    obtain ⟨y16, h17, hF⟩ := bind_some hF
    refine reg_cons (guard_no rfl) (op_call 2 rfl (caps := []) (args := [.vs 7 (List.map eGClass a0), .str a1, .str a2]) (rs := [.p (.int .i64 y16)]) rfl rfl rfl Try_cal_54 (field_Find_ok h17) rfl rfl rfl) ?_
    refine reg_cons (guard_no rfl) (op_move rfl rfl rfl rfl) ?_
    refine reg_cons (guard_no rfl) (op_move rfl rfl rfl rfl) ?_
    refine reg_cons (guard_no rfl) (op_move rfl rfl rfl rfl) ?_
    obtain ⟨y18, h19, hF⟩ := bind_some hF
    refine reg_cons (guard_no rfl) (op_call 2 rfl (caps := []) (args := [.vs 7 (List.map eGClass a0), .str a1, .str a2]) (rs := [.p (.int .i64 y18)]) rfl rfl rfl Try_cal_57 (ref16_Find_ok h19) rfl rfl rfl) ?_
    refine reg_cons (guard_no rfl) (op_int (k := .i64) (m := y16) (n := y18) rfl rfl rfl rfl rfl rfl) ?_
    refine reg_cons (guard_no rfl) (op_move rfl rfl rfl rfl) ?_
    rcases ite_some hF with ⟨hb20, hF⟩ | ⟨hb20, hF⟩
    · refine reg_cons (guard_on rfl rfl rfl rfl hb20) (op_load_lp_agg (ps := eGSlot_field y10.1) rfl rfl rfl rfl rfl rfl Try_agg_81 rfl rfl) ?_
      refine reg_cons (guard_on rfl rfl rfl rfl hb20) (op_load_lp_agg (ps := eGSlot_ref16 y14.1) rfl rfl rfl rfl rfl rfl Try_agg_82 rfl rfl) ?_
      refine reg_cons (guard_on rfl rfl rfl rfl hb20) (op_eqAgg_eql (r := bGSlot_field y10.1 ({ fClass := y14.1.fClass, fVar := y14.1.fVar } : GSlot_field)) rfl rfl rfl Try_eqt_81 rfl rfl rfl rfl rfl) ?_
      refine reg_cons (guard_no rfl) (op_pick_t rfl rfl hb20 rfl rfl rfl) ?_
      refine reg_cons (guard_no rfl) (op_move rfl rfl rfl rfl) ?_
      rcases ite_some hF with ⟨hb21, hF⟩ | ⟨hb21, hF⟩
      · refine reg_cons (guard_on rfl rfl rfl rfl hb21) (op_move rfl rfl rfl rfl) ?_
        refine reg_cons (guard_on rfl rfl rfl rfl hb21) (op_move rfl rfl rfl rfl) ?_
        refine reg_cons (guard_on rfl rfl rfl rfl hb21) (op_eqBool_eql rfl rfl rfl Try_und_4 rfl rfl) ?_
        refine reg_cons (guard_no rfl) (op_pick_t rfl rfl hb21 rfl rfl rfl) ?_
        refine reg_cons (guard_no rfl) (op_move rfl rfl rfl rfl) ?_
        rcases ite_some hF with ⟨hb22, hF⟩ | ⟨hb22, hF⟩
        · refine reg_cons (guard_on rfl rfl rfl rfl hb22) (op_move rfl rfl rfl rfl) ?_
          obtain ⟨y23, h24, hF⟩ := bind_some hF
          refine reg_cons (guard_on rfl rfl rfl rfl hb22) (op_call 2 rfl (caps := []) (args := [.vs 7 (List.map eGClass a0)]) (rs := [.p (.agg (eGFault y23))]) rfl rfl rfl Try_cal_53 (field_Check_ok h24) rfl rfl rfl) ?_
          refine reg_cons (guard_on rfl rfl rfl rfl hb22) (op_move rfl rfl rfl rfl) ?_
          obtain ⟨y25, h26, hF⟩ := bind_some hF
          refine reg_cons (guard_on rfl rfl rfl rfl hb22) (op_call 2 rfl (caps := []) (args := [.vs 7 (List.map eGClass a0)]) (rs := [.p (.agg (eGFault y25))]) rfl rfl rfl Try_cal_58 (ref16_Check_ok h26) rfl rfl rfl) ?_
          refine reg_cons (guard_on rfl rfl rfl rfl hb22) (op_eqAgg_eql (r := bGFault y23 y25) rfl rfl rfl Try_eqt_64 rfl rfl rfl rfl rfl) ?_
          refine reg_cons (guard_no rfl) (op_pick_t rfl rfl hb22 rfl rfl rfl) ?_
          refine reg_cons (guard_no rfl) (op_move rfl rfl rfl rfl) ?_
          rcases ite_some hF with ⟨hb27, hF⟩ | ⟨hb27, hF⟩
          · obtain ⟨y28, h29, hF⟩ := bind_some hF
            refine reg_cons (guard_on rfl rfl rfl rfl hb27) (op_call 2 rfl (caps := []) (args := []) (rs := [.p (.bool y28)]) rfl rfl rfl Try_cal_49 (law16_awake_ok h29) rfl rfl rfl) ?_
            refine reg_cons (guard_no rfl) (op_pick_t rfl rfl hb27 rfl rfl rfl) ?_
            refine reg_cons (guard_no rfl) (op_assign rfl rfl rfl rfl) ?_
            refine reg_nil ?_
            refine post_imp (s' := ⟨57, [(6, some (.pv (.bool y28)))], [], 0, [], [], 0, []⟩) (imp_sub [] rfl (by decide) rfl rfl ⟨by kernel_rfl, trivial⟩ trivial rfl rfl rfl) ?_
            refine post_next ?_
            refine aw_ret ?_
            obtain rfl := Option.some.inj hF
            exact post_ret rfl rfl (.cons _ _ _ _ _ (.tmp _ _ rfl) (.p _) .nil) (.inl rfl)
          · refine reg_off (guard_off rfl rfl rfl rfl hb27) rfl rfl ?_
            refine reg_cons (guard_no rfl) (op_pick_f rfl rfl hb27 rfl rfl rfl) ?_
            refine reg_cons (guard_no rfl) (op_assign rfl rfl rfl rfl) ?_
            refine reg_nil ?_
            refine post_imp (s' := ⟨57, [(6, some (.pv (.bool false)))], [], 0, [], [], 0, []⟩) (imp_sub [] rfl (by decide) rfl rfl ⟨by kernel_rfl, trivial⟩ trivial rfl rfl rfl) ?_
            refine post_next ?_
            refine aw_ret ?_
            obtain rfl := Option.some.inj hF
            exact post_ret rfl rfl (.cons _ _ _ _ _ (.tmp _ _ rfl) (.p _) .nil) (.inl rfl)
        · refine reg_off (guard_off rfl rfl rfl rfl hb22) rfl rfl ?_
          refine reg_off (guard_off rfl rfl rfl rfl hb22) rfl rfl ?_
          refine reg_off (guard_off rfl rfl rfl rfl hb22) rfl rfl ?_
          refine reg_off (guard_off rfl rfl rfl rfl hb22) rfl rfl ?_
          refine reg_off (guard_off rfl rfl rfl rfl hb22) rfl rfl ?_
          refine reg_cons (guard_no rfl) (op_pick_f rfl rfl hb22 rfl rfl rfl) ?_
          refine reg_cons (guard_no rfl) (op_move rfl rfl rfl rfl) ?_
          refine reg_off (guard_off rfl rfl rfl rfl rfl) rfl rfl ?_
          refine reg_cons (guard_no rfl) (op_pick_f rfl rfl rfl rfl rfl rfl) ?_
          refine reg_cons (guard_no rfl) (op_assign rfl rfl rfl rfl) ?_
          refine reg_nil ?_
          refine post_imp (s' := ⟨57, [(6, some (.pv (.bool false)))], [], 0, [], [], 0, []⟩) (imp_sub [] rfl (by decide) rfl rfl ⟨by kernel_rfl, trivial⟩ trivial rfl rfl rfl) ?_
          refine post_next ?_
          refine aw_ret ?_
          obtain rfl := Option.some.inj hF
          exact post_ret rfl rfl (.cons _ _ _ _ _ (.tmp _ _ rfl) (.p _) .nil) (.inl rfl)
      · refine reg_off (guard_off rfl rfl rfl rfl hb21) rfl rfl ?_
        refine reg_off (guard_off rfl rfl rfl rfl hb21) rfl rfl ?_
        refine reg_off (guard_off rfl rfl rfl rfl hb21) rfl rfl ?_
        refine reg_cons (guard_no rfl) (op_pick_f rfl rfl hb21 rfl rfl rfl) ?_
        refine reg_cons (guard_no rfl) (op_move rfl rfl rfl rfl) ?_
        refine reg_off (guard_off rfl rfl rfl rfl rfl) rfl rfl ?_
        refine reg_off (guard_off rfl rfl rfl rfl rfl) rfl rfl ?_
        refine reg_off (guard_off rfl rfl rfl rfl rfl) rfl rfl ?_
        refine reg_off (guard_off rfl rfl rfl rfl rfl) rfl rfl ?_
        refine reg_off (guard_off rfl rfl rfl rfl rfl) rfl rfl ?_
        refine reg_cons (guard_no rfl) (op_pick_f rfl rfl rfl rfl rfl rfl) ?_
        refine reg_cons (guard_no rfl) (op_move rfl rfl rfl rfl) ?_
        refine reg_off (guard_off rfl rfl rfl rfl rfl) rfl rfl ?_
        refine reg_cons (guard_no rfl) (op_pick_f rfl rfl rfl rfl rfl rfl) ?_
        refine reg_cons (guard_no rfl) (op_assign rfl rfl rfl rfl) ?_
        refine reg_nil ?_
        refine post_imp (s' := ⟨57, [(6, some (.pv (.bool false)))], [], 0, [], [], 0, []⟩) (imp_sub [] rfl (by decide) rfl rfl ⟨by kernel_rfl, trivial⟩ trivial rfl rfl rfl) ?_
        refine post_next ?_
        refine aw_ret ?_
        obtain rfl := Option.some.inj hF
        exact post_ret rfl rfl (.cons _ _ _ _ _ (.tmp _ _ rfl) (.p _) .nil) (.inl rfl)
    · refine reg_off (guard_off rfl rfl rfl rfl hb20) rfl rfl ?_
      refine reg_off (guard_off rfl rfl rfl rfl hb20) rfl rfl ?_
      refine reg_off (guard_off rfl rfl rfl rfl hb20) rfl rfl ?_
      refine reg_cons (guard_no rfl) (op_pick_f rfl rfl hb20 rfl rfl rfl) ?_
      refine reg_cons (guard_no rfl) (op_move rfl rfl rfl rfl) ?_
      refine reg_off (guard_off rfl rfl rfl rfl rfl) rfl rfl ?_
      refine reg_off (guard_off rfl rfl rfl rfl rfl) rfl rfl ?_
      refine reg_off (guard_off rfl rfl rfl rfl rfl) rfl rfl ?_
      refine reg_cons (guard_no rfl) (op_pick_f rfl rfl rfl rfl rfl rfl) ?_
      refine reg_cons (guard_no rfl) (op_move rfl rfl rfl rfl) ?_
      refine reg_off (guard_off rfl rfl rfl rfl rfl) rfl rfl ?_
      refine reg_off (guard_off rfl rfl rfl rfl rfl) rfl rfl ?_
      refine reg_off (guard_off rfl rfl rfl rfl rfl) rfl rfl ?_
      refine reg_off (guard_off rfl rfl rfl rfl rfl) rfl rfl ?_
      refine reg_off (guard_off rfl rfl rfl rfl rfl) rfl rfl ?_
      refine reg_cons (guard_no rfl) (op_pick_f rfl rfl rfl rfl rfl rfl) ?_
      refine reg_cons (guard_no rfl) (op_move rfl rfl rfl rfl) ?_
      refine reg_off (guard_off rfl rfl rfl rfl rfl) rfl rfl ?_
      refine reg_cons (guard_no rfl) (op_pick_f rfl rfl rfl rfl rfl rfl) ?_
      refine reg_cons (guard_no rfl) (op_assign rfl rfl rfl rfl) ?_
      refine reg_nil ?_
      refine post_imp (s' := ⟨57, [(6, some (.pv (.bool false)))], [], 0, [], [], 0, []⟩) (imp_sub [] rfl (by decide) rfl rfl ⟨by kernel_rfl, trivial⟩ trivial rfl rfl rfl) ?_
      refine post_next ?_
      refine aw_ret ?_
      obtain rfl := Option.some.inj hF
      exact post_ret rfl rfl (.cons _ _ _ _ _ (.tmp _ _ rfl) (.p _) .nil) (.inl rfl)
end Go.Proofs.Ytpbbeljmmabeeaa
