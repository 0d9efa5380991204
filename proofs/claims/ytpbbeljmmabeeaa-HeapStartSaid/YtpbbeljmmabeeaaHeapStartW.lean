/- A part of the proof that the law HeapStart gives true for every input. -/
import Derived.Test.YtpbbeljmmabeeaaHeapStartT
import Derived.Test.YtpbbeljmmabeeaaHeapStartX
import Derived.Test.YtpbbeljmmabeeaaHeapStartI
import Derived.Test.YtpbbeljmmabeeaaHeapStartW0
/- Each Go function computes its plain function. -/
namespace Go.Proofs.Ytpbbeljmmabeeaa
open Go.RowKit Go.Abs
set_option maxRecDepth 100000
theorem field_All_ok {a0 : List GClass} {a1 : List UInt8} {r : (List GSlot_field)} (hF : field_All a0 a1 = some r) : Abs.Fn Try.prog 50 [.vs 7 (List.map eGClass a0), .str a1] [.own 81 14 (List.map eGSlot_field r)] := by
  unfold field_All at hF
  refine fn_of_body (n := 38) Try.func50 rfl rfl rfl ?_
  intro w O
  refine aw_seq ?_
  refine aw_region ?_
  refine reg_cons (guard_no rfl) (op_box 0 rfl rfl rfl rfl rfl rfl) ?_
  refine reg_cons (guard_no rfl) (op_assign rfl rfl rfl rfl) ?_
  refine reg_nil ?_
  refine post_imp (s' := ⟨38, [(1, some (.pv (.str a1))), (2, some (.lp 0 0))], [(0, some (.box 45 [.pv (.vs 7 (List.map eGClass a0))]))], 1, [], [], 0, []⟩) (imp_sub [0] rfl (by decide) rfl rfl ⟨by kernel_rfl, by kernel_rfl, trivial⟩ ⟨by kernel_rfl, trivial⟩ rfl rfl rfl) ?_
  refine post_next ?_
  refine aw_seq ?_
  refine aw_region ?_
  refine reg_cons (guard_no rfl) (op_alloc 1 rfl (ps := [.nils]) rfl Try_zer_71 (by exact ⟨rfl, trivial⟩) rfl rfl) ?_
  refine reg_imp (imp_nil_box 1 0 71 81 14 2 rfl rfl rfl) ?_
  refine reg_nil ?_
  refine post_imp (s' := ⟨38, [(1, some (.pv (.str a1))), (2, some (.lp 0 0)), (5, some (.lp 1 0))], [(0, some (.box 45 [.pv (.vs 7 (List.map eGClass a0))])), (1, some (.box 71 [.ls 2])), (2, some (.row 81 14 (List.map eGSlot_field [])))], 3, [], [], 0, []⟩) (imp_sub [0, 1, 2] rfl (by decide) rfl rfl ⟨by kernel_rfl, by kernel_rfl, by kernel_rfl, trivial⟩ ⟨by kernel_rfl, by kernel_rfl, by kernel_rfl, trivial⟩ rfl rfl rfl) ?_
  refine post_next ?_
  refine aw_seq ?_
  refine aw_seq ?_
  refine aw_region ?_
  refine reg_cons (guard_no rfl) (op_load_lp (v := .pv (.vs 7 (List.map eGClass a0))) rfl rfl rfl rfl Try_one_45 rfl rfl) ?_
  refine reg_cons (guard_no rfl) (op_move rfl rfl rfl rfl) ?_
  obtain ⟨y5, h6, hF⟩ := bind_some hF
  refine reg_cons (guard_no rfl) (op_call 3 rfl (caps := []) (args := [.vs 7 (List.map eGClass a0), .str a1]) (rs := [.p (.vs 1 (List.map eI y5))]) rfl rfl rfl Try_cal_40 (Fn.frozen (above_Chain_ok h6)) rfl rfl rfl) ?_
  obtain ⟨y7, h8, hF⟩ := bind_some hF
  refine reg_cons (guard_no rfl) (op_call 3 rfl (caps := []) (args := [.vs 1 (List.map eI y5)]) (rs := [.p (.fn 85 [.vp ((eL 1 eI) y7)])]) rfl rfl rfl Try_cal_72 (slices_Backward_int_ok h8) rfl rfl rfl) ?_
  refine reg_nil ?_
  refine post_imp (s' := ⟨38, [(2, some (.lp 0 0)), (5, some (.lp 1 0)), (13, some (.pv (.fn 85 [.vp ((eL 1 eI) y7)])))], [(0, some (.box 45 [.pv (.vs 7 (List.map eGClass a0))])), (1, some (.box 71 [.ls 2])), (2, some (.row 81 14 (List.map eGSlot_field [])))], 3, [], [], 0, []⟩) (imp_sub [0, 1, 2] rfl (by decide) rfl rfl ⟨by kernel_rfl, by kernel_rfl, by kernel_rfl, trivial⟩ ⟨by kernel_rfl, by kernel_rfl, by kernel_rfl, trivial⟩ rfl rfl rfl) ?_
  refine post_next ?_
  refine aw_block ?_
  refine aw_imp (s' := ⟨38, [(2, some (.lp 0 0)), (5, some (.lp 1 0)), (13, some (.pv (.fn 85 [.vp ((eL 1 eI) y7)])))], [(0, some (.box 45 [.pv (.vs 7 (List.map eGClass a0))])), (1, some (.box 71 [.ls 2])), (2, some (.row 81 14 (List.map eGSlot_field [])))], 3, [], [], 0, []⟩) (imp_sub [0, 1, 2] rfl (by decide) rfl rfl ⟨by kernel_rfl, by kernel_rfl, by kernel_rfl, trivial⟩ ⟨by kernel_rfl, by kernel_rfl, by kernel_rfl, trivial⟩ rfl rfl rfl) ?_
  obtain ⟨rows171, hR172, hF⟩ := bind_some hF
  obtain ⟨lr173, hL174, hF⟩ := bind_some hF
  refine aw_rangeFunc (X := (Int × Int)) (Q := (List GSlot_field)) (E := Unit) (pre := [.vp ((eL 1 eI) y7)]) (bx := none) (post := []) (kt := [2, 5]) (psl := [14, 15]) none [(7, 1)] (fun z : Int × Int => ([.int .i64 z.1, .int .i64 z.2] : List PV)) rows171 (field_All_B1 a0) [] lr173 hL174 (fun q => ⟨38, [(2, some (.lp 0 0)), (5, some (.lp 1 0))], [(0, some (.box 45 [.pv (.vs 7 (List.map eGClass a0))])), (1, some (.box 71 [.ls 2])), (2, some (.row 81 14 (List.map eGSlot_field q)))], 3, [], [], 0, []⟩) (fun _ => (.ret, ⟨38, [], [], 0, [], [], 0, []⟩)) ⟨rfl, rfl⟩ Try_cal_85 (fun sp => slices_Backward_int_1_it (itR_back_ok hR172 sp)) (fun _ => rfl) rfl rfl (asg_region ⟨⟨rfl, rfl, _, rfl, rfl, rfl⟩, trivial⟩) (by decide) rfl rfl (fun q => ⟨rfl, rfl, rfl, rfl⟩) (fun z => ⟨rfl, rfl, rfl, rfl⟩) (fun z => rfl) rfl rfl ⟨rfl, rfl, trivial⟩ ⟨⟨rfl, rfl, rfl⟩, ⟨rfl, rfl, rfl⟩, ⟨rfl, rfl, rfl⟩, trivial⟩ ?_ ?_ ?_
  · rintro l175 c176 ⟨x117, x118⟩ x62 r178 hc177 hF
    refine aw_block ?_
    refine aw_seq ?_
    refine aw_region ?_
    refine reg_cons (guard_no rfl) (op_load_lp (v := .pv (.vs 7 (List.map eGClass a0))) rfl rfl rfl rfl Try_one_45 rfl rfl) ?_
    refine reg_cons (guard_no rfl) (op_move rfl rfl rfl rfl) ?_
    obtain ⟨y121, h122, hF⟩ := bind_some hF
    refine reg_cons (guard_no rfl) (op_index_vs (k := .i64) rfl rfl rfl (idx_map eGClass h122) Try_slc_45 rfl rfl) ?_
    refine reg_cons (guard_no rfl) (op_field_vp rfl rfl Try_fld_94_4 rfl rfl) ?_
    refine reg_cons (guard_no rfl) (op_load_vp (p := .vs 13 (List.map eGVar y121.fFields)) rfl rfl rfl Try_one_91 rfl rfl) ?_
    refine reg_cons (guard_no rfl) (op_len_vs (n := y121.fFields.length) rfl rfl (List.length_map ..) Try_slc_91 rfl rfl) ?_
    refine reg_cons (guard_no rfl) (op_move rfl rfl rfl rfl) ?_
    refine reg_nil ?_
    refine post_imp (s' := ⟨38, [(2, some (.lp 0 0)), (5, some (.lp 1 0)), (7, some (.pv (.int .i64 x118))), (20, some (.pv (.vs 13 (List.map eGVar y121.fFields)))), (21, some (.pv (.int .i64 (y121.fFields.length : Int)))), (22, some (.pv (.int .i64 0)))], [(0, some (.box 45 [.pv (.vs 7 (List.map eGClass a0))])), (1, some (.box 71 [.ls 2])), (2, some (.row 81 14 (List.map eGSlot_field x62)))], 3, [], [], 0, [2, 5]⟩) (imp_sub [0, 1, 2] rfl (by decide) rfl rfl ⟨by kernel_rfl, by kernel_rfl, by kernel_rfl, by kernel_rfl, by kernel_rfl, by kernel_rfl, trivial⟩ ⟨by kernel_rfl, by kernel_rfl, by kernel_rfl, trivial⟩ rfl rfl rfl) ?_
    refine post_next ?_
    obtain ⟨x168, hF, hK169⟩ := bind_some hF
    refine aw_for ((((y121.fFields.length : Int) : Int) - (0)).toNat + 1) (fun s1 => s1 = ⟨38, [(2, some (.lp 0 0)), (5, some (.lp 1 0))], [(0, some (.box 45 [.pv (.vs 7 (List.map eGClass a0))])), (1, some (.box 71 [.ls 2])), (2, some (.row 81 14 (List.map eGSlot_field x168)))], 3, [], [], 0, [2, 5]⟩) ?_ ?_
    · refine rnd_loop (α := (List GSlot_field) × Int) (fun q => ⟨38, [(2, some (.lp 0 0)), (5, some (.lp 1 0)), (7, some (.pv (.int .i64 x118))), (20, some (.pv (.vs 13 (List.map eGVar y121.fFields)))), (21, some (.pv (.int .i64 (y121.fFields.length : Int)))), (22, some (.pv (.int .i64 q.2)))], [(0, some (.box 45 [.pv (.vs 7 (List.map eGClass a0))])), (1, some (.box 71 [.ls 2])), (2, some (.row 81 14 (List.map eGSlot_field q.1)))], 3, [], [], 0, [2, 5]⟩) (fun k q => field_All_L2 a0 x118 y121 k q.1 q.2 = some x168) (x62, 0) (imp_sub [0, 1, 2] rfl (by decide) rfl rfl ⟨by kernel_rfl, by kernel_rfl, by kernel_rfl, by kernel_rfl, by kernel_rfl, by kernel_rfl, trivial⟩ ⟨by kernel_rfl, by kernel_rfl, by kernel_rfl, trivial⟩ rfl rfl rfl) hF (fun q h => by cases h) ?_
      clear hF
      rintro k ⟨x136, x137⟩ hF ih
      refine rnd_succ ?_
      refine aw_seq ?_
      refine aw_region ?_
      refine reg_cons (guard_no rfl) (op_int (k := .i64) (m := x137) (n := (y121.fFields.length : Int)) rfl rfl rfl rfl rfl rfl) ?_
      refine reg_nil ?_
      refine post_imp (s' := ⟨38, [(2, some (.lp 0 0)), (5, some (.lp 1 0)), (7, some (.pv (.int .i64 x118))), (20, some (.pv (.vs 13 (List.map eGVar y121.fFields)))), (21, some (.pv (.int .i64 (y121.fFields.length : Int)))), (22, some (.pv (.int .i64 x137))), (23, some (.pv (.bool (decide (x137 < (y121.fFields.length : Int))))))], [(0, some (.box 45 [.pv (.vs 7 (List.map eGClass a0))])), (1, some (.box 71 [.ls 2])), (2, some (.row 81 14 (List.map eGSlot_field x136)))], 3, [], [], 0, [2, 5]⟩) (imp_sub [0, 1, 2] rfl (by decide) rfl rfl ⟨by kernel_rfl, by kernel_rfl, by kernel_rfl, by kernel_rfl, by kernel_rfl, by kernel_rfl, by kernel_rfl, trivial⟩ ⟨by kernel_rfl, by kernel_rfl, by kernel_rfl, trivial⟩ rfl rfl rfl) ?_
      refine post_next ?_
      refine aw_seq ?_
      rcases ite_some hF with ⟨hb153, hF⟩ | ⟨hb153, hF⟩
      · refine aw_cond_t rfl hb153 ?_
        refine aw_skip ?_
        refine post_next ?_
        refine aw_seq ?_
        refine aw_block ?_
        refine aw_seq ?_
        refine aw_region ?_
        obtain ⟨y156, h157, hF⟩ := bind_some hF
        refine reg_cons (guard_no rfl) (op_index_vs (k := .i64) rfl rfl rfl (idx_map eGVar h157) Try_slc_91 rfl rfl) ?_
        refine reg_cons (guard_no rfl) (op_load_vp_agg (ps := eGVar y156) rfl rfl rfl rfl Try_agg_79 rfl rfl) ?_
        refine reg_cons (guard_no rfl) (op_alloc 3 rfl (ps := [.str (({ fName := [], fType := ({ fKind := 0, fClass := [], fN := 0, fOwn := (⟨({ fKind := 0, fN := 0 } : GOwner), ({ fKind := 0, fN := 0 } : GOwner), ({ fKind := 0, fN := 0 } : GOwner), ({ fKind := 0, fN := 0 } : GOwner)⟩ : A4 GOwner) } : GType), fAt := 0 } : GVar).fName), .int .i64 ((({ fName := [], fType := ({ fKind := 0, fClass := [], fN := 0, fOwn := (⟨({ fKind := 0, fN := 0 } : GOwner), ({ fKind := 0, fN := 0 } : GOwner), ({ fKind := 0, fN := 0 } : GOwner), ({ fKind := 0, fN := 0 } : GOwner)⟩ : A4 GOwner) } : GType), fAt := 0 } : GVar).fType).fKind), .str ((({ fName := [], fType := ({ fKind := 0, fClass := [], fN := 0, fOwn := (⟨({ fKind := 0, fN := 0 } : GOwner), ({ fKind := 0, fN := 0 } : GOwner), ({ fKind := 0, fN := 0 } : GOwner), ({ fKind := 0, fN := 0 } : GOwner)⟩ : A4 GOwner) } : GType), fAt := 0 } : GVar).fType).fClass), .int .i64 ((({ fName := [], fType := ({ fKind := 0, fClass := [], fN := 0, fOwn := (⟨({ fKind := 0, fN := 0 } : GOwner), ({ fKind := 0, fN := 0 } : GOwner), ({ fKind := 0, fN := 0 } : GOwner), ({ fKind := 0, fN := 0 } : GOwner)⟩ : A4 GOwner) } : GType), fAt := 0 } : GVar).fType).fN), .int .i64 ((((({ fName := [], fType := ({ fKind := 0, fClass := [], fN := 0, fOwn := (⟨({ fKind := 0, fN := 0 } : GOwner), ({ fKind := 0, fN := 0 } : GOwner), ({ fKind := 0, fN := 0 } : GOwner), ({ fKind := 0, fN := 0 } : GOwner)⟩ : A4 GOwner) } : GType), fAt := 0 } : GVar).fType).fOwn).a0).fKind), .int .i64 ((((({ fName := [], fType := ({ fKind := 0, fClass := [], fN := 0, fOwn := (⟨({ fKind := 0, fN := 0 } : GOwner), ({ fKind := 0, fN := 0 } : GOwner), ({ fKind := 0, fN := 0 } : GOwner), ({ fKind := 0, fN := 0 } : GOwner)⟩ : A4 GOwner) } : GType), fAt := 0 } : GVar).fType).fOwn).a0).fN), .int .i64 ((((({ fName := [], fType := ({ fKind := 0, fClass := [], fN := 0, fOwn := (⟨({ fKind := 0, fN := 0 } : GOwner), ({ fKind := 0, fN := 0 } : GOwner), ({ fKind := 0, fN := 0 } : GOwner), ({ fKind := 0, fN := 0 } : GOwner)⟩ : A4 GOwner) } : GType), fAt := 0 } : GVar).fType).fOwn).a1).fKind), .int .i64 ((((({ fName := [], fType := ({ fKind := 0, fClass := [], fN := 0, fOwn := (⟨({ fKind := 0, fN := 0 } : GOwner), ({ fKind := 0, fN := 0 } : GOwner), ({ fKind := 0, fN := 0 } : GOwner), ({ fKind := 0, fN := 0 } : GOwner)⟩ : A4 GOwner) } : GType), fAt := 0 } : GVar).fType).fOwn).a1).fN), .int .i64 ((((({ fName := [], fType := ({ fKind := 0, fClass := [], fN := 0, fOwn := (⟨({ fKind := 0, fN := 0 } : GOwner), ({ fKind := 0, fN := 0 } : GOwner), ({ fKind := 0, fN := 0 } : GOwner), ({ fKind := 0, fN := 0 } : GOwner)⟩ : A4 GOwner) } : GType), fAt := 0 } : GVar).fType).fOwn).a2).fKind), .int .i64 ((((({ fName := [], fType := ({ fKind := 0, fClass := [], fN := 0, fOwn := (⟨({ fKind := 0, fN := 0 } : GOwner), ({ fKind := 0, fN := 0 } : GOwner), ({ fKind := 0, fN := 0 } : GOwner), ({ fKind := 0, fN := 0 } : GOwner)⟩ : A4 GOwner) } : GType), fAt := 0 } : GVar).fType).fOwn).a2).fN), .int .i64 ((((({ fName := [], fType := ({ fKind := 0, fClass := [], fN := 0, fOwn := (⟨({ fKind := 0, fN := 0 } : GOwner), ({ fKind := 0, fN := 0 } : GOwner), ({ fKind := 0, fN := 0 } : GOwner), ({ fKind := 0, fN := 0 } : GOwner)⟩ : A4 GOwner) } : GType), fAt := 0 } : GVar).fType).fOwn).a3).fKind), .int .i64 ((((({ fName := [], fType := ({ fKind := 0, fClass := [], fN := 0, fOwn := (⟨({ fKind := 0, fN := 0 } : GOwner), ({ fKind := 0, fN := 0 } : GOwner), ({ fKind := 0, fN := 0 } : GOwner), ({ fKind := 0, fN := 0 } : GOwner)⟩ : A4 GOwner) } : GType), fAt := 0 } : GVar).fType).fOwn).a3).fN), .int .i64 (({ fName := [], fType := ({ fKind := 0, fClass := [], fN := 0, fOwn := (⟨({ fKind := 0, fN := 0 } : GOwner), ({ fKind := 0, fN := 0 } : GOwner), ({ fKind := 0, fN := 0 } : GOwner), ({ fKind := 0, fN := 0 } : GOwner)⟩ : A4 GOwner) } : GType), fAt := 0 } : GVar).fAt)]) rfl Try_zer_79 (by exact ⟨rfl, rfl, rfl, rfl, rfl, rfl, rfl, rfl, rfl, rfl, rfl, rfl, rfl, trivial⟩) rfl rfl) ?_
        refine reg_cons (guard_no rfl) (op_store_lp (n := 13) rfl rfl rfl rfl rfl (or_agg Try_agg_79) (by rw [Try_non_79]; rfl) rfl rfl rfl) ?_
        refine reg_nil ?_
        refine post_imp (s' := ⟨38, [(2, some (.lp 0 0)), (5, some (.lp 1 0)), (7, some (.pv (.int .i64 x118))), (9, some (.lp 3 0)), (20, some (.pv (.vs 13 (List.map eGVar y121.fFields)))), (21, some (.pv (.int .i64 (y121.fFields.length : Int)))), (22, some (.pv (.int .i64 x137)))], [(0, some (.box 45 [.pv (.vs 7 (List.map eGClass a0))])), (1, some (.box 71 [.ls 2])), (2, some (.row 81 14 (List.map eGSlot_field x136))), (3, some (.box 79 [.pv (.str y156.fName), .pv (.int .i64 y156.fType.fKind), .pv (.str y156.fType.fClass), .pv (.int .i64 y156.fType.fN), .pv (.int .i64 y156.fType.fOwn.a0.fKind), .pv (.int .i64 y156.fType.fOwn.a0.fN), .pv (.int .i64 y156.fType.fOwn.a1.fKind), .pv (.int .i64 y156.fType.fOwn.a1.fN), .pv (.int .i64 y156.fType.fOwn.a2.fKind), .pv (.int .i64 y156.fType.fOwn.a2.fN), .pv (.int .i64 y156.fType.fOwn.a3.fKind), .pv (.int .i64 y156.fType.fOwn.a3.fN), .pv (.int .i64 y156.fAt)]))], 4, [], [], 0, [2, 5]⟩) (imp_sub [0, 1, 2, 3] rfl (by decide) rfl rfl ⟨by kernel_rfl, by kernel_rfl, by kernel_rfl, by kernel_rfl, by kernel_rfl, by kernel_rfl, by kernel_rfl, trivial⟩ ⟨by kernel_rfl, by kernel_rfl, by kernel_rfl, by kernel_rfl, trivial⟩ rfl rfl rfl) ?_
        refine post_next ?_
        obtain ⟨y162, h163, hF⟩ := bind_some hF
        obtain ⟨u164, h165, hF⟩ := bind_some hF
        refine aw_imp (imp_names 1) ?_
        refine aw_drawn ({ need := [(5, .lp 1 0)], hneed := [(1, .box 71 [.ls 2])], dst := some 26, val := some (.ls 2) } :: { need := [(2, .lp 0 0)], hneed := [(0, .box 45 [.pv (.vs 7 (List.map eGClass a0))])], dst := some 27, val := some (.pv (.vs 7 (List.map eGClass a0))) } :: { need := [(7, .pv (.int .i64 x118))], dst := some 28, val := some (.pv (.int .i64 x118)) } :: { need := [(27, .pv (.vs 7 (List.map eGClass a0))), (28, .pv (.int .i64 x118))], dst := some 29, val := some (.pv (.vp (eGClass y162))) } :: { need := [(29, .pv (.vp (eGClass y162)))], dst := some 30, val := some (.pv (.vp (List.drop 0 (eGClass y162)))) } :: { need := [(30, .pv (.vp (List.drop 0 (eGClass y162))))], dst := some 31, val := some (.pv (.str y162.fName)) } :: { need := [(9, .lp 3 0)], hneed := [(3, .box 79 [.pv (.str y156.fName), .pv (.int .i64 y156.fType.fKind), .pv (.str y156.fType.fClass), .pv (.int .i64 y156.fType.fN), .pv (.int .i64 y156.fType.fOwn.a0.fKind), .pv (.int .i64 y156.fType.fOwn.a0.fN), .pv (.int .i64 y156.fType.fOwn.a1.fKind), .pv (.int .i64 y156.fType.fOwn.a1.fN), .pv (.int .i64 y156.fType.fOwn.a2.fKind), .pv (.int .i64 y156.fType.fOwn.a2.fN), .pv (.int .i64 y156.fType.fOwn.a3.fKind), .pv (.int .i64 y156.fType.fOwn.a3.fN), .pv (.int .i64 y156.fAt)])], dst := some 32, val := some (.pv (.agg (eGVar y156))) } :: { need := [(32, .pv (.agg (eGVar y156))), (31, .pv (.str y162.fName))], dst := some 33, val := some (.pv (.agg (eGSlot_field ({ fClass := y162.fName, fVar := y156 } : GSlot_field)))) } :: { need := [(33, .pv (.agg (eGSlot_field ({ fClass := y162.fName, fVar := y156 } : GSlot_field))))], dst := some 34, val := some (.pv (.vs 14 (List.map eGSlot_field [({ fClass := y162.fName, fVar := y156 } : GSlot_field)]))) } :: { need := [(26, .ls 2), (34, .pv (.vs 14 (List.map eGSlot_field [({ fClass := y162.fName, fVar := y156 } : GSlot_field)])))], hneed := [(2, .row 81 14 (List.map eGSlot_field x136))], names := [4], dst := some 35, val := some (.ls 4), upd := [(4, some (.row 81 14 (List.map eGSlot_field (x136 ++ [({ fClass := y162.fName, fVar := y156 } : GSlot_field)])))), (2, none)] } :: { need := [(5, .lp 1 0), (35, .ls 4)], hneed := [(1, .box 71 [.ls 2])], upd := [(1, some (.box 71 [.ls 4]))] } :: []) ⟨_, _, _⟩ Try_mixed rfl ⟨fun m h => step_on (guard_no rfl) (op_load_lp (v := .ls 2) rfl h.1.1 h.2.1.1 rfl Try_one_71 rfl rfl) rfl, fun m h => step_on (guard_no rfl) (op_load_lp (v := .pv (.vs 7 (List.map eGClass a0))) rfl h.1.1 h.2.1.1 rfl Try_one_45 rfl rfl) rfl, fun m h => step_on (guard_no rfl) (op_move rfl h.1.1 rfl rfl) rfl, fun m h => step_on (guard_no rfl) (op_index_vs (k := .i64) rfl h.1.1 h.1.2.1 (idx_map eGClass h163) Try_slc_45 rfl rfl) rfl, fun m h => step_on (guard_no rfl) (op_field_vp rfl h.1.1 Try_fld_94_0 rfl rfl) rfl, fun m h => step_on (guard_no rfl) (op_load_vp (p := .str y162.fName) rfl h.1.1 rfl Try_one_9 rfl rfl) rfl, fun m h => step_on (guard_no rfl) (op_load_lp_agg (ps := eGVar y156) rfl h.1.1 h.2.1.1 rfl rfl rfl Try_agg_79 rfl rfl) rfl, fun m h => step_on (guard_no rfl) (op_build (zs := [.str (({ fClass := [], fVar := ({ fName := [], fType := ({ fKind := 0, fClass := [], fN := 0, fOwn := (⟨({ fKind := 0, fN := 0 } : GOwner), ({ fKind := 0, fN := 0 } : GOwner), ({ fKind := 0, fN := 0 } : GOwner), ({ fKind := 0, fN := 0 } : GOwner)⟩ : A4 GOwner) } : GType), fAt := 0 } : GVar) } : GSlot_field).fClass), .str ((({ fClass := [], fVar := ({ fName := [], fType := ({ fKind := 0, fClass := [], fN := 0, fOwn := (⟨({ fKind := 0, fN := 0 } : GOwner), ({ fKind := 0, fN := 0 } : GOwner), ({ fKind := 0, fN := 0 } : GOwner), ({ fKind := 0, fN := 0 } : GOwner)⟩ : A4 GOwner) } : GType), fAt := 0 } : GVar) } : GSlot_field).fVar).fName), .int .i64 (((({ fClass := [], fVar := ({ fName := [], fType := ({ fKind := 0, fClass := [], fN := 0, fOwn := (⟨({ fKind := 0, fN := 0 } : GOwner), ({ fKind := 0, fN := 0 } : GOwner), ({ fKind := 0, fN := 0 } : GOwner), ({ fKind := 0, fN := 0 } : GOwner)⟩ : A4 GOwner) } : GType), fAt := 0 } : GVar) } : GSlot_field).fVar).fType).fKind), .str (((({ fClass := [], fVar := ({ fName := [], fType := ({ fKind := 0, fClass := [], fN := 0, fOwn := (⟨({ fKind := 0, fN := 0 } : GOwner), ({ fKind := 0, fN := 0 } : GOwner), ({ fKind := 0, fN := 0 } : GOwner), ({ fKind := 0, fN := 0 } : GOwner)⟩ : A4 GOwner) } : GType), fAt := 0 } : GVar) } : GSlot_field).fVar).fType).fClass), .int .i64 (((({ fClass := [], fVar := ({ fName := [], fType := ({ fKind := 0, fClass := [], fN := 0, fOwn := (⟨({ fKind := 0, fN := 0 } : GOwner), ({ fKind := 0, fN := 0 } : GOwner), ({ fKind := 0, fN := 0 } : GOwner), ({ fKind := 0, fN := 0 } : GOwner)⟩ : A4 GOwner) } : GType), fAt := 0 } : GVar) } : GSlot_field).fVar).fType).fN), .int .i64 (((((({ fClass := [], fVar := ({ fName := [], fType := ({ fKind := 0, fClass := [], fN := 0, fOwn := (⟨({ fKind := 0, fN := 0 } : GOwner), ({ fKind := 0, fN := 0 } : GOwner), ({ fKind := 0, fN := 0 } : GOwner), ({ fKind := 0, fN := 0 } : GOwner)⟩ : A4 GOwner) } : GType), fAt := 0 } : GVar) } : GSlot_field).fVar).fType).fOwn).a0).fKind), .int .i64 (((((({ fClass := [], fVar := ({ fName := [], fType := ({ fKind := 0, fClass := [], fN := 0, fOwn := (⟨({ fKind := 0, fN := 0 } : GOwner), ({ fKind := 0, fN := 0 } : GOwner), ({ fKind := 0, fN := 0 } : GOwner), ({ fKind := 0, fN := 0 } : GOwner)⟩ : A4 GOwner) } : GType), fAt := 0 } : GVar) } : GSlot_field).fVar).fType).fOwn).a0).fN), .int .i64 (((((({ fClass := [], fVar := ({ fName := [], fType := ({ fKind := 0, fClass := [], fN := 0, fOwn := (⟨({ fKind := 0, fN := 0 } : GOwner), ({ fKind := 0, fN := 0 } : GOwner), ({ fKind := 0, fN := 0 } : GOwner), ({ fKind := 0, fN := 0 } : GOwner)⟩ : A4 GOwner) } : GType), fAt := 0 } : GVar) } : GSlot_field).fVar).fType).fOwn).a1).fKind), .int .i64 (((((({ fClass := [], fVar := ({ fName := [], fType := ({ fKind := 0, fClass := [], fN := 0, fOwn := (⟨({ fKind := 0, fN := 0 } : GOwner), ({ fKind := 0, fN := 0 } : GOwner), ({ fKind := 0, fN := 0 } : GOwner), ({ fKind := 0, fN := 0 } : GOwner)⟩ : A4 GOwner) } : GType), fAt := 0 } : GVar) } : GSlot_field).fVar).fType).fOwn).a1).fN), .int .i64 (((((({ fClass := [], fVar := ({ fName := [], fType := ({ fKind := 0, fClass := [], fN := 0, fOwn := (⟨({ fKind := 0, fN := 0 } : GOwner), ({ fKind := 0, fN := 0 } : GOwner), ({ fKind := 0, fN := 0 } : GOwner), ({ fKind := 0, fN := 0 } : GOwner)⟩ : A4 GOwner) } : GType), fAt := 0 } : GVar) } : GSlot_field).fVar).fType).fOwn).a2).fKind), .int .i64 (((((({ fClass := [], fVar := ({ fName := [], fType := ({ fKind := 0, fClass := [], fN := 0, fOwn := (⟨({ fKind := 0, fN := 0 } : GOwner), ({ fKind := 0, fN := 0 } : GOwner), ({ fKind := 0, fN := 0 } : GOwner), ({ fKind := 0, fN := 0 } : GOwner)⟩ : A4 GOwner) } : GType), fAt := 0 } : GVar) } : GSlot_field).fVar).fType).fOwn).a2).fN), .int .i64 (((((({ fClass := [], fVar := ({ fName := [], fType := ({ fKind := 0, fClass := [], fN := 0, fOwn := (⟨({ fKind := 0, fN := 0 } : GOwner), ({ fKind := 0, fN := 0 } : GOwner), ({ fKind := 0, fN := 0 } : GOwner), ({ fKind := 0, fN := 0 } : GOwner)⟩ : A4 GOwner) } : GType), fAt := 0 } : GVar) } : GSlot_field).fVar).fType).fOwn).a3).fKind), .int .i64 (((((({ fClass := [], fVar := ({ fName := [], fType := ({ fKind := 0, fClass := [], fN := 0, fOwn := (⟨({ fKind := 0, fN := 0 } : GOwner), ({ fKind := 0, fN := 0 } : GOwner), ({ fKind := 0, fN := 0 } : GOwner), ({ fKind := 0, fN := 0 } : GOwner)⟩ : A4 GOwner) } : GType), fAt := 0 } : GVar) } : GSlot_field).fVar).fType).fOwn).a3).fN), .int .i64 ((({ fClass := [], fVar := ({ fName := [], fType := ({ fKind := 0, fClass := [], fN := 0, fOwn := (⟨({ fKind := 0, fN := 0 } : GOwner), ({ fKind := 0, fN := 0 } : GOwner), ({ fKind := 0, fN := 0 } : GOwner), ({ fKind := 0, fN := 0 } : GOwner)⟩ : A4 GOwner) } : GType), fAt := 0 } : GVar) } : GSlot_field).fVar).fAt)]) (r := eGSlot_field ({ fClass := y162.fName, fVar := y156 } : GSlot_field)) rfl Try_zer_81 (by exact ⟨rfl, rfl, rfl, rfl, rfl, rfl, rfl, rfl, rfl, rfl, rfl, rfl, rfl, rfl, trivial⟩) Try_plc_81 (evs_cons h.1.2.1 (evs_cons h.1.1 evs_nil)) rfl rfl rfl) rfl, fun m h => step_on (guard_no rfl) (op_lit (rows := List.map eGSlot_field ([({ fClass := y162.fName, fVar := y156 } : GSlot_field)] : List GSlot_field)) (zs := [.str (({ fClass := [], fVar := ({ fName := [], fType := ({ fKind := 0, fClass := [], fN := 0, fOwn := (⟨({ fKind := 0, fN := 0 } : GOwner), ({ fKind := 0, fN := 0 } : GOwner), ({ fKind := 0, fN := 0 } : GOwner), ({ fKind := 0, fN := 0 } : GOwner)⟩ : A4 GOwner) } : GType), fAt := 0 } : GVar) } : GSlot_field).fClass), .str ((({ fClass := [], fVar := ({ fName := [], fType := ({ fKind := 0, fClass := [], fN := 0, fOwn := (⟨({ fKind := 0, fN := 0 } : GOwner), ({ fKind := 0, fN := 0 } : GOwner), ({ fKind := 0, fN := 0 } : GOwner), ({ fKind := 0, fN := 0 } : GOwner)⟩ : A4 GOwner) } : GType), fAt := 0 } : GVar) } : GSlot_field).fVar).fName), .int .i64 (((({ fClass := [], fVar := ({ fName := [], fType := ({ fKind := 0, fClass := [], fN := 0, fOwn := (⟨({ fKind := 0, fN := 0 } : GOwner), ({ fKind := 0, fN := 0 } : GOwner), ({ fKind := 0, fN := 0 } : GOwner), ({ fKind := 0, fN := 0 } : GOwner)⟩ : A4 GOwner) } : GType), fAt := 0 } : GVar) } : GSlot_field).fVar).fType).fKind), .str (((({ fClass := [], fVar := ({ fName := [], fType := ({ fKind := 0, fClass := [], fN := 0, fOwn := (⟨({ fKind := 0, fN := 0 } : GOwner), ({ fKind := 0, fN := 0 } : GOwner), ({ fKind := 0, fN := 0 } : GOwner), ({ fKind := 0, fN := 0 } : GOwner)⟩ : A4 GOwner) } : GType), fAt := 0 } : GVar) } : GSlot_field).fVar).fType).fClass), .int .i64 (((({ fClass := [], fVar := ({ fName := [], fType := ({ fKind := 0, fClass := [], fN := 0, fOwn := (⟨({ fKind := 0, fN := 0 } : GOwner), ({ fKind := 0, fN := 0 } : GOwner), ({ fKind := 0, fN := 0 } : GOwner), ({ fKind := 0, fN := 0 } : GOwner)⟩ : A4 GOwner) } : GType), fAt := 0 } : GVar) } : GSlot_field).fVar).fType).fN), .int .i64 (((((({ fClass := [], fVar := ({ fName := [], fType := ({ fKind := 0, fClass := [], fN := 0, fOwn := (⟨({ fKind := 0, fN := 0 } : GOwner), ({ fKind := 0, fN := 0 } : GOwner), ({ fKind := 0, fN := 0 } : GOwner), ({ fKind := 0, fN := 0 } : GOwner)⟩ : A4 GOwner) } : GType), fAt := 0 } : GVar) } : GSlot_field).fVar).fType).fOwn).a0).fKind), .int .i64 (((((({ fClass := [], fVar := ({ fName := [], fType := ({ fKind := 0, fClass := [], fN := 0, fOwn := (⟨({ fKind := 0, fN := 0 } : GOwner), ({ fKind := 0, fN := 0 } : GOwner), ({ fKind := 0, fN := 0 } : GOwner), ({ fKind := 0, fN := 0 } : GOwner)⟩ : A4 GOwner) } : GType), fAt := 0 } : GVar) } : GSlot_field).fVar).fType).fOwn).a0).fN), .int .i64 (((((({ fClass := [], fVar := ({ fName := [], fType := ({ fKind := 0, fClass := [], fN := 0, fOwn := (⟨({ fKind := 0, fN := 0 } : GOwner), ({ fKind := 0, fN := 0 } : GOwner), ({ fKind := 0, fN := 0 } : GOwner), ({ fKind := 0, fN := 0 } : GOwner)⟩ : A4 GOwner) } : GType), fAt := 0 } : GVar) } : GSlot_field).fVar).fType).fOwn).a1).fKind), .int .i64 (((((({ fClass := [], fVar := ({ fName := [], fType := ({ fKind := 0, fClass := [], fN := 0, fOwn := (⟨({ fKind := 0, fN := 0 } : GOwner), ({ fKind := 0, fN := 0 } : GOwner), ({ fKind := 0, fN := 0 } : GOwner), ({ fKind := 0, fN := 0 } : GOwner)⟩ : A4 GOwner) } : GType), fAt := 0 } : GVar) } : GSlot_field).fVar).fType).fOwn).a1).fN), .int .i64 (((((({ fClass := [], fVar := ({ fName := [], fType := ({ fKind := 0, fClass := [], fN := 0, fOwn := (⟨({ fKind := 0, fN := 0 } : GOwner), ({ fKind := 0, fN := 0 } : GOwner), ({ fKind := 0, fN := 0 } : GOwner), ({ fKind := 0, fN := 0 } : GOwner)⟩ : A4 GOwner) } : GType), fAt := 0 } : GVar) } : GSlot_field).fVar).fType).fOwn).a2).fKind), .int .i64 (((((({ fClass := [], fVar := ({ fName := [], fType := ({ fKind := 0, fClass := [], fN := 0, fOwn := (⟨({ fKind := 0, fN := 0 } : GOwner), ({ fKind := 0, fN := 0 } : GOwner), ({ fKind := 0, fN := 0 } : GOwner), ({ fKind := 0, fN := 0 } : GOwner)⟩ : A4 GOwner) } : GType), fAt := 0 } : GVar) } : GSlot_field).fVar).fType).fOwn).a2).fN), .int .i64 (((((({ fClass := [], fVar := ({ fName := [], fType := ({ fKind := 0, fClass := [], fN := 0, fOwn := (⟨({ fKind := 0, fN := 0 } : GOwner), ({ fKind := 0, fN := 0 } : GOwner), ({ fKind := 0, fN := 0 } : GOwner), ({ fKind := 0, fN := 0 } : GOwner)⟩ : A4 GOwner) } : GType), fAt := 0 } : GVar) } : GSlot_field).fVar).fType).fOwn).a3).fKind), .int .i64 (((((({ fClass := [], fVar := ({ fName := [], fType := ({ fKind := 0, fClass := [], fN := 0, fOwn := (⟨({ fKind := 0, fN := 0 } : GOwner), ({ fKind := 0, fN := 0 } : GOwner), ({ fKind := 0, fN := 0 } : GOwner), ({ fKind := 0, fN := 0 } : GOwner)⟩ : A4 GOwner) } : GType), fAt := 0 } : GVar) } : GSlot_field).fVar).fType).fOwn).a3).fN), .int .i64 ((({ fClass := [], fVar := ({ fName := [], fType := ({ fKind := 0, fClass := [], fN := 0, fOwn := (⟨({ fKind := 0, fN := 0 } : GOwner), ({ fKind := 0, fN := 0 } : GOwner), ({ fKind := 0, fN := 0 } : GOwner), ({ fKind := 0, fN := 0 } : GOwner)⟩ : A4 GOwner) } : GType), fAt := 0 } : GVar) } : GSlot_field).fVar).fAt)]) rfl rfl Try_slc_71 Try_zer_81 (by exact ⟨rfl, rfl, rfl, rfl, rfl, rfl, rfl, rfl, rfl, rfl, rfl, rfl, rfl, rfl, trivial⟩) rfl rfl rfl (evs_cons h.1.1 evs_nil) rfl rfl rfl rfl) rfl, fun m h => step_on (guard_no rfl) (op_append 4 (fresh_free h.2.2.1) rfl h.1.1 h.2.1.1 h.1.2.1 Try_slc_71 Try_elm_81 Try_zer_81 rfl rfl rfl (room_map (f := eGSlot_field) (g := eGSlot_field) h165) (List.map_append (f := eGSlot_field) (l₁ := x136) (l₂ := [({ fClass := y162.fName, fVar := y156 } : GSlot_field)])).symm rfl rfl) rfl, fun m h => step_on (guard_no rfl) (op_store_lp (n := 1) rfl h.1.1 h.1.2.1 rfl h.2.1.1 (or_one Try_one_71) (by rw [Try_one_71]; rfl) rfl rfl rfl) rfl, trivial⟩ ⟨⟨⟨rfl, trivial⟩, ⟨rfl, trivial⟩, trivial⟩, ⟨⟨rfl, trivial⟩, ⟨rfl, trivial⟩, trivial⟩, ⟨⟨rfl, trivial⟩, trivial, trivial⟩, ⟨⟨rfl, rfl, trivial⟩, trivial, trivial⟩, ⟨⟨rfl, trivial⟩, trivial, trivial⟩, ⟨⟨rfl, trivial⟩, trivial, trivial⟩, ⟨⟨rfl, trivial⟩, ⟨rfl, trivial⟩, trivial⟩, ⟨⟨rfl, rfl, trivial⟩, trivial, trivial⟩, ⟨⟨rfl, trivial⟩, trivial, trivial⟩, ⟨⟨rfl, rfl, trivial⟩, ⟨rfl, trivial⟩, ⟨rfl, trivial⟩⟩, ⟨⟨rfl, rfl, trivial⟩, ⟨rfl, trivial⟩, trivial⟩, trivial⟩ (by kernel_rfl) ?_
        refine post_imp (s' := ⟨38, [(2, some (.lp 0 0)), (5, some (.lp 1 0)), (7, some (.pv (.int .i64 x118))), (20, some (.pv (.vs 13 (List.map eGVar y121.fFields)))), (21, some (.pv (.int .i64 (y121.fFields.length : Int)))), (22, some (.pv (.int .i64 x137)))], [(0, some (.box 45 [.pv (.vs 7 (List.map eGClass a0))])), (1, some (.box 71 [.ls 2])), (2, some (.row 81 14 (List.map eGSlot_field (x136 ++ [({ fClass := y162.fName, fVar := y156 } : GSlot_field)]))))], 3, [], [], 0, [2, 5]⟩) (imp_sub [0, 1, 4] rfl (by decide) rfl rfl ⟨by kernel_rfl, by kernel_rfl, by kernel_rfl, by kernel_rfl, by kernel_rfl, by kernel_rfl, trivial⟩ ⟨by kernel_rfl, by kernel_rfl, by kernel_rfl, trivial⟩ rfl rfl rfl) ?_
        refine post_block_normal ?_
        refine post_next ?_
        refine aw_region ?_
        refine reg_cons (guard_no rfl) (op_int (k := .i64) (m := x137) (n := 1) rfl rfl rfl rfl rfl rfl) ?_
        refine reg_cons (guard_no rfl) (op_move rfl rfl rfl rfl) ?_
        refine reg_nil ?_
        refine post_round ?_
        exact rnd_back (ih ((x136 ++ [({ fClass := y162.fName, fVar := y156 } : GSlot_field)]), w_i64 (x137 + 1)) hF) (imp_sub [0, 1, 2] rfl (by decide) rfl rfl ⟨by kernel_rfl, by kernel_rfl, by kernel_rfl, by kernel_rfl, by kernel_rfl, by kernel_rfl, trivial⟩ ⟨by kernel_rfl, by kernel_rfl, by kernel_rfl, trivial⟩ rfl rfl rfl)
      · refine aw_cond_f rfl hb153 ?_
        refine aw_exit ?_
        refine post_then_exit ?_
        refine post_then_exit ?_
        obtain rfl := Option.some.inj hF
        exact post_lp_break _ rfl (imp_sub [0, 1, 2] rfl (by decide) rfl rfl ⟨by kernel_rfl, by kernel_rfl, trivial⟩ ⟨by kernel_rfl, by kernel_rfl, by kernel_rfl, trivial⟩ rfl rfl rfl)
    · rintro _ rfl
      have hF := hK169
      clear hK169
      refine post_block_normal ?_
      obtain rfl := Option.some.inj hF
      exact post_rnd x168 rfl (imp_sub [0, 1, 2] rfl (by decide) rfl rfl ⟨by kernel_rfl, by kernel_rfl, trivial⟩ ⟨by kernel_rfl, by kernel_rfl, by kernel_rfl, trivial⟩ rfl rfl rfl)
  · rintro x62 rfl
    have hF := elim_next hF
    refine post_block_normal ?_
    refine post_next ?_
    refine aw_seq ?_
    refine aw_region ?_
    refine reg_cons (guard_no rfl) (op_load_lp (v := .ls 2) rfl rfl rfl rfl Try_one_71 rfl rfl) ?_
    refine reg_cons (guard_no rfl) (op_assign rfl rfl rfl rfl) ?_
    refine reg_nil ?_
    refine post_imp (s' := ⟨38, [(4, some (.ls 0))], [(0, some (.row 81 14 (List.map eGSlot_field x62)))], 1, [], [], 0, []⟩) (imp_sub [2] rfl (by decide) rfl rfl ⟨by kernel_rfl, trivial⟩ ⟨by kernel_rfl, trivial⟩ rfl rfl rfl) ?_
    refine post_next ?_
    refine aw_ret ?_
    obtain rfl := Option.some.inj hF
    exact post_ret rfl rfl (.cons _ _ _ _ _ (.tmp _ _ rfl) (.own _ _ _ _ rfl nolent3) .nil) (.inl rfl)
  · rintro ⟨⟩ rfl
    have hF := elim_stop hF
    cases hF
theorem heap_Start_ok {a0 : List GClass} {a1 : List UInt8} {r : (List GVal)} (hF : heap_Start a0 a1 = some r) : Abs.Fn Try.prog 29 [.vs 7 (List.map eGClass a0), .str a1] [.own 24 2 (List.map eGVal r)] := by
  unfold heap_Start at hF
  refine fn_of_body (n := 27) Try.func29 rfl rfl rfl ?_
  intro w O
  refine aw_seq ?_
  refine aw_region ?_
  refine reg_cons (guard_no rfl) (op_assign rfl rfl rfl rfl) ?_
  refine reg_nil ?_
  refine post_imp (s' := ⟨27, [(0, some (.pv (.vs 7 (List.map eGClass a0)))), (1, some (.pv (.str a1)))], [], 0, [], [], 0, []⟩) (imp_sub [] rfl (by decide) rfl rfl ⟨by kernel_rfl, by kernel_rfl, trivial⟩ trivial rfl rfl rfl) ?_
  refine post_next ?_
  refine aw_seq ?_
  refine aw_region ?_
  refine reg_cons (guard_no rfl) (op_assign rfl rfl rfl rfl) ?_
  refine reg_imp (imp_nil_own 5 24 2 0 rfl rfl) ?_
  refine reg_nil ?_
  refine post_imp (s' := ⟨27, [(0, some (.pv (.vs 7 (List.map eGClass a0)))), (1, some (.pv (.str a1))), (5, some (.ls 0))], [(0, some (.row 24 2 (List.map eGVal [])))], 1, [], [], 0, []⟩) (imp_sub [0] rfl (by decide) rfl rfl ⟨by kernel_rfl, by kernel_rfl, by kernel_rfl, trivial⟩ ⟨by kernel_rfl, trivial⟩ rfl rfl rfl) ?_
  refine post_next ?_
  refine aw_seq ?_
  refine aw_seq ?_
  refine aw_region ?_
  refine reg_cons (guard_no rfl) (op_move rfl rfl rfl rfl) ?_
  refine reg_cons (guard_no rfl) (op_move rfl rfl rfl rfl) ?_
  obtain ⟨y3, h4, hF⟩ := bind_some hF
  refine reg_cons (guard_no rfl) (op_call 1 rfl (caps := []) (args := [.vs 7 (List.map eGClass a0), .str a1]) (rs := [.p (.vs 14 (List.map eGSlot_field y3))]) rfl rfl rfl Try_cal_50 (Fn.frozen (field_All_ok h4)) rfl rfl rfl) ?_
  refine reg_cons (guard_no rfl) (op_len_vs (n := y3.length) rfl rfl (List.length_map ..) Try_slc_71 rfl rfl) ?_
  refine reg_cons (guard_no rfl) (op_move rfl rfl rfl rfl) ?_
  refine reg_nil ?_
  refine post_imp (s' := ⟨27, [(5, some (.ls 0)), (10, some (.pv (.vs 14 (List.map eGSlot_field y3)))), (11, some (.pv (.int .i64 (y3.length : Int)))), (12, some (.pv (.int .i64 0)))], [(0, some (.row 24 2 (List.map eGVal [])))], 1, [], [], 0, []⟩) (imp_sub [0] rfl (by decide) rfl rfl ⟨by kernel_rfl, by kernel_rfl, by kernel_rfl, by kernel_rfl, trivial⟩ ⟨by kernel_rfl, trivial⟩ rfl rfl rfl) ?_
  refine post_next ?_
  obtain ⟨x38, hF, hK39⟩ := bind_some hF
  refine aw_for ((((y3.length : Int) : Int) - (0)).toNat + 1) (fun s1 => s1 = ⟨27, [(5, some (.ls 0))], [(0, some (.row 24 2 (List.map eGVal x38)))], 1, [], [], 0, []⟩) ?_ ?_
  · refine rnd_loop (α := (List GVal) × Int) (fun q => ⟨27, [(5, some (.ls 0)), (10, some (.pv (.vs 14 (List.map eGSlot_field y3)))), (11, some (.pv (.int .i64 (y3.length : Int)))), (12, some (.pv (.int .i64 q.2)))], [(0, some (.row 24 2 (List.map eGVal q.1)))], 1, [], [], 0, []⟩) (fun k q => heap_Start_L1 y3 k q.1 q.2 = some x38) ([], 0) (imp_sub [0] rfl (by decide) rfl rfl ⟨by kernel_rfl, by kernel_rfl, by kernel_rfl, by kernel_rfl, trivial⟩ ⟨by kernel_rfl, trivial⟩ rfl rfl rfl) hF (fun q h => by cases h) ?_
    clear hF
    rintro k ⟨x14, x15⟩ hF ih
    refine rnd_succ ?_
    refine aw_seq ?_
    refine aw_region ?_
    refine reg_cons (guard_no rfl) (op_int (k := .i64) (m := x15) (n := (y3.length : Int)) rfl rfl rfl rfl rfl rfl) ?_
    refine reg_nil ?_
    refine post_imp (s' := ⟨27, [(5, some (.ls 0)), (10, some (.pv (.vs 14 (List.map eGSlot_field y3)))), (11, some (.pv (.int .i64 (y3.length : Int)))), (12, some (.pv (.int .i64 x15))), (13, some (.pv (.bool (decide (x15 < (y3.length : Int))))))], [(0, some (.row 24 2 (List.map eGVal x14)))], 1, [], [], 0, []⟩) (imp_sub [0] rfl (by decide) rfl rfl ⟨by kernel_rfl, by kernel_rfl, by kernel_rfl, by kernel_rfl, by kernel_rfl, trivial⟩ ⟨by kernel_rfl, trivial⟩ rfl rfl rfl) ?_
    refine post_next ?_
    refine aw_seq ?_
    rcases ite_some hF with ⟨hb27, hF⟩ | ⟨hb27, hF⟩
    · refine aw_cond_t rfl hb27 ?_
      refine aw_skip ?_
      refine post_next ?_
      refine aw_seq ?_
      refine aw_block ?_
      refine aw_seq ?_
      refine aw_region ?_
      obtain ⟨y30, h31, hF⟩ := bind_some hF
      refine reg_cons (guard_no rfl) (op_index_vs (k := .i64) rfl rfl rfl (idx_map eGSlot_field h31) Try_slc_71 rfl rfl) ?_
      refine reg_cons (guard_no rfl) (op_load_vp_agg (ps := eGSlot_field y30) rfl rfl rfl rfl Try_agg_81 rfl rfl) ?_
      refine reg_cons (guard_no rfl) (op_alloc 1 rfl (ps := [.str (({ fClass := [], fVar := ({ fName := [], fType := ({ fKind := 0, fClass := [], fN := 0, fOwn := (⟨({ fKind := 0, fN := 0 } : GOwner), ({ fKind := 0, fN := 0 } : GOwner), ({ fKind := 0, fN := 0 } : GOwner), ({ fKind := 0, fN := 0 } : GOwner)⟩ : A4 GOwner) } : GType), fAt := 0 } : GVar) } : GSlot_field).fClass), .str ((({ fClass := [], fVar := ({ fName := [], fType := ({ fKind := 0, fClass := [], fN := 0, fOwn := (⟨({ fKind := 0, fN := 0 } : GOwner), ({ fKind := 0, fN := 0 } : GOwner), ({ fKind := 0, fN := 0 } : GOwner), ({ fKind := 0, fN := 0 } : GOwner)⟩ : A4 GOwner) } : GType), fAt := 0 } : GVar) } : GSlot_field).fVar).fName), .int .i64 (((({ fClass := [], fVar := ({ fName := [], fType := ({ fKind := 0, fClass := [], fN := 0, fOwn := (⟨({ fKind := 0, fN := 0 } : GOwner), ({ fKind := 0, fN := 0 } : GOwner), ({ fKind := 0, fN := 0 } : GOwner), ({ fKind := 0, fN := 0 } : GOwner)⟩ : A4 GOwner) } : GType), fAt := 0 } : GVar) } : GSlot_field).fVar).fType).fKind), .str (((({ fClass := [], fVar := ({ fName := [], fType := ({ fKind := 0, fClass := [], fN := 0, fOwn := (⟨({ fKind := 0, fN := 0 } : GOwner), ({ fKind := 0, fN := 0 } : GOwner), ({ fKind := 0, fN := 0 } : GOwner), ({ fKind := 0, fN := 0 } : GOwner)⟩ : A4 GOwner) } : GType), fAt := 0 } : GVar) } : GSlot_field).fVar).fType).fClass), .int .i64 (((({ fClass := [], fVar := ({ fName := [], fType := ({ fKind := 0, fClass := [], fN := 0, fOwn := (⟨({ fKind := 0, fN := 0 } : GOwner), ({ fKind := 0, fN := 0 } : GOwner), ({ fKind := 0, fN := 0 } : GOwner), ({ fKind := 0, fN := 0 } : GOwner)⟩ : A4 GOwner) } : GType), fAt := 0 } : GVar) } : GSlot_field).fVar).fType).fN), .int .i64 (((((({ fClass := [], fVar := ({ fName := [], fType := ({ fKind := 0, fClass := [], fN := 0, fOwn := (⟨({ fKind := 0, fN := 0 } : GOwner), ({ fKind := 0, fN := 0 } : GOwner), ({ fKind := 0, fN := 0 } : GOwner), ({ fKind := 0, fN := 0 } : GOwner)⟩ : A4 GOwner) } : GType), fAt := 0 } : GVar) } : GSlot_field).fVar).fType).fOwn).a0).fKind), .int .i64 (((((({ fClass := [], fVar := ({ fName := [], fType := ({ fKind := 0, fClass := [], fN := 0, fOwn := (⟨({ fKind := 0, fN := 0 } : GOwner), ({ fKind := 0, fN := 0 } : GOwner), ({ fKind := 0, fN := 0 } : GOwner), ({ fKind := 0, fN := 0 } : GOwner)⟩ : A4 GOwner) } : GType), fAt := 0 } : GVar) } : GSlot_field).fVar).fType).fOwn).a0).fN), .int .i64 (((((({ fClass := [], fVar := ({ fName := [], fType := ({ fKind := 0, fClass := [], fN := 0, fOwn := (⟨({ fKind := 0, fN := 0 } : GOwner), ({ fKind := 0, fN := 0 } : GOwner), ({ fKind := 0, fN := 0 } : GOwner), ({ fKind := 0, fN := 0 } : GOwner)⟩ : A4 GOwner) } : GType), fAt := 0 } : GVar) } : GSlot_field).fVar).fType).fOwn).a1).fKind), .int .i64 (((((({ fClass := [], fVar := ({ fName := [], fType := ({ fKind := 0, fClass := [], fN := 0, fOwn := (⟨({ fKind := 0, fN := 0 } : GOwner), ({ fKind := 0, fN := 0 } : GOwner), ({ fKind := 0, fN := 0 } : GOwner), ({ fKind := 0, fN := 0 } : GOwner)⟩ : A4 GOwner) } : GType), fAt := 0 } : GVar) } : GSlot_field).fVar).fType).fOwn).a1).fN), .int .i64 (((((({ fClass := [], fVar := ({ fName := [], fType := ({ fKind := 0, fClass := [], fN := 0, fOwn := (⟨({ fKind := 0, fN := 0 } : GOwner), ({ fKind := 0, fN := 0 } : GOwner), ({ fKind := 0, fN := 0 } : GOwner), ({ fKind := 0, fN := 0 } : GOwner)⟩ : A4 GOwner) } : GType), fAt := 0 } : GVar) } : GSlot_field).fVar).fType).fOwn).a2).fKind), .int .i64 (((((({ fClass := [], fVar := ({ fName := [], fType := ({ fKind := 0, fClass := [], fN := 0, fOwn := (⟨({ fKind := 0, fN := 0 } : GOwner), ({ fKind := 0, fN := 0 } : GOwner), ({ fKind := 0, fN := 0 } : GOwner), ({ fKind := 0, fN := 0 } : GOwner)⟩ : A4 GOwner) } : GType), fAt := 0 } : GVar) } : GSlot_field).fVar).fType).fOwn).a2).fN), .int .i64 (((((({ fClass := [], fVar := ({ fName := [], fType := ({ fKind := 0, fClass := [], fN := 0, fOwn := (⟨({ fKind := 0, fN := 0 } : GOwner), ({ fKind := 0, fN := 0 } : GOwner), ({ fKind := 0, fN := 0 } : GOwner), ({ fKind := 0, fN := 0 } : GOwner)⟩ : A4 GOwner) } : GType), fAt := 0 } : GVar) } : GSlot_field).fVar).fType).fOwn).a3).fKind), .int .i64 (((((({ fClass := [], fVar := ({ fName := [], fType := ({ fKind := 0, fClass := [], fN := 0, fOwn := (⟨({ fKind := 0, fN := 0 } : GOwner), ({ fKind := 0, fN := 0 } : GOwner), ({ fKind := 0, fN := 0 } : GOwner), ({ fKind := 0, fN := 0 } : GOwner)⟩ : A4 GOwner) } : GType), fAt := 0 } : GVar) } : GSlot_field).fVar).fType).fOwn).a3).fN), .int .i64 ((({ fClass := [], fVar := ({ fName := [], fType := ({ fKind := 0, fClass := [], fN := 0, fOwn := (⟨({ fKind := 0, fN := 0 } : GOwner), ({ fKind := 0, fN := 0 } : GOwner), ({ fKind := 0, fN := 0 } : GOwner), ({ fKind := 0, fN := 0 } : GOwner)⟩ : A4 GOwner) } : GType), fAt := 0 } : GVar) } : GSlot_field).fVar).fAt)]) rfl Try_zer_81 (by exact ⟨rfl, rfl, rfl, rfl, rfl, rfl, rfl, rfl, rfl, rfl, rfl, rfl, rfl, rfl, trivial⟩) rfl rfl) ?_
      refine reg_cons (guard_no rfl) (op_store_lp (n := 14) rfl rfl rfl rfl rfl (or_agg Try_agg_81) (by rw [Try_non_81]; rfl) rfl rfl rfl) ?_
      refine reg_nil ?_
      refine post_imp (s' := ⟨27, [(5, some (.ls 0)), (7, some (.lp 1 0)), (10, some (.pv (.vs 14 (List.map eGSlot_field y3)))), (11, some (.pv (.int .i64 (y3.length : Int)))), (12, some (.pv (.int .i64 x15)))], [(0, some (.row 24 2 (List.map eGVal x14))), (1, some (.box 81 [.pv (.str y30.fClass), .pv (.str y30.fVar.fName), .pv (.int .i64 y30.fVar.fType.fKind), .pv (.str y30.fVar.fType.fClass), .pv (.int .i64 y30.fVar.fType.fN), .pv (.int .i64 y30.fVar.fType.fOwn.a0.fKind), .pv (.int .i64 y30.fVar.fType.fOwn.a0.fN), .pv (.int .i64 y30.fVar.fType.fOwn.a1.fKind), .pv (.int .i64 y30.fVar.fType.fOwn.a1.fN), .pv (.int .i64 y30.fVar.fType.fOwn.a2.fKind), .pv (.int .i64 y30.fVar.fType.fOwn.a2.fN), .pv (.int .i64 y30.fVar.fType.fOwn.a3.fKind), .pv (.int .i64 y30.fVar.fType.fOwn.a3.fN), .pv (.int .i64 y30.fVar.fAt)]))], 2, [], [], 0, []⟩) (imp_sub [0, 1] rfl (by decide) rfl rfl ⟨by kernel_rfl, by kernel_rfl, by kernel_rfl, by kernel_rfl, by kernel_rfl, trivial⟩ ⟨by kernel_rfl, by kernel_rfl, trivial⟩ rfl rfl rfl) ?_
      refine post_next ?_
      refine aw_region ?_
      refine reg_cons (guard_no rfl) (op_move rfl rfl rfl rfl) ?_
      refine reg_cons (guard_no rfl) (op_field_lp rfl rfl Try_fld_81_1 rfl rfl) ?_
      refine reg_cons (guard_no rfl) (op_field_lp rfl rfl Try_fld_79_1 rfl rfl) ?_
      refine reg_cons (guard_no rfl) (op_field_lp rfl rfl Try_fld_77_0 rfl rfl) ?_
      refine reg_cons (guard_no rfl) (op_load_lp (v := .pv (.int .i64 y30.fVar.fType.fKind)) rfl rfl rfl rfl Try_one_3 rfl rfl) ?_
      refine reg_cons (guard_no rfl) (op_int (k := .i64) (m := y30.fVar.fType.fKind) (n := 2) rfl rfl rfl rfl rfl rfl) ?_
      refine reg_cons (guard_no rfl) (op_build (zs := [.bool (({ fRef := false, fN := 0 } : GVal).fRef), .int .i64 (({ fRef := false, fN := 0 } : GVal).fN)]) (r := eGVal ({ fRef := (y30.fVar.fType.fKind == 2), fN := 0 } : GVal)) rfl Try_zer_24 (by exact ⟨rfl, rfl, trivial⟩) Try_plc_24 rfl rfl rfl rfl) ?_
      refine reg_cons (guard_no rfl) (op_lit (rows := List.map eGVal ([({ fRef := (y30.fVar.fType.fKind == 2), fN := 0 } : GVal)] : List GVal)) (zs := [.bool (({ fRef := false, fN := 0 } : GVal).fRef), .int .i64 (({ fRef := false, fN := 0 } : GVal).fN)]) rfl rfl Try_slc_28 Try_zer_24 (by exact ⟨rfl, rfl, trivial⟩) rfl rfl rfl rfl rfl rfl rfl rfl) ?_
      obtain ⟨u34, h35, hF⟩ := bind_some hF
      refine reg_cons (guard_no rfl) (op_append 2 rfl rfl rfl rfl rfl Try_slc_28 Try_elm_24 Try_zer_24 rfl rfl rfl (room_map (f := eGVal) (g := eGVal) h35) (List.map_append (f := eGVal) (l₁ := x14) (l₂ := [({ fRef := (y30.fVar.fType.fKind == 2), fN := 0 } : GVal)])).symm rfl rfl) ?_
      refine reg_cons (guard_no rfl) (op_assign rfl rfl rfl rfl) ?_
      refine reg_nil ?_
      refine post_imp (s' := ⟨27, [(5, some (.ls 0)), (10, some (.pv (.vs 14 (List.map eGSlot_field y3)))), (11, some (.pv (.int .i64 (y3.length : Int)))), (12, some (.pv (.int .i64 x15)))], [(0, some (.row 24 2 (List.map eGVal (x14 ++ [({ fRef := (y30.fVar.fType.fKind == 2), fN := 0 } : GVal)]))))], 1, [], [], 0, []⟩) (imp_sub [2] rfl (by decide) rfl rfl ⟨by kernel_rfl, by kernel_rfl, by kernel_rfl, by kernel_rfl, trivial⟩ ⟨by kernel_rfl, trivial⟩ rfl rfl rfl) ?_
      refine post_block_normal ?_
      refine post_next ?_
      refine aw_region ?_
      refine reg_cons (guard_no rfl) (op_int (k := .i64) (m := x15) (n := 1) rfl rfl rfl rfl rfl rfl) ?_
      refine reg_cons (guard_no rfl) (op_move rfl rfl rfl rfl) ?_
      refine reg_nil ?_
      refine post_round ?_
      exact rnd_back (ih ((x14 ++ [({ fRef := (y30.fVar.fType.fKind == 2), fN := 0 } : GVal)]), w_i64 (x15 + 1)) hF) (imp_sub [0] rfl (by decide) rfl rfl ⟨by kernel_rfl, by kernel_rfl, by kernel_rfl, by kernel_rfl, trivial⟩ ⟨by kernel_rfl, trivial⟩ rfl rfl rfl)
    · refine aw_cond_f rfl hb27 ?_
      refine aw_exit ?_
      refine post_then_exit ?_
      refine post_then_exit ?_
      obtain rfl := Option.some.inj hF
      exact post_lp_break _ rfl (imp_sub [0] rfl (by decide) rfl rfl ⟨by kernel_rfl, trivial⟩ ⟨by kernel_rfl, trivial⟩ rfl rfl rfl)
  · rintro _ rfl
    have hF := hK39
    clear hK39
    refine post_next ?_
    refine aw_seq ?_
    refine aw_region ?_
    refine reg_cons (guard_no rfl) (op_move rfl rfl rfl rfl) ?_
    refine reg_cons (guard_no rfl) (op_assign rfl rfl rfl rfl) ?_
    refine reg_nil ?_
    refine post_imp (s' := ⟨27, [(4, some (.ls 0))], [(0, some (.row 24 2 (List.map eGVal x38)))], 1, [], [], 0, []⟩) (imp_sub [0] rfl (by decide) rfl rfl ⟨by kernel_rfl, trivial⟩ ⟨by kernel_rfl, trivial⟩ rfl rfl rfl) ?_
    refine post_next ?_
    refine aw_ret ?_
    obtain rfl := Option.some.inj hF
    exact post_ret rfl rfl (.cons _ _ _ _ _ (.tmp _ _ rfl) (.own _ _ _ _ rfl nolent3) .nil) (.inl rfl)
theorem ref13_Find_ok {a0 : List GClass} {a1 : List UInt8} {r : Int} (hF : ref13_Find a0 a1 = some r) : Abs.Fn Try.prog 69 [.vs 7 (List.map eGClass a0), .str a1] [.p (.int .i64 r)] := by
  unfold ref13_Find at hF
  refine fn_of_body (n := 20) Try.func69 rfl rfl rfl ?_
  intro w O
  refine aw_seq ?_
  refine aw_region ?_
  refine reg_cons (guard_no rfl) (op_assign rfl rfl rfl rfl) ?_
  refine reg_nil ?_
  refine post_imp (s' := ⟨20, [(0, some (.pv (.vs 7 (List.map eGClass a0)))), (1, some (.pv (.str a1)))], [], 0, [], [], 0, []⟩) (imp_sub [] rfl (by decide) rfl rfl ⟨by kernel_rfl, by kernel_rfl, trivial⟩ trivial rfl rfl rfl) ?_
  refine post_next ?_
  refine aw_seq ?_
  refine aw_seq ?_
  refine aw_region ?_
  refine reg_cons (guard_no rfl) (op_assign rfl rfl rfl rfl) ?_
  refine reg_nil ?_
  refine post_imp (s' := ⟨20, [(0, some (.pv (.vs 7 (List.map eGClass a0)))), (1, some (.pv (.str a1))), (5, some (.pv (.int .i64 0)))], [], 0, [], [], 0, []⟩) (imp_sub [] rfl (by decide) rfl rfl ⟨by kernel_rfl, by kernel_rfl, by kernel_rfl, trivial⟩ trivial rfl rfl rfl) ?_
  refine post_next ?_
  obtain ⟨lr22, hF, hK23⟩ := bind_some hF
  refine aw_for ((((a0.length : Int) : Int) - (0)).toNat + 1) (fun s1 => ∃ q, lr22 = .next q ∧ s1 = ⟨20, [], [], 0, [], [], 0, []⟩) ?_ ?_
  · refine rnd_loop (α := Int) (fun q => ⟨20, [(0, some (.pv (.vs 7 (List.map eGClass a0)))), (1, some (.pv (.str a1))), (5, some (.pv (.int .i64 q)))], [], 0, [], [], 0, []⟩) (fun k q => ref13_Find_L1 a0 a1 k q = some lr22) 0 (imp_sub [] rfl (by decide) rfl rfl ⟨by kernel_rfl, by kernel_rfl, by kernel_rfl, trivial⟩ trivial rfl rfl rfl) hF (fun q h => by cases h) ?_
    clear hF
    rintro k x7 hF ih
    refine rnd_succ ?_
    refine aw_seq ?_
    refine aw_seq ?_
    refine aw_region ?_
    refine reg_cons (guard_no rfl) (op_move rfl rfl rfl rfl) ?_
    refine reg_cons (guard_no rfl) (op_move rfl rfl rfl rfl) ?_
    refine reg_cons (guard_no rfl) (op_len_vs (n := a0.length) rfl rfl (List.length_map ..) Try_slc_45 rfl rfl) ?_
    refine reg_cons (guard_no rfl) (op_int (k := .i64) (m := x7) (n := (a0.length : Int)) rfl rfl rfl rfl rfl rfl) ?_
    refine reg_nil ?_
    refine post_imp (s' := ⟨20, [(0, some (.pv (.vs 7 (List.map eGClass a0)))), (1, some (.pv (.str a1))), (5, some (.pv (.int .i64 x7))), (9, some (.pv (.bool (decide (x7 < (a0.length : Int))))))], [], 0, [], [], 0, []⟩) (imp_sub [] rfl (by decide) rfl rfl ⟨by kernel_rfl, by kernel_rfl, by kernel_rfl, by kernel_rfl, trivial⟩ trivial rfl rfl rfl) ?_
    refine post_next ?_
    rcases ite_some hF with ⟨hb15, hF⟩ | ⟨hb15, hF⟩
    · refine aw_cond_t rfl hb15 ?_
      refine aw_skip ?_
      refine post_next ?_
      refine aw_seq ?_
      refine aw_block ?_
      refine aw_seq ?_
      refine aw_region ?_
      refine reg_cons (guard_no rfl) (op_move rfl rfl rfl rfl) ?_
      refine reg_cons (guard_no rfl) (op_move rfl rfl rfl rfl) ?_
      obtain ⟨y18, h19, hF⟩ := bind_some hF
      refine reg_cons (guard_no rfl) (op_index_vs (k := .i64) rfl rfl rfl (idx_map eGClass h19) Try_slc_45 rfl rfl) ?_
      refine reg_cons (guard_no rfl) (op_field_vp rfl rfl Try_fld_94_0 rfl rfl) ?_
      refine reg_cons (guard_no rfl) (op_load_vp (p := .str y18.fName) rfl rfl rfl Try_one_9 rfl rfl) ?_
      refine reg_cons (guard_no rfl) (op_move rfl rfl rfl rfl) ?_
      refine reg_cons (guard_no rfl) (op_str rfl rfl rfl rfl rfl rfl) ?_
      refine reg_nil ?_
      refine post_imp (s' := ⟨20, [(0, some (.pv (.vs 7 (List.map eGClass a0)))), (1, some (.pv (.str a1))), (5, some (.pv (.int .i64 x7))), (18, some (.pv (.bool (y18.fName == a1))))], [], 0, [], [], 0, []⟩) (imp_sub [] rfl (by decide) rfl rfl ⟨by kernel_rfl, by kernel_rfl, by kernel_rfl, by kernel_rfl, trivial⟩ trivial rfl rfl rfl) ?_
      refine post_next ?_
      rcases ite_some hF with ⟨hb20, hF⟩ | ⟨hb20, hF⟩
      · refine aw_cond_t rfl hb20 ?_
        refine aw_seq ?_
        refine aw_region ?_
        refine reg_cons (guard_no rfl) (op_move rfl rfl rfl rfl) ?_
        refine reg_cons (guard_no rfl) (op_assign rfl rfl rfl rfl) ?_
        refine reg_nil ?_
        refine post_imp (s' := ⟨20, [(4, some (.pv (.int .i64 x7)))], [], 0, [], [], 0, []⟩) (imp_sub [] rfl (by decide) rfl rfl ⟨by kernel_rfl, trivial⟩ trivial rfl rfl rfl) ?_
        refine post_next ?_
        refine aw_ret ?_
        refine post_block_ret ?_
        refine post_then_ret ?_
        refine post_then_ret ?_
        refine post_lp_ret ?_
        obtain rfl := Option.some.inj hF
        have hF := elim_stop hK23
        refine post_then_ret ?_
        obtain rfl := Option.some.inj hF
        exact post_ret rfl rfl (.cons _ _ _ _ _ (.tmp _ _ rfl) (.p _) .nil) (.inl rfl)
      · refine aw_cond_f rfl hb20 ?_
        refine aw_skip ?_
        refine post_block_normal ?_
        refine post_next ?_
        refine aw_region ?_
        refine reg_cons (guard_no rfl) (op_move rfl rfl rfl rfl) ?_
        refine reg_cons (guard_no rfl) (op_int (k := .i64) (m := x7) (n := 1) rfl rfl rfl rfl rfl rfl) ?_
        refine reg_cons (guard_no rfl) (op_assign rfl rfl rfl rfl) ?_
        refine reg_nil ?_
        refine post_round ?_
        exact rnd_back (ih (w_i64 (x7 + 1)) hF) (imp_sub [] rfl (by decide) rfl rfl ⟨by kernel_rfl, by kernel_rfl, by kernel_rfl, trivial⟩ trivial rfl rfl rfl)
    · refine aw_cond_f rfl hb15 ?_
      refine aw_exit ?_
      refine post_then_exit ?_
      refine post_then_exit ?_
      obtain rfl := Option.some.inj hF
      exact post_lp_break _ ⟨_, rfl, rfl⟩ (imp_sub [] rfl (by decide) rfl rfl trivial trivial rfl rfl rfl)
  · rintro _ ⟨⟨⟩, rfl, rfl⟩
    have hF := elim_next hK23
    clear hK23
    refine post_next ?_
    refine aw_seq ?_
    refine aw_region ?_
    refine reg_cons (guard_no rfl) (op_assign rfl rfl rfl rfl) ?_
    refine reg_nil ?_
    refine post_imp (s' := ⟨20, [(4, some (.pv (.int .i64 (-1))))], [], 0, [], [], 0, []⟩) (imp_sub [] rfl (by decide) rfl rfl ⟨by kernel_rfl, trivial⟩ trivial rfl rfl rfl) ?_
    refine post_next ?_
    refine aw_ret ?_
    obtain rfl := Option.some.inj hF
    exact post_ret rfl rfl (.cons _ _ _ _ _ (.tmp _ _ rfl) (.p _) .nil) (.inl rfl)
theorem ref14_has_ok {a0 : List Int} {a1 : Int} {r : Bool} (hF : ref14_has a0 a1 = some r) : Abs.Fn Try.prog 70 [.vs 1 (List.map eI a0), .int .i64 a1] [.p (.bool r)] := by
  unfold ref14_has at hF
  refine fn_of_body (n := 18) Try.func70 rfl rfl rfl ?_
  intro w O
  refine aw_seq ?_
  refine aw_region ?_
  refine reg_cons (guard_no rfl) (op_assign rfl rfl rfl rfl) ?_
  refine reg_nil ?_
  refine post_imp (s' := ⟨18, [(0, some (.pv (.vs 1 (List.map eI a0)))), (1, some (.pv (.int .i64 a1)))], [], 0, [], [], 0, []⟩) (imp_sub [] rfl (by decide) rfl rfl ⟨by kernel_rfl, by kernel_rfl, trivial⟩ trivial rfl rfl rfl) ?_
  refine post_next ?_
  refine aw_seq ?_
  refine aw_seq ?_
  refine aw_region ?_
  refine reg_cons (guard_no rfl) (op_assign rfl rfl rfl rfl) ?_
  refine reg_nil ?_
  refine post_imp (s' := ⟨18, [(0, some (.pv (.vs 1 (List.map eI a0)))), (1, some (.pv (.int .i64 a1))), (5, some (.pv (.int .i64 0)))], [], 0, [], [], 0, []⟩) (imp_sub [] rfl (by decide) rfl rfl ⟨by kernel_rfl, by kernel_rfl, by kernel_rfl, trivial⟩ trivial rfl rfl rfl) ?_
  refine post_next ?_
  obtain ⟨lr22, hF, hK23⟩ := bind_some hF
  refine aw_for ((((a0.length : Int) : Int) - (0)).toNat + 1) (fun s1 => ∃ q, lr22 = .next q ∧ s1 = ⟨18, [], [], 0, [], [], 0, []⟩) ?_ ?_
  · refine rnd_loop (α := Int) (fun q => ⟨18, [(0, some (.pv (.vs 1 (List.map eI a0)))), (1, some (.pv (.int .i64 a1))), (5, some (.pv (.int .i64 q)))], [], 0, [], [], 0, []⟩) (fun k q => ref14_has_L1 a0 a1 k q = some lr22) 0 (imp_sub [] rfl (by decide) rfl rfl ⟨by kernel_rfl, by kernel_rfl, by kernel_rfl, trivial⟩ trivial rfl rfl rfl) hF (fun q h => by cases h) ?_
    clear hF
    rintro k x7 hF ih
    refine rnd_succ ?_
    refine aw_seq ?_
    refine aw_seq ?_
    refine aw_region ?_
    refine reg_cons (guard_no rfl) (op_move rfl rfl rfl rfl) ?_
    refine reg_cons (guard_no rfl) (op_move rfl rfl rfl rfl) ?_
    refine reg_cons (guard_no rfl) (op_len_vs (n := a0.length) rfl rfl (List.length_map ..) Try_slc_42 rfl rfl) ?_
    refine reg_cons (guard_no rfl) (op_int (k := .i64) (m := x7) (n := (a0.length : Int)) rfl rfl rfl rfl rfl rfl) ?_
    refine reg_nil ?_
    refine post_imp (s' := ⟨18, [(0, some (.pv (.vs 1 (List.map eI a0)))), (1, some (.pv (.int .i64 a1))), (5, some (.pv (.int .i64 x7))), (9, some (.pv (.bool (decide (x7 < (a0.length : Int))))))], [], 0, [], [], 0, []⟩) (imp_sub [] rfl (by decide) rfl rfl ⟨by kernel_rfl, by kernel_rfl, by kernel_rfl, by kernel_rfl, trivial⟩ trivial rfl rfl rfl) ?_
    refine post_next ?_
    rcases ite_some hF with ⟨hb15, hF⟩ | ⟨hb15, hF⟩
    · refine aw_cond_t rfl hb15 ?_
      refine aw_skip ?_
      refine post_next ?_
      refine aw_seq ?_
      refine aw_block ?_
      refine aw_seq ?_
      refine aw_region ?_
      refine reg_cons (guard_no rfl) (op_move rfl rfl rfl rfl) ?_
      refine reg_cons (guard_no rfl) (op_move rfl rfl rfl rfl) ?_
      obtain ⟨y18, h19, hF⟩ := bind_some hF
      refine reg_cons (guard_no rfl) (op_index_vs (k := .i64) rfl rfl rfl (idx_map eI h19) Try_slc_42 rfl rfl) ?_
      refine reg_cons (guard_no rfl) (op_load_vp (p := .int .i64 y18) rfl rfl rfl Try_one_3 rfl rfl) ?_
      refine reg_cons (guard_no rfl) (op_move rfl rfl rfl rfl) ?_
      refine reg_cons (guard_no rfl) (op_int (k := .i64) (m := y18) (n := a1) rfl rfl rfl rfl rfl rfl) ?_
      refine reg_nil ?_
      refine post_imp (s' := ⟨18, [(0, some (.pv (.vs 1 (List.map eI a0)))), (1, some (.pv (.int .i64 a1))), (5, some (.pv (.int .i64 x7))), (17, some (.pv (.bool (y18 == a1))))], [], 0, [], [], 0, []⟩) (imp_sub [] rfl (by decide) rfl rfl ⟨by kernel_rfl, by kernel_rfl, by kernel_rfl, by kernel_rfl, trivial⟩ trivial rfl rfl rfl) ?_
      refine post_next ?_
      rcases ite_some hF with ⟨hb20, hF⟩ | ⟨hb20, hF⟩
      · refine aw_cond_t rfl hb20 ?_
        refine aw_seq ?_
        refine aw_region ?_
        refine reg_cons (guard_no rfl) (op_assign rfl rfl rfl rfl) ?_
        refine reg_nil ?_
        refine post_imp (s' := ⟨18, [(4, some (.pv (.bool true)))], [], 0, [], [], 0, []⟩) (imp_sub [] rfl (by decide) rfl rfl ⟨by kernel_rfl, trivial⟩ trivial rfl rfl rfl) ?_
        refine post_next ?_
        refine aw_ret ?_
        refine post_block_ret ?_
        refine post_then_ret ?_
        refine post_then_ret ?_
        refine post_lp_ret ?_
        obtain rfl := Option.some.inj hF
        have hF := elim_stop hK23
        refine post_then_ret ?_
        obtain rfl := Option.some.inj hF
        exact post_ret rfl rfl (.cons _ _ _ _ _ (.tmp _ _ rfl) (.p _) .nil) (.inl rfl)
      · refine aw_cond_f rfl hb20 ?_
        refine aw_skip ?_
        refine post_block_normal ?_
        refine post_next ?_
        refine aw_region ?_
        refine reg_cons (guard_no rfl) (op_move rfl rfl rfl rfl) ?_
        refine reg_cons (guard_no rfl) (op_int (k := .i64) (m := x7) (n := 1) rfl rfl rfl rfl rfl rfl) ?_
        refine reg_cons (guard_no rfl) (op_assign rfl rfl rfl rfl) ?_
        refine reg_nil ?_
        refine post_round ?_
        exact rnd_back (ih (w_i64 (x7 + 1)) hF) (imp_sub [] rfl (by decide) rfl rfl ⟨by kernel_rfl, by kernel_rfl, by kernel_rfl, trivial⟩ trivial rfl rfl rfl)
    · refine aw_cond_f rfl hb15 ?_
      refine aw_exit ?_
      refine post_then_exit ?_
      refine post_then_exit ?_
      obtain rfl := Option.some.inj hF
      exact post_lp_break _ ⟨_, rfl, rfl⟩ (imp_sub [] rfl (by decide) rfl rfl trivial trivial rfl rfl rfl)
  · rintro _ ⟨⟨⟩, rfl, rfl⟩
    have hF := elim_next hK23
    clear hK23
    refine post_next ?_
    refine aw_seq ?_
    refine aw_region ?_
    refine reg_cons (guard_no rfl) (op_assign rfl rfl rfl rfl) ?_
    refine reg_nil ?_
    refine post_imp (s' := ⟨18, [(4, some (.pv (.bool false)))], [], 0, [], [], 0, []⟩) (imp_sub [] rfl (by decide) rfl rfl ⟨by kernel_rfl, trivial⟩ trivial rfl rfl rfl) ?_
    refine post_next ?_
    refine aw_ret ?_
    obtain rfl := Option.some.inj hF
    exact post_ret rfl rfl (.cons _ _ _ _ _ (.tmp _ _ rfl) (.p _) .nil) (.inl rfl)
theorem ref14_Chain_ok {a0 : List GClass} {a1 : List UInt8} {r : (List Int)} (hF : ref14_Chain a0 a1 = some r) : Abs.Fn Try.prog 41 [.vs 7 (List.map eGClass a0), .str a1] [.own 3 1 (List.map eI r)] := by
  unfold ref14_Chain at hF
  refine fn_of_body (n := 37) Try.func41 rfl rfl rfl ?_
  intro w O
  refine aw_seq ?_
  refine aw_region ?_
  refine reg_cons (guard_no rfl) (op_assign rfl rfl rfl rfl) ?_
  refine reg_nil ?_
  refine post_imp (s' := ⟨37, [(0, some (.pv (.vs 7 (List.map eGClass a0)))), (1, some (.pv (.str a1)))], [], 0, [], [], 0, []⟩) (imp_sub [] rfl (by decide) rfl rfl ⟨by kernel_rfl, by kernel_rfl, trivial⟩ trivial rfl rfl rfl) ?_
  refine post_next ?_
  refine aw_seq ?_
  refine aw_region ?_
  refine reg_cons (guard_no rfl) (op_assign rfl rfl rfl rfl) ?_
  refine reg_imp (imp_nil_own 5 3 1 0 rfl rfl) ?_
  refine reg_nil ?_
  refine post_imp (s' := ⟨37, [(0, some (.pv (.vs 7 (List.map eGClass a0)))), (1, some (.pv (.str a1))), (5, some (.ls 0))], [(0, some (.row 3 1 (List.map eI [])))], 1, [], [], 0, []⟩) (imp_sub [0] rfl (by decide) rfl rfl ⟨by kernel_rfl, by kernel_rfl, by kernel_rfl, trivial⟩ ⟨by kernel_rfl, trivial⟩ rfl rfl rfl) ?_
  refine post_next ?_
  refine aw_seq ?_
  refine aw_region ?_
  refine reg_cons (guard_no rfl) (op_move rfl rfl rfl rfl) ?_
  refine reg_cons (guard_no rfl) (op_move rfl rfl rfl rfl) ?_
  obtain ⟨y3, h4, hF⟩ := bind_some hF
  refine reg_cons (guard_no rfl) (op_call 1 rfl (caps := []) (args := [.vs 7 (List.map eGClass a0), .str a1]) (rs := [.p (.int .i64 y3)]) rfl rfl rfl Try_cal_69 (ref13_Find_ok h4) rfl rfl rfl) ?_
  refine reg_cons (guard_no rfl) (op_assign rfl rfl rfl rfl) ?_
  refine reg_nil ?_
  refine post_imp (s' := ⟨37, [(0, some (.pv (.vs 7 (List.map eGClass a0)))), (5, some (.ls 0)), (6, some (.pv (.int .i64 y3)))], [(0, some (.row 3 1 (List.map eI [])))], 1, [], [], 0, []⟩) (imp_sub [0] rfl (by decide) rfl rfl ⟨by kernel_rfl, by kernel_rfl, by kernel_rfl, trivial⟩ ⟨by kernel_rfl, trivial⟩ rfl rfl rfl) ?_
  refine post_next ?_
  refine aw_seq ?_
  obtain ⟨lr72, hF, hK73⟩ := bind_some hF
  refine aw_for (a0.length + 2) (fun s1 => ∃ q, lr72 = .next q ∧ s1 = ⟨37, [(5, some (.ls 0))], [(0, some (.row 3 1 (List.map eI q)))], 1, [], [], 0, []⟩) ?_ ?_
  · refine rnd_loop (α := (List Int) × Int) (fun q => ⟨37, [(0, some (.pv (.vs 7 (List.map eGClass a0)))), (5, some (.ls 0)), (6, some (.pv (.int .i64 q.2)))], [(0, some (.row 3 1 (List.map eI q.1)))], 1, [], [], 0, []⟩) (fun k q => ref14_Chain_L1 a0 k q.1 q.2 = some lr72) ([], y3) (imp_sub [0] rfl (by decide) rfl rfl ⟨by kernel_rfl, by kernel_rfl, by kernel_rfl, trivial⟩ ⟨by kernel_rfl, trivial⟩ rfl rfl rfl) hF (fun q h => by cases h) ?_
    clear hF
    rintro k ⟨x25, x26⟩ hF ih
    refine rnd_succ ?_
    refine aw_seq ?_
    refine aw_seq ?_
    obtain ⟨x52, hF, hK54⟩ := bind_some hF
    refine aw_cut (fun s1 => s1 = ⟨37, [(0, some (.pv (.vs 7 (List.map eGClass a0)))), (5, some (.ls 0)), (6, some (.pv (.int .i64 x26))), (17, some (.pv (.bool x52)))], [(0, some (.row 3 1 (List.map eI x25)))], 1, [], [], 0, []⟩) ?_ ?_
    · refine aw_region ?_
      refine reg_cons (guard_no rfl) (op_move rfl rfl rfl rfl) ?_
      refine reg_cons (guard_no rfl) (op_int (k := .i64) (m := x26) (n := 0) rfl rfl rfl rfl rfl rfl) ?_
      refine reg_cons (guard_no rfl) (op_move rfl rfl rfl rfl) ?_
      rcases ite_some hF with ⟨hb49, hF⟩ | ⟨hb49, hF⟩
      · refine reg_cons (guard_on rfl rfl rfl rfl hb49) (op_move rfl rfl rfl rfl) ?_
        refine reg_cons (guard_on rfl rfl rfl rfl hb49) (op_move rfl rfl rfl rfl) ?_
        obtain ⟨y50, h51, hF⟩ := bind_some hF
        refine reg_cons (guard_on rfl rfl rfl rfl hb49) (op_callB 1 rfl (caps := []) (args := [.vs 1 (List.map eI x25), .int .i64 x26]) [(0, some (.row 3 1 (List.map eI x25)))] rfl rfl rfl (FzH.spec ⟨rfl, trivial⟩) rfl rfl Try_cal_70 (ref14_has_ok h51) rfl rfl rfl) ?_
        refine reg_cons (guard_on rfl rfl rfl rfl hb49) (op_not rfl rfl rfl rfl) ?_
        refine reg_cons (guard_no rfl) (op_pick_t rfl rfl hb49 rfl rfl rfl) ?_
        refine reg_nil ?_
        cases hF
        exact post_cut _ rfl (imp_sub [0] rfl (by decide) rfl rfl ⟨by kernel_rfl, by kernel_rfl, by kernel_rfl, by kernel_rfl, trivial⟩ ⟨by kernel_rfl, trivial⟩ rfl rfl rfl)
      · refine reg_off (guard_off rfl rfl rfl rfl hb49) rfl rfl ?_
        refine reg_off (guard_off rfl rfl rfl rfl hb49) rfl rfl ?_
        refine reg_off (guard_off rfl rfl rfl rfl hb49) rfl rfl ?_
        refine reg_off (guard_off rfl rfl rfl rfl hb49) rfl rfl ?_
        refine reg_cons (guard_no rfl) (op_pick_f rfl rfl hb49 rfl rfl rfl) ?_
        refine reg_nil ?_
        cases hF
        exact post_cut _ rfl (imp_sub [0] rfl (by decide) rfl rfl ⟨by kernel_rfl, by kernel_rfl, by kernel_rfl, by kernel_rfl, trivial⟩ ⟨by kernel_rfl, trivial⟩ rfl rfl rfl)
    · rintro _ rfl
      have hF := hK54
      clear hK54
      refine post_next ?_
      rcases ite_some hF with ⟨hb55, hF⟩ | ⟨hb55, hF⟩
      · refine aw_cond_t rfl hb55 ?_
        refine aw_skip ?_
        refine post_next ?_
        refine aw_block ?_
        refine aw_seq ?_
        refine aw_region ?_
        refine reg_cons (guard_no rfl) (op_move rfl rfl rfl rfl) ?_
        refine reg_cons (guard_no rfl) (op_move rfl rfl rfl rfl) ?_
        refine reg_cons (guard_no rfl) (op_lit (rows := List.map eI ([x26] : List Int)) (zs := [.int .i64 0]) rfl rfl Try_slc_42 Try_zer_3 (by exact ⟨rfl, trivial⟩) rfl rfl rfl rfl rfl rfl rfl rfl) ?_
        obtain ⟨u58, h59, hF⟩ := bind_some hF
        refine reg_cons (guard_no rfl) (op_append 1 rfl rfl rfl rfl rfl Try_slc_42 Try_elm_3 Try_zer_3 rfl rfl rfl (room_map (f := eI) (g := eI) h59) (List.map_append (f := eI) (l₁ := x25) (l₂ := [x26])).symm rfl rfl) ?_
        refine reg_cons (guard_no rfl) (op_assign rfl rfl rfl rfl) ?_
        refine reg_nil ?_
        refine post_imp (s' := ⟨37, [(0, some (.pv (.vs 7 (List.map eGClass a0)))), (5, some (.ls 0)), (6, some (.pv (.int .i64 x26)))], [(0, some (.row 3 1 (List.map eI (x25 ++ [x26]))))], 1, [], [], 0, []⟩) (imp_sub [1] rfl (by decide) rfl rfl ⟨by kernel_rfl, by kernel_rfl, by kernel_rfl, trivial⟩ ⟨by kernel_rfl, trivial⟩ rfl rfl rfl) ?_
        refine post_next ?_
        refine aw_seq ?_
        refine aw_seq ?_
        refine aw_region ?_
        refine reg_cons (guard_no rfl) (op_move rfl rfl rfl rfl) ?_
        refine reg_cons (guard_no rfl) (op_move rfl rfl rfl rfl) ?_
        obtain ⟨y62, h63, hF⟩ := bind_some hF
        refine reg_cons (guard_no rfl) (op_index_vs (k := .i64) rfl rfl rfl (idx_map eGClass h63) Try_slc_45 rfl rfl) ?_
        refine reg_cons (guard_no rfl) (op_field_vp rfl rfl Try_fld_94_2 rfl rfl) ?_
        refine reg_cons (guard_no rfl) (op_load_vp (p := .str y62.fSuper) rfl rfl rfl Try_one_9 rfl rfl) ?_
        refine reg_cons (guard_no rfl) (op_str rfl rfl rfl rfl rfl rfl) ?_
        refine reg_nil ?_
        refine post_imp (s' := ⟨37, [(0, some (.pv (.vs 7 (List.map eGClass a0)))), (5, some (.ls 0)), (6, some (.pv (.int .i64 x26))), (27, some (.pv (.bool (y62.fSuper == []))))], [(0, some (.row 3 1 (List.map eI (x25 ++ [x26]))))], 1, [], [], 0, []⟩) (imp_sub [0] rfl (by decide) rfl rfl ⟨by kernel_rfl, by kernel_rfl, by kernel_rfl, by kernel_rfl, trivial⟩ ⟨by kernel_rfl, trivial⟩ rfl rfl rfl) ?_
        refine post_next ?_
        rcases ite_some hF with ⟨hb64, hF⟩ | ⟨hb64, hF⟩
        · refine aw_cond_t rfl hb64 ?_
          refine aw_seq ?_
          refine aw_region ?_
          refine reg_cons (guard_no rfl) (op_move rfl rfl rfl rfl) ?_
          refine reg_cons (guard_no rfl) (op_assign rfl rfl rfl rfl) ?_
          refine reg_nil ?_
          refine post_imp (s' := ⟨37, [(4, some (.ls 0))], [(0, some (.row 3 1 (List.map eI (x25 ++ [x26]))))], 1, [], [], 0, []⟩) (imp_sub [0] rfl (by decide) rfl rfl ⟨by kernel_rfl, trivial⟩ ⟨by kernel_rfl, trivial⟩ rfl rfl rfl) ?_
          refine post_next ?_
          refine aw_ret ?_
          refine post_then_ret ?_
          refine post_block_ret ?_
          refine post_then_ret ?_
          refine post_lp_ret ?_
          obtain rfl := Option.some.inj hF
          have hF := elim_stop hK73
          refine post_then_ret ?_
          obtain rfl := Option.some.inj hF
          exact post_ret rfl rfl (.cons _ _ _ _ _ (.tmp _ _ rfl) (.own _ _ _ _ rfl nolent3) .nil) (.inl rfl)
        · refine aw_cond_f rfl hb64 ?_
          refine aw_skip ?_
          refine post_next ?_
          refine aw_region ?_
          refine reg_cons (guard_no rfl) (op_move rfl rfl rfl rfl) ?_
          refine reg_cons (guard_no rfl) (op_move rfl rfl rfl rfl) ?_
          refine reg_cons (guard_no rfl) (op_move rfl rfl rfl rfl) ?_
          obtain ⟨y65, h66, hF⟩ := bind_some hF
          refine reg_cons (guard_no rfl) (op_index_vs (k := .i64) rfl rfl rfl (idx_map eGClass h66) Try_slc_45 rfl rfl) ?_
          refine reg_cons (guard_no rfl) (op_field_vp rfl rfl Try_fld_94_2 rfl rfl) ?_
          refine reg_cons (guard_no rfl) (op_load_vp (p := .str y65.fSuper) rfl rfl rfl Try_one_9 rfl rfl) ?_
          obtain ⟨y67, h68, hF⟩ := bind_some hF
          refine reg_cons (guard_no rfl) (op_call 1 rfl (caps := []) (args := [.vs 7 (List.map eGClass a0), .str y65.fSuper]) (rs := [.p (.int .i64 y67)]) rfl rfl rfl Try_cal_69 (ref13_Find_ok h68) rfl rfl rfl) ?_
          refine reg_cons (guard_no rfl) (op_assign rfl rfl rfl rfl) ?_
          refine reg_nil ?_
          refine post_imp (s' := ⟨37, [(0, some (.pv (.vs 7 (List.map eGClass a0)))), (5, some (.ls 0)), (6, some (.pv (.int .i64 y67)))], [(0, some (.row 3 1 (List.map eI (x25 ++ [x26]))))], 1, [], [], 0, []⟩) (imp_sub [0] rfl (by decide) rfl rfl ⟨by kernel_rfl, by kernel_rfl, by kernel_rfl, trivial⟩ ⟨by kernel_rfl, trivial⟩ rfl rfl rfl) ?_
          refine post_block_normal ?_
          refine post_round ?_
          exact rnd_back (ih ((x25 ++ [x26]), y67) hF) (imp_sub [0] rfl (by decide) rfl rfl ⟨by kernel_rfl, by kernel_rfl, by kernel_rfl, trivial⟩ ⟨by kernel_rfl, trivial⟩ rfl rfl rfl)
      · refine aw_cond_f rfl hb55 ?_
        refine aw_exit ?_
        refine post_then_exit ?_
        refine post_then_exit ?_
        obtain rfl := Option.some.inj hF
        exact post_lp_break _ ⟨_, rfl, rfl⟩ (imp_sub [0] rfl (by decide) rfl rfl ⟨by kernel_rfl, trivial⟩ ⟨by kernel_rfl, trivial⟩ rfl rfl rfl)
  · rintro _ ⟨x71, rfl, rfl⟩
    have hF := elim_next hK73
    clear hK73
    refine post_next ?_
    refine aw_seq ?_
    refine aw_region ?_
    refine reg_cons (guard_no rfl) (op_move rfl rfl rfl rfl) ?_
    refine reg_cons (guard_no rfl) (op_assign rfl rfl rfl rfl) ?_
    refine reg_nil ?_
    refine post_imp (s' := ⟨37, [(4, some (.ls 0))], [(0, some (.row 3 1 (List.map eI x71)))], 1, [], [], 0, []⟩) (imp_sub [0] rfl (by decide) rfl rfl ⟨by kernel_rfl, trivial⟩ ⟨by kernel_rfl, trivial⟩ rfl rfl rfl) ?_
    refine post_next ?_
    refine aw_ret ?_
    obtain rfl := Option.some.inj hF
    exact post_ret rfl rfl (.cons _ _ _ _ _ (.tmp _ _ rfl) (.own _ _ _ _ rfl nolent3) .nil) (.inl rfl)
theorem ref16_All_ok {a0 : List GClass} {a1 : List UInt8} {r : (List GSlot_ref16)} (hF : ref16_All a0 a1 = some r) : Abs.Fn Try.prog 51 [.vs 7 (List.map eGClass a0), .str a1] [.own 82 14 (List.map eGSlot_ref16 r)] := by
  unfold ref16_All at hF
  refine fn_of_body (n := 46) Try.func51 rfl rfl rfl ?_
  intro w O
  refine aw_seq ?_
  refine aw_region ?_
  refine reg_cons (guard_no rfl) (op_assign rfl rfl rfl rfl) ?_
  refine reg_nil ?_
  refine post_imp (s' := ⟨46, [(0, some (.pv (.vs 7 (List.map eGClass a0)))), (1, some (.pv (.str a1)))], [], 0, [], [], 0, []⟩) (imp_sub [] rfl (by decide) rfl rfl ⟨by kernel_rfl, by kernel_rfl, trivial⟩ trivial rfl rfl rfl) ?_
  refine post_next ?_
  refine aw_seq ?_
  refine aw_region ?_
  refine reg_cons (guard_no rfl) (op_move rfl rfl rfl rfl) ?_
  refine reg_cons (guard_no rfl) (op_move rfl rfl rfl rfl) ?_
  obtain ⟨y3, h4, hF⟩ := bind_some hF
  refine reg_cons (guard_no rfl) (op_call 0 rfl (caps := []) (args := [.vs 7 (List.map eGClass a0), .str a1]) (rs := [.p (.vs 1 (List.map eI y3))]) rfl rfl rfl Try_cal_41 (Fn.frozen (ref14_Chain_ok h4)) rfl rfl rfl) ?_
  refine reg_cons (guard_no rfl) (op_assign rfl rfl rfl rfl) ?_
  refine reg_nil ?_
  refine post_imp (s' := ⟨46, [(0, some (.pv (.vs 7 (List.map eGClass a0)))), (5, some (.pv (.vs 1 (List.map eI y3))))], [], 0, [], [], 0, []⟩) (imp_sub [] rfl (by decide) rfl rfl ⟨by kernel_rfl, by kernel_rfl, trivial⟩ trivial rfl rfl rfl) ?_
  refine post_next ?_
  refine aw_seq ?_
  refine aw_region ?_
  refine reg_cons (guard_no rfl) (op_assign rfl rfl rfl rfl) ?_
  refine reg_imp (imp_nil_own 6 82 14 0 rfl rfl) ?_
  refine reg_nil ?_
  refine post_imp (s' := ⟨46, [(0, some (.pv (.vs 7 (List.map eGClass a0)))), (5, some (.pv (.vs 1 (List.map eI y3)))), (6, some (.ls 0))], [(0, some (.row 82 14 (List.map eGSlot_ref16 [])))], 1, [], [], 0, []⟩) (imp_sub [0] rfl (by decide) rfl rfl ⟨by kernel_rfl, by kernel_rfl, by kernel_rfl, trivial⟩ ⟨by kernel_rfl, trivial⟩ rfl rfl rfl) ?_
  refine post_next ?_
  refine aw_seq ?_
  refine aw_seq ?_
  refine aw_region ?_
  refine reg_cons (guard_no rfl) (op_move rfl rfl rfl rfl) ?_
  refine reg_cons (guard_no rfl) (op_len_vs (n := y3.length) rfl rfl (List.length_map ..) Try_slc_42 rfl rfl) ?_
  refine reg_cons (guard_no rfl) (op_int (k := .i64) (m := (y3.length : Int)) (n := 1) rfl rfl rfl rfl rfl rfl) ?_
  refine reg_cons (guard_no rfl) (op_assign rfl rfl rfl rfl) ?_
  refine reg_nil ?_
  refine post_imp (s' := ⟨46, [(0, some (.pv (.vs 7 (List.map eGClass a0)))), (5, some (.pv (.vs 1 (List.map eI y3)))), (6, some (.ls 0)), (7, some (.pv (.int .i64 (w_i64 ((y3.length : Int) - 1)))))], [(0, some (.row 82 14 (List.map eGSlot_ref16 [])))], 1, [], [], 0, []⟩) (imp_sub [0] rfl (by decide) rfl rfl ⟨by kernel_rfl, by kernel_rfl, by kernel_rfl, by kernel_rfl, trivial⟩ ⟨by kernel_rfl, trivial⟩ rfl rfl rfl) ?_
  refine post_next ?_
  obtain ⟨x143, hF, hK144⟩ := bind_some hF
  refine aw_for ((((w_i64 ((y3.length : Int) - 1)) : Int) - (0)).toNat + 2) (fun s1 => s1 = ⟨46, [(6, some (.ls 0))], [(0, some (.row 82 14 (List.map eGSlot_ref16 x143)))], 1, [], [], 0, []⟩) ?_ ?_
  · refine rnd_loop (α := (List GSlot_ref16) × Int) (fun q => ⟨46, [(0, some (.pv (.vs 7 (List.map eGClass a0)))), (5, some (.pv (.vs 1 (List.map eI y3)))), (6, some (.ls 0)), (7, some (.pv (.int .i64 q.2)))], [(0, some (.row 82 14 (List.map eGSlot_ref16 q.1)))], 1, [], [], 0, []⟩) (fun k q => ref16_All_L1 a0 y3 k q.1 q.2 = some x143) ([], w_i64 ((y3.length : Int) - 1)) (imp_sub [0] rfl (by decide) rfl rfl ⟨by kernel_rfl, by kernel_rfl, by kernel_rfl, by kernel_rfl, trivial⟩ ⟨by kernel_rfl, trivial⟩ rfl rfl rfl) hF (fun q h => by cases h) ?_
    clear hF
    rintro k ⟨x49, x50⟩ hF ih
    refine rnd_succ ?_
    refine aw_seq ?_
    refine aw_seq ?_
    refine aw_region ?_
    refine reg_cons (guard_no rfl) (op_move rfl rfl rfl rfl) ?_
    refine reg_cons (guard_no rfl) (op_int (k := .i64) (m := x50) (n := 0) rfl rfl rfl rfl rfl rfl) ?_
    refine reg_nil ?_
    refine post_imp (s' := ⟨46, [(0, some (.pv (.vs 7 (List.map eGClass a0)))), (5, some (.pv (.vs 1 (List.map eI y3)))), (6, some (.ls 0)), (7, some (.pv (.int .i64 x50))), (17, some (.pv (.bool (decide (x50 ≥ 0)))))], [(0, some (.row 82 14 (List.map eGSlot_ref16 x49)))], 1, [], [], 0, []⟩) (imp_sub [0] rfl (by decide) rfl rfl ⟨by kernel_rfl, by kernel_rfl, by kernel_rfl, by kernel_rfl, by kernel_rfl, trivial⟩ ⟨by kernel_rfl, trivial⟩ rfl rfl rfl) ?_
    refine post_next ?_
    rcases ite_some hF with ⟨hb97, hF⟩ | ⟨hb97, hF⟩
    · refine aw_cond_t rfl hb97 ?_
      refine aw_skip ?_
      refine post_next ?_
      refine aw_seq ?_
      refine aw_block ?_
      refine aw_seq ?_
      refine aw_region ?_
      refine reg_cons (guard_no rfl) (op_move rfl rfl rfl rfl) ?_
      refine reg_cons (guard_no rfl) (op_move rfl rfl rfl rfl) ?_
      refine reg_cons (guard_no rfl) (op_move rfl rfl rfl rfl) ?_
      obtain ⟨y102, h103, hF⟩ := bind_some hF
      refine reg_cons (guard_no rfl) (op_index_vs (k := .i64) rfl rfl rfl (idx_map eI h103) Try_slc_42 rfl rfl) ?_
      refine reg_cons (guard_no rfl) (op_load_vp (p := .int .i64 y102) rfl rfl rfl Try_one_3 rfl rfl) ?_
      obtain ⟨y104, h105, hF⟩ := bind_some hF
      refine reg_cons (guard_no rfl) (op_index_vs (k := .i64) rfl rfl rfl (idx_map eGClass h105) Try_slc_45 rfl rfl) ?_
      refine reg_cons (guard_no rfl) (op_load_vp_agg (ps := eGClass y104) rfl rfl rfl rfl Try_agg_94 rfl rfl) ?_
      refine reg_cons (guard_no rfl) (op_alloc 1 rfl (ps := [.str (({ fName := [], fParams := [], fSuper := [], fAbove := [], fFields := [], fMethods := [], fAt := 0 } : GClass).fName), .vs 1 (List.map eS (({ fName := [], fParams := [], fSuper := [], fAbove := [], fFields := [], fMethods := [], fAt := 0 } : GClass).fParams)), .str (({ fName := [], fParams := [], fSuper := [], fAbove := [], fFields := [], fMethods := [], fAt := 0 } : GClass).fSuper), .vs 2 (List.map eGOwner (({ fName := [], fParams := [], fSuper := [], fAbove := [], fFields := [], fMethods := [], fAt := 0 } : GClass).fAbove)), .vs 13 (List.map eGVar (({ fName := [], fParams := [], fSuper := [], fAbove := [], fFields := [], fMethods := [], fAt := 0 } : GClass).fFields)), .vs 17 (List.map eGMethod (({ fName := [], fParams := [], fSuper := [], fAbove := [], fFields := [], fMethods := [], fAt := 0 } : GClass).fMethods)), .int .i64 (({ fName := [], fParams := [], fSuper := [], fAbove := [], fFields := [], fMethods := [], fAt := 0 } : GClass).fAt)]) rfl Try_zer_94 (by exact ⟨rfl, trivial, rfl, trivial, trivial, trivial, rfl, trivial⟩) rfl rfl) ?_
      refine reg_cons (guard_no rfl) (op_store_lp (n := 7) rfl rfl rfl rfl rfl (or_agg Try_agg_94) (by rw [Try_non_94]; rfl) rfl rfl rfl) ?_
      refine reg_nil ?_
      refine post_imp (s' := ⟨46, [(0, some (.pv (.vs 7 (List.map eGClass a0)))), (5, some (.pv (.vs 1 (List.map eI y3)))), (6, some (.ls 0)), (7, some (.pv (.int .i64 x50))), (8, some (.lp 1 0))], [(0, some (.row 82 14 (List.map eGSlot_ref16 x49))), (1, some (.box 94 [.pv (.str y104.fName), .pv (.vs 1 (List.map eS y104.fParams)), .pv (.str y104.fSuper), .pv (.vs 2 (List.map eGOwner y104.fAbove)), .pv (.vs 13 (List.map eGVar y104.fFields)), .pv (.vs 17 (List.map eGMethod y104.fMethods)), .pv (.int .i64 y104.fAt)]))], 2, [], [], 0, []⟩) (imp_sub [0, 1] rfl (by decide) rfl rfl ⟨by kernel_rfl, by kernel_rfl, by kernel_rfl, by kernel_rfl, by kernel_rfl, trivial⟩ ⟨by kernel_rfl, by kernel_rfl, trivial⟩ rfl rfl rfl) ?_
      refine post_next ?_
      refine aw_seq ?_
      refine aw_region ?_
      refine reg_cons (guard_no rfl) (op_assign rfl rfl rfl rfl) ?_
      refine reg_nil ?_
      refine post_imp (s' := ⟨46, [(0, some (.pv (.vs 7 (List.map eGClass a0)))), (5, some (.pv (.vs 1 (List.map eI y3)))), (6, some (.ls 0)), (7, some (.pv (.int .i64 x50))), (8, some (.lp 1 0)), (9, some (.pv (.int .i64 0)))], [(0, some (.row 82 14 (List.map eGSlot_ref16 x49))), (1, some (.box 94 [.pv (.str y104.fName), .pv (.vs 1 (List.map eS y104.fParams)), .pv (.str y104.fSuper), .pv (.vs 2 (List.map eGOwner y104.fAbove)), .pv (.vs 13 (List.map eGVar y104.fFields)), .pv (.vs 17 (List.map eGMethod y104.fMethods)), .pv (.int .i64 y104.fAt)]))], 2, [], [], 0, []⟩) (imp_sub [0, 1] rfl (by decide) rfl rfl ⟨by kernel_rfl, by kernel_rfl, by kernel_rfl, by kernel_rfl, by kernel_rfl, by kernel_rfl, trivial⟩ ⟨by kernel_rfl, by kernel_rfl, trivial⟩ rfl rfl rfl) ?_
      refine post_next ?_
      obtain ⟨x139, hF, hK140⟩ := bind_some hF
      refine aw_for ((((y104.fFields.length : Int) : Int) - (0)).toNat + 1) (fun s1 => s1 = ⟨46, [(0, some (.pv (.vs 7 (List.map eGClass a0)))), (5, some (.pv (.vs 1 (List.map eI y3)))), (6, some (.ls 0)), (7, some (.pv (.int .i64 x50)))], [(0, some (.row 82 14 (List.map eGSlot_ref16 x139)))], 1, [], [], 0, []⟩) ?_ ?_
      · refine rnd_loop (α := (List GSlot_ref16) × Int) (fun q => ⟨46, [(0, some (.pv (.vs 7 (List.map eGClass a0)))), (5, some (.pv (.vs 1 (List.map eI y3)))), (6, some (.ls 0)), (7, some (.pv (.int .i64 x50))), (8, some (.lp 1 0)), (9, some (.pv (.int .i64 q.2)))], [(0, some (.row 82 14 (List.map eGSlot_ref16 q.1))), (1, some (.box 94 [.pv (.str y104.fName), .pv (.vs 1 (List.map eS y104.fParams)), .pv (.str y104.fSuper), .pv (.vs 2 (List.map eGOwner y104.fAbove)), .pv (.vs 13 (List.map eGVar y104.fFields)), .pv (.vs 17 (List.map eGMethod y104.fMethods)), .pv (.int .i64 y104.fAt)]))], 2, [], [], 0, []⟩) (fun k q => ref16_All_L2 y104 k q.1 q.2 = some x139) (x49, 0) (imp_sub [0, 1] rfl (by decide) rfl rfl ⟨by kernel_rfl, by kernel_rfl, by kernel_rfl, by kernel_rfl, by kernel_rfl, by kernel_rfl, trivial⟩ ⟨by kernel_rfl, by kernel_rfl, trivial⟩ rfl rfl rfl) hF (fun q h => by cases h) ?_
        clear hF
        rintro k ⟨x115, x116⟩ hF ih
        refine rnd_succ ?_
        refine aw_seq ?_
        refine aw_seq ?_
        refine aw_region ?_
        refine reg_cons (guard_no rfl) (op_move rfl rfl rfl rfl) ?_
        refine reg_cons (guard_no rfl) (op_field_lp rfl rfl Try_fld_94_4 rfl rfl) ?_
        refine reg_cons (guard_no rfl) (op_load_lp (v := .pv (.vs 13 (List.map eGVar y104.fFields))) rfl rfl rfl rfl Try_one_91 rfl rfl) ?_
        refine reg_cons (guard_no rfl) (op_len_vs (n := y104.fFields.length) rfl rfl (List.length_map ..) Try_slc_91 rfl rfl) ?_
        refine reg_cons (guard_no rfl) (op_int (k := .i64) (m := x116) (n := (y104.fFields.length : Int)) rfl rfl rfl rfl rfl rfl) ?_
        refine reg_nil ?_
        refine post_imp (s' := ⟨46, [(0, some (.pv (.vs 7 (List.map eGClass a0)))), (5, some (.pv (.vs 1 (List.map eI y3)))), (6, some (.ls 0)), (7, some (.pv (.int .i64 x50))), (8, some (.lp 1 0)), (9, some (.pv (.int .i64 x116))), (31, some (.pv (.bool (decide (x116 < (y104.fFields.length : Int))))))], [(0, some (.row 82 14 (List.map eGSlot_ref16 x115))), (1, some (.box 94 [.pv (.str y104.fName), .pv (.vs 1 (List.map eS y104.fParams)), .pv (.str y104.fSuper), .pv (.vs 2 (List.map eGOwner y104.fAbove)), .pv (.vs 13 (List.map eGVar y104.fFields)), .pv (.vs 17 (List.map eGMethod y104.fMethods)), .pv (.int .i64 y104.fAt)]))], 2, [], [], 0, []⟩) (imp_sub [0, 1] rfl (by decide) rfl rfl ⟨by kernel_rfl, by kernel_rfl, by kernel_rfl, by kernel_rfl, by kernel_rfl, by kernel_rfl, by kernel_rfl, trivial⟩ ⟨by kernel_rfl, by kernel_rfl, trivial⟩ rfl rfl rfl) ?_
        refine post_next ?_
        rcases ite_some hF with ⟨hb128, hF⟩ | ⟨hb128, hF⟩
        · refine aw_cond_t rfl hb128 ?_
          refine aw_skip ?_
          refine post_next ?_
          refine aw_seq ?_
          refine aw_block ?_
          obtain ⟨y133, h134, hF⟩ := bind_some hF
          obtain ⟨u135, h136, hF⟩ := bind_some hF
          refine aw_imp (imp_names 1) ?_
          refine aw_drawn ({ need := [(6, .ls 0)], dst := some 34, val := some (.ls 0) } :: { need := [(8, .lp 1 0)], dst := some 35, val := some (.lp 1 0) } :: { need := [(35, .lp 1 0)], hneed := [(1, .box 94 [.pv (.str y104.fName), .pv (.vs 1 (List.map eS y104.fParams)), .pv (.str y104.fSuper), .pv (.vs 2 (List.map eGOwner y104.fAbove)), .pv (.vs 13 (List.map eGVar y104.fFields)), .pv (.vs 17 (List.map eGMethod y104.fMethods)), .pv (.int .i64 y104.fAt)])], dst := some 36, val := some (.pv (.str y104.fName)) } :: { need := [(8, .lp 1 0)], dst := some 37, val := some (.lp 1 4) } :: { need := [(37, .lp 1 4)], hneed := [(1, .box 94 [.pv (.str y104.fName), .pv (.vs 1 (List.map eS y104.fParams)), .pv (.str y104.fSuper), .pv (.vs 2 (List.map eGOwner y104.fAbove)), .pv (.vs 13 (List.map eGVar y104.fFields)), .pv (.vs 17 (List.map eGMethod y104.fMethods)), .pv (.int .i64 y104.fAt)])], dst := some 38, val := some (.pv (.vs 13 (List.map eGVar y104.fFields))) } :: { need := [(9, .pv (.int .i64 x116))], dst := some 39, val := some (.pv (.int .i64 x116)) } :: { need := [(38, .pv (.vs 13 (List.map eGVar y104.fFields))), (39, .pv (.int .i64 x116))], dst := some 40, val := some (.pv (.vp (eGVar y133))) } :: { need := [(40, .pv (.vp (eGVar y133)))], dst := some 41, val := some (.pv (.agg (eGVar y133))) } :: { need := [(41, .pv (.agg (eGVar y133))), (36, .pv (.str y104.fName))], dst := some 42, val := some (.pv (.agg (eGSlot_ref16 ({ fClass := y104.fName, fVar := y133 } : GSlot_ref16)))) } :: { need := [(42, .pv (.agg (eGSlot_ref16 ({ fClass := y104.fName, fVar := y133 } : GSlot_ref16))))], dst := some 43, val := some (.pv (.vs 14 (List.map eGSlot_ref16 [({ fClass := y104.fName, fVar := y133 } : GSlot_ref16)]))) } :: { need := [(34, .ls 0), (43, .pv (.vs 14 (List.map eGSlot_ref16 [({ fClass := y104.fName, fVar := y133 } : GSlot_ref16)])))], hneed := [(0, .row 82 14 (List.map eGSlot_ref16 x115))], names := [2], dst := some 44, val := some (.ls 2), upd := [(2, some (.row 82 14 (List.map eGSlot_ref16 (x115 ++ [({ fClass := y104.fName, fVar := y133 } : GSlot_ref16)])))), (0, none)] } :: { need := [(44, .ls 2)], dst := some 6, val := some (.ls 2) } :: []) ⟨_, _, _⟩ Try_mixed rfl ⟨fun m h => step_on (guard_no rfl) (op_move rfl h.1.1 rfl rfl) rfl, fun m h => step_on (guard_no rfl) (op_field_lp rfl h.1.1 Try_fld_94_0 rfl rfl) rfl, fun m h => step_on (guard_no rfl) (op_load_lp (v := .pv (.str y104.fName)) rfl h.1.1 h.2.1.1 rfl Try_one_9 rfl rfl) rfl, fun m h => step_on (guard_no rfl) (op_field_lp rfl h.1.1 Try_fld_94_4 rfl rfl) rfl, fun m h => step_on (guard_no rfl) (op_load_lp (v := .pv (.vs 13 (List.map eGVar y104.fFields))) rfl h.1.1 h.2.1.1 rfl Try_one_91 rfl rfl) rfl, fun m h => step_on (guard_no rfl) (op_move rfl h.1.1 rfl rfl) rfl, fun m h => step_on (guard_no rfl) (op_index_vs (k := .i64) rfl h.1.1 h.1.2.1 (idx_map eGVar h134) Try_slc_91 rfl rfl) rfl, fun m h => step_on (guard_no rfl) (op_load_vp_agg (ps := eGVar y133) rfl h.1.1 rfl rfl Try_agg_79 rfl rfl) rfl, fun m h => step_on (guard_no rfl) (op_build (zs := [.str (({ fClass := [], fVar := ({ fName := [], fType := ({ fKind := 0, fClass := [], fN := 0, fOwn := (⟨({ fKind := 0, fN := 0 } : GOwner), ({ fKind := 0, fN := 0 } : GOwner), ({ fKind := 0, fN := 0 } : GOwner), ({ fKind := 0, fN := 0 } : GOwner)⟩ : A4 GOwner) } : GType), fAt := 0 } : GVar) } : GSlot_ref16).fClass), .str ((({ fClass := [], fVar := ({ fName := [], fType := ({ fKind := 0, fClass := [], fN := 0, fOwn := (⟨({ fKind := 0, fN := 0 } : GOwner), ({ fKind := 0, fN := 0 } : GOwner), ({ fKind := 0, fN := 0 } : GOwner), ({ fKind := 0, fN := 0 } : GOwner)⟩ : A4 GOwner) } : GType), fAt := 0 } : GVar) } : GSlot_ref16).fVar).fName), .int .i64 (((({ fClass := [], fVar := ({ fName := [], fType := ({ fKind := 0, fClass := [], fN := 0, fOwn := (⟨({ fKind := 0, fN := 0 } : GOwner), ({ fKind := 0, fN := 0 } : GOwner), ({ fKind := 0, fN := 0 } : GOwner), ({ fKind := 0, fN := 0 } : GOwner)⟩ : A4 GOwner) } : GType), fAt := 0 } : GVar) } : GSlot_ref16).fVar).fType).fKind), .str (((({ fClass := [], fVar := ({ fName := [], fType := ({ fKind := 0, fClass := [], fN := 0, fOwn := (⟨({ fKind := 0, fN := 0 } : GOwner), ({ fKind := 0, fN := 0 } : GOwner), ({ fKind := 0, fN := 0 } : GOwner), ({ fKind := 0, fN := 0 } : GOwner)⟩ : A4 GOwner) } : GType), fAt := 0 } : GVar) } : GSlot_ref16).fVar).fType).fClass), .int .i64 (((({ fClass := [], fVar := ({ fName := [], fType := ({ fKind := 0, fClass := [], fN := 0, fOwn := (⟨({ fKind := 0, fN := 0 } : GOwner), ({ fKind := 0, fN := 0 } : GOwner), ({ fKind := 0, fN := 0 } : GOwner), ({ fKind := 0, fN := 0 } : GOwner)⟩ : A4 GOwner) } : GType), fAt := 0 } : GVar) } : GSlot_ref16).fVar).fType).fN), .int .i64 (((((({ fClass := [], fVar := ({ fName := [], fType := ({ fKind := 0, fClass := [], fN := 0, fOwn := (⟨({ fKind := 0, fN := 0 } : GOwner), ({ fKind := 0, fN := 0 } : GOwner), ({ fKind := 0, fN := 0 } : GOwner), ({ fKind := 0, fN := 0 } : GOwner)⟩ : A4 GOwner) } : GType), fAt := 0 } : GVar) } : GSlot_ref16).fVar).fType).fOwn).a0).fKind), .int .i64 (((((({ fClass := [], fVar := ({ fName := [], fType := ({ fKind := 0, fClass := [], fN := 0, fOwn := (⟨({ fKind := 0, fN := 0 } : GOwner), ({ fKind := 0, fN := 0 } : GOwner), ({ fKind := 0, fN := 0 } : GOwner), ({ fKind := 0, fN := 0 } : GOwner)⟩ : A4 GOwner) } : GType), fAt := 0 } : GVar) } : GSlot_ref16).fVar).fType).fOwn).a0).fN), .int .i64 (((((({ fClass := [], fVar := ({ fName := [], fType := ({ fKind := 0, fClass := [], fN := 0, fOwn := (⟨({ fKind := 0, fN := 0 } : GOwner), ({ fKind := 0, fN := 0 } : GOwner), ({ fKind := 0, fN := 0 } : GOwner), ({ fKind := 0, fN := 0 } : GOwner)⟩ : A4 GOwner) } : GType), fAt := 0 } : GVar) } : GSlot_ref16).fVar).fType).fOwn).a1).fKind), .int .i64 (((((({ fClass := [], fVar := ({ fName := [], fType := ({ fKind := 0, fClass := [], fN := 0, fOwn := (⟨({ fKind := 0, fN := 0 } : GOwner), ({ fKind := 0, fN := 0 } : GOwner), ({ fKind := 0, fN := 0 } : GOwner), ({ fKind := 0, fN := 0 } : GOwner)⟩ : A4 GOwner) } : GType), fAt := 0 } : GVar) } : GSlot_ref16).fVar).fType).fOwn).a1).fN), .int .i64 (((((({ fClass := [], fVar := ({ fName := [], fType := ({ fKind := 0, fClass := [], fN := 0, fOwn := (⟨({ fKind := 0, fN := 0 } : GOwner), ({ fKind := 0, fN := 0 } : GOwner), ({ fKind := 0, fN := 0 } : GOwner), ({ fKind := 0, fN := 0 } : GOwner)⟩ : A4 GOwner) } : GType), fAt := 0 } : GVar) } : GSlot_ref16).fVar).fType).fOwn).a2).fKind), .int .i64 (((((({ fClass := [], fVar := ({ fName := [], fType := ({ fKind := 0, fClass := [], fN := 0, fOwn := (⟨({ fKind := 0, fN := 0 } : GOwner), ({ fKind := 0, fN := 0 } : GOwner), ({ fKind := 0, fN := 0 } : GOwner), ({ fKind := 0, fN := 0 } : GOwner)⟩ : A4 GOwner) } : GType), fAt := 0 } : GVar) } : GSlot_ref16).fVar).fType).fOwn).a2).fN), .int .i64 (((((({ fClass := [], fVar := ({ fName := [], fType := ({ fKind := 0, fClass := [], fN := 0, fOwn := (⟨({ fKind := 0, fN := 0 } : GOwner), ({ fKind := 0, fN := 0 } : GOwner), ({ fKind := 0, fN := 0 } : GOwner), ({ fKind := 0, fN := 0 } : GOwner)⟩ : A4 GOwner) } : GType), fAt := 0 } : GVar) } : GSlot_ref16).fVar).fType).fOwn).a3).fKind), .int .i64 (((((({ fClass := [], fVar := ({ fName := [], fType := ({ fKind := 0, fClass := [], fN := 0, fOwn := (⟨({ fKind := 0, fN := 0 } : GOwner), ({ fKind := 0, fN := 0 } : GOwner), ({ fKind := 0, fN := 0 } : GOwner), ({ fKind := 0, fN := 0 } : GOwner)⟩ : A4 GOwner) } : GType), fAt := 0 } : GVar) } : GSlot_ref16).fVar).fType).fOwn).a3).fN), .int .i64 ((({ fClass := [], fVar := ({ fName := [], fType := ({ fKind := 0, fClass := [], fN := 0, fOwn := (⟨({ fKind := 0, fN := 0 } : GOwner), ({ fKind := 0, fN := 0 } : GOwner), ({ fKind := 0, fN := 0 } : GOwner), ({ fKind := 0, fN := 0 } : GOwner)⟩ : A4 GOwner) } : GType), fAt := 0 } : GVar) } : GSlot_ref16).fVar).fAt)]) (r := eGSlot_ref16 ({ fClass := y104.fName, fVar := y133 } : GSlot_ref16)) rfl Try_zer_82 (by exact ⟨rfl, rfl, rfl, rfl, rfl, rfl, rfl, rfl, rfl, rfl, rfl, rfl, rfl, rfl, trivial⟩) Try_plc_82 (evs_cons h.1.2.1 (evs_cons h.1.1 evs_nil)) rfl rfl rfl) rfl, fun m h => step_on (guard_no rfl) (op_lit (rows := List.map eGSlot_ref16 ([({ fClass := y104.fName, fVar := y133 } : GSlot_ref16)] : List GSlot_ref16)) (zs := [.str (({ fClass := [], fVar := ({ fName := [], fType := ({ fKind := 0, fClass := [], fN := 0, fOwn := (⟨({ fKind := 0, fN := 0 } : GOwner), ({ fKind := 0, fN := 0 } : GOwner), ({ fKind := 0, fN := 0 } : GOwner), ({ fKind := 0, fN := 0 } : GOwner)⟩ : A4 GOwner) } : GType), fAt := 0 } : GVar) } : GSlot_ref16).fClass), .str ((({ fClass := [], fVar := ({ fName := [], fType := ({ fKind := 0, fClass := [], fN := 0, fOwn := (⟨({ fKind := 0, fN := 0 } : GOwner), ({ fKind := 0, fN := 0 } : GOwner), ({ fKind := 0, fN := 0 } : GOwner), ({ fKind := 0, fN := 0 } : GOwner)⟩ : A4 GOwner) } : GType), fAt := 0 } : GVar) } : GSlot_ref16).fVar).fName), .int .i64 (((({ fClass := [], fVar := ({ fName := [], fType := ({ fKind := 0, fClass := [], fN := 0, fOwn := (⟨({ fKind := 0, fN := 0 } : GOwner), ({ fKind := 0, fN := 0 } : GOwner), ({ fKind := 0, fN := 0 } : GOwner), ({ fKind := 0, fN := 0 } : GOwner)⟩ : A4 GOwner) } : GType), fAt := 0 } : GVar) } : GSlot_ref16).fVar).fType).fKind), .str (((({ fClass := [], fVar := ({ fName := [], fType := ({ fKind := 0, fClass := [], fN := 0, fOwn := (⟨({ fKind := 0, fN := 0 } : GOwner), ({ fKind := 0, fN := 0 } : GOwner), ({ fKind := 0, fN := 0 } : GOwner), ({ fKind := 0, fN := 0 } : GOwner)⟩ : A4 GOwner) } : GType), fAt := 0 } : GVar) } : GSlot_ref16).fVar).fType).fClass), .int .i64 (((({ fClass := [], fVar := ({ fName := [], fType := ({ fKind := 0, fClass := [], fN := 0, fOwn := (⟨({ fKind := 0, fN := 0 } : GOwner), ({ fKind := 0, fN := 0 } : GOwner), ({ fKind := 0, fN := 0 } : GOwner), ({ fKind := 0, fN := 0 } : GOwner)⟩ : A4 GOwner) } : GType), fAt := 0 } : GVar) } : GSlot_ref16).fVar).fType).fN), .int .i64 (((((({ fClass := [], fVar := ({ fName := [], fType := ({ fKind := 0, fClass := [], fN := 0, fOwn := (⟨({ fKind := 0, fN := 0 } : GOwner), ({ fKind := 0, fN := 0 } : GOwner), ({ fKind := 0, fN := 0 } : GOwner), ({ fKind := 0, fN := 0 } : GOwner)⟩ : A4 GOwner) } : GType), fAt := 0 } : GVar) } : GSlot_ref16).fVar).fType).fOwn).a0).fKind), .int .i64 (((((({ fClass := [], fVar := ({ fName := [], fType := ({ fKind := 0, fClass := [], fN := 0, fOwn := (⟨({ fKind := 0, fN := 0 } : GOwner), ({ fKind := 0, fN := 0 } : GOwner), ({ fKind := 0, fN := 0 } : GOwner), ({ fKind := 0, fN := 0 } : GOwner)⟩ : A4 GOwner) } : GType), fAt := 0 } : GVar) } : GSlot_ref16).fVar).fType).fOwn).a0).fN), .int .i64 (((((({ fClass := [], fVar := ({ fName := [], fType := ({ fKind := 0, fClass := [], fN := 0, fOwn := (⟨({ fKind := 0, fN := 0 } : GOwner), ({ fKind := 0, fN := 0 } : GOwner), ({ fKind := 0, fN := 0 } : GOwner), ({ fKind := 0, fN := 0 } : GOwner)⟩ : A4 GOwner) } : GType), fAt := 0 } : GVar) } : GSlot_ref16).fVar).fType).fOwn).a1).fKind), .int .i64 (((((({ fClass := [], fVar := ({ fName := [], fType := ({ fKind := 0, fClass := [], fN := 0, fOwn := (⟨({ fKind := 0, fN := 0 } : GOwner), ({ fKind := 0, fN := 0 } : GOwner), ({ fKind := 0, fN := 0 } : GOwner), ({ fKind := 0, fN := 0 } : GOwner)⟩ : A4 GOwner) } : GType), fAt := 0 } : GVar) } : GSlot_ref16).fVar).fType).fOwn).a1).fN), .int .i64 (((((({ fClass := [], fVar := ({ fName := [], fType := ({ fKind := 0, fClass := [], fN := 0, fOwn := (⟨({ fKind := 0, fN := 0 } : GOwner), ({ fKind := 0, fN := 0 } : GOwner), ({ fKind := 0, fN := 0 } : GOwner), ({ fKind := 0, fN := 0 } : GOwner)⟩ : A4 GOwner) } : GType), fAt := 0 } : GVar) } : GSlot_ref16).fVar).fType).fOwn).a2).fKind), .int .i64 (((((({ fClass := [], fVar := ({ fName := [], fType := ({ fKind := 0, fClass := [], fN := 0, fOwn := (⟨({ fKind := 0, fN := 0 } : GOwner), ({ fKind := 0, fN := 0 } : GOwner), ({ fKind := 0, fN := 0 } : GOwner), ({ fKind := 0, fN := 0 } : GOwner)⟩ : A4 GOwner) } : GType), fAt := 0 } : GVar) } : GSlot_ref16).fVar).fType).fOwn).a2).fN), .int .i64 (((((({ fClass := [], fVar := ({ fName := [], fType := ({ fKind := 0, fClass := [], fN := 0, fOwn := (⟨({ fKind := 0, fN := 0 } : GOwner), ({ fKind := 0, fN := 0 } : GOwner), ({ fKind := 0, fN := 0 } : GOwner), ({ fKind := 0, fN := 0 } : GOwner)⟩ : A4 GOwner) } : GType), fAt := 0 } : GVar) } : GSlot_ref16).fVar).fType).fOwn).a3).fKind), .int .i64 (((((({ fClass := [], fVar := ({ fName := [], fType := ({ fKind := 0, fClass := [], fN := 0, fOwn := (⟨({ fKind := 0, fN := 0 } : GOwner), ({ fKind := 0, fN := 0 } : GOwner), ({ fKind := 0, fN := 0 } : GOwner), ({ fKind := 0, fN := 0 } : GOwner)⟩ : A4 GOwner) } : GType), fAt := 0 } : GVar) } : GSlot_ref16).fVar).fType).fOwn).a3).fN), .int .i64 ((({ fClass := [], fVar := ({ fName := [], fType := ({ fKind := 0, fClass := [], fN := 0, fOwn := (⟨({ fKind := 0, fN := 0 } : GOwner), ({ fKind := 0, fN := 0 } : GOwner), ({ fKind := 0, fN := 0 } : GOwner), ({ fKind := 0, fN := 0 } : GOwner)⟩ : A4 GOwner) } : GType), fAt := 0 } : GVar) } : GSlot_ref16).fVar).fAt)]) rfl rfl Try_slc_73 Try_zer_82 (by exact ⟨rfl, rfl, rfl, rfl, rfl, rfl, rfl, rfl, rfl, rfl, rfl, rfl, rfl, rfl, trivial⟩) rfl rfl rfl (evs_cons h.1.1 evs_nil) rfl rfl rfl rfl) rfl, fun m h => step_on (guard_no rfl) (op_append 2 (fresh_free h.2.2.1) rfl h.1.1 h.2.1.1 h.1.2.1 Try_slc_73 Try_elm_82 Try_zer_82 rfl rfl rfl (room_map (f := eGSlot_ref16) (g := eGSlot_ref16) h136) (List.map_append (f := eGSlot_ref16) (l₁ := x115) (l₂ := [({ fClass := y104.fName, fVar := y133 } : GSlot_ref16)])).symm rfl rfl) rfl, fun m h => step_on (guard_no rfl) (op_assign rfl h.1.1 rfl rfl) rfl, trivial⟩ ⟨⟨⟨rfl, trivial⟩, trivial, trivial⟩, ⟨⟨rfl, trivial⟩, trivial, trivial⟩, ⟨⟨rfl, trivial⟩, ⟨rfl, trivial⟩, trivial⟩, ⟨⟨rfl, trivial⟩, trivial, trivial⟩, ⟨⟨rfl, trivial⟩, ⟨rfl, trivial⟩, trivial⟩, ⟨⟨rfl, trivial⟩, trivial, trivial⟩, ⟨⟨rfl, rfl, trivial⟩, trivial, trivial⟩, ⟨⟨rfl, trivial⟩, trivial, trivial⟩, ⟨⟨rfl, rfl, trivial⟩, trivial, trivial⟩, ⟨⟨rfl, trivial⟩, trivial, trivial⟩, ⟨⟨rfl, rfl, trivial⟩, ⟨rfl, trivial⟩, ⟨rfl, trivial⟩⟩, ⟨⟨rfl, trivial⟩, trivial, trivial⟩, trivial⟩ (by kernel_rfl) ?_
          refine post_imp (s' := ⟨46, [(0, some (.pv (.vs 7 (List.map eGClass a0)))), (5, some (.pv (.vs 1 (List.map eI y3)))), (6, some (.ls 0)), (7, some (.pv (.int .i64 x50))), (8, some (.lp 1 0)), (9, some (.pv (.int .i64 x116)))], [(0, some (.row 82 14 (List.map eGSlot_ref16 (x115 ++ [({ fClass := y104.fName, fVar := y133 } : GSlot_ref16)])))), (1, some (.box 94 [.pv (.str y104.fName), .pv (.vs 1 (List.map eS y104.fParams)), .pv (.str y104.fSuper), .pv (.vs 2 (List.map eGOwner y104.fAbove)), .pv (.vs 13 (List.map eGVar y104.fFields)), .pv (.vs 17 (List.map eGMethod y104.fMethods)), .pv (.int .i64 y104.fAt)]))], 2, [], [], 0, []⟩) (imp_sub [2, 1] rfl (by decide) rfl rfl ⟨by kernel_rfl, by kernel_rfl, by kernel_rfl, by kernel_rfl, by kernel_rfl, by kernel_rfl, trivial⟩ ⟨by kernel_rfl, by kernel_rfl, trivial⟩ rfl rfl rfl) ?_
          refine post_block_normal ?_
          refine post_next ?_
          refine aw_region ?_
          refine reg_cons (guard_no rfl) (op_move rfl rfl rfl rfl) ?_
          refine reg_cons (guard_no rfl) (op_int (k := .i64) (m := x116) (n := 1) rfl rfl rfl rfl rfl rfl) ?_
          refine reg_cons (guard_no rfl) (op_assign rfl rfl rfl rfl) ?_
          refine reg_nil ?_
          refine post_round ?_
          exact rnd_back (ih ((x115 ++ [({ fClass := y104.fName, fVar := y133 } : GSlot_ref16)]), w_i64 (x116 + 1)) hF) (imp_sub [0, 1] rfl (by decide) rfl rfl ⟨by kernel_rfl, by kernel_rfl, by kernel_rfl, by kernel_rfl, by kernel_rfl, by kernel_rfl, trivial⟩ ⟨by kernel_rfl, by kernel_rfl, trivial⟩ rfl rfl rfl)
        · refine aw_cond_f rfl hb128 ?_
          refine aw_exit ?_
          refine post_then_exit ?_
          refine post_then_exit ?_
          obtain rfl := Option.some.inj hF
          exact post_lp_break _ rfl (imp_sub [0] rfl (by decide) rfl rfl ⟨by kernel_rfl, by kernel_rfl, by kernel_rfl, by kernel_rfl, trivial⟩ ⟨by kernel_rfl, trivial⟩ rfl rfl rfl)
      · rintro _ rfl
        have hF := hK140
        clear hK140
        refine post_block_normal ?_
        refine post_next ?_
        refine aw_region ?_
        refine reg_cons (guard_no rfl) (op_move rfl rfl rfl rfl) ?_
        refine reg_cons (guard_no rfl) (op_int (k := .i64) (m := x50) (n := 1) rfl rfl rfl rfl rfl rfl) ?_
        refine reg_cons (guard_no rfl) (op_assign rfl rfl rfl rfl) ?_
        refine reg_nil ?_
        refine post_round ?_
        exact rnd_back (ih (x139, w_i64 (x50 - 1)) hF) (imp_sub [0] rfl (by decide) rfl rfl ⟨by kernel_rfl, by kernel_rfl, by kernel_rfl, by kernel_rfl, trivial⟩ ⟨by kernel_rfl, trivial⟩ rfl rfl rfl)
    · refine aw_cond_f rfl hb97 ?_
      refine aw_exit ?_
      refine post_then_exit ?_
      refine post_then_exit ?_
      obtain rfl := Option.some.inj hF
      exact post_lp_break _ rfl (imp_sub [0] rfl (by decide) rfl rfl ⟨by kernel_rfl, trivial⟩ ⟨by kernel_rfl, trivial⟩ rfl rfl rfl)
  · rintro _ rfl
    have hF := hK144
    clear hK144
    refine post_next ?_
    refine aw_seq ?_
    refine aw_region ?_
    refine reg_cons (guard_no rfl) (op_move rfl rfl rfl rfl) ?_
    refine reg_cons (guard_no rfl) (op_assign rfl rfl rfl rfl) ?_
    refine reg_nil ?_
    refine post_imp (s' := ⟨46, [(4, some (.ls 0))], [(0, some (.row 82 14 (List.map eGSlot_ref16 x143)))], 1, [], [], 0, []⟩) (imp_sub [0] rfl (by decide) rfl rfl ⟨by kernel_rfl, trivial⟩ ⟨by kernel_rfl, trivial⟩ rfl rfl rfl) ?_
    refine post_next ?_
    refine aw_ret ?_
    obtain rfl := Option.some.inj hF
    exact post_ret rfl rfl (.cons _ _ _ _ _ (.tmp _ _ rfl) (.own _ _ _ _ rfl nolent3) .nil) (.inl rfl)
theorem ref35_Start_ok {a0 : List GClass} {a1 : List UInt8} {r : (List GVal)} (hF : ref35_Start a0 a1 = some r) : Abs.Fn Try.prog 30 [.vs 7 (List.map eGClass a0), .str a1] [.own 24 2 (List.map eGVal r)] := by
  unfold ref35_Start at hF
  refine fn_of_body (n := 30) Try.func30 rfl rfl rfl ?_
  intro w O
  refine aw_seq ?_
  refine aw_region ?_
  refine reg_cons (guard_no rfl) (op_assign rfl rfl rfl rfl) ?_
  refine reg_nil ?_
  refine post_imp (s' := ⟨30, [(0, some (.pv (.vs 7 (List.map eGClass a0)))), (1, some (.pv (.str a1)))], [], 0, [], [], 0, []⟩) (imp_sub [] rfl (by decide) rfl rfl ⟨by kernel_rfl, by kernel_rfl, trivial⟩ trivial rfl rfl rfl) ?_
  refine post_next ?_
  refine aw_seq ?_
  refine aw_region ?_
  refine reg_cons (guard_no rfl) (op_move rfl rfl rfl rfl) ?_
  refine reg_cons (guard_no rfl) (op_move rfl rfl rfl rfl) ?_
  obtain ⟨y3, h4, hF⟩ := bind_some hF
  refine reg_cons (guard_no rfl) (op_call 0 rfl (caps := []) (args := [.vs 7 (List.map eGClass a0), .str a1]) (rs := [.p (.vs 14 (List.map eGSlot_ref16 y3))]) rfl rfl rfl Try_cal_51 (Fn.frozen (ref16_All_ok h4)) rfl rfl rfl) ?_
  refine reg_cons (guard_no rfl) (op_assign rfl rfl rfl rfl) ?_
  refine reg_nil ?_
  refine post_imp (s' := ⟨30, [(5, some (.pv (.vs 14 (List.map eGSlot_ref16 y3))))], [], 0, [], [], 0, []⟩) (imp_sub [] rfl (by decide) rfl rfl ⟨by kernel_rfl, trivial⟩ trivial rfl rfl rfl) ?_
  refine post_next ?_
  refine aw_seq ?_
  refine aw_region ?_
  refine reg_cons (guard_no rfl) (op_assign rfl rfl rfl rfl) ?_
  refine reg_imp (imp_nil_own 6 24 2 0 rfl rfl) ?_
  refine reg_nil ?_
  refine post_imp (s' := ⟨30, [(5, some (.pv (.vs 14 (List.map eGSlot_ref16 y3)))), (6, some (.ls 0))], [(0, some (.row 24 2 (List.map eGVal [])))], 1, [], [], 0, []⟩) (imp_sub [0] rfl (by decide) rfl rfl ⟨by kernel_rfl, by kernel_rfl, trivial⟩ ⟨by kernel_rfl, trivial⟩ rfl rfl rfl) ?_
  refine post_next ?_
  refine aw_seq ?_
  refine aw_seq ?_
  refine aw_region ?_
  refine reg_cons (guard_no rfl) (op_assign rfl rfl rfl rfl) ?_
  refine reg_nil ?_
  refine post_imp (s' := ⟨30, [(5, some (.pv (.vs 14 (List.map eGSlot_ref16 y3)))), (6, some (.ls 0)), (7, some (.pv (.int .i64 0)))], [(0, some (.row 24 2 (List.map eGVal [])))], 1, [], [], 0, []⟩) (imp_sub [0] rfl (by decide) rfl rfl ⟨by kernel_rfl, by kernel_rfl, by kernel_rfl, trivial⟩ ⟨by kernel_rfl, trivial⟩ rfl rfl rfl) ?_
  refine post_next ?_
  obtain ⟨x38, hF, hK39⟩ := bind_some hF
  refine aw_for ((((y3.length : Int) : Int) - (0)).toNat + 1) (fun s1 => s1 = ⟨30, [(6, some (.ls 0))], [(0, some (.row 24 2 (List.map eGVal x38)))], 1, [], [], 0, []⟩) ?_ ?_
  · refine rnd_loop (α := (List GVal) × Int) (fun q => ⟨30, [(5, some (.pv (.vs 14 (List.map eGSlot_ref16 y3)))), (6, some (.ls 0)), (7, some (.pv (.int .i64 q.2)))], [(0, some (.row 24 2 (List.map eGVal q.1)))], 1, [], [], 0, []⟩) (fun k q => ref35_Start_L1 y3 k q.1 q.2 = some x38) ([], 0) (imp_sub [0] rfl (by decide) rfl rfl ⟨by kernel_rfl, by kernel_rfl, by kernel_rfl, trivial⟩ ⟨by kernel_rfl, trivial⟩ rfl rfl rfl) hF (fun q h => by cases h) ?_
    clear hF
    rintro k ⟨x14, x15⟩ hF ih
    refine rnd_succ ?_
    refine aw_seq ?_
    refine aw_seq ?_
    refine aw_region ?_
    refine reg_cons (guard_no rfl) (op_move rfl rfl rfl rfl) ?_
    refine reg_cons (guard_no rfl) (op_move rfl rfl rfl rfl) ?_
    refine reg_cons (guard_no rfl) (op_len_vs (n := y3.length) rfl rfl (List.length_map ..) Try_slc_73 rfl rfl) ?_
    refine reg_cons (guard_no rfl) (op_int (k := .i64) (m := x15) (n := (y3.length : Int)) rfl rfl rfl rfl rfl rfl) ?_
    refine reg_nil ?_
    refine post_imp (s' := ⟨30, [(5, some (.pv (.vs 14 (List.map eGSlot_ref16 y3)))), (6, some (.ls 0)), (7, some (.pv (.int .i64 x15))), (14, some (.pv (.bool (decide (x15 < (y3.length : Int))))))], [(0, some (.row 24 2 (List.map eGVal x14)))], 1, [], [], 0, []⟩) (imp_sub [0] rfl (by decide) rfl rfl ⟨by kernel_rfl, by kernel_rfl, by kernel_rfl, by kernel_rfl, trivial⟩ ⟨by kernel_rfl, trivial⟩ rfl rfl rfl) ?_
    refine post_next ?_
    rcases ite_some hF with ⟨hb27, hF⟩ | ⟨hb27, hF⟩
    · refine aw_cond_t rfl hb27 ?_
      refine aw_skip ?_
      refine post_next ?_
      refine aw_seq ?_
      refine aw_block ?_
      refine aw_region ?_
      refine reg_cons (guard_no rfl) (op_move rfl rfl rfl rfl) ?_
      refine reg_cons (guard_no rfl) (op_move rfl rfl rfl rfl) ?_
      refine reg_cons (guard_no rfl) (op_move rfl rfl rfl rfl) ?_
      obtain ⟨y32, h33, hF⟩ := bind_some hF
      refine reg_cons (guard_no rfl) (op_index_vs (k := .i64) rfl rfl rfl (idx_map eGSlot_ref16 h33) Try_slc_73 rfl rfl) ?_
      refine reg_cons (guard_no rfl) (op_field_vp rfl rfl Try_fld_82_1 rfl rfl) ?_
      refine reg_cons (guard_no rfl) (op_field_vp rfl rfl Try_fld_79_1 rfl rfl) ?_
      refine reg_cons (guard_no rfl) (op_field_vp rfl rfl Try_fld_77_0 rfl rfl) ?_
      refine reg_cons (guard_no rfl) (op_load_vp (p := .int .i64 y32.fVar.fType.fKind) rfl rfl rfl Try_one_3 rfl rfl) ?_
      refine reg_cons (guard_no rfl) (op_int (k := .i64) (m := y32.fVar.fType.fKind) (n := 2) rfl rfl rfl rfl rfl rfl) ?_
      refine reg_cons (guard_no rfl) (op_build (zs := [.bool (({ fRef := false, fN := 0 } : GVal).fRef), .int .i64 (({ fRef := false, fN := 0 } : GVal).fN)]) (r := eGVal ({ fRef := (y32.fVar.fType.fKind == 2), fN := 0 } : GVal)) rfl Try_zer_24 (by exact ⟨rfl, rfl, trivial⟩) Try_plc_24 rfl rfl rfl rfl) ?_
      refine reg_cons (guard_no rfl) (op_lit (rows := List.map eGVal ([({ fRef := (y32.fVar.fType.fKind == 2), fN := 0 } : GVal)] : List GVal)) (zs := [.bool (({ fRef := false, fN := 0 } : GVal).fRef), .int .i64 (({ fRef := false, fN := 0 } : GVal).fN)]) rfl rfl Try_slc_28 Try_zer_24 (by exact ⟨rfl, rfl, trivial⟩) rfl rfl rfl rfl rfl rfl rfl rfl) ?_
      obtain ⟨u34, h35, hF⟩ := bind_some hF
      refine reg_cons (guard_no rfl) (op_append 1 rfl rfl rfl rfl rfl Try_slc_28 Try_elm_24 Try_zer_24 rfl rfl rfl (room_map (f := eGVal) (g := eGVal) h35) (List.map_append (f := eGVal) (l₁ := x14) (l₂ := [({ fRef := (y32.fVar.fType.fKind == 2), fN := 0 } : GVal)])).symm rfl rfl) ?_
      refine reg_cons (guard_no rfl) (op_assign rfl rfl rfl rfl) ?_
      refine reg_nil ?_
      refine post_imp (s' := ⟨30, [(5, some (.pv (.vs 14 (List.map eGSlot_ref16 y3)))), (6, some (.ls 0)), (7, some (.pv (.int .i64 x15)))], [(0, some (.row 24 2 (List.map eGVal (x14 ++ [({ fRef := (y32.fVar.fType.fKind == 2), fN := 0 } : GVal)]))))], 1, [], [], 0, []⟩) (imp_sub [1] rfl (by decide) rfl rfl ⟨by kernel_rfl, by kernel_rfl, by kernel_rfl, trivial⟩ ⟨by kernel_rfl, trivial⟩ rfl rfl rfl) ?_
      refine post_block_normal ?_
      refine post_next ?_
      refine aw_region ?_
      refine reg_cons (guard_no rfl) (op_move rfl rfl rfl rfl) ?_
      refine reg_cons (guard_no rfl) (op_int (k := .i64) (m := x15) (n := 1) rfl rfl rfl rfl rfl rfl) ?_
      refine reg_cons (guard_no rfl) (op_assign rfl rfl rfl rfl) ?_
      refine reg_nil ?_
      refine post_round ?_
      exact rnd_back (ih ((x14 ++ [({ fRef := (y32.fVar.fType.fKind == 2), fN := 0 } : GVal)]), w_i64 (x15 + 1)) hF) (imp_sub [0] rfl (by decide) rfl rfl ⟨by kernel_rfl, by kernel_rfl, by kernel_rfl, trivial⟩ ⟨by kernel_rfl, trivial⟩ rfl rfl rfl)
    · refine aw_cond_f rfl hb27 ?_
      refine aw_exit ?_
      refine post_then_exit ?_
      refine post_then_exit ?_
      obtain rfl := Option.some.inj hF
      exact post_lp_break _ rfl (imp_sub [0] rfl (by decide) rfl rfl ⟨by kernel_rfl, trivial⟩ ⟨by kernel_rfl, trivial⟩ rfl rfl rfl)
  · rintro _ rfl
    have hF := hK39
    clear hK39
    refine post_next ?_
    refine aw_seq ?_
    refine aw_region ?_
    refine reg_cons (guard_no rfl) (op_move rfl rfl rfl rfl) ?_
    refine reg_cons (guard_no rfl) (op_assign rfl rfl rfl rfl) ?_
    refine reg_nil ?_
    refine post_imp (s' := ⟨30, [(4, some (.ls 0))], [(0, some (.row 24 2 (List.map eGVal x38)))], 1, [], [], 0, []⟩) (imp_sub [0] rfl (by decide) rfl rfl ⟨by kernel_rfl, trivial⟩ ⟨by kernel_rfl, trivial⟩ rfl rfl rfl) ?_
    refine post_next ?_
    refine aw_ret ?_
    obtain rfl := Option.some.inj hF
    exact post_ret rfl rfl (.cons _ _ _ _ _ (.tmp _ _ rfl) (.own _ _ _ _ rfl nolent3) .nil) (.inl rfl)
theorem ref35_Vals_ok {a0 : List GVal} {a1 : List GVal} {r : Bool} (hF : ref35_Vals a0 a1 = some r) : Abs.Fn Try.prog 28 [.vs 2 (List.map eGVal a0), .vs 2 (List.map eGVal a1)] [.p (.bool r)] := by
  unfold ref35_Vals at hF
  refine fn_of_body (n := 26) Try.func28 rfl rfl rfl ?_
  intro w O
  refine aw_seq ?_
  refine aw_region ?_
  refine reg_cons (guard_no rfl) (op_assign rfl rfl rfl rfl) ?_
  refine reg_nil ?_
  refine post_imp (s' := ⟨26, [(0, some (.pv (.vs 2 (List.map eGVal a0)))), (1, some (.pv (.vs 2 (List.map eGVal a1))))], [], 0, [], [], 0, []⟩) (imp_sub [] rfl (by decide) rfl rfl ⟨by kernel_rfl, by kernel_rfl, trivial⟩ trivial rfl rfl rfl) ?_
  refine post_next ?_
  refine aw_seq ?_
  refine aw_seq ?_
  refine aw_region ?_
  refine reg_cons (guard_no rfl) (op_move rfl rfl rfl rfl) ?_
  refine reg_cons (guard_no rfl) (op_len_vs (n := a0.length) rfl rfl (List.length_map ..) Try_slc_28 rfl rfl) ?_
  refine reg_cons (guard_no rfl) (op_move rfl rfl rfl rfl) ?_
  refine reg_cons (guard_no rfl) (op_len_vs (n := a1.length) rfl rfl (List.length_map ..) Try_slc_28 rfl rfl) ?_
  refine reg_cons (guard_no rfl) (op_int (k := .i64) (m := (a0.length : Int)) (n := (a1.length : Int)) rfl rfl rfl rfl rfl rfl) ?_
  refine reg_nil ?_
  refine post_imp (s' := ⟨26, [(0, some (.pv (.vs 2 (List.map eGVal a0)))), (1, some (.pv (.vs 2 (List.map eGVal a1)))), (10, some (.pv (.bool ((a0.length : Int) != (a1.length : Int)))))], [], 0, [], [], 0, []⟩) (imp_sub [] rfl (by decide) rfl rfl ⟨by kernel_rfl, by kernel_rfl, by kernel_rfl, trivial⟩ trivial rfl rfl rfl) ?_
  refine post_next ?_
  rcases ite_some hF with ⟨hb1, hF⟩ | ⟨hb1, hF⟩
  · refine aw_cond_t rfl hb1 ?_
    refine aw_seq ?_
    refine aw_region ?_
    refine reg_cons (guard_no rfl) (op_assign rfl rfl rfl rfl) ?_
    refine reg_nil ?_
    refine post_imp (s' := ⟨26, [(4, some (.pv (.bool false)))], [], 0, [], [], 0, []⟩) (imp_sub [] rfl (by decide) rfl rfl ⟨by kernel_rfl, trivial⟩ trivial rfl rfl rfl) ?_
    refine post_next ?_
    refine aw_ret ?_
    refine post_then_ret ?_
    obtain rfl := Option.some.inj hF
    exact post_ret rfl rfl (.cons _ _ _ _ _ (.tmp _ _ rfl) (.p _) .nil) (.inl rfl)
  · refine aw_cond_f rfl hb1 ?_
    refine aw_skip ?_
    refine post_next ?_
    refine aw_seq ?_
    refine aw_seq ?_
    refine aw_region ?_
    refine reg_cons (guard_no rfl) (op_assign rfl rfl rfl rfl) ?_
    refine reg_nil ?_
    refine post_imp (s' := ⟨26, [(0, some (.pv (.vs 2 (List.map eGVal a0)))), (1, some (.pv (.vs 2 (List.map eGVal a1)))), (5, some (.pv (.int .i64 0)))], [], 0, [], [], 0, []⟩) (imp_sub [] rfl (by decide) rfl rfl ⟨by kernel_rfl, by kernel_rfl, by kernel_rfl, trivial⟩ trivial rfl rfl rfl) ?_
    refine post_next ?_
    obtain ⟨lr35, hF, hK36⟩ := bind_some hF
    refine aw_for ((((a0.length : Int) : Int) - (0)).toNat + 1) (fun s1 => ∃ q, lr35 = .next q ∧ s1 = ⟨26, [], [], 0, [], [], 0, []⟩) ?_ ?_
    · refine rnd_loop (α := Int) (fun q => ⟨26, [(0, some (.pv (.vs 2 (List.map eGVal a0)))), (1, some (.pv (.vs 2 (List.map eGVal a1)))), (5, some (.pv (.int .i64 q)))], [], 0, [], [], 0, []⟩) (fun k q => ref35_Vals_L1 a0 a1 k q = some lr35) 0 (imp_sub [] rfl (by decide) rfl rfl ⟨by kernel_rfl, by kernel_rfl, by kernel_rfl, trivial⟩ trivial rfl rfl rfl) hF (fun q h => by cases h) ?_
      clear hF
      rintro k x12 hF ih
      refine rnd_succ ?_
      refine aw_seq ?_
      refine aw_seq ?_
      refine aw_region ?_
      refine reg_cons (guard_no rfl) (op_move rfl rfl rfl rfl) ?_
      refine reg_cons (guard_no rfl) (op_move rfl rfl rfl rfl) ?_
      refine reg_cons (guard_no rfl) (op_len_vs (n := a0.length) rfl rfl (List.length_map ..) Try_slc_28 rfl rfl) ?_
      refine reg_cons (guard_no rfl) (op_int (k := .i64) (m := x12) (n := (a0.length : Int)) rfl rfl rfl rfl rfl rfl) ?_
      refine reg_nil ?_
      refine post_imp (s' := ⟨26, [(0, some (.pv (.vs 2 (List.map eGVal a0)))), (1, some (.pv (.vs 2 (List.map eGVal a1)))), (5, some (.pv (.int .i64 x12))), (14, some (.pv (.bool (decide (x12 < (a0.length : Int))))))], [], 0, [], [], 0, []⟩) (imp_sub [] rfl (by decide) rfl rfl ⟨by kernel_rfl, by kernel_rfl, by kernel_rfl, by kernel_rfl, trivial⟩ trivial rfl rfl rfl) ?_
      refine post_next ?_
      rcases ite_some hF with ⟨hb24, hF⟩ | ⟨hb24, hF⟩
      · refine aw_cond_t rfl hb24 ?_
        refine aw_skip ?_
        refine post_next ?_
        refine aw_seq ?_
        refine aw_block ?_
        refine aw_seq ?_
        obtain ⟨y29, h30, hF⟩ := bind_some hF
        obtain ⟨y31, h32, hF⟩ := bind_some hF
        refine aw_drawn ({ need := [(0, .pv (.vs 2 (List.map eGVal a0)))], dst := some 17, val := some (.pv (.vs 2 (List.map eGVal a0))) } :: { need := [(5, .pv (.int .i64 x12))], dst := some 18, val := some (.pv (.int .i64 x12)) } :: { need := [(17, .pv (.vs 2 (List.map eGVal a0))), (18, .pv (.int .i64 x12))], dst := some 19, val := some (.pv (.vp (eGVal y29))) } :: { need := [(19, .pv (.vp (eGVal y29)))], dst := some 20, val := some (.pv (.agg (eGVal y29))) } :: { need := [(1, .pv (.vs 2 (List.map eGVal a1)))], dst := some 21, val := some (.pv (.vs 2 (List.map eGVal a1))) } :: { need := [(5, .pv (.int .i64 x12))], dst := some 22, val := some (.pv (.int .i64 x12)) } :: { need := [(21, .pv (.vs 2 (List.map eGVal a1))), (22, .pv (.int .i64 x12))], dst := some 23, val := some (.pv (.vp (eGVal y31))) } :: { need := [(23, .pv (.vp (eGVal y31)))], dst := some 24, val := some (.pv (.agg (eGVal y31))) } :: { need := [(20, .pv (.agg (eGVal y29))), (24, .pv (.agg (eGVal y31)))], dst := some 25, val := some (.pv (.bool (!(bGVal y29 y31)))) } :: []) ⟨_, _, _⟩ Try_mixed rfl ⟨fun m h => step_on (guard_no rfl) (op_move rfl h.1.1 rfl rfl) rfl, fun m h => step_on (guard_no rfl) (op_move rfl h.1.1 rfl rfl) rfl, fun m h => step_on (guard_no rfl) (op_index_vs (k := .i64) rfl h.1.1 h.1.2.1 (idx_map eGVal h30) Try_slc_28 rfl rfl) rfl, fun m h => step_on (guard_no rfl) (op_load_vp_agg (ps := eGVal y29) rfl h.1.1 rfl rfl Try_agg_24 rfl rfl) rfl, fun m h => step_on (guard_no rfl) (op_move rfl h.1.1 rfl rfl) rfl, fun m h => step_on (guard_no rfl) (op_move rfl h.1.1 rfl rfl) rfl, fun m h => step_on (guard_no rfl) (op_index_vs (k := .i64) rfl h.1.1 h.1.2.1 (idx_map eGVal h32) Try_slc_28 rfl rfl) rfl, fun m h => step_on (guard_no rfl) (op_load_vp_agg (ps := eGVal y31) rfl h.1.1 rfl rfl Try_agg_24 rfl rfl) rfl, fun m h => step_on (guard_no rfl) (op_eqAgg_neq (r := bGVal y29 y31) rfl h.1.1 h.1.2.1 Try_eqt_24 rfl rfl rfl rfl rfl) rfl, trivial⟩ ⟨⟨⟨rfl, trivial⟩, trivial, trivial⟩, ⟨⟨rfl, trivial⟩, trivial, trivial⟩, ⟨⟨rfl, rfl, trivial⟩, trivial, trivial⟩, ⟨⟨rfl, trivial⟩, trivial, trivial⟩, ⟨⟨rfl, trivial⟩, trivial, trivial⟩, ⟨⟨rfl, trivial⟩, trivial, trivial⟩, ⟨⟨rfl, rfl, trivial⟩, trivial, trivial⟩, ⟨⟨rfl, trivial⟩, trivial, trivial⟩, ⟨⟨rfl, rfl, trivial⟩, trivial, trivial⟩, trivial⟩ (by kernel_rfl) ?_
        refine post_imp (s' := ⟨26, [(0, some (.pv (.vs 2 (List.map eGVal a0)))), (1, some (.pv (.vs 2 (List.map eGVal a1)))), (5, some (.pv (.int .i64 x12))), (25, some (.pv (.bool (!(bGVal y29 y31)))))], [], 0, [], [], 0, []⟩) (imp_sub [] rfl (by decide) rfl rfl ⟨by kernel_rfl, by kernel_rfl, by kernel_rfl, by kernel_rfl, trivial⟩ trivial rfl rfl rfl) ?_
        refine post_next ?_
        rcases ite_some hF with ⟨hb33, hF⟩ | ⟨hb33, hF⟩
        · refine aw_cond_t rfl hb33 ?_
          refine aw_seq ?_
          refine aw_region ?_
          refine reg_cons (guard_no rfl) (op_assign rfl rfl rfl rfl) ?_
          refine reg_nil ?_
          refine post_imp (s' := ⟨26, [(4, some (.pv (.bool false)))], [], 0, [], [], 0, []⟩) (imp_sub [] rfl (by decide) rfl rfl ⟨by kernel_rfl, trivial⟩ trivial rfl rfl rfl) ?_
          refine post_next ?_
          refine aw_ret ?_
          refine post_block_ret ?_
          refine post_then_ret ?_
          refine post_then_ret ?_
          refine post_lp_ret ?_
          obtain rfl := Option.some.inj hF
          have hF := elim_stop hK36
          refine post_then_ret ?_
          obtain rfl := Option.some.inj hF
          exact post_ret rfl rfl (.cons _ _ _ _ _ (.tmp _ _ rfl) (.p _) .nil) (.inl rfl)
        · refine aw_cond_f rfl hb33 ?_
          refine aw_skip ?_
          refine post_block_normal ?_
          refine post_next ?_
          refine aw_region ?_
          refine reg_cons (guard_no rfl) (op_move rfl rfl rfl rfl) ?_
          refine reg_cons (guard_no rfl) (op_int (k := .i64) (m := x12) (n := 1) rfl rfl rfl rfl rfl rfl) ?_
          refine reg_cons (guard_no rfl) (op_assign rfl rfl rfl rfl) ?_
          refine reg_nil ?_
          refine post_round ?_
          exact rnd_back (ih (w_i64 (x12 + 1)) hF) (imp_sub [] rfl (by decide) rfl rfl ⟨by kernel_rfl, by kernel_rfl, by kernel_rfl, trivial⟩ trivial rfl rfl rfl)
      · refine aw_cond_f rfl hb24 ?_
        refine aw_exit ?_
        refine post_then_exit ?_
        refine post_then_exit ?_
        obtain rfl := Option.some.inj hF
        exact post_lp_break _ ⟨_, rfl, rfl⟩ (imp_sub [] rfl (by decide) rfl rfl trivial trivial rfl rfl rfl)
    · rintro _ ⟨⟨⟩, rfl, rfl⟩
      have hF := elim_next hK36
      clear hK36
      refine post_next ?_
      refine aw_seq ?_
      refine aw_region ?_
      refine reg_cons (guard_no rfl) (op_assign rfl rfl rfl rfl) ?_
      refine reg_nil ?_
      refine post_imp (s' := ⟨26, [(4, some (.pv (.bool true)))], [], 0, [], [], 0, []⟩) (imp_sub [] rfl (by decide) rfl rfl ⟨by kernel_rfl, trivial⟩ trivial rfl rfl rfl) ?_
      refine post_next ?_
      refine aw_ret ?_
      obtain rfl := Option.some.inj hF
      exact post_ret rfl rfl (.cons _ _ _ _ _ (.tmp _ _ rfl) (.p _) .nil) (.inl rfl)
theorem law35_HeapStart_ok {a0 : List GClass} {a1 : List UInt8} {a2 : List GCell} {r : Bool} (hF : law35_HeapStart a0 a1 a2 = some r) : Abs.Fn Try.prog 5 [.vs 7 (List.map eGClass a0), .str a1, .vs 7 (List.map eGCell a2)] [.p (.bool r)] := by
  unfold law35_HeapStart at hF
  refine fn_of_body (n := 51) Try.func5 rfl rfl rfl ?_
  intro w O
  refine aw_seq ?_
  refine aw_region ?_
  refine reg_cons (guard_no rfl) (op_assign rfl rfl rfl rfl) ?_
  refine reg_nil ?_
  refine post_imp (s' := ⟨51, [(0, some (.pv (.vs 7 (List.map eGClass a0)))), (1, some (.pv (.str a1))), (2, some (.pv (.vs 7 (List.map eGCell a2))))], [], 0, [], [], 0, []⟩) (imp_sub [] rfl (by decide) rfl rfl ⟨by kernel_rfl, by kernel_rfl, by kernel_rfl, trivial⟩ trivial rfl rfl rfl) ?_
  refine post_next ?_
  refine aw_seq ?_
  refine aw_seq ?_
  obtain ⟨x8, hF, hK10⟩ := bind_some hF
  refine aw_cut (fun s1 => s1 = ⟨51, [(0, some (.pv (.vs 7 (List.map eGClass a0)))), (1, some (.pv (.str a1))), (2, some (.pv (.vs 7 (List.map eGCell a2)))), (15, some (.pv (.bool x8)))], [], 0, [], [], 0, []⟩) ?_ ?_
  · refine aw_region ?_
    refine reg_cons (guard_no rfl) (op_move rfl rfl rfl rfl) ?_
    obtain ⟨y3, h4, hF⟩ := bind_some hF
    refine reg_cons (guard_no rfl) (op_call 0 rfl (caps := []) (args := [.vs 7 (List.map eGClass a0)]) (rs := [.p (.bool y3)]) rfl rfl rfl Try_cal_26 (ref10_Heavy_ok h4) rfl rfl rfl) ?_
    refine reg_cons (guard_no rfl) (op_move rfl rfl rfl rfl) ?_
    rcases ite_some hF with ⟨hb5, hF⟩ | ⟨hb5, hF⟩
    · refine reg_off (guard_off rfl rfl rfl rfl hb5) rfl rfl ?_
      refine reg_off (guard_off rfl rfl rfl rfl hb5) rfl rfl ?_
      refine reg_cons (guard_no rfl) (op_pick_t rfl rfl hb5 rfl rfl rfl) ?_
      refine reg_nil ?_
      cases hF
      exact post_cut _ rfl (imp_sub [] rfl (by decide) rfl rfl ⟨by kernel_rfl, by kernel_rfl, by kernel_rfl, by kernel_rfl, trivial⟩ trivial rfl rfl rfl)
    · refine reg_cons (guard_on rfl rfl rfl rfl hb5) (op_move rfl rfl rfl rfl) ?_
      obtain ⟨y6, h7, hF⟩ := bind_some hF
      refine reg_cons (guard_on rfl rfl rfl rfl hb5) (op_call 0 rfl (caps := []) (args := [.vs 7 (List.map eGCell a2)]) (rs := [.p (.bool y6)]) rfl rfl rfl Try_cal_14 (ref35_Great_ok h7) rfl rfl rfl) ?_
      refine reg_cons (guard_no rfl) (op_pick_f rfl rfl hb5 rfl rfl rfl) ?_
      refine reg_nil ?_
      cases hF
      exact post_cut _ rfl (imp_sub [] rfl (by decide) rfl rfl ⟨by kernel_rfl, by kernel_rfl, by kernel_rfl, by kernel_rfl, trivial⟩ trivial rfl rfl rfl)
  · rintro _ rfl
    have hF := hK10
    clear hK10
    refine post_next ?_
    rcases ite_some hF with ⟨hb11, hF⟩ | ⟨hb11, hF⟩
    · refine aw_cond_t rfl hb11 ?_
      refine aw_seq ?_
      refine aw_region ?_
      obtain ⟨y12, h13, hF⟩ := bind_some hF
      refine reg_cons (guard_no rfl) (op_call 0 rfl (caps := []) (args := []) (rs := [.p (.bool y12)]) rfl rfl rfl Try_cal_15 (law35_awake_ok h13) rfl rfl rfl) ?_
      refine reg_cons (guard_no rfl) (op_assign rfl rfl rfl rfl) ?_
      refine reg_nil ?_
      refine post_imp (s' := ⟨51, [(6, some (.pv (.bool y12)))], [], 0, [], [], 0, []⟩) (imp_sub [] rfl (by decide) rfl rfl ⟨by kernel_rfl, trivial⟩ trivial rfl rfl rfl) ?_
      refine post_next ?_
      refine aw_ret ?_
      refine post_then_ret ?_
      obtain rfl := Option.some.inj hF
      exact post_ret rfl rfl (.cons _ _ _ _ _ (.tmp _ _ rfl) (.p _) .nil) (.inl rfl)
    · refine aw_cond_f rfl hb11 ?_
      refine aw_skip ?_
      refine post_next ?_
      refine aw_seq ?_
      refine aw_region ?_
      refine reg_cons (guard_no rfl) (op_move rfl rfl rfl rfl) ?_
      obtain ⟨y18, h19, hF⟩ := bind_some hF
      refine reg_cons (guard_no rfl) (op_call 0 rfl (caps := []) (args := [.vs 7 (List.map eGCell a2)]) (rs := [.p (.vs 1 (List.map eI y18))]) rfl rfl rfl Try_cal_25 (Fn.frozen (heap_Live_ok h19)) rfl rfl rfl) ?_
      refine reg_cons (guard_no rfl) (op_move rfl rfl rfl rfl) ?_
      obtain ⟨y20, h21, hF⟩ := bind_some hF
      refine reg_cons (guard_no rfl) (op_call 0 rfl (caps := []) (args := [.vs 7 (List.map eGCell a2)]) (rs := [.p (.vs 1 (List.map eI y20))]) rfl rfl rfl Try_cal_27 (Fn.frozen (ref35_Live_ok h21)) rfl rfl rfl) ?_
      refine reg_cons (guard_no rfl) (op_assign rfl rfl rfl rfl) ?_
      refine reg_cons (guard_no rfl) (op_assign rfl rfl rfl rfl) ?_
      refine reg_nil ?_
      refine post_imp (s' := ⟨51, [(0, some (.pv (.vs 7 (List.map eGClass a0)))), (1, some (.pv (.str a1))), (7, some (.pv (.vs 1 (List.map eI y18)))), (8, some (.pv (.vs 1 (List.map eI y20))))], [], 0, [], [], 0, []⟩) (imp_sub [] rfl (by decide) rfl rfl ⟨by kernel_rfl, by kernel_rfl, by kernel_rfl, by kernel_rfl, trivial⟩ trivial rfl rfl rfl) ?_
      refine post_next ?_
      refine aw_seq ?_
      refine aw_seq ?_
      refine aw_region ?_
      refine reg_cons (guard_no rfl) (op_move rfl rfl rfl rfl) ?_
      refine reg_cons (guard_no rfl) (op_len_vs (n := y18.length) rfl rfl (List.length_map ..) Try_slc_42 rfl rfl) ?_
      refine reg_cons (guard_no rfl) (op_move rfl rfl rfl rfl) ?_
      refine reg_cons (guard_no rfl) (op_len_vs (n := y20.length) rfl rfl (List.length_map ..) Try_slc_42 rfl rfl) ?_
      refine reg_cons (guard_no rfl) (op_int (k := .i64) (m := (y18.length : Int)) (n := (y20.length : Int)) rfl rfl rfl rfl rfl rfl) ?_
      refine reg_nil ?_
      refine post_imp (s' := ⟨51, [(0, some (.pv (.vs 7 (List.map eGClass a0)))), (1, some (.pv (.str a1))), (7, some (.pv (.vs 1 (List.map eI y18)))), (8, some (.pv (.vs 1 (List.map eI y20)))), (25, some (.pv (.bool ((y18.length : Int) != (y20.length : Int)))))], [], 0, [], [], 0, []⟩) (imp_sub [] rfl (by decide) rfl rfl ⟨by kernel_rfl, by kernel_rfl, by kernel_rfl, by kernel_rfl, by kernel_rfl, trivial⟩ trivial rfl rfl rfl) ?_
      refine post_next ?_
      rcases ite_some hF with ⟨hb22, hF⟩ | ⟨hb22, hF⟩
      · refine aw_cond_t rfl hb22 ?_
        refine aw_seq ?_
        refine aw_region ?_
        refine reg_cons (guard_no rfl) (op_assign rfl rfl rfl rfl) ?_
        refine reg_nil ?_
        refine post_imp (s' := ⟨51, [(6, some (.pv (.bool false)))], [], 0, [], [], 0, []⟩) (imp_sub [] rfl (by decide) rfl rfl ⟨by kernel_rfl, trivial⟩ trivial rfl rfl rfl) ?_
        refine post_next ?_
        refine aw_ret ?_
        refine post_then_ret ?_
        obtain rfl := Option.some.inj hF
        exact post_ret rfl rfl (.cons _ _ _ _ _ (.tmp _ _ rfl) (.p _) .nil) (.inl rfl)
      · refine aw_cond_f rfl hb22 ?_
        refine aw_skip ?_
        refine post_next ?_
        refine aw_seq ?_
        refine aw_seq ?_
        refine aw_region ?_
        refine reg_cons (guard_no rfl) (op_assign rfl rfl rfl rfl) ?_
        refine reg_nil ?_
        refine post_imp (s' := ⟨51, [(0, some (.pv (.vs 7 (List.map eGClass a0)))), (1, some (.pv (.str a1))), (7, some (.pv (.vs 1 (List.map eI y18)))), (8, some (.pv (.vs 1 (List.map eI y20)))), (9, some (.pv (.int .i64 0)))], [], 0, [], [], 0, []⟩) (imp_sub [] rfl (by decide) rfl rfl ⟨by kernel_rfl, by kernel_rfl, by kernel_rfl, by kernel_rfl, by kernel_rfl, trivial⟩ trivial rfl rfl rfl) ?_
        refine post_next ?_
        obtain ⟨lr56, hF, hK57⟩ := bind_some hF
        refine aw_for ((((y18.length : Int) : Int) - (0)).toNat + 1) (fun s1 => ∃ q, lr56 = .next q ∧ s1 = ⟨51, [(0, some (.pv (.vs 7 (List.map eGClass a0)))), (1, some (.pv (.str a1)))], [], 0, [], [], 0, []⟩) ?_ ?_
        · refine rnd_loop (α := Int) (fun q => ⟨51, [(0, some (.pv (.vs 7 (List.map eGClass a0)))), (1, some (.pv (.str a1))), (7, some (.pv (.vs 1 (List.map eI y18)))), (8, some (.pv (.vs 1 (List.map eI y20)))), (9, some (.pv (.int .i64 q)))], [], 0, [], [], 0, []⟩) (fun k q => law35_HeapStart_L1 y18 y20 k q = some lr56) 0 (imp_sub [] rfl (by decide) rfl rfl ⟨by kernel_rfl, by kernel_rfl, by kernel_rfl, by kernel_rfl, by kernel_rfl, trivial⟩ trivial rfl rfl rfl) hF (fun q h => by cases h) ?_
          clear hF
          rintro k x33 hF ih
          refine rnd_succ ?_
          refine aw_seq ?_
          refine aw_seq ?_
          refine aw_region ?_
          refine reg_cons (guard_no rfl) (op_move rfl rfl rfl rfl) ?_
          refine reg_cons (guard_no rfl) (op_move rfl rfl rfl rfl) ?_
          refine reg_cons (guard_no rfl) (op_len_vs (n := y18.length) rfl rfl (List.length_map ..) Try_slc_42 rfl rfl) ?_
          refine reg_cons (guard_no rfl) (op_int (k := .i64) (m := x33) (n := (y18.length : Int)) rfl rfl rfl rfl rfl rfl) ?_
          refine reg_nil ?_
          refine post_imp (s' := ⟨51, [(0, some (.pv (.vs 7 (List.map eGClass a0)))), (1, some (.pv (.str a1))), (7, some (.pv (.vs 1 (List.map eI y18)))), (8, some (.pv (.vs 1 (List.map eI y20)))), (9, some (.pv (.int .i64 x33))), (29, some (.pv (.bool (decide (x33 < (y18.length : Int))))))], [], 0, [], [], 0, []⟩) (imp_sub [] rfl (by decide) rfl rfl ⟨by kernel_rfl, by kernel_rfl, by kernel_rfl, by kernel_rfl, by kernel_rfl, by kernel_rfl, trivial⟩ trivial rfl rfl rfl) ?_
          refine post_next ?_
          rcases ite_some hF with ⟨hb45, hF⟩ | ⟨hb45, hF⟩
          · refine aw_cond_t rfl hb45 ?_
            refine aw_skip ?_
            refine post_next ?_
            refine aw_seq ?_
            refine aw_block ?_
            refine aw_seq ?_
            obtain ⟨y50, h51, hF⟩ := bind_some hF
            obtain ⟨y52, h53, hF⟩ := bind_some hF
            refine aw_drawn ({ need := [(7, .pv (.vs 1 (List.map eI y18)))], dst := some 32, val := some (.pv (.vs 1 (List.map eI y18))) } :: { need := [(9, .pv (.int .i64 x33))], dst := some 33, val := some (.pv (.int .i64 x33)) } :: { need := [(32, .pv (.vs 1 (List.map eI y18))), (33, .pv (.int .i64 x33))], dst := some 34, val := some (.pv (.vp (eI y50))) } :: { need := [(34, .pv (.vp (eI y50)))], dst := some 35, val := some (.pv (.int .i64 y50)) } :: { need := [(8, .pv (.vs 1 (List.map eI y20)))], dst := some 36, val := some (.pv (.vs 1 (List.map eI y20))) } :: { need := [(9, .pv (.int .i64 x33))], dst := some 37, val := some (.pv (.int .i64 x33)) } :: { need := [(36, .pv (.vs 1 (List.map eI y20))), (37, .pv (.int .i64 x33))], dst := some 38, val := some (.pv (.vp (eI y52))) } :: { need := [(38, .pv (.vp (eI y52)))], dst := some 39, val := some (.pv (.int .i64 y52)) } :: { need := [(35, .pv (.int .i64 y50)), (39, .pv (.int .i64 y52))], dst := some 40, val := some (.pv (.bool (y50 != y52))) } :: []) ⟨_, _, _⟩ Try_mixed rfl ⟨fun m h => step_on (guard_no rfl) (op_move rfl h.1.1 rfl rfl) rfl, fun m h => step_on (guard_no rfl) (op_move rfl h.1.1 rfl rfl) rfl, fun m h => step_on (guard_no rfl) (op_index_vs (k := .i64) rfl h.1.1 h.1.2.1 (idx_map eI h51) Try_slc_42 rfl rfl) rfl, fun m h => step_on (guard_no rfl) (op_load_vp (p := .int .i64 y50) rfl h.1.1 rfl Try_one_3 rfl rfl) rfl, fun m h => step_on (guard_no rfl) (op_move rfl h.1.1 rfl rfl) rfl, fun m h => step_on (guard_no rfl) (op_move rfl h.1.1 rfl rfl) rfl, fun m h => step_on (guard_no rfl) (op_index_vs (k := .i64) rfl h.1.1 h.1.2.1 (idx_map eI h53) Try_slc_42 rfl rfl) rfl, fun m h => step_on (guard_no rfl) (op_load_vp (p := .int .i64 y52) rfl h.1.1 rfl Try_one_3 rfl rfl) rfl, fun m h => step_on (guard_no rfl) (op_int (k := .i64) (m := y50) (n := y52) rfl h.1.1 h.1.2.1 rfl rfl rfl) rfl, trivial⟩ ⟨⟨⟨rfl, trivial⟩, trivial, trivial⟩, ⟨⟨rfl, trivial⟩, trivial, trivial⟩, ⟨⟨rfl, rfl, trivial⟩, trivial, trivial⟩, ⟨⟨rfl, trivial⟩, trivial, trivial⟩, ⟨⟨rfl, trivial⟩, trivial, trivial⟩, ⟨⟨rfl, trivial⟩, trivial, trivial⟩, ⟨⟨rfl, rfl, trivial⟩, trivial, trivial⟩, ⟨⟨rfl, trivial⟩, trivial, trivial⟩, ⟨⟨rfl, rfl, trivial⟩, trivial, trivial⟩, trivial⟩ (by kernel_rfl) ?_
            refine post_imp (s' := ⟨51, [(0, some (.pv (.vs 7 (List.map eGClass a0)))), (1, some (.pv (.str a1))), (7, some (.pv (.vs 1 (List.map eI y18)))), (8, some (.pv (.vs 1 (List.map eI y20)))), (9, some (.pv (.int .i64 x33))), (40, some (.pv (.bool (y50 != y52))))], [], 0, [], [], 0, []⟩) (imp_sub [] rfl (by decide) rfl rfl ⟨by kernel_rfl, by kernel_rfl, by kernel_rfl, by kernel_rfl, by kernel_rfl, by kernel_rfl, trivial⟩ trivial rfl rfl rfl) ?_
            refine post_next ?_
            rcases ite_some hF with ⟨hb54, hF⟩ | ⟨hb54, hF⟩
            · refine aw_cond_t rfl hb54 ?_
              refine aw_seq ?_
              refine aw_region ?_
              refine reg_cons (guard_no rfl) (op_assign rfl rfl rfl rfl) ?_
              refine reg_nil ?_
              refine post_imp (s' := ⟨51, [(6, some (.pv (.bool false)))], [], 0, [], [], 0, []⟩) (imp_sub [] rfl (by decide) rfl rfl ⟨by kernel_rfl, trivial⟩ trivial rfl rfl rfl) ?_
              refine post_next ?_
              refine aw_ret ?_
              refine post_block_ret ?_
              refine post_then_ret ?_
              refine post_then_ret ?_
              refine post_lp_ret ?_
              obtain rfl := Option.some.inj hF
              have hF := elim_stop hK57
              refine post_then_ret ?_
              obtain rfl := Option.some.inj hF
              exact post_ret rfl rfl (.cons _ _ _ _ _ (.tmp _ _ rfl) (.p _) .nil) (.inl rfl)
            · refine aw_cond_f rfl hb54 ?_
              refine aw_skip ?_
              refine post_block_normal ?_
              refine post_next ?_
              refine aw_region ?_
              refine reg_cons (guard_no rfl) (op_move rfl rfl rfl rfl) ?_
              refine reg_cons (guard_no rfl) (op_int (k := .i64) (m := x33) (n := 1) rfl rfl rfl rfl rfl rfl) ?_
              refine reg_cons (guard_no rfl) (op_assign rfl rfl rfl rfl) ?_
              refine reg_nil ?_
              refine post_round ?_
              exact rnd_back (ih (w_i64 (x33 + 1)) hF) (imp_sub [] rfl (by decide) rfl rfl ⟨by kernel_rfl, by kernel_rfl, by kernel_rfl, by kernel_rfl, by kernel_rfl, trivial⟩ trivial rfl rfl rfl)
          · refine aw_cond_f rfl hb45 ?_
            refine aw_exit ?_
            refine post_then_exit ?_
            refine post_then_exit ?_
            obtain rfl := Option.some.inj hF
            exact post_lp_break _ ⟨_, rfl, rfl⟩ (imp_sub [] rfl (by decide) rfl rfl ⟨by kernel_rfl, by kernel_rfl, trivial⟩ trivial rfl rfl rfl)
        · rintro _ ⟨⟨⟩, rfl, rfl⟩
          have hF := elim_next hK57
          clear hK57
          refine post_next ?_
          refine aw_seq ?_
          refine aw_region ?_
          refine reg_cons (guard_no rfl) (op_move rfl rfl rfl rfl) ?_
          refine reg_cons (guard_no rfl) (op_move rfl rfl rfl rfl) ?_
          obtain ⟨y58, h59, hF⟩ := bind_some hF
          refine reg_cons (guard_no rfl) (op_call 0 rfl (caps := []) (args := [.vs 7 (List.map eGClass a0), .str a1]) (rs := [.p (.vs 2 (List.map eGVal y58))]) rfl rfl rfl Try_cal_29 (Fn.frozen (heap_Start_ok h59)) rfl rfl rfl) ?_
          refine reg_cons (guard_no rfl) (op_move rfl rfl rfl rfl) ?_
          refine reg_cons (guard_no rfl) (op_move rfl rfl rfl rfl) ?_
          obtain ⟨y60, h61, hF⟩ := bind_some hF
          refine reg_cons (guard_no rfl) (op_call 0 rfl (caps := []) (args := [.vs 7 (List.map eGClass a0), .str a1]) (rs := [.p (.vs 2 (List.map eGVal y60))]) rfl rfl rfl Try_cal_30 (Fn.frozen (ref35_Start_ok h61)) rfl rfl rfl) ?_
          obtain ⟨y62, h63, hF⟩ := bind_some hF
          refine reg_cons (guard_no rfl) (op_call 0 rfl (caps := []) (args := [.vs 2 (List.map eGVal y58), .vs 2 (List.map eGVal y60)]) (rs := [.p (.bool y62)]) rfl rfl rfl Try_cal_28 (ref35_Vals_ok h63) rfl rfl rfl) ?_
          refine reg_cons (guard_no rfl) (op_move rfl rfl rfl rfl) ?_
          rcases ite_some hF with ⟨hb64, hF⟩ | ⟨hb64, hF⟩
          · obtain ⟨y65, h66, hF⟩ := bind_some hF
            refine reg_cons (guard_on rfl rfl rfl rfl hb64) (op_call 0 rfl (caps := []) (args := []) (rs := [.p (.bool y65)]) rfl rfl rfl Try_cal_15 (law35_awake_ok h66) rfl rfl rfl) ?_
            refine reg_cons (guard_no rfl) (op_pick_t rfl rfl hb64 rfl rfl rfl) ?_
            refine reg_cons (guard_no rfl) (op_assign rfl rfl rfl rfl) ?_
            refine reg_nil ?_
            refine post_imp (s' := ⟨51, [(6, some (.pv (.bool y65)))], [], 0, [], [], 0, []⟩) (imp_sub [] rfl (by decide) rfl rfl ⟨by kernel_rfl, trivial⟩ trivial rfl rfl rfl) ?_
            refine post_next ?_
            refine aw_ret ?_
            obtain rfl := Option.some.inj hF
            exact post_ret rfl rfl (.cons _ _ _ _ _ (.tmp _ _ rfl) (.p _) .nil) (.inl rfl)
          · refine reg_off (guard_off rfl rfl rfl rfl hb64) rfl rfl ?_
            refine reg_cons (guard_no rfl) (op_pick_f rfl rfl hb64 rfl rfl rfl) ?_
            refine reg_cons (guard_no rfl) (op_assign rfl rfl rfl rfl) ?_
            refine reg_nil ?_
            refine post_imp (s' := ⟨51, [(6, some (.pv (.bool false)))], [], 0, [], [], 0, []⟩) (imp_sub [] rfl (by decide) rfl rfl ⟨by kernel_rfl, trivial⟩ trivial rfl rfl rfl) ?_
            refine post_next ?_
            refine aw_ret ?_
            obtain rfl := Option.some.inj hF
            exact post_ret rfl rfl (.cons _ _ _ _ _ (.tmp _ _ rfl) (.p _) .nil) (.inl rfl)
end Go.Proofs.Ytpbbeljmmabeeaa
