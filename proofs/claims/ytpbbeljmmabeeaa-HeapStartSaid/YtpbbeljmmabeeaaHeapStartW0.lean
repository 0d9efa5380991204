/- A part of the proof that the law HeapStart gives true for every input. -/
import Derived.Test.YtpbbeljmmabeeaaHeapStartT
import Derived.Test.YtpbbeljmmabeeaaHeapStartX
import Derived.Test.YtpbbeljmmabeeaaHeapStartI
/- Each Go function computes its plain function. -/
namespace Go.Proofs.Ytpbbeljmmabeeaa
open Go.RowKit Go.Abs
set_option maxRecDepth 100000
theorem ref10_uniques_ok {a0 : GMethod} {r : Int} (hF : ref10_uniques a0 = some r) : Abs.Fn Try.prog 61 [.agg (eGMethod a0)] [.p (.int .i64 r)] := by
  unfold ref10_uniques at hF
  refine fn_of_body (n := 45) Try.func61 rfl rfl rfl ?_
  intro w O
  refine aw_seq ?_
  refine aw_region ?_
  refine reg_cons (guard_no rfl) (op_box 0 rfl rfl rfl rfl rfl rfl) ?_
  refine reg_cons (guard_no rfl) (op_assign rfl rfl rfl rfl) ?_
  refine reg_nil ?_
  refine post_imp (s' := ⟨45, [(1, some (.lp 0 0))], [(0, some (.box 97 [.pv (.str a0.fName), .pv (.bool a0.fPure), .pv (.int .i64 a0.fRet.fKind), .pv (.str a0.fRet.fClass), .pv (.int .i64 a0.fRet.fN), .pv (.int .i64 a0.fRet.fOwn.a0.fKind), .pv (.int .i64 a0.fRet.fOwn.a0.fN), .pv (.int .i64 a0.fRet.fOwn.a1.fKind), .pv (.int .i64 a0.fRet.fOwn.a1.fN), .pv (.int .i64 a0.fRet.fOwn.a2.fKind), .pv (.int .i64 a0.fRet.fOwn.a2.fN), .pv (.int .i64 a0.fRet.fOwn.a3.fKind), .pv (.int .i64 a0.fRet.fOwn.a3.fN), .pv (.vs 13 (List.map eGVar a0.fParams)), .pv (.vs 13 (List.map eGVar a0.fLocals)), .pv (.vs 23 (eLGStmt a0.fBody)), .pv (.int .i64 a0.fAt)]))], 1, [], [], 0, []⟩) (imp_sub [0] rfl (by decide) rfl rfl ⟨by kernel_rfl, trivial⟩ ⟨by kernel_rfl, trivial⟩ rfl rfl rfl) ?_
  refine post_next ?_
  refine aw_seq ?_
  refine aw_region ?_
  refine reg_cons (guard_no rfl) (op_assign rfl rfl rfl rfl) ?_
  refine reg_nil ?_
  refine post_imp (s' := ⟨45, [(1, some (.lp 0 0)), (3, some (.pv (.int .i64 0)))], [(0, some (.box 97 [.pv (.str a0.fName), .pv (.bool a0.fPure), .pv (.int .i64 a0.fRet.fKind), .pv (.str a0.fRet.fClass), .pv (.int .i64 a0.fRet.fN), .pv (.int .i64 a0.fRet.fOwn.a0.fKind), .pv (.int .i64 a0.fRet.fOwn.a0.fN), .pv (.int .i64 a0.fRet.fOwn.a1.fKind), .pv (.int .i64 a0.fRet.fOwn.a1.fN), .pv (.int .i64 a0.fRet.fOwn.a2.fKind), .pv (.int .i64 a0.fRet.fOwn.a2.fN), .pv (.int .i64 a0.fRet.fOwn.a3.fKind), .pv (.int .i64 a0.fRet.fOwn.a3.fN), .pv (.vs 13 (List.map eGVar a0.fParams)), .pv (.vs 13 (List.map eGVar a0.fLocals)), .pv (.vs 23 (eLGStmt a0.fBody)), .pv (.int .i64 a0.fAt)]))], 1, [], [], 0, []⟩) (imp_sub [0] rfl (by decide) rfl rfl ⟨by kernel_rfl, by kernel_rfl, trivial⟩ ⟨by kernel_rfl, trivial⟩ rfl rfl rfl) ?_
  refine post_next ?_
  refine aw_seq ?_
  refine aw_seq ?_
  refine aw_region ?_
  refine reg_cons (guard_no rfl) (op_assign rfl rfl rfl rfl) ?_
  refine reg_nil ?_
  refine post_imp (s' := ⟨45, [(1, some (.lp 0 0)), (3, some (.pv (.int .i64 0))), (4, some (.pv (.int .i64 0)))], [(0, some (.box 97 [.pv (.str a0.fName), .pv (.bool a0.fPure), .pv (.int .i64 a0.fRet.fKind), .pv (.str a0.fRet.fClass), .pv (.int .i64 a0.fRet.fN), .pv (.int .i64 a0.fRet.fOwn.a0.fKind), .pv (.int .i64 a0.fRet.fOwn.a0.fN), .pv (.int .i64 a0.fRet.fOwn.a1.fKind), .pv (.int .i64 a0.fRet.fOwn.a1.fN), .pv (.int .i64 a0.fRet.fOwn.a2.fKind), .pv (.int .i64 a0.fRet.fOwn.a2.fN), .pv (.int .i64 a0.fRet.fOwn.a3.fKind), .pv (.int .i64 a0.fRet.fOwn.a3.fN), .pv (.vs 13 (List.map eGVar a0.fParams)), .pv (.vs 13 (List.map eGVar a0.fLocals)), .pv (.vs 23 (eLGStmt a0.fBody)), .pv (.int .i64 a0.fAt)]))], 1, [], [], 0, []⟩) (imp_sub [0] rfl (by decide) rfl rfl ⟨by kernel_rfl, by kernel_rfl, by kernel_rfl, trivial⟩ ⟨by kernel_rfl, trivial⟩ rfl rfl rfl) ?_
  refine post_next ?_
  obtain ⟨x34, hF, hK35⟩ := bind_some hF
  refine aw_for ((((a0.fParams.length : Int) : Int) - (0)).toNat + 1) (fun s1 => s1 = ⟨45, [(1, some (.lp 0 0)), (3, some (.pv (.int .i64 x34)))], [(0, some (.box 97 [.pv (.str a0.fName), .pv (.bool a0.fPure), .pv (.int .i64 a0.fRet.fKind), .pv (.str a0.fRet.fClass), .pv (.int .i64 a0.fRet.fN), .pv (.int .i64 a0.fRet.fOwn.a0.fKind), .pv (.int .i64 a0.fRet.fOwn.a0.fN), .pv (.int .i64 a0.fRet.fOwn.a1.fKind), .pv (.int .i64 a0.fRet.fOwn.a1.fN), .pv (.int .i64 a0.fRet.fOwn.a2.fKind), .pv (.int .i64 a0.fRet.fOwn.a2.fN), .pv (.int .i64 a0.fRet.fOwn.a3.fKind), .pv (.int .i64 a0.fRet.fOwn.a3.fN), .pv (.vs 13 (List.map eGVar a0.fParams)), .pv (.vs 13 (List.map eGVar a0.fLocals)), .pv (.vs 23 (eLGStmt a0.fBody)), .pv (.int .i64 a0.fAt)]))], 1, [], [], 0, []⟩) ?_ ?_
  · refine rnd_loop (α := Int × Int) (fun q => ⟨45, [(1, some (.lp 0 0)), (3, some (.pv (.int .i64 q.1))), (4, some (.pv (.int .i64 q.2)))], [(0, some (.box 97 [.pv (.str a0.fName), .pv (.bool a0.fPure), .pv (.int .i64 a0.fRet.fKind), .pv (.str a0.fRet.fClass), .pv (.int .i64 a0.fRet.fN), .pv (.int .i64 a0.fRet.fOwn.a0.fKind), .pv (.int .i64 a0.fRet.fOwn.a0.fN), .pv (.int .i64 a0.fRet.fOwn.a1.fKind), .pv (.int .i64 a0.fRet.fOwn.a1.fN), .pv (.int .i64 a0.fRet.fOwn.a2.fKind), .pv (.int .i64 a0.fRet.fOwn.a2.fN), .pv (.int .i64 a0.fRet.fOwn.a3.fKind), .pv (.int .i64 a0.fRet.fOwn.a3.fN), .pv (.vs 13 (List.map eGVar a0.fParams)), .pv (.vs 13 (List.map eGVar a0.fLocals)), .pv (.vs 23 (eLGStmt a0.fBody)), .pv (.int .i64 a0.fAt)]))], 1, [], [], 0, []⟩) (fun k q => ref10_uniques_L1 a0 k q.1 q.2 = some x34) (0, 0) (imp_sub [0] rfl (by decide) rfl rfl ⟨by kernel_rfl, by kernel_rfl, by kernel_rfl, trivial⟩ ⟨by kernel_rfl, trivial⟩ rfl rfl rfl) hF (fun q h => by cases h) ?_
    clear hF
    rintro k ⟨x10, x11⟩ hF ih
    refine rnd_succ ?_
    refine aw_seq ?_
    refine aw_seq ?_
    refine aw_region ?_
    refine reg_cons (guard_no rfl) (op_move rfl rfl rfl rfl) ?_
    refine reg_cons (guard_no rfl) (op_field_lp rfl rfl Try_fld_97_3 rfl rfl) ?_
    refine reg_cons (guard_no rfl) (op_load_lp (v := .pv (.vs 13 (List.map eGVar a0.fParams))) rfl rfl rfl rfl Try_one_91 rfl rfl) ?_
    refine reg_cons (guard_no rfl) (op_len_vs (n := a0.fParams.length) rfl rfl (List.length_map ..) Try_slc_91 rfl rfl) ?_
    refine reg_cons (guard_no rfl) (op_int (k := .i64) (m := x11) (n := (a0.fParams.length : Int)) rfl rfl rfl rfl rfl rfl) ?_
    refine reg_nil ?_
    refine post_imp (s' := ⟨45, [(1, some (.lp 0 0)), (3, some (.pv (.int .i64 x10))), (4, some (.pv (.int .i64 x11))), (10, some (.pv (.bool (decide (x11 < (a0.fParams.length : Int))))))], [(0, some (.box 97 [.pv (.str a0.fName), .pv (.bool a0.fPure), .pv (.int .i64 a0.fRet.fKind), .pv (.str a0.fRet.fClass), .pv (.int .i64 a0.fRet.fN), .pv (.int .i64 a0.fRet.fOwn.a0.fKind), .pv (.int .i64 a0.fRet.fOwn.a0.fN), .pv (.int .i64 a0.fRet.fOwn.a1.fKind), .pv (.int .i64 a0.fRet.fOwn.a1.fN), .pv (.int .i64 a0.fRet.fOwn.a2.fKind), .pv (.int .i64 a0.fRet.fOwn.a2.fN), .pv (.int .i64 a0.fRet.fOwn.a3.fKind), .pv (.int .i64 a0.fRet.fOwn.a3.fN), .pv (.vs 13 (List.map eGVar a0.fParams)), .pv (.vs 13 (List.map eGVar a0.fLocals)), .pv (.vs 23 (eLGStmt a0.fBody)), .pv (.int .i64 a0.fAt)]))], 1, [], [], 0, []⟩) (imp_sub [0] rfl (by decide) rfl rfl ⟨by kernel_rfl, by kernel_rfl, by kernel_rfl, by kernel_rfl, trivial⟩ ⟨by kernel_rfl, trivial⟩ rfl rfl rfl) ?_
    refine post_next ?_
    rcases ite_some hF with ⟨hb23, hF⟩ | ⟨hb23, hF⟩
    · refine aw_cond_t rfl hb23 ?_
      refine aw_skip ?_
      refine post_next ?_
      refine aw_seq ?_
      obtain ⟨x29, hF, hK31⟩ := bind_some hF
      refine aw_cut (fun s1 => s1 = ⟨45, [(1, some (.lp 0 0)), (3, some (.pv (.int .i64 x29))), (4, some (.pv (.int .i64 x11)))], [(0, some (.box 97 [.pv (.str a0.fName), .pv (.bool a0.fPure), .pv (.int .i64 a0.fRet.fKind), .pv (.str a0.fRet.fClass), .pv (.int .i64 a0.fRet.fN), .pv (.int .i64 a0.fRet.fOwn.a0.fKind), .pv (.int .i64 a0.fRet.fOwn.a0.fN), .pv (.int .i64 a0.fRet.fOwn.a1.fKind), .pv (.int .i64 a0.fRet.fOwn.a1.fN), .pv (.int .i64 a0.fRet.fOwn.a2.fKind), .pv (.int .i64 a0.fRet.fOwn.a2.fN), .pv (.int .i64 a0.fRet.fOwn.a3.fKind), .pv (.int .i64 a0.fRet.fOwn.a3.fN), .pv (.vs 13 (List.map eGVar a0.fParams)), .pv (.vs 13 (List.map eGVar a0.fLocals)), .pv (.vs 23 (eLGStmt a0.fBody)), .pv (.int .i64 a0.fAt)]))], 1, [], [], 0, []⟩) ?_ ?_
      · refine aw_block ?_
        refine aw_seq ?_
        refine aw_region ?_
        refine reg_cons (guard_no rfl) (op_field_lp rfl rfl Try_fld_97_3 rfl rfl) ?_
        refine reg_cons (guard_no rfl) (op_load_lp (v := .pv (.vs 13 (List.map eGVar a0.fParams))) rfl rfl rfl rfl Try_one_91 rfl rfl) ?_
        refine reg_cons (guard_no rfl) (op_move rfl rfl rfl rfl) ?_
        obtain ⟨y26, h27, hF⟩ := bind_some hF
        refine reg_cons (guard_no rfl) (op_index_vs (k := .i64) rfl rfl rfl (idx_map eGVar h27) Try_slc_91 rfl rfl) ?_
        refine reg_cons (guard_no rfl) (op_field_vp rfl rfl Try_fld_79_1 rfl rfl) ?_
        refine reg_cons (guard_no rfl) (op_field_vp rfl rfl Try_fld_77_3 rfl rfl) ?_
        refine reg_cons (guard_no rfl) (op_arr_vp (k := .i64) (m := 0) (n := 4) rfl rfl rfl Try_arr_75 rfl rfl rfl rfl) ?_
        refine reg_cons (guard_no rfl) (op_field_vp rfl rfl Try_fld_51_0 rfl rfl) ?_
        refine reg_cons (guard_no rfl) (op_load_vp (p := .int .i64 y26.fType.fOwn.a0.fKind) rfl rfl rfl Try_one_3 rfl rfl) ?_
        refine reg_cons (guard_no rfl) (op_int (k := .i64) (m := y26.fType.fOwn.a0.fKind) (n := 6) rfl rfl rfl rfl rfl rfl) ?_
        refine reg_nil ?_
        refine post_imp (s' := ⟨45, [(1, some (.lp 0 0)), (3, some (.pv (.int .i64 x10))), (4, some (.pv (.int .i64 x11))), (22, some (.pv (.bool (y26.fType.fOwn.a0.fKind == 6))))], [(0, some (.box 97 [.pv (.str a0.fName), .pv (.bool a0.fPure), .pv (.int .i64 a0.fRet.fKind), .pv (.str a0.fRet.fClass), .pv (.int .i64 a0.fRet.fN), .pv (.int .i64 a0.fRet.fOwn.a0.fKind), .pv (.int .i64 a0.fRet.fOwn.a0.fN), .pv (.int .i64 a0.fRet.fOwn.a1.fKind), .pv (.int .i64 a0.fRet.fOwn.a1.fN), .pv (.int .i64 a0.fRet.fOwn.a2.fKind), .pv (.int .i64 a0.fRet.fOwn.a2.fN), .pv (.int .i64 a0.fRet.fOwn.a3.fKind), .pv (.int .i64 a0.fRet.fOwn.a3.fN), .pv (.vs 13 (List.map eGVar a0.fParams)), .pv (.vs 13 (List.map eGVar a0.fLocals)), .pv (.vs 23 (eLGStmt a0.fBody)), .pv (.int .i64 a0.fAt)]))], 1, [], [], 0, []⟩) (imp_sub [0] rfl (by decide) rfl rfl ⟨by kernel_rfl, by kernel_rfl, by kernel_rfl, by kernel_rfl, trivial⟩ ⟨by kernel_rfl, trivial⟩ rfl rfl rfl) ?_
        refine post_next ?_
        rcases ite_some hF with ⟨hb28, hF⟩ | ⟨hb28, hF⟩
        · refine aw_cond_t rfl hb28 ?_
          refine aw_region ?_
          refine reg_cons (guard_no rfl) (op_move rfl rfl rfl rfl) ?_
          refine reg_cons (guard_no rfl) (op_int (k := .i64) (m := x10) (n := 1) rfl rfl rfl rfl rfl rfl) ?_
          refine reg_cons (guard_no rfl) (op_assign rfl rfl rfl rfl) ?_
          refine reg_nil ?_
          refine post_imp (s' := ⟨45, [(1, some (.lp 0 0)), (3, some (.pv (.int .i64 (w_i64 (x10 + 1))))), (4, some (.pv (.int .i64 x11)))], [(0, some (.box 97 [.pv (.str a0.fName), .pv (.bool a0.fPure), .pv (.int .i64 a0.fRet.fKind), .pv (.str a0.fRet.fClass), .pv (.int .i64 a0.fRet.fN), .pv (.int .i64 a0.fRet.fOwn.a0.fKind), .pv (.int .i64 a0.fRet.fOwn.a0.fN), .pv (.int .i64 a0.fRet.fOwn.a1.fKind), .pv (.int .i64 a0.fRet.fOwn.a1.fN), .pv (.int .i64 a0.fRet.fOwn.a2.fKind), .pv (.int .i64 a0.fRet.fOwn.a2.fN), .pv (.int .i64 a0.fRet.fOwn.a3.fKind), .pv (.int .i64 a0.fRet.fOwn.a3.fN), .pv (.vs 13 (List.map eGVar a0.fParams)), .pv (.vs 13 (List.map eGVar a0.fLocals)), .pv (.vs 23 (eLGStmt a0.fBody)), .pv (.int .i64 a0.fAt)]))], 1, [], [], 0, []⟩) (imp_sub [0] rfl (by decide) rfl rfl ⟨by kernel_rfl, by kernel_rfl, by kernel_rfl, trivial⟩ ⟨by kernel_rfl, trivial⟩ rfl rfl rfl) ?_
          refine post_block_normal ?_
          cases hF
          exact post_cut _ rfl (imp_sub [0] rfl (by decide) rfl rfl ⟨by kernel_rfl, by kernel_rfl, by kernel_rfl, trivial⟩ ⟨by kernel_rfl, trivial⟩ rfl rfl rfl)
        · refine aw_cond_f rfl hb28 ?_
          refine aw_skip ?_
          refine post_block_normal ?_
          cases hF
          exact post_cut _ rfl (imp_sub [0] rfl (by decide) rfl rfl ⟨by kernel_rfl, by kernel_rfl, by kernel_rfl, trivial⟩ ⟨by kernel_rfl, trivial⟩ rfl rfl rfl)
      · rintro _ rfl
        have hF := hK31
        clear hK31
        refine post_next ?_
        refine aw_region ?_
        refine reg_cons (guard_no rfl) (op_move rfl rfl rfl rfl) ?_
        refine reg_cons (guard_no rfl) (op_int (k := .i64) (m := x11) (n := 1) rfl rfl rfl rfl rfl rfl) ?_
        refine reg_cons (guard_no rfl) (op_assign rfl rfl rfl rfl) ?_
        refine reg_nil ?_
        refine post_round ?_
        exact rnd_back (ih (x29, w_i64 (x11 + 1)) hF) (imp_sub [0] rfl (by decide) rfl rfl ⟨by kernel_rfl, by kernel_rfl, by kernel_rfl, trivial⟩ ⟨by kernel_rfl, trivial⟩ rfl rfl rfl)
    · refine aw_cond_f rfl hb23 ?_
      refine aw_exit ?_
      refine post_then_exit ?_
      refine post_then_exit ?_
      obtain rfl := Option.some.inj hF
      exact post_lp_break _ rfl (imp_sub [0] rfl (by decide) rfl rfl ⟨by kernel_rfl, by kernel_rfl, trivial⟩ ⟨by kernel_rfl, trivial⟩ rfl rfl rfl)
  · rintro _ rfl
    have hF := hK35
    clear hK35
    refine post_next ?_
    refine aw_seq ?_
    refine aw_seq ?_
    refine aw_region ?_
    refine reg_cons (guard_no rfl) (op_assign rfl rfl rfl rfl) ?_
    refine reg_nil ?_
    refine post_imp (s' := ⟨45, [(1, some (.lp 0 0)), (3, some (.pv (.int .i64 x34))), (5, some (.pv (.int .i64 0)))], [(0, some (.box 97 [.pv (.str a0.fName), .pv (.bool a0.fPure), .pv (.int .i64 a0.fRet.fKind), .pv (.str a0.fRet.fClass), .pv (.int .i64 a0.fRet.fN), .pv (.int .i64 a0.fRet.fOwn.a0.fKind), .pv (.int .i64 a0.fRet.fOwn.a0.fN), .pv (.int .i64 a0.fRet.fOwn.a1.fKind), .pv (.int .i64 a0.fRet.fOwn.a1.fN), .pv (.int .i64 a0.fRet.fOwn.a2.fKind), .pv (.int .i64 a0.fRet.fOwn.a2.fN), .pv (.int .i64 a0.fRet.fOwn.a3.fKind), .pv (.int .i64 a0.fRet.fOwn.a3.fN), .pv (.vs 13 (List.map eGVar a0.fParams)), .pv (.vs 13 (List.map eGVar a0.fLocals)), .pv (.vs 23 (eLGStmt a0.fBody)), .pv (.int .i64 a0.fAt)]))], 1, [], [], 0, []⟩) (imp_sub [0] rfl (by decide) rfl rfl ⟨by kernel_rfl, by kernel_rfl, by kernel_rfl, trivial⟩ ⟨by kernel_rfl, trivial⟩ rfl rfl rfl) ?_
    refine post_next ?_
    obtain ⟨x69, hF, hK70⟩ := bind_some hF
    refine aw_for ((((a0.fLocals.length : Int) : Int) - (0)).toNat + 1) (fun s1 => s1 = ⟨45, [(3, some (.pv (.int .i64 x69)))], [], 0, [], [], 0, []⟩) ?_ ?_
    · refine rnd_loop (α := Int × Int) (fun q => ⟨45, [(1, some (.lp 0 0)), (3, some (.pv (.int .i64 q.1))), (5, some (.pv (.int .i64 q.2)))], [(0, some (.box 97 [.pv (.str a0.fName), .pv (.bool a0.fPure), .pv (.int .i64 a0.fRet.fKind), .pv (.str a0.fRet.fClass), .pv (.int .i64 a0.fRet.fN), .pv (.int .i64 a0.fRet.fOwn.a0.fKind), .pv (.int .i64 a0.fRet.fOwn.a0.fN), .pv (.int .i64 a0.fRet.fOwn.a1.fKind), .pv (.int .i64 a0.fRet.fOwn.a1.fN), .pv (.int .i64 a0.fRet.fOwn.a2.fKind), .pv (.int .i64 a0.fRet.fOwn.a2.fN), .pv (.int .i64 a0.fRet.fOwn.a3.fKind), .pv (.int .i64 a0.fRet.fOwn.a3.fN), .pv (.vs 13 (List.map eGVar a0.fParams)), .pv (.vs 13 (List.map eGVar a0.fLocals)), .pv (.vs 23 (eLGStmt a0.fBody)), .pv (.int .i64 a0.fAt)]))], 1, [], [], 0, []⟩) (fun k q => ref10_uniques_L2 a0 k q.1 q.2 = some x69) (x34, 0) (imp_sub [0] rfl (by decide) rfl rfl ⟨by kernel_rfl, by kernel_rfl, by kernel_rfl, trivial⟩ ⟨by kernel_rfl, trivial⟩ rfl rfl rfl) hF (fun q h => by cases h) ?_
      clear hF
      rintro k ⟨x45, x46⟩ hF ih
      refine rnd_succ ?_
      refine aw_seq ?_
      refine aw_seq ?_
      refine aw_region ?_
      refine reg_cons (guard_no rfl) (op_move rfl rfl rfl rfl) ?_
      refine reg_cons (guard_no rfl) (op_field_lp rfl rfl Try_fld_97_4 rfl rfl) ?_
      refine reg_cons (guard_no rfl) (op_load_lp (v := .pv (.vs 13 (List.map eGVar a0.fLocals))) rfl rfl rfl rfl Try_one_91 rfl rfl) ?_
      refine reg_cons (guard_no rfl) (op_len_vs (n := a0.fLocals.length) rfl rfl (List.length_map ..) Try_slc_91 rfl rfl) ?_
      refine reg_cons (guard_no rfl) (op_int (k := .i64) (m := x46) (n := (a0.fLocals.length : Int)) rfl rfl rfl rfl rfl rfl) ?_
      refine reg_nil ?_
      refine post_imp (s' := ⟨45, [(1, some (.lp 0 0)), (3, some (.pv (.int .i64 x45))), (5, some (.pv (.int .i64 x46))), (29, some (.pv (.bool (decide (x46 < (a0.fLocals.length : Int))))))], [(0, some (.box 97 [.pv (.str a0.fName), .pv (.bool a0.fPure), .pv (.int .i64 a0.fRet.fKind), .pv (.str a0.fRet.fClass), .pv (.int .i64 a0.fRet.fN), .pv (.int .i64 a0.fRet.fOwn.a0.fKind), .pv (.int .i64 a0.fRet.fOwn.a0.fN), .pv (.int .i64 a0.fRet.fOwn.a1.fKind), .pv (.int .i64 a0.fRet.fOwn.a1.fN), .pv (.int .i64 a0.fRet.fOwn.a2.fKind), .pv (.int .i64 a0.fRet.fOwn.a2.fN), .pv (.int .i64 a0.fRet.fOwn.a3.fKind), .pv (.int .i64 a0.fRet.fOwn.a3.fN), .pv (.vs 13 (List.map eGVar a0.fParams)), .pv (.vs 13 (List.map eGVar a0.fLocals)), .pv (.vs 23 (eLGStmt a0.fBody)), .pv (.int .i64 a0.fAt)]))], 1, [], [], 0, []⟩) (imp_sub [0] rfl (by decide) rfl rfl ⟨by kernel_rfl, by kernel_rfl, by kernel_rfl, by kernel_rfl, trivial⟩ ⟨by kernel_rfl, trivial⟩ rfl rfl rfl) ?_
      refine post_next ?_
      rcases ite_some hF with ⟨hb58, hF⟩ | ⟨hb58, hF⟩
      · refine aw_cond_t rfl hb58 ?_
        refine aw_skip ?_
        refine post_next ?_
        refine aw_seq ?_
        obtain ⟨x64, hF, hK66⟩ := bind_some hF
        refine aw_cut (fun s1 => s1 = ⟨45, [(1, some (.lp 0 0)), (3, some (.pv (.int .i64 x64))), (5, some (.pv (.int .i64 x46)))], [(0, some (.box 97 [.pv (.str a0.fName), .pv (.bool a0.fPure), .pv (.int .i64 a0.fRet.fKind), .pv (.str a0.fRet.fClass), .pv (.int .i64 a0.fRet.fN), .pv (.int .i64 a0.fRet.fOwn.a0.fKind), .pv (.int .i64 a0.fRet.fOwn.a0.fN), .pv (.int .i64 a0.fRet.fOwn.a1.fKind), .pv (.int .i64 a0.fRet.fOwn.a1.fN), .pv (.int .i64 a0.fRet.fOwn.a2.fKind), .pv (.int .i64 a0.fRet.fOwn.a2.fN), .pv (.int .i64 a0.fRet.fOwn.a3.fKind), .pv (.int .i64 a0.fRet.fOwn.a3.fN), .pv (.vs 13 (List.map eGVar a0.fParams)), .pv (.vs 13 (List.map eGVar a0.fLocals)), .pv (.vs 23 (eLGStmt a0.fBody)), .pv (.int .i64 a0.fAt)]))], 1, [], [], 0, []⟩) ?_ ?_
        · refine aw_block ?_
          refine aw_seq ?_
          refine aw_region ?_
          refine reg_cons (guard_no rfl) (op_field_lp rfl rfl Try_fld_97_4 rfl rfl) ?_
          refine reg_cons (guard_no rfl) (op_load_lp (v := .pv (.vs 13 (List.map eGVar a0.fLocals))) rfl rfl rfl rfl Try_one_91 rfl rfl) ?_
          refine reg_cons (guard_no rfl) (op_move rfl rfl rfl rfl) ?_
          obtain ⟨y61, h62, hF⟩ := bind_some hF
          refine reg_cons (guard_no rfl) (op_index_vs (k := .i64) rfl rfl rfl (idx_map eGVar h62) Try_slc_91 rfl rfl) ?_
          refine reg_cons (guard_no rfl) (op_field_vp rfl rfl Try_fld_79_1 rfl rfl) ?_
          refine reg_cons (guard_no rfl) (op_field_vp rfl rfl Try_fld_77_3 rfl rfl) ?_
          refine reg_cons (guard_no rfl) (op_arr_vp (k := .i64) (m := 0) (n := 4) rfl rfl rfl Try_arr_75 rfl rfl rfl rfl) ?_
          refine reg_cons (guard_no rfl) (op_field_vp rfl rfl Try_fld_51_0 rfl rfl) ?_
          refine reg_cons (guard_no rfl) (op_load_vp (p := .int .i64 y61.fType.fOwn.a0.fKind) rfl rfl rfl Try_one_3 rfl rfl) ?_
          refine reg_cons (guard_no rfl) (op_int (k := .i64) (m := y61.fType.fOwn.a0.fKind) (n := 6) rfl rfl rfl rfl rfl rfl) ?_
          refine reg_nil ?_
          refine post_imp (s' := ⟨45, [(1, some (.lp 0 0)), (3, some (.pv (.int .i64 x45))), (5, some (.pv (.int .i64 x46))), (41, some (.pv (.bool (y61.fType.fOwn.a0.fKind == 6))))], [(0, some (.box 97 [.pv (.str a0.fName), .pv (.bool a0.fPure), .pv (.int .i64 a0.fRet.fKind), .pv (.str a0.fRet.fClass), .pv (.int .i64 a0.fRet.fN), .pv (.int .i64 a0.fRet.fOwn.a0.fKind), .pv (.int .i64 a0.fRet.fOwn.a0.fN), .pv (.int .i64 a0.fRet.fOwn.a1.fKind), .pv (.int .i64 a0.fRet.fOwn.a1.fN), .pv (.int .i64 a0.fRet.fOwn.a2.fKind), .pv (.int .i64 a0.fRet.fOwn.a2.fN), .pv (.int .i64 a0.fRet.fOwn.a3.fKind), .pv (.int .i64 a0.fRet.fOwn.a3.fN), .pv (.vs 13 (List.map eGVar a0.fParams)), .pv (.vs 13 (List.map eGVar a0.fLocals)), .pv (.vs 23 (eLGStmt a0.fBody)), .pv (.int .i64 a0.fAt)]))], 1, [], [], 0, []⟩) (imp_sub [0] rfl (by decide) rfl rfl ⟨by kernel_rfl, by kernel_rfl, by kernel_rfl, by kernel_rfl, trivial⟩ ⟨by kernel_rfl, trivial⟩ rfl rfl rfl) ?_
          refine post_next ?_
          rcases ite_some hF with ⟨hb63, hF⟩ | ⟨hb63, hF⟩
          · refine aw_cond_t rfl hb63 ?_
            refine aw_region ?_
            refine reg_cons (guard_no rfl) (op_move rfl rfl rfl rfl) ?_
            refine reg_cons (guard_no rfl) (op_int (k := .i64) (m := x45) (n := 1) rfl rfl rfl rfl rfl rfl) ?_
            refine reg_cons (guard_no rfl) (op_assign rfl rfl rfl rfl) ?_
            refine reg_nil ?_
            refine post_imp (s' := ⟨45, [(1, some (.lp 0 0)), (3, some (.pv (.int .i64 (w_i64 (x45 + 1))))), (5, some (.pv (.int .i64 x46)))], [(0, some (.box 97 [.pv (.str a0.fName), .pv (.bool a0.fPure), .pv (.int .i64 a0.fRet.fKind), .pv (.str a0.fRet.fClass), .pv (.int .i64 a0.fRet.fN), .pv (.int .i64 a0.fRet.fOwn.a0.fKind), .pv (.int .i64 a0.fRet.fOwn.a0.fN), .pv (.int .i64 a0.fRet.fOwn.a1.fKind), .pv (.int .i64 a0.fRet.fOwn.a1.fN), .pv (.int .i64 a0.fRet.fOwn.a2.fKind), .pv (.int .i64 a0.fRet.fOwn.a2.fN), .pv (.int .i64 a0.fRet.fOwn.a3.fKind), .pv (.int .i64 a0.fRet.fOwn.a3.fN), .pv (.vs 13 (List.map eGVar a0.fParams)), .pv (.vs 13 (List.map eGVar a0.fLocals)), .pv (.vs 23 (eLGStmt a0.fBody)), .pv (.int .i64 a0.fAt)]))], 1, [], [], 0, []⟩) (imp_sub [0] rfl (by decide) rfl rfl ⟨by kernel_rfl, by kernel_rfl, by kernel_rfl, trivial⟩ ⟨by kernel_rfl, trivial⟩ rfl rfl rfl) ?_
            refine post_block_normal ?_
            cases hF
            exact post_cut _ rfl (imp_sub [0] rfl (by decide) rfl rfl ⟨by kernel_rfl, by kernel_rfl, by kernel_rfl, trivial⟩ ⟨by kernel_rfl, trivial⟩ rfl rfl rfl)
          · refine aw_cond_f rfl hb63 ?_
            refine aw_skip ?_
            refine post_block_normal ?_
            cases hF
            exact post_cut _ rfl (imp_sub [0] rfl (by decide) rfl rfl ⟨by kernel_rfl, by kernel_rfl, by kernel_rfl, trivial⟩ ⟨by kernel_rfl, trivial⟩ rfl rfl rfl)
        · rintro _ rfl
          have hF := hK66
          clear hK66
          refine post_next ?_
          refine aw_region ?_
          refine reg_cons (guard_no rfl) (op_move rfl rfl rfl rfl) ?_
          refine reg_cons (guard_no rfl) (op_int (k := .i64) (m := x46) (n := 1) rfl rfl rfl rfl rfl rfl) ?_
          refine reg_cons (guard_no rfl) (op_assign rfl rfl rfl rfl) ?_
          refine reg_nil ?_
          refine post_round ?_
          exact rnd_back (ih (x64, w_i64 (x46 + 1)) hF) (imp_sub [0] rfl (by decide) rfl rfl ⟨by kernel_rfl, by kernel_rfl, by kernel_rfl, trivial⟩ ⟨by kernel_rfl, trivial⟩ rfl rfl rfl)
      · refine aw_cond_f rfl hb58 ?_
        refine aw_exit ?_
        refine post_then_exit ?_
        refine post_then_exit ?_
        obtain rfl := Option.some.inj hF
        exact post_lp_break _ rfl (imp_sub [] rfl (by decide) rfl rfl ⟨by kernel_rfl, trivial⟩ trivial rfl rfl rfl)
    · rintro _ rfl
      have hF := hK70
      clear hK70
      refine post_next ?_
      refine aw_seq ?_
      refine aw_region ?_
      refine reg_cons (guard_no rfl) (op_move rfl rfl rfl rfl) ?_
      refine reg_cons (guard_no rfl) (op_assign rfl rfl rfl rfl) ?_
      refine reg_nil ?_
      refine post_imp (s' := ⟨45, [(2, some (.pv (.int .i64 x69)))], [], 0, [], [], 0, []⟩) (imp_sub [] rfl (by decide) rfl rfl ⟨by kernel_rfl, trivial⟩ trivial rfl rfl rfl) ?_
      refine post_next ?_
      refine aw_ret ?_
      obtain rfl := Option.some.inj hF
      exact post_ret rfl rfl (.cons _ _ _ _ _ (.tmp _ _ rfl) (.p _) .nil) (.inl rfl)
theorem ref10_kids_ring : ∀ n : Nat, (∀ (a0 : GExpr) (a1 : Int) (r : Bool), ref10_kids n a0 a1 = some r → Abs.Fn Try.prog 78 [.agg (eGExpr a0), .int .i64 a1] [.p (.bool r)]) := by
  intro n
  induction n with
  | zero => exact (fun _ _ _ h => by simp [ref10_kids] at h)
  | succ n ih =>
    have ref10_kids_ih := ih
    clear ih
    intro a0 a1 r hF
    unfold ref10_kids at hF
    revert hF ref10_kids_ih
    generalize ref10_kids n = ref10_kids_rec
    intro ref10_kids_ih hF
    refine fn_of_body (n := 29) Try.func78 rfl rfl rfl ?_
    intro w O
    refine aw_seq ?_
    refine aw_region ?_
    refine reg_cons (guard_no rfl) (op_box 0 rfl rfl rfl rfl rfl rfl) ?_
    refine reg_cons (guard_no rfl) (op_assign rfl rfl rfl rfl) ?_
    refine reg_nil ?_
    refine post_imp (s' := ⟨29, [(1, some (.pv (.int .i64 a1))), (2, some (.lp 0 0))], [(0, some (.box 102 [.pv (.int .i64 a0.fKind), .pv (.int .i64 a0.fNum), .pv (.str a0.fName), .pv (.vs 4 (eLGExpr a0.fKids))]))], 1, [], [], 0, []⟩) (imp_sub [0] rfl (by decide) rfl rfl ⟨by kernel_rfl, by kernel_rfl, trivial⟩ ⟨by kernel_rfl, trivial⟩ rfl rfl rfl) ?_
    refine post_next ?_
    refine aw_seq ?_
    refine aw_seq ?_
    obtain ⟨x2, hF, hK4⟩ := bind_some hF
    refine aw_cut (fun s1 => s1 = ⟨29, [(1, some (.pv (.int .i64 a1))), (2, some (.lp 0 0)), (13, some (.pv (.bool x2)))], [(0, some (.box 102 [.pv (.int .i64 a0.fKind), .pv (.int .i64 a0.fNum), .pv (.str a0.fName), .pv (.vs 4 (eLGExpr a0.fKids))]))], 1, [], [], 0, []⟩) ?_ ?_
    · refine aw_region ?_
      refine reg_cons (guard_no rfl) (op_move rfl rfl rfl rfl) ?_
      refine reg_cons (guard_no rfl) (op_int (k := .i64) (m := a1) (n := 0) rfl rfl rfl rfl rfl rfl) ?_
      refine reg_cons (guard_no rfl) (op_move rfl rfl rfl rfl) ?_
      rcases ite_some hF with ⟨hb1, hF⟩ | ⟨hb1, hF⟩
      · refine reg_off (guard_off rfl rfl rfl rfl hb1) rfl rfl ?_
        refine reg_off (guard_off rfl rfl rfl rfl hb1) rfl rfl ?_
        refine reg_off (guard_off rfl rfl rfl rfl hb1) rfl rfl ?_
        refine reg_off (guard_off rfl rfl rfl rfl hb1) rfl rfl ?_
        refine reg_cons (guard_no rfl) (op_pick_t rfl rfl hb1 rfl rfl rfl) ?_
        refine reg_nil ?_
        cases hF
        exact post_cut _ rfl (imp_sub [0] rfl (by decide) rfl rfl ⟨by kernel_rfl, by kernel_rfl, by kernel_rfl, trivial⟩ ⟨by kernel_rfl, trivial⟩ rfl rfl rfl)
      · refine reg_cons (guard_on rfl rfl rfl rfl hb1) (op_field_lp rfl rfl Try_fld_102_3 rfl rfl) ?_
        refine reg_cons (guard_on rfl rfl rfl rfl hb1) (op_load_lp (v := .pv (.vs 4 (eLGExpr a0.fKids))) rfl rfl rfl rfl Try_one_100 rfl rfl) ?_
        refine reg_cons (guard_on rfl rfl rfl rfl hb1) (op_len_vs (n := a0.fKids.length) rfl rfl (lenR eLGExpr_map) Try_slc_100 rfl rfl) ?_
        refine reg_cons (guard_on rfl rfl rfl rfl hb1) (op_int (k := .i64) (m := (a0.fKids.length : Int)) (n := 4) rfl rfl rfl rfl rfl rfl) ?_
        refine reg_cons (guard_no rfl) (op_pick_f rfl rfl hb1 rfl rfl rfl) ?_
        refine reg_nil ?_
        cases hF
        exact post_cut _ rfl (imp_sub [0] rfl (by decide) rfl rfl ⟨by kernel_rfl, by kernel_rfl, by kernel_rfl, trivial⟩ ⟨by kernel_rfl, trivial⟩ rfl rfl rfl)
    · rintro _ rfl
      have hF := hK4
      clear hK4
      refine post_next ?_
      rcases ite_some hF with ⟨hb5, hF⟩ | ⟨hb5, hF⟩
      · refine aw_cond_t rfl hb5 ?_
        refine aw_seq ?_
        refine aw_region ?_
        refine reg_cons (guard_no rfl) (op_assign rfl rfl rfl rfl) ?_
        refine reg_nil ?_
        refine post_imp (s' := ⟨29, [(4, some (.pv (.bool true)))], [], 0, [], [], 0, []⟩) (imp_sub [] rfl (by decide) rfl rfl ⟨by kernel_rfl, trivial⟩ trivial rfl rfl rfl) ?_
        refine post_next ?_
        refine aw_ret ?_
        refine post_then_ret ?_
        obtain rfl := Option.some.inj hF
        exact post_ret rfl rfl (.cons _ _ _ _ _ (.tmp _ _ rfl) (.p _) .nil) (.inl rfl)
      · refine aw_cond_f rfl hb5 ?_
        refine aw_skip ?_
        refine post_next ?_
        refine aw_seq ?_
        refine aw_seq ?_
        refine aw_region ?_
        refine reg_cons (guard_no rfl) (op_assign rfl rfl rfl rfl) ?_
        refine reg_nil ?_
        refine post_imp (s' := ⟨29, [(1, some (.pv (.int .i64 a1))), (2, some (.lp 0 0)), (5, some (.pv (.int .i64 0)))], [(0, some (.box 102 [.pv (.int .i64 a0.fKind), .pv (.int .i64 a0.fNum), .pv (.str a0.fName), .pv (.vs 4 (eLGExpr a0.fKids))]))], 1, [], [], 0, []⟩) (imp_sub [0] rfl (by decide) rfl rfl ⟨by kernel_rfl, by kernel_rfl, by kernel_rfl, trivial⟩ ⟨by kernel_rfl, trivial⟩ rfl rfl rfl) ?_
        refine post_next ?_
        obtain ⟨lr39, hF, hK40⟩ := bind_some hF
        refine aw_for ((((a0.fKids.length : Int) : Int) - (0)).toNat + 1) (fun s1 => ∃ q, lr39 = .next q ∧ s1 = ⟨29, [], [], 0, [], [], 0, []⟩) ?_ ?_
        · refine rnd_loop (α := Int) (fun q => ⟨29, [(1, some (.pv (.int .i64 a1))), (2, some (.lp 0 0)), (5, some (.pv (.int .i64 q)))], [(0, some (.box 102 [.pv (.int .i64 a0.fKind), .pv (.int .i64 a0.fNum), .pv (.str a0.fName), .pv (.vs 4 (eLGExpr a0.fKids))]))], 1, [], [], 0, []⟩) (fun k q => ref10_kids_L1 a0 a1 ref10_kids_rec k q = some lr39) 0 (imp_sub [0] rfl (by decide) rfl rfl ⟨by kernel_rfl, by kernel_rfl, by kernel_rfl, trivial⟩ ⟨by kernel_rfl, trivial⟩ rfl rfl rfl) hF (fun q h => by cases h) ?_
          clear hF
          rintro k x16 hF ih
          refine rnd_succ ?_
          refine aw_seq ?_
          refine aw_seq ?_
          refine aw_region ?_
          refine reg_cons (guard_no rfl) (op_move rfl rfl rfl rfl) ?_
          refine reg_cons (guard_no rfl) (op_field_lp rfl rfl Try_fld_102_3 rfl rfl) ?_
          refine reg_cons (guard_no rfl) (op_load_lp (v := .pv (.vs 4 (eLGExpr a0.fKids))) rfl rfl rfl rfl Try_one_100 rfl rfl) ?_
          refine reg_cons (guard_no rfl) (op_len_vs (n := a0.fKids.length) rfl rfl (lenR eLGExpr_map) Try_slc_100 rfl rfl) ?_
          refine reg_cons (guard_no rfl) (op_int (k := .i64) (m := x16) (n := (a0.fKids.length : Int)) rfl rfl rfl rfl rfl rfl) ?_
          refine reg_nil ?_
          refine post_imp (s' := ⟨29, [(1, some (.pv (.int .i64 a1))), (2, some (.lp 0 0)), (5, some (.pv (.int .i64 x16))), (18, some (.pv (.bool (decide (x16 < (a0.fKids.length : Int))))))], [(0, some (.box 102 [.pv (.int .i64 a0.fKind), .pv (.int .i64 a0.fNum), .pv (.str a0.fName), .pv (.vs 4 (eLGExpr a0.fKids))]))], 1, [], [], 0, []⟩) (imp_sub [0] rfl (by decide) rfl rfl ⟨by kernel_rfl, by kernel_rfl, by kernel_rfl, by kernel_rfl, trivial⟩ ⟨by kernel_rfl, trivial⟩ rfl rfl rfl) ?_
          refine post_next ?_
          rcases ite_some hF with ⟨hb28, hF⟩ | ⟨hb28, hF⟩
          · refine aw_cond_t rfl hb28 ?_
            refine aw_skip ?_
            refine post_next ?_
            refine aw_seq ?_
            refine aw_block ?_
            refine aw_seq ?_
            refine aw_region ?_
            refine reg_cons (guard_no rfl) (op_field_lp rfl rfl Try_fld_102_3 rfl rfl) ?_
            refine reg_cons (guard_no rfl) (op_load_lp (v := .pv (.vs 4 (eLGExpr a0.fKids))) rfl rfl rfl rfl Try_one_100 rfl rfl) ?_
            refine reg_cons (guard_no rfl) (op_move rfl rfl rfl rfl) ?_
            obtain ⟨y33, h34, hF⟩ := bind_some hF
            refine reg_cons (guard_no rfl) (op_index_vs (k := .i64) rfl rfl rfl (idxR eLGExpr_map h34) Try_slc_100 rfl rfl) ?_
            refine reg_cons (guard_no rfl) (op_load_vp_agg (ps := eGExpr y33) rfl rfl rfl rfl Try_agg_102 rfl rfl) ?_
            refine reg_cons (guard_no rfl) (op_move rfl rfl rfl rfl) ?_
            refine reg_cons (guard_no rfl) (op_int (k := .i64) (m := a1) (n := 1) rfl rfl rfl rfl rfl rfl) ?_
            obtain ⟨y35, h36, hF⟩ := bind_some hF
            refine reg_cons (guard_no rfl) (op_call 1 rfl (caps := []) (args := [.agg (eGExpr y33), .int .i64 (w_i64 (a1 - 1))]) (rs := [.p (.bool y35)]) rfl rfl rfl Try_cal_78 (ref10_kids_ih _ _ _ h36) rfl rfl rfl) ?_
            refine reg_nil ?_
            refine post_imp (s' := ⟨29, [(1, some (.pv (.int .i64 a1))), (2, some (.lp 0 0)), (5, some (.pv (.int .i64 x16))), (28, some (.pv (.bool y35)))], [(0, some (.box 102 [.pv (.int .i64 a0.fKind), .pv (.int .i64 a0.fNum), .pv (.str a0.fName), .pv (.vs 4 (eLGExpr a0.fKids))]))], 1, [], [], 0, []⟩) (imp_sub [0] rfl (by decide) rfl rfl ⟨by kernel_rfl, by kernel_rfl, by kernel_rfl, by kernel_rfl, trivial⟩ ⟨by kernel_rfl, trivial⟩ rfl rfl rfl) ?_
            refine post_next ?_
            rcases ite_some hF with ⟨hb37, hF⟩ | ⟨hb37, hF⟩
            · refine aw_cond_t rfl hb37 ?_
              refine aw_seq ?_
              refine aw_region ?_
              refine reg_cons (guard_no rfl) (op_assign rfl rfl rfl rfl) ?_
              refine reg_nil ?_
              refine post_imp (s' := ⟨29, [(4, some (.pv (.bool true)))], [], 0, [], [], 0, []⟩) (imp_sub [] rfl (by decide) rfl rfl ⟨by kernel_rfl, trivial⟩ trivial rfl rfl rfl) ?_
              refine post_next ?_
              refine aw_ret ?_
              refine post_block_ret ?_
              refine post_then_ret ?_
              refine post_then_ret ?_
              refine post_lp_ret ?_
              obtain rfl := Option.some.inj hF
              have hF := elim_stop hK40
              refine post_then_ret ?_
              obtain rfl := Option.some.inj hF
              exact post_ret rfl rfl (.cons _ _ _ _ _ (.tmp _ _ rfl) (.p _) .nil) (.inl rfl)
            · refine aw_cond_f rfl hb37 ?_
              refine aw_skip ?_
              refine post_block_normal ?_
              refine post_next ?_
              refine aw_region ?_
              refine reg_cons (guard_no rfl) (op_move rfl rfl rfl rfl) ?_
              refine reg_cons (guard_no rfl) (op_int (k := .i64) (m := x16) (n := 1) rfl rfl rfl rfl rfl rfl) ?_
              refine reg_cons (guard_no rfl) (op_assign rfl rfl rfl rfl) ?_
              refine reg_nil ?_
              refine post_round ?_
              exact rnd_back (ih (w_i64 (x16 + 1)) hF) (imp_sub [0] rfl (by decide) rfl rfl ⟨by kernel_rfl, by kernel_rfl, by kernel_rfl, trivial⟩ ⟨by kernel_rfl, trivial⟩ rfl rfl rfl)
          · refine aw_cond_f rfl hb28 ?_
            refine aw_exit ?_
            refine post_then_exit ?_
            refine post_then_exit ?_
            obtain rfl := Option.some.inj hF
            exact post_lp_break _ ⟨_, rfl, rfl⟩ (imp_sub [] rfl (by decide) rfl rfl trivial trivial rfl rfl rfl)
        · rintro _ ⟨⟨⟩, rfl, rfl⟩
          have hF := elim_next hK40
          clear hK40
          refine post_next ?_
          refine aw_seq ?_
          refine aw_region ?_
          refine reg_cons (guard_no rfl) (op_assign rfl rfl rfl rfl) ?_
          refine reg_nil ?_
          refine post_imp (s' := ⟨29, [(4, some (.pv (.bool false)))], [], 0, [], [], 0, []⟩) (imp_sub [] rfl (by decide) rfl rfl ⟨by kernel_rfl, trivial⟩ trivial rfl rfl rfl) ?_
          refine post_next ?_
          refine aw_ret ?_
          obtain rfl := Option.some.inj hF
          exact post_ret rfl rfl (.cons _ _ _ _ _ (.tmp _ _ rfl) (.p _) .nil) (.inl rfl)
theorem ref10_kids_ok {n : Nat} {a0 : GExpr} {a1 : Int} {r : Bool} (hF : ref10_kids n a0 a1 = some r) : Abs.Fn Try.prog 78 [.agg (eGExpr a0), .int .i64 a1] [.p (.bool r)] := (ref10_kids_ring n) _ _ _ hF

theorem ref10_much_ring : ∀ n : Nat, (∀ (a0 : GStmt) (a1 : Int) (r : Bool), ref10_much n a0 a1 = some r → Abs.Fn Try.prog 62 [.agg (eGStmt a0), .int .i64 a1] [.p (.bool r)]) := by
  intro n
  induction n with
  | zero => exact (fun _ _ _ h => by simp [ref10_much] at h)
  | succ n ih =>
    have ref10_much_ih := ih
    clear ih
    intro a0 a1 r hF
    unfold ref10_much at hF
    revert hF ref10_much_ih
    generalize ref10_much n = ref10_much_rec
    intro ref10_much_ih hF
    refine fn_of_body (n := 76) Try.func62 rfl rfl rfl ?_
    intro w O
    refine aw_seq ?_
    refine aw_region ?_
    refine reg_cons (guard_no rfl) (op_box 0 rfl rfl rfl rfl rfl rfl) ?_
    refine reg_cons (guard_no rfl) (op_assign rfl rfl rfl rfl) ?_
    refine reg_nil ?_
    refine post_imp (s' := ⟨76, [(1, some (.pv (.int .i64 a1))), (2, some (.lp 0 0))], [(0, some (.box 104 [.pv (.int .i64 a0.fKind), .pv (.str a0.fX), .pv (.str a0.fY), .pv (.str a0.fName), .pv (.int .i64 a0.fType.fKind), .pv (.str a0.fType.fClass), .pv (.int .i64 a0.fType.fN), .pv (.int .i64 a0.fType.fOwn.a0.fKind), .pv (.int .i64 a0.fType.fOwn.a0.fN), .pv (.int .i64 a0.fType.fOwn.a1.fKind), .pv (.int .i64 a0.fType.fOwn.a1.fN), .pv (.int .i64 a0.fType.fOwn.a2.fKind), .pv (.int .i64 a0.fType.fOwn.a2.fN), .pv (.int .i64 a0.fType.fOwn.a3.fKind), .pv (.int .i64 a0.fType.fOwn.a3.fN), .pv (.int .i64 a0.fE.fKind), .pv (.int .i64 a0.fE.fNum), .pv (.str a0.fE.fName), .pv (.vs 4 (eLGExpr a0.fE.fKids)), .pv (.vs 4 (eLGExpr a0.fArgs)), .pv (.vs 23 (eLGStmt a0.fBody)), .pv (.vs 23 (eLGStmt a0.fElse)), .pv (.int .i64 a0.fAt)]))], 1, [], [], 0, []⟩) (imp_sub [0] rfl (by decide) rfl rfl ⟨by kernel_rfl, by kernel_rfl, trivial⟩ ⟨by kernel_rfl, trivial⟩ rfl rfl rfl) ?_
    refine post_next ?_
    refine aw_seq ?_
    refine aw_seq ?_
    obtain ⟨x7, hF, hK9⟩ := bind_some hF
    refine aw_cut (fun s1 => s1 = ⟨76, [(1, some (.pv (.int .i64 a1))), (2, some (.lp 0 0)), (32, some (.pv (.bool x7)))], [(0, some (.box 104 [.pv (.int .i64 a0.fKind), .pv (.str a0.fX), .pv (.str a0.fY), .pv (.str a0.fName), .pv (.int .i64 a0.fType.fKind), .pv (.str a0.fType.fClass), .pv (.int .i64 a0.fType.fN), .pv (.int .i64 a0.fType.fOwn.a0.fKind), .pv (.int .i64 a0.fType.fOwn.a0.fN), .pv (.int .i64 a0.fType.fOwn.a1.fKind), .pv (.int .i64 a0.fType.fOwn.a1.fN), .pv (.int .i64 a0.fType.fOwn.a2.fKind), .pv (.int .i64 a0.fType.fOwn.a2.fN), .pv (.int .i64 a0.fType.fOwn.a3.fKind), .pv (.int .i64 a0.fType.fOwn.a3.fN), .pv (.int .i64 a0.fE.fKind), .pv (.int .i64 a0.fE.fNum), .pv (.str a0.fE.fName), .pv (.vs 4 (eLGExpr a0.fE.fKids)), .pv (.vs 4 (eLGExpr a0.fArgs)), .pv (.vs 23 (eLGStmt a0.fBody)), .pv (.vs 23 (eLGStmt a0.fElse)), .pv (.int .i64 a0.fAt)]))], 1, [], [], 0, []⟩) ?_ ?_
    · refine aw_region ?_
      refine reg_cons (guard_no rfl) (op_move rfl rfl rfl rfl) ?_
      refine reg_cons (guard_no rfl) (op_int (k := .i64) (m := a1) (n := 0) rfl rfl rfl rfl rfl rfl) ?_
      refine reg_cons (guard_no rfl) (op_move rfl rfl rfl rfl) ?_
      rcases ite_some hF with ⟨hb1, hF⟩ | ⟨hb1, hF⟩
      · refine reg_off (guard_off rfl rfl rfl rfl hb1) rfl rfl ?_
        refine reg_off (guard_off rfl rfl rfl rfl hb1) rfl rfl ?_
        refine reg_off (guard_off rfl rfl rfl rfl hb1) rfl rfl ?_
        refine reg_off (guard_off rfl rfl rfl rfl hb1) rfl rfl ?_
        refine reg_cons (guard_no rfl) (op_pick_t rfl rfl hb1 rfl rfl rfl) ?_
        refine reg_cons (guard_no rfl) (op_move rfl rfl rfl rfl) ?_
        refine reg_off (guard_off rfl rfl rfl rfl rfl) rfl rfl ?_
        refine reg_off (guard_off rfl rfl rfl rfl rfl) rfl rfl ?_
        refine reg_off (guard_off rfl rfl rfl rfl rfl) rfl rfl ?_
        refine reg_off (guard_off rfl rfl rfl rfl rfl) rfl rfl ?_
        refine reg_cons (guard_no rfl) (op_pick_t rfl rfl rfl rfl rfl rfl) ?_
        refine reg_cons (guard_no rfl) (op_move rfl rfl rfl rfl) ?_
        refine reg_off (guard_off rfl rfl rfl rfl rfl) rfl rfl ?_
        refine reg_off (guard_off rfl rfl rfl rfl rfl) rfl rfl ?_
        refine reg_off (guard_off rfl rfl rfl rfl rfl) rfl rfl ?_
        refine reg_off (guard_off rfl rfl rfl rfl rfl) rfl rfl ?_
        refine reg_cons (guard_no rfl) (op_pick_t rfl rfl rfl rfl rfl rfl) ?_
        refine reg_cons (guard_no rfl) (op_move rfl rfl rfl rfl) ?_
        refine reg_off (guard_off rfl rfl rfl rfl rfl) rfl rfl ?_
        refine reg_off (guard_off rfl rfl rfl rfl rfl) rfl rfl ?_
        refine reg_off (guard_off rfl rfl rfl rfl rfl) rfl rfl ?_
        refine reg_cons (guard_no rfl) (op_pick_t rfl rfl rfl rfl rfl rfl) ?_
        refine reg_nil ?_
        cases hF
        exact post_cut _ rfl (imp_sub [0] rfl (by decide) rfl rfl ⟨by kernel_rfl, by kernel_rfl, by kernel_rfl, trivial⟩ ⟨by kernel_rfl, trivial⟩ rfl rfl rfl)
      · refine reg_cons (guard_on rfl rfl rfl rfl hb1) (op_field_lp rfl rfl Try_fld_104_7 rfl rfl) ?_
        refine reg_cons (guard_on rfl rfl rfl rfl hb1) (op_load_lp (v := .pv (.vs 23 (eLGStmt a0.fBody))) rfl rfl rfl rfl Try_one_95 rfl rfl) ?_
        refine reg_cons (guard_on rfl rfl rfl rfl hb1) (op_len_vs (n := a0.fBody.length) rfl rfl (lenR eLGStmt_map) Try_slc_95 rfl rfl) ?_
        refine reg_cons (guard_on rfl rfl rfl rfl hb1) (op_int (k := .i64) (m := (a0.fBody.length : Int)) (n := 500) rfl rfl rfl rfl rfl rfl) ?_
        refine reg_cons (guard_no rfl) (op_pick_f rfl rfl hb1 rfl rfl rfl) ?_
        refine reg_cons (guard_no rfl) (op_move rfl rfl rfl rfl) ?_
        rcases ite_some hF with ⟨hb2, hF⟩ | ⟨hb2, hF⟩
        · refine reg_off (guard_off rfl rfl rfl rfl hb2) rfl rfl ?_
          refine reg_off (guard_off rfl rfl rfl rfl hb2) rfl rfl ?_
          refine reg_off (guard_off rfl rfl rfl rfl hb2) rfl rfl ?_
          refine reg_off (guard_off rfl rfl rfl rfl hb2) rfl rfl ?_
          refine reg_cons (guard_no rfl) (op_pick_t rfl rfl hb2 rfl rfl rfl) ?_
          refine reg_cons (guard_no rfl) (op_move rfl rfl rfl rfl) ?_
          refine reg_off (guard_off rfl rfl rfl rfl rfl) rfl rfl ?_
          refine reg_off (guard_off rfl rfl rfl rfl rfl) rfl rfl ?_
          refine reg_off (guard_off rfl rfl rfl rfl rfl) rfl rfl ?_
          refine reg_off (guard_off rfl rfl rfl rfl rfl) rfl rfl ?_
          refine reg_cons (guard_no rfl) (op_pick_t rfl rfl rfl rfl rfl rfl) ?_
          refine reg_cons (guard_no rfl) (op_move rfl rfl rfl rfl) ?_
          refine reg_off (guard_off rfl rfl rfl rfl rfl) rfl rfl ?_
          refine reg_off (guard_off rfl rfl rfl rfl rfl) rfl rfl ?_
          refine reg_off (guard_off rfl rfl rfl rfl rfl) rfl rfl ?_
          refine reg_cons (guard_no rfl) (op_pick_t rfl rfl rfl rfl rfl rfl) ?_
          refine reg_nil ?_
          cases hF
          exact post_cut _ rfl (imp_sub [0] rfl (by decide) rfl rfl ⟨by kernel_rfl, by kernel_rfl, by kernel_rfl, trivial⟩ ⟨by kernel_rfl, trivial⟩ rfl rfl rfl)
        · refine reg_cons (guard_on rfl rfl rfl rfl hb2) (op_field_lp rfl rfl Try_fld_104_8 rfl rfl) ?_
          refine reg_cons (guard_on rfl rfl rfl rfl hb2) (op_load_lp (v := .pv (.vs 23 (eLGStmt a0.fElse))) rfl rfl rfl rfl Try_one_95 rfl rfl) ?_
          refine reg_cons (guard_on rfl rfl rfl rfl hb2) (op_len_vs (n := a0.fElse.length) rfl rfl (lenR eLGStmt_map) Try_slc_95 rfl rfl) ?_
          refine reg_cons (guard_on rfl rfl rfl rfl hb2) (op_int (k := .i64) (m := (a0.fElse.length : Int)) (n := 500) rfl rfl rfl rfl rfl rfl) ?_
          refine reg_cons (guard_no rfl) (op_pick_f rfl rfl hb2 rfl rfl rfl) ?_
          refine reg_cons (guard_no rfl) (op_move rfl rfl rfl rfl) ?_
          rcases ite_some hF with ⟨hb3, hF⟩ | ⟨hb3, hF⟩
          · refine reg_off (guard_off rfl rfl rfl rfl hb3) rfl rfl ?_
            refine reg_off (guard_off rfl rfl rfl rfl hb3) rfl rfl ?_
            refine reg_off (guard_off rfl rfl rfl rfl hb3) rfl rfl ?_
            refine reg_off (guard_off rfl rfl rfl rfl hb3) rfl rfl ?_
            refine reg_cons (guard_no rfl) (op_pick_t rfl rfl hb3 rfl rfl rfl) ?_
            refine reg_cons (guard_no rfl) (op_move rfl rfl rfl rfl) ?_
            refine reg_off (guard_off rfl rfl rfl rfl rfl) rfl rfl ?_
            refine reg_off (guard_off rfl rfl rfl rfl rfl) rfl rfl ?_
            refine reg_off (guard_off rfl rfl rfl rfl rfl) rfl rfl ?_
            refine reg_cons (guard_no rfl) (op_pick_t rfl rfl rfl rfl rfl rfl) ?_
            refine reg_nil ?_
            cases hF
            exact post_cut _ rfl (imp_sub [0] rfl (by decide) rfl rfl ⟨by kernel_rfl, by kernel_rfl, by kernel_rfl, trivial⟩ ⟨by kernel_rfl, trivial⟩ rfl rfl rfl)
          · refine reg_cons (guard_on rfl rfl rfl rfl hb3) (op_field_lp rfl rfl Try_fld_104_6 rfl rfl) ?_
            refine reg_cons (guard_on rfl rfl rfl rfl hb3) (op_load_lp (v := .pv (.vs 4 (eLGExpr a0.fArgs))) rfl rfl rfl rfl Try_one_100 rfl rfl) ?_
            refine reg_cons (guard_on rfl rfl rfl rfl hb3) (op_len_vs (n := a0.fArgs.length) rfl rfl (lenR eLGExpr_map) Try_slc_100 rfl rfl) ?_
            refine reg_cons (guard_on rfl rfl rfl rfl hb3) (op_int (k := .i64) (m := (a0.fArgs.length : Int)) (n := 20) rfl rfl rfl rfl rfl rfl) ?_
            refine reg_cons (guard_no rfl) (op_pick_f rfl rfl hb3 rfl rfl rfl) ?_
            refine reg_cons (guard_no rfl) (op_move rfl rfl rfl rfl) ?_
            rcases ite_some hF with ⟨hb4, hF⟩ | ⟨hb4, hF⟩
            · refine reg_off (guard_off rfl rfl rfl rfl hb4) rfl rfl ?_
              refine reg_off (guard_off rfl rfl rfl rfl hb4) rfl rfl ?_
              refine reg_off (guard_off rfl rfl rfl rfl hb4) rfl rfl ?_
              refine reg_cons (guard_no rfl) (op_pick_t rfl rfl hb4 rfl rfl rfl) ?_
              refine reg_nil ?_
              cases hF
              exact post_cut _ rfl (imp_sub [0] rfl (by decide) rfl rfl ⟨by kernel_rfl, by kernel_rfl, by kernel_rfl, trivial⟩ ⟨by kernel_rfl, trivial⟩ rfl rfl rfl)
            · refine reg_cons (guard_on rfl rfl rfl rfl hb4) (op_field_lp rfl rfl Try_fld_104_5 rfl rfl) ?_
              refine reg_cons (guard_on rfl rfl rfl rfl hb4) (op_load_lp_agg (ps := eGExpr a0.fE) rfl rfl rfl rfl rfl rfl Try_agg_102 rfl rfl) ?_
              obtain ⟨y5, h6, hF⟩ := bind_some hF
              refine reg_cons (guard_on rfl rfl rfl rfl hb4) (op_call 1 rfl (caps := []) (args := [.agg (eGExpr a0.fE), .int .i64 25]) (rs := [.p (.bool y5)]) rfl rfl rfl Try_cal_78 (ref10_kids_ok h6) rfl rfl rfl) ?_
              refine reg_cons (guard_no rfl) (op_pick_f rfl rfl hb4 rfl rfl rfl) ?_
              refine reg_nil ?_
              cases hF
              exact post_cut _ rfl (imp_sub [0] rfl (by decide) rfl rfl ⟨by kernel_rfl, by kernel_rfl, by kernel_rfl, trivial⟩ ⟨by kernel_rfl, trivial⟩ rfl rfl rfl)
    · rintro _ rfl
      have hF := hK9
      clear hK9
      refine post_next ?_
      rcases ite_some hF with ⟨hb10, hF⟩ | ⟨hb10, hF⟩
      · refine aw_cond_t rfl hb10 ?_
        refine aw_seq ?_
        refine aw_region ?_
        refine reg_cons (guard_no rfl) (op_assign rfl rfl rfl rfl) ?_
        refine reg_nil ?_
        refine post_imp (s' := ⟨76, [(4, some (.pv (.bool true)))], [], 0, [], [], 0, []⟩) (imp_sub [] rfl (by decide) rfl rfl ⟨by kernel_rfl, trivial⟩ trivial rfl rfl rfl) ?_
        refine post_next ?_
        refine aw_ret ?_
        refine post_then_ret ?_
        obtain rfl := Option.some.inj hF
        exact post_ret rfl rfl (.cons _ _ _ _ _ (.tmp _ _ rfl) (.p _) .nil) (.inl rfl)
      · refine aw_cond_f rfl hb10 ?_
        refine aw_skip ?_
        refine post_next ?_
        refine aw_seq ?_
        refine aw_seq ?_
        refine aw_region ?_
        refine reg_cons (guard_no rfl) (op_assign rfl rfl rfl rfl) ?_
        refine reg_nil ?_
        refine post_imp (s' := ⟨76, [(1, some (.pv (.int .i64 a1))), (2, some (.lp 0 0)), (5, some (.pv (.int .i64 0)))], [(0, some (.box 104 [.pv (.int .i64 a0.fKind), .pv (.str a0.fX), .pv (.str a0.fY), .pv (.str a0.fName), .pv (.int .i64 a0.fType.fKind), .pv (.str a0.fType.fClass), .pv (.int .i64 a0.fType.fN), .pv (.int .i64 a0.fType.fOwn.a0.fKind), .pv (.int .i64 a0.fType.fOwn.a0.fN), .pv (.int .i64 a0.fType.fOwn.a1.fKind), .pv (.int .i64 a0.fType.fOwn.a1.fN), .pv (.int .i64 a0.fType.fOwn.a2.fKind), .pv (.int .i64 a0.fType.fOwn.a2.fN), .pv (.int .i64 a0.fType.fOwn.a3.fKind), .pv (.int .i64 a0.fType.fOwn.a3.fN), .pv (.int .i64 a0.fE.fKind), .pv (.int .i64 a0.fE.fNum), .pv (.str a0.fE.fName), .pv (.vs 4 (eLGExpr a0.fE.fKids)), .pv (.vs 4 (eLGExpr a0.fArgs)), .pv (.vs 23 (eLGStmt a0.fBody)), .pv (.vs 23 (eLGStmt a0.fElse)), .pv (.int .i64 a0.fAt)]))], 1, [], [], 0, []⟩) (imp_sub [0] rfl (by decide) rfl rfl ⟨by kernel_rfl, by kernel_rfl, by kernel_rfl, trivial⟩ ⟨by kernel_rfl, trivial⟩ rfl rfl rfl) ?_
        refine post_next ?_
        obtain ⟨lr44, hF, hK45⟩ := bind_some hF
        refine aw_for ((((a0.fArgs.length : Int) : Int) - (0)).toNat + 1) (fun s1 => ∃ q, lr44 = .next q ∧ s1 = ⟨76, [(1, some (.pv (.int .i64 a1))), (2, some (.lp 0 0))], [(0, some (.box 104 [.pv (.int .i64 a0.fKind), .pv (.str a0.fX), .pv (.str a0.fY), .pv (.str a0.fName), .pv (.int .i64 a0.fType.fKind), .pv (.str a0.fType.fClass), .pv (.int .i64 a0.fType.fN), .pv (.int .i64 a0.fType.fOwn.a0.fKind), .pv (.int .i64 a0.fType.fOwn.a0.fN), .pv (.int .i64 a0.fType.fOwn.a1.fKind), .pv (.int .i64 a0.fType.fOwn.a1.fN), .pv (.int .i64 a0.fType.fOwn.a2.fKind), .pv (.int .i64 a0.fType.fOwn.a2.fN), .pv (.int .i64 a0.fType.fOwn.a3.fKind), .pv (.int .i64 a0.fType.fOwn.a3.fN), .pv (.int .i64 a0.fE.fKind), .pv (.int .i64 a0.fE.fNum), .pv (.str a0.fE.fName), .pv (.vs 4 (eLGExpr a0.fE.fKids)), .pv (.vs 4 (eLGExpr a0.fArgs)), .pv (.vs 23 (eLGStmt a0.fBody)), .pv (.vs 23 (eLGStmt a0.fElse)), .pv (.int .i64 a0.fAt)]))], 1, [], [], 0, []⟩) ?_ ?_
        · refine rnd_loop (α := Int) (fun q => ⟨76, [(1, some (.pv (.int .i64 a1))), (2, some (.lp 0 0)), (5, some (.pv (.int .i64 q)))], [(0, some (.box 104 [.pv (.int .i64 a0.fKind), .pv (.str a0.fX), .pv (.str a0.fY), .pv (.str a0.fName), .pv (.int .i64 a0.fType.fKind), .pv (.str a0.fType.fClass), .pv (.int .i64 a0.fType.fN), .pv (.int .i64 a0.fType.fOwn.a0.fKind), .pv (.int .i64 a0.fType.fOwn.a0.fN), .pv (.int .i64 a0.fType.fOwn.a1.fKind), .pv (.int .i64 a0.fType.fOwn.a1.fN), .pv (.int .i64 a0.fType.fOwn.a2.fKind), .pv (.int .i64 a0.fType.fOwn.a2.fN), .pv (.int .i64 a0.fType.fOwn.a3.fKind), .pv (.int .i64 a0.fType.fOwn.a3.fN), .pv (.int .i64 a0.fE.fKind), .pv (.int .i64 a0.fE.fNum), .pv (.str a0.fE.fName), .pv (.vs 4 (eLGExpr a0.fE.fKids)), .pv (.vs 4 (eLGExpr a0.fArgs)), .pv (.vs 23 (eLGStmt a0.fBody)), .pv (.vs 23 (eLGStmt a0.fElse)), .pv (.int .i64 a0.fAt)]))], 1, [], [], 0, []⟩) (fun k q => ref10_much_L1 a0 k q = some lr44) 0 (imp_sub [0] rfl (by decide) rfl rfl ⟨by kernel_rfl, by kernel_rfl, by kernel_rfl, trivial⟩ ⟨by kernel_rfl, trivial⟩ rfl rfl rfl) hF (fun q h => by cases h) ?_
          clear hF
          rintro k x21 hF ih
          refine rnd_succ ?_
          refine aw_seq ?_
          refine aw_seq ?_
          refine aw_region ?_
          refine reg_cons (guard_no rfl) (op_move rfl rfl rfl rfl) ?_
          refine reg_cons (guard_no rfl) (op_field_lp rfl rfl Try_fld_104_6 rfl rfl) ?_
          refine reg_cons (guard_no rfl) (op_load_lp (v := .pv (.vs 4 (eLGExpr a0.fArgs))) rfl rfl rfl rfl Try_one_100 rfl rfl) ?_
          refine reg_cons (guard_no rfl) (op_len_vs (n := a0.fArgs.length) rfl rfl (lenR eLGExpr_map) Try_slc_100 rfl rfl) ?_
          refine reg_cons (guard_no rfl) (op_int (k := .i64) (m := x21) (n := (a0.fArgs.length : Int)) rfl rfl rfl rfl rfl rfl) ?_
          refine reg_nil ?_
          refine post_imp (s' := ⟨76, [(1, some (.pv (.int .i64 a1))), (2, some (.lp 0 0)), (5, some (.pv (.int .i64 x21))), (37, some (.pv (.bool (decide (x21 < (a0.fArgs.length : Int))))))], [(0, some (.box 104 [.pv (.int .i64 a0.fKind), .pv (.str a0.fX), .pv (.str a0.fY), .pv (.str a0.fName), .pv (.int .i64 a0.fType.fKind), .pv (.str a0.fType.fClass), .pv (.int .i64 a0.fType.fN), .pv (.int .i64 a0.fType.fOwn.a0.fKind), .pv (.int .i64 a0.fType.fOwn.a0.fN), .pv (.int .i64 a0.fType.fOwn.a1.fKind), .pv (.int .i64 a0.fType.fOwn.a1.fN), .pv (.int .i64 a0.fType.fOwn.a2.fKind), .pv (.int .i64 a0.fType.fOwn.a2.fN), .pv (.int .i64 a0.fType.fOwn.a3.fKind), .pv (.int .i64 a0.fType.fOwn.a3.fN), .pv (.int .i64 a0.fE.fKind), .pv (.int .i64 a0.fE.fNum), .pv (.str a0.fE.fName), .pv (.vs 4 (eLGExpr a0.fE.fKids)), .pv (.vs 4 (eLGExpr a0.fArgs)), .pv (.vs 23 (eLGStmt a0.fBody)), .pv (.vs 23 (eLGStmt a0.fElse)), .pv (.int .i64 a0.fAt)]))], 1, [], [], 0, []⟩) (imp_sub [0] rfl (by decide) rfl rfl ⟨by kernel_rfl, by kernel_rfl, by kernel_rfl, by kernel_rfl, trivial⟩ ⟨by kernel_rfl, trivial⟩ rfl rfl rfl) ?_
          refine post_next ?_
          rcases ite_some hF with ⟨hb33, hF⟩ | ⟨hb33, hF⟩
          · refine aw_cond_t rfl hb33 ?_
            refine aw_skip ?_
            refine post_next ?_
            refine aw_seq ?_
            refine aw_block ?_
            refine aw_seq ?_
            refine aw_region ?_
            refine reg_cons (guard_no rfl) (op_field_lp rfl rfl Try_fld_104_6 rfl rfl) ?_
            refine reg_cons (guard_no rfl) (op_load_lp (v := .pv (.vs 4 (eLGExpr a0.fArgs))) rfl rfl rfl rfl Try_one_100 rfl rfl) ?_
            refine reg_cons (guard_no rfl) (op_move rfl rfl rfl rfl) ?_
            obtain ⟨y38, h39, hF⟩ := bind_some hF
            refine reg_cons (guard_no rfl) (op_index_vs (k := .i64) rfl rfl rfl (idxR eLGExpr_map h39) Try_slc_100 rfl rfl) ?_
            refine reg_cons (guard_no rfl) (op_load_vp_agg (ps := eGExpr y38) rfl rfl rfl rfl Try_agg_102 rfl rfl) ?_
            obtain ⟨y40, h41, hF⟩ := bind_some hF
            refine reg_cons (guard_no rfl) (op_call 1 rfl (caps := []) (args := [.agg (eGExpr y38), .int .i64 25]) (rs := [.p (.bool y40)]) rfl rfl rfl Try_cal_78 (ref10_kids_ok h41) rfl rfl rfl) ?_
            refine reg_nil ?_
            refine post_imp (s' := ⟨76, [(1, some (.pv (.int .i64 a1))), (2, some (.lp 0 0)), (5, some (.pv (.int .i64 x21))), (45, some (.pv (.bool y40)))], [(0, some (.box 104 [.pv (.int .i64 a0.fKind), .pv (.str a0.fX), .pv (.str a0.fY), .pv (.str a0.fName), .pv (.int .i64 a0.fType.fKind), .pv (.str a0.fType.fClass), .pv (.int .i64 a0.fType.fN), .pv (.int .i64 a0.fType.fOwn.a0.fKind), .pv (.int .i64 a0.fType.fOwn.a0.fN), .pv (.int .i64 a0.fType.fOwn.a1.fKind), .pv (.int .i64 a0.fType.fOwn.a1.fN), .pv (.int .i64 a0.fType.fOwn.a2.fKind), .pv (.int .i64 a0.fType.fOwn.a2.fN), .pv (.int .i64 a0.fType.fOwn.a3.fKind), .pv (.int .i64 a0.fType.fOwn.a3.fN), .pv (.int .i64 a0.fE.fKind), .pv (.int .i64 a0.fE.fNum), .pv (.str a0.fE.fName), .pv (.vs 4 (eLGExpr a0.fE.fKids)), .pv (.vs 4 (eLGExpr a0.fArgs)), .pv (.vs 23 (eLGStmt a0.fBody)), .pv (.vs 23 (eLGStmt a0.fElse)), .pv (.int .i64 a0.fAt)]))], 1, [], [], 0, []⟩) (imp_sub [0] rfl (by decide) rfl rfl ⟨by kernel_rfl, by kernel_rfl, by kernel_rfl, by kernel_rfl, trivial⟩ ⟨by kernel_rfl, trivial⟩ rfl rfl rfl) ?_
            refine post_next ?_
            rcases ite_some hF with ⟨hb42, hF⟩ | ⟨hb42, hF⟩
            · refine aw_cond_t rfl hb42 ?_
              refine aw_seq ?_
              refine aw_region ?_
              refine reg_cons (guard_no rfl) (op_assign rfl rfl rfl rfl) ?_
              refine reg_nil ?_
              refine post_imp (s' := ⟨76, [(4, some (.pv (.bool true)))], [], 0, [], [], 0, []⟩) (imp_sub [] rfl (by decide) rfl rfl ⟨by kernel_rfl, trivial⟩ trivial rfl rfl rfl) ?_
              refine post_next ?_
              refine aw_ret ?_
              refine post_block_ret ?_
              refine post_then_ret ?_
              refine post_then_ret ?_
              refine post_lp_ret ?_
              obtain rfl := Option.some.inj hF
              have hF := elim_stop hK45
              refine post_then_ret ?_
              obtain rfl := Option.some.inj hF
              exact post_ret rfl rfl (.cons _ _ _ _ _ (.tmp _ _ rfl) (.p _) .nil) (.inl rfl)
            · refine aw_cond_f rfl hb42 ?_
              refine aw_skip ?_
              refine post_block_normal ?_
              refine post_next ?_
              refine aw_region ?_
              refine reg_cons (guard_no rfl) (op_move rfl rfl rfl rfl) ?_
              refine reg_cons (guard_no rfl) (op_int (k := .i64) (m := x21) (n := 1) rfl rfl rfl rfl rfl rfl) ?_
              refine reg_cons (guard_no rfl) (op_assign rfl rfl rfl rfl) ?_
              refine reg_nil ?_
              refine post_round ?_
              exact rnd_back (ih (w_i64 (x21 + 1)) hF) (imp_sub [0] rfl (by decide) rfl rfl ⟨by kernel_rfl, by kernel_rfl, by kernel_rfl, trivial⟩ ⟨by kernel_rfl, trivial⟩ rfl rfl rfl)
          · refine aw_cond_f rfl hb33 ?_
            refine aw_exit ?_
            refine post_then_exit ?_
            refine post_then_exit ?_
            obtain rfl := Option.some.inj hF
            exact post_lp_break _ ⟨_, rfl, rfl⟩ (imp_sub [0] rfl (by decide) rfl rfl ⟨by kernel_rfl, by kernel_rfl, trivial⟩ ⟨by kernel_rfl, trivial⟩ rfl rfl rfl)
        · rintro _ ⟨⟨⟩, rfl, rfl⟩
          have hF := elim_next hK45
          clear hK45
          refine post_next ?_
          refine aw_seq ?_
          refine aw_seq ?_
          refine aw_region ?_
          refine reg_cons (guard_no rfl) (op_assign rfl rfl rfl rfl) ?_
          refine reg_nil ?_
          refine post_imp (s' := ⟨76, [(1, some (.pv (.int .i64 a1))), (2, some (.lp 0 0)), (6, some (.pv (.int .i64 0)))], [(0, some (.box 104 [.pv (.int .i64 a0.fKind), .pv (.str a0.fX), .pv (.str a0.fY), .pv (.str a0.fName), .pv (.int .i64 a0.fType.fKind), .pv (.str a0.fType.fClass), .pv (.int .i64 a0.fType.fN), .pv (.int .i64 a0.fType.fOwn.a0.fKind), .pv (.int .i64 a0.fType.fOwn.a0.fN), .pv (.int .i64 a0.fType.fOwn.a1.fKind), .pv (.int .i64 a0.fType.fOwn.a1.fN), .pv (.int .i64 a0.fType.fOwn.a2.fKind), .pv (.int .i64 a0.fType.fOwn.a2.fN), .pv (.int .i64 a0.fType.fOwn.a3.fKind), .pv (.int .i64 a0.fType.fOwn.a3.fN), .pv (.int .i64 a0.fE.fKind), .pv (.int .i64 a0.fE.fNum), .pv (.str a0.fE.fName), .pv (.vs 4 (eLGExpr a0.fE.fKids)), .pv (.vs 4 (eLGExpr a0.fArgs)), .pv (.vs 23 (eLGStmt a0.fBody)), .pv (.vs 23 (eLGStmt a0.fElse)), .pv (.int .i64 a0.fAt)]))], 1, [], [], 0, []⟩) (imp_sub [0] rfl (by decide) rfl rfl ⟨by kernel_rfl, by kernel_rfl, by kernel_rfl, trivial⟩ ⟨by kernel_rfl, trivial⟩ rfl rfl rfl) ?_
          refine post_next ?_
          obtain ⟨lr79, hF, hK80⟩ := bind_some hF
          refine aw_for ((((a0.fBody.length : Int) : Int) - (0)).toNat + 1) (fun s1 => ∃ q, lr79 = .next q ∧ s1 = ⟨76, [(1, some (.pv (.int .i64 a1))), (2, some (.lp 0 0))], [(0, some (.box 104 [.pv (.int .i64 a0.fKind), .pv (.str a0.fX), .pv (.str a0.fY), .pv (.str a0.fName), .pv (.int .i64 a0.fType.fKind), .pv (.str a0.fType.fClass), .pv (.int .i64 a0.fType.fN), .pv (.int .i64 a0.fType.fOwn.a0.fKind), .pv (.int .i64 a0.fType.fOwn.a0.fN), .pv (.int .i64 a0.fType.fOwn.a1.fKind), .pv (.int .i64 a0.fType.fOwn.a1.fN), .pv (.int .i64 a0.fType.fOwn.a2.fKind), .pv (.int .i64 a0.fType.fOwn.a2.fN), .pv (.int .i64 a0.fType.fOwn.a3.fKind), .pv (.int .i64 a0.fType.fOwn.a3.fN), .pv (.int .i64 a0.fE.fKind), .pv (.int .i64 a0.fE.fNum), .pv (.str a0.fE.fName), .pv (.vs 4 (eLGExpr a0.fE.fKids)), .pv (.vs 4 (eLGExpr a0.fArgs)), .pv (.vs 23 (eLGStmt a0.fBody)), .pv (.vs 23 (eLGStmt a0.fElse)), .pv (.int .i64 a0.fAt)]))], 1, [], [], 0, []⟩) ?_ ?_
          · refine rnd_loop (α := Int) (fun q => ⟨76, [(1, some (.pv (.int .i64 a1))), (2, some (.lp 0 0)), (6, some (.pv (.int .i64 q)))], [(0, some (.box 104 [.pv (.int .i64 a0.fKind), .pv (.str a0.fX), .pv (.str a0.fY), .pv (.str a0.fName), .pv (.int .i64 a0.fType.fKind), .pv (.str a0.fType.fClass), .pv (.int .i64 a0.fType.fN), .pv (.int .i64 a0.fType.fOwn.a0.fKind), .pv (.int .i64 a0.fType.fOwn.a0.fN), .pv (.int .i64 a0.fType.fOwn.a1.fKind), .pv (.int .i64 a0.fType.fOwn.a1.fN), .pv (.int .i64 a0.fType.fOwn.a2.fKind), .pv (.int .i64 a0.fType.fOwn.a2.fN), .pv (.int .i64 a0.fType.fOwn.a3.fKind), .pv (.int .i64 a0.fType.fOwn.a3.fN), .pv (.int .i64 a0.fE.fKind), .pv (.int .i64 a0.fE.fNum), .pv (.str a0.fE.fName), .pv (.vs 4 (eLGExpr a0.fE.fKids)), .pv (.vs 4 (eLGExpr a0.fArgs)), .pv (.vs 23 (eLGStmt a0.fBody)), .pv (.vs 23 (eLGStmt a0.fElse)), .pv (.int .i64 a0.fAt)]))], 1, [], [], 0, []⟩) (fun k q => ref10_much_L2 a0 a1 ref10_much_rec k q = some lr79) 0 (imp_sub [0] rfl (by decide) rfl rfl ⟨by kernel_rfl, by kernel_rfl, by kernel_rfl, trivial⟩ ⟨by kernel_rfl, trivial⟩ rfl rfl rfl) hF (fun q h => by cases h) ?_
            clear hF
            rintro k x56 hF ih
            refine rnd_succ ?_
            refine aw_seq ?_
            refine aw_seq ?_
            refine aw_region ?_
            refine reg_cons (guard_no rfl) (op_move rfl rfl rfl rfl) ?_
            refine reg_cons (guard_no rfl) (op_field_lp rfl rfl Try_fld_104_7 rfl rfl) ?_
            refine reg_cons (guard_no rfl) (op_load_lp (v := .pv (.vs 23 (eLGStmt a0.fBody))) rfl rfl rfl rfl Try_one_95 rfl rfl) ?_
            refine reg_cons (guard_no rfl) (op_len_vs (n := a0.fBody.length) rfl rfl (lenR eLGStmt_map) Try_slc_95 rfl rfl) ?_
            refine reg_cons (guard_no rfl) (op_int (k := .i64) (m := x56) (n := (a0.fBody.length : Int)) rfl rfl rfl rfl rfl rfl) ?_
            refine reg_nil ?_
            refine post_imp (s' := ⟨76, [(1, some (.pv (.int .i64 a1))), (2, some (.lp 0 0)), (6, some (.pv (.int .i64 x56))), (50, some (.pv (.bool (decide (x56 < (a0.fBody.length : Int))))))], [(0, some (.box 104 [.pv (.int .i64 a0.fKind), .pv (.str a0.fX), .pv (.str a0.fY), .pv (.str a0.fName), .pv (.int .i64 a0.fType.fKind), .pv (.str a0.fType.fClass), .pv (.int .i64 a0.fType.fN), .pv (.int .i64 a0.fType.fOwn.a0.fKind), .pv (.int .i64 a0.fType.fOwn.a0.fN), .pv (.int .i64 a0.fType.fOwn.a1.fKind), .pv (.int .i64 a0.fType.fOwn.a1.fN), .pv (.int .i64 a0.fType.fOwn.a2.fKind), .pv (.int .i64 a0.fType.fOwn.a2.fN), .pv (.int .i64 a0.fType.fOwn.a3.fKind), .pv (.int .i64 a0.fType.fOwn.a3.fN), .pv (.int .i64 a0.fE.fKind), .pv (.int .i64 a0.fE.fNum), .pv (.str a0.fE.fName), .pv (.vs 4 (eLGExpr a0.fE.fKids)), .pv (.vs 4 (eLGExpr a0.fArgs)), .pv (.vs 23 (eLGStmt a0.fBody)), .pv (.vs 23 (eLGStmt a0.fElse)), .pv (.int .i64 a0.fAt)]))], 1, [], [], 0, []⟩) (imp_sub [0] rfl (by decide) rfl rfl ⟨by kernel_rfl, by kernel_rfl, by kernel_rfl, by kernel_rfl, trivial⟩ ⟨by kernel_rfl, trivial⟩ rfl rfl rfl) ?_
            refine post_next ?_
            rcases ite_some hF with ⟨hb68, hF⟩ | ⟨hb68, hF⟩
            · refine aw_cond_t rfl hb68 ?_
              refine aw_skip ?_
              refine post_next ?_
              refine aw_seq ?_
              refine aw_block ?_
              refine aw_seq ?_
              refine aw_region ?_
              refine reg_cons (guard_no rfl) (op_field_lp rfl rfl Try_fld_104_7 rfl rfl) ?_
              refine reg_cons (guard_no rfl) (op_load_lp (v := .pv (.vs 23 (eLGStmt a0.fBody))) rfl rfl rfl rfl Try_one_95 rfl rfl) ?_
              refine reg_cons (guard_no rfl) (op_move rfl rfl rfl rfl) ?_
              obtain ⟨y73, h74, hF⟩ := bind_some hF
              refine reg_cons (guard_no rfl) (op_index_vs (k := .i64) rfl rfl rfl (idxR eLGStmt_map h74) Try_slc_95 rfl rfl) ?_
              refine reg_cons (guard_no rfl) (op_load_vp_agg (ps := eGStmt y73) rfl rfl rfl rfl Try_agg_104 rfl rfl) ?_
              refine reg_cons (guard_no rfl) (op_move rfl rfl rfl rfl) ?_
              refine reg_cons (guard_no rfl) (op_int (k := .i64) (m := a1) (n := 1) rfl rfl rfl rfl rfl rfl) ?_
              obtain ⟨y75, h76, hF⟩ := bind_some hF
              refine reg_cons (guard_no rfl) (op_call 1 rfl (caps := []) (args := [.agg (eGStmt y73), .int .i64 (w_i64 (a1 - 1))]) (rs := [.p (.bool y75)]) rfl rfl rfl Try_cal_62 (ref10_much_ih _ _ _ h76) rfl rfl rfl) ?_
              refine reg_nil ?_
              refine post_imp (s' := ⟨76, [(1, some (.pv (.int .i64 a1))), (2, some (.lp 0 0)), (6, some (.pv (.int .i64 x56))), (60, some (.pv (.bool y75)))], [(0, some (.box 104 [.pv (.int .i64 a0.fKind), .pv (.str a0.fX), .pv (.str a0.fY), .pv (.str a0.fName), .pv (.int .i64 a0.fType.fKind), .pv (.str a0.fType.fClass), .pv (.int .i64 a0.fType.fN), .pv (.int .i64 a0.fType.fOwn.a0.fKind), .pv (.int .i64 a0.fType.fOwn.a0.fN), .pv (.int .i64 a0.fType.fOwn.a1.fKind), .pv (.int .i64 a0.fType.fOwn.a1.fN), .pv (.int .i64 a0.fType.fOwn.a2.fKind), .pv (.int .i64 a0.fType.fOwn.a2.fN), .pv (.int .i64 a0.fType.fOwn.a3.fKind), .pv (.int .i64 a0.fType.fOwn.a3.fN), .pv (.int .i64 a0.fE.fKind), .pv (.int .i64 a0.fE.fNum), .pv (.str a0.fE.fName), .pv (.vs 4 (eLGExpr a0.fE.fKids)), .pv (.vs 4 (eLGExpr a0.fArgs)), .pv (.vs 23 (eLGStmt a0.fBody)), .pv (.vs 23 (eLGStmt a0.fElse)), .pv (.int .i64 a0.fAt)]))], 1, [], [], 0, []⟩) (imp_sub [0] rfl (by decide) rfl rfl ⟨by kernel_rfl, by kernel_rfl, by kernel_rfl, by kernel_rfl, trivial⟩ ⟨by kernel_rfl, trivial⟩ rfl rfl rfl) ?_
              refine post_next ?_
              rcases ite_some hF with ⟨hb77, hF⟩ | ⟨hb77, hF⟩
              · refine aw_cond_t rfl hb77 ?_
                refine aw_seq ?_
                refine aw_region ?_
                refine reg_cons (guard_no rfl) (op_assign rfl rfl rfl rfl) ?_
                refine reg_nil ?_
                refine post_imp (s' := ⟨76, [(4, some (.pv (.bool true)))], [], 0, [], [], 0, []⟩) (imp_sub [] rfl (by decide) rfl rfl ⟨by kernel_rfl, trivial⟩ trivial rfl rfl rfl) ?_
                refine post_next ?_
                refine aw_ret ?_
                refine post_block_ret ?_
                refine post_then_ret ?_
                refine post_then_ret ?_
                refine post_lp_ret ?_
                obtain rfl := Option.some.inj hF
                have hF := elim_stop hK80
                refine post_then_ret ?_
                obtain rfl := Option.some.inj hF
                exact post_ret rfl rfl (.cons _ _ _ _ _ (.tmp _ _ rfl) (.p _) .nil) (.inl rfl)
              · refine aw_cond_f rfl hb77 ?_
                refine aw_skip ?_
                refine post_block_normal ?_
                refine post_next ?_
                refine aw_region ?_
                refine reg_cons (guard_no rfl) (op_move rfl rfl rfl rfl) ?_
                refine reg_cons (guard_no rfl) (op_int (k := .i64) (m := x56) (n := 1) rfl rfl rfl rfl rfl rfl) ?_
                refine reg_cons (guard_no rfl) (op_assign rfl rfl rfl rfl) ?_
                refine reg_nil ?_
                refine post_round ?_
                exact rnd_back (ih (w_i64 (x56 + 1)) hF) (imp_sub [0] rfl (by decide) rfl rfl ⟨by kernel_rfl, by kernel_rfl, by kernel_rfl, trivial⟩ ⟨by kernel_rfl, trivial⟩ rfl rfl rfl)
            · refine aw_cond_f rfl hb68 ?_
              refine aw_exit ?_
              refine post_then_exit ?_
              refine post_then_exit ?_
              obtain rfl := Option.some.inj hF
              exact post_lp_break _ ⟨_, rfl, rfl⟩ (imp_sub [0] rfl (by decide) rfl rfl ⟨by kernel_rfl, by kernel_rfl, trivial⟩ ⟨by kernel_rfl, trivial⟩ rfl rfl rfl)
          · rintro _ ⟨⟨⟩, rfl, rfl⟩
            have hF := elim_next hK80
            clear hK80
            refine post_next ?_
            refine aw_seq ?_
            refine aw_seq ?_
            refine aw_region ?_
            refine reg_cons (guard_no rfl) (op_assign rfl rfl rfl rfl) ?_
            refine reg_nil ?_
            refine post_imp (s' := ⟨76, [(1, some (.pv (.int .i64 a1))), (2, some (.lp 0 0)), (7, some (.pv (.int .i64 0)))], [(0, some (.box 104 [.pv (.int .i64 a0.fKind), .pv (.str a0.fX), .pv (.str a0.fY), .pv (.str a0.fName), .pv (.int .i64 a0.fType.fKind), .pv (.str a0.fType.fClass), .pv (.int .i64 a0.fType.fN), .pv (.int .i64 a0.fType.fOwn.a0.fKind), .pv (.int .i64 a0.fType.fOwn.a0.fN), .pv (.int .i64 a0.fType.fOwn.a1.fKind), .pv (.int .i64 a0.fType.fOwn.a1.fN), .pv (.int .i64 a0.fType.fOwn.a2.fKind), .pv (.int .i64 a0.fType.fOwn.a2.fN), .pv (.int .i64 a0.fType.fOwn.a3.fKind), .pv (.int .i64 a0.fType.fOwn.a3.fN), .pv (.int .i64 a0.fE.fKind), .pv (.int .i64 a0.fE.fNum), .pv (.str a0.fE.fName), .pv (.vs 4 (eLGExpr a0.fE.fKids)), .pv (.vs 4 (eLGExpr a0.fArgs)), .pv (.vs 23 (eLGStmt a0.fBody)), .pv (.vs 23 (eLGStmt a0.fElse)), .pv (.int .i64 a0.fAt)]))], 1, [], [], 0, []⟩) (imp_sub [0] rfl (by decide) rfl rfl ⟨by kernel_rfl, by kernel_rfl, by kernel_rfl, trivial⟩ ⟨by kernel_rfl, trivial⟩ rfl rfl rfl) ?_
            refine post_next ?_
            obtain ⟨lr114, hF, hK115⟩ := bind_some hF
            refine aw_for ((((a0.fElse.length : Int) : Int) - (0)).toNat + 1) (fun s1 => ∃ q, lr114 = .next q ∧ s1 = ⟨76, [], [], 0, [], [], 0, []⟩) ?_ ?_
            · refine rnd_loop (α := Int) (fun q => ⟨76, [(1, some (.pv (.int .i64 a1))), (2, some (.lp 0 0)), (7, some (.pv (.int .i64 q)))], [(0, some (.box 104 [.pv (.int .i64 a0.fKind), .pv (.str a0.fX), .pv (.str a0.fY), .pv (.str a0.fName), .pv (.int .i64 a0.fType.fKind), .pv (.str a0.fType.fClass), .pv (.int .i64 a0.fType.fN), .pv (.int .i64 a0.fType.fOwn.a0.fKind), .pv (.int .i64 a0.fType.fOwn.a0.fN), .pv (.int .i64 a0.fType.fOwn.a1.fKind), .pv (.int .i64 a0.fType.fOwn.a1.fN), .pv (.int .i64 a0.fType.fOwn.a2.fKind), .pv (.int .i64 a0.fType.fOwn.a2.fN), .pv (.int .i64 a0.fType.fOwn.a3.fKind), .pv (.int .i64 a0.fType.fOwn.a3.fN), .pv (.int .i64 a0.fE.fKind), .pv (.int .i64 a0.fE.fNum), .pv (.str a0.fE.fName), .pv (.vs 4 (eLGExpr a0.fE.fKids)), .pv (.vs 4 (eLGExpr a0.fArgs)), .pv (.vs 23 (eLGStmt a0.fBody)), .pv (.vs 23 (eLGStmt a0.fElse)), .pv (.int .i64 a0.fAt)]))], 1, [], [], 0, []⟩) (fun k q => ref10_much_L3 a0 a1 ref10_much_rec k q = some lr114) 0 (imp_sub [0] rfl (by decide) rfl rfl ⟨by kernel_rfl, by kernel_rfl, by kernel_rfl, trivial⟩ ⟨by kernel_rfl, trivial⟩ rfl rfl rfl) hF (fun q h => by cases h) ?_
              clear hF
              rintro k x91 hF ih
              refine rnd_succ ?_
              refine aw_seq ?_
              refine aw_seq ?_
              refine aw_region ?_
              refine reg_cons (guard_no rfl) (op_move rfl rfl rfl rfl) ?_
              refine reg_cons (guard_no rfl) (op_field_lp rfl rfl Try_fld_104_8 rfl rfl) ?_
              refine reg_cons (guard_no rfl) (op_load_lp (v := .pv (.vs 23 (eLGStmt a0.fElse))) rfl rfl rfl rfl Try_one_95 rfl rfl) ?_
              refine reg_cons (guard_no rfl) (op_len_vs (n := a0.fElse.length) rfl rfl (lenR eLGStmt_map) Try_slc_95 rfl rfl) ?_
              refine reg_cons (guard_no rfl) (op_int (k := .i64) (m := x91) (n := (a0.fElse.length : Int)) rfl rfl rfl rfl rfl rfl) ?_
              refine reg_nil ?_
              refine post_imp (s' := ⟨76, [(1, some (.pv (.int .i64 a1))), (2, some (.lp 0 0)), (7, some (.pv (.int .i64 x91))), (65, some (.pv (.bool (decide (x91 < (a0.fElse.length : Int))))))], [(0, some (.box 104 [.pv (.int .i64 a0.fKind), .pv (.str a0.fX), .pv (.str a0.fY), .pv (.str a0.fName), .pv (.int .i64 a0.fType.fKind), .pv (.str a0.fType.fClass), .pv (.int .i64 a0.fType.fN), .pv (.int .i64 a0.fType.fOwn.a0.fKind), .pv (.int .i64 a0.fType.fOwn.a0.fN), .pv (.int .i64 a0.fType.fOwn.a1.fKind), .pv (.int .i64 a0.fType.fOwn.a1.fN), .pv (.int .i64 a0.fType.fOwn.a2.fKind), .pv (.int .i64 a0.fType.fOwn.a2.fN), .pv (.int .i64 a0.fType.fOwn.a3.fKind), .pv (.int .i64 a0.fType.fOwn.a3.fN), .pv (.int .i64 a0.fE.fKind), .pv (.int .i64 a0.fE.fNum), .pv (.str a0.fE.fName), .pv (.vs 4 (eLGExpr a0.fE.fKids)), .pv (.vs 4 (eLGExpr a0.fArgs)), .pv (.vs 23 (eLGStmt a0.fBody)), .pv (.vs 23 (eLGStmt a0.fElse)), .pv (.int .i64 a0.fAt)]))], 1, [], [], 0, []⟩) (imp_sub [0] rfl (by decide) rfl rfl ⟨by kernel_rfl, by kernel_rfl, by kernel_rfl, by kernel_rfl, trivial⟩ ⟨by kernel_rfl, trivial⟩ rfl rfl rfl) ?_
              refine post_next ?_
              rcases ite_some hF with ⟨hb103, hF⟩ | ⟨hb103, hF⟩
              · refine aw_cond_t rfl hb103 ?_
                refine aw_skip ?_
                refine post_next ?_
                refine aw_seq ?_
                refine aw_block ?_
                refine aw_seq ?_
                refine aw_region ?_
                refine reg_cons (guard_no rfl) (op_field_lp rfl rfl Try_fld_104_8 rfl rfl) ?_
                refine reg_cons (guard_no rfl) (op_load_lp (v := .pv (.vs 23 (eLGStmt a0.fElse))) rfl rfl rfl rfl Try_one_95 rfl rfl) ?_
                refine reg_cons (guard_no rfl) (op_move rfl rfl rfl rfl) ?_
                obtain ⟨y108, h109, hF⟩ := bind_some hF
                refine reg_cons (guard_no rfl) (op_index_vs (k := .i64) rfl rfl rfl (idxR eLGStmt_map h109) Try_slc_95 rfl rfl) ?_
                refine reg_cons (guard_no rfl) (op_load_vp_agg (ps := eGStmt y108) rfl rfl rfl rfl Try_agg_104 rfl rfl) ?_
                refine reg_cons (guard_no rfl) (op_move rfl rfl rfl rfl) ?_
                refine reg_cons (guard_no rfl) (op_int (k := .i64) (m := a1) (n := 1) rfl rfl rfl rfl rfl rfl) ?_
                obtain ⟨y110, h111, hF⟩ := bind_some hF
                refine reg_cons (guard_no rfl) (op_call 1 rfl (caps := []) (args := [.agg (eGStmt y108), .int .i64 (w_i64 (a1 - 1))]) (rs := [.p (.bool y110)]) rfl rfl rfl Try_cal_62 (ref10_much_ih _ _ _ h111) rfl rfl rfl) ?_
                refine reg_nil ?_
                refine post_imp (s' := ⟨76, [(1, some (.pv (.int .i64 a1))), (2, some (.lp 0 0)), (7, some (.pv (.int .i64 x91))), (75, some (.pv (.bool y110)))], [(0, some (.box 104 [.pv (.int .i64 a0.fKind), .pv (.str a0.fX), .pv (.str a0.fY), .pv (.str a0.fName), .pv (.int .i64 a0.fType.fKind), .pv (.str a0.fType.fClass), .pv (.int .i64 a0.fType.fN), .pv (.int .i64 a0.fType.fOwn.a0.fKind), .pv (.int .i64 a0.fType.fOwn.a0.fN), .pv (.int .i64 a0.fType.fOwn.a1.fKind), .pv (.int .i64 a0.fType.fOwn.a1.fN), .pv (.int .i64 a0.fType.fOwn.a2.fKind), .pv (.int .i64 a0.fType.fOwn.a2.fN), .pv (.int .i64 a0.fType.fOwn.a3.fKind), .pv (.int .i64 a0.fType.fOwn.a3.fN), .pv (.int .i64 a0.fE.fKind), .pv (.int .i64 a0.fE.fNum), .pv (.str a0.fE.fName), .pv (.vs 4 (eLGExpr a0.fE.fKids)), .pv (.vs 4 (eLGExpr a0.fArgs)), .pv (.vs 23 (eLGStmt a0.fBody)), .pv (.vs 23 (eLGStmt a0.fElse)), .pv (.int .i64 a0.fAt)]))], 1, [], [], 0, []⟩) (imp_sub [0] rfl (by decide) rfl rfl ⟨by kernel_rfl, by kernel_rfl, by kernel_rfl, by kernel_rfl, trivial⟩ ⟨by kernel_rfl, trivial⟩ rfl rfl rfl) ?_
                refine post_next ?_
                rcases ite_some hF with ⟨hb112, hF⟩ | ⟨hb112, hF⟩
                · refine aw_cond_t rfl hb112 ?_
                  refine aw_seq ?_
                  refine aw_region ?_
                  refine reg_cons (guard_no rfl) (op_assign rfl rfl rfl rfl) ?_
                  refine reg_nil ?_
                  refine post_imp (s' := ⟨76, [(4, some (.pv (.bool true)))], [], 0, [], [], 0, []⟩) (imp_sub [] rfl (by decide) rfl rfl ⟨by kernel_rfl, trivial⟩ trivial rfl rfl rfl) ?_
                  refine post_next ?_
                  refine aw_ret ?_
                  refine post_block_ret ?_
                  refine post_then_ret ?_
                  refine post_then_ret ?_
                  refine post_lp_ret ?_
                  obtain rfl := Option.some.inj hF
                  have hF := elim_stop hK115
                  refine post_then_ret ?_
                  obtain rfl := Option.some.inj hF
                  exact post_ret rfl rfl (.cons _ _ _ _ _ (.tmp _ _ rfl) (.p _) .nil) (.inl rfl)
                · refine aw_cond_f rfl hb112 ?_
                  refine aw_skip ?_
                  refine post_block_normal ?_
                  refine post_next ?_
                  refine aw_region ?_
                  refine reg_cons (guard_no rfl) (op_move rfl rfl rfl rfl) ?_
                  refine reg_cons (guard_no rfl) (op_int (k := .i64) (m := x91) (n := 1) rfl rfl rfl rfl rfl rfl) ?_
                  refine reg_cons (guard_no rfl) (op_assign rfl rfl rfl rfl) ?_
                  refine reg_nil ?_
                  refine post_round ?_
                  exact rnd_back (ih (w_i64 (x91 + 1)) hF) (imp_sub [0] rfl (by decide) rfl rfl ⟨by kernel_rfl, by kernel_rfl, by kernel_rfl, trivial⟩ ⟨by kernel_rfl, trivial⟩ rfl rfl rfl)
              · refine aw_cond_f rfl hb103 ?_
                refine aw_exit ?_
                refine post_then_exit ?_
                refine post_then_exit ?_
                obtain rfl := Option.some.inj hF
                exact post_lp_break _ ⟨_, rfl, rfl⟩ (imp_sub [] rfl (by decide) rfl rfl trivial trivial rfl rfl rfl)
            · rintro _ ⟨⟨⟩, rfl, rfl⟩
              have hF := elim_next hK115
              clear hK115
              refine post_next ?_
              refine aw_seq ?_
              refine aw_region ?_
              refine reg_cons (guard_no rfl) (op_assign rfl rfl rfl rfl) ?_
              refine reg_nil ?_
              refine post_imp (s' := ⟨76, [(4, some (.pv (.bool false)))], [], 0, [], [], 0, []⟩) (imp_sub [] rfl (by decide) rfl rfl ⟨by kernel_rfl, trivial⟩ trivial rfl rfl rfl) ?_
              refine post_next ?_
              refine aw_ret ?_
              obtain rfl := Option.some.inj hF
              exact post_ret rfl rfl (.cons _ _ _ _ _ (.tmp _ _ rfl) (.p _) .nil) (.inl rfl)
theorem ref10_much_ok {n : Nat} {a0 : GStmt} {a1 : Int} {r : Bool} (hF : ref10_much n a0 a1 = some r) : Abs.Fn Try.prog 62 [.agg (eGStmt a0), .int .i64 a1] [.p (.bool r)] := (ref10_much_ring n) _ _ _ hF

theorem ref08_Size_ring : ∀ n : Nat, (∀ (a0 : GStmt) (r : Int), ref08_Size n a0 = some r → Abs.Fn Try.prog 63 [.agg (eGStmt a0)] [.p (.int .i64 r)]) := by
  intro n
  induction n with
  | zero => exact (fun _ _ h => by simp [ref08_Size] at h)
  | succ n ih =>
    have ref08_Size_ih := ih
    clear ih
    intro a0 r hF
    unfold ref08_Size at hF
    revert hF ref08_Size_ih
    generalize ref08_Size n = ref08_Size_rec
    intro ref08_Size_ih hF
    refine fn_of_body (n := 37) Try.func63 rfl rfl rfl ?_
    intro w O
    refine aw_seq ?_
    refine aw_region ?_
    refine reg_cons (guard_no rfl) (op_box 0 rfl rfl rfl rfl rfl rfl) ?_
    refine reg_cons (guard_no rfl) (op_assign rfl rfl rfl rfl) ?_
    refine reg_nil ?_
    refine post_imp (s' := ⟨37, [(1, some (.lp 0 0))], [(0, some (.box 104 [.pv (.int .i64 a0.fKind), .pv (.str a0.fX), .pv (.str a0.fY), .pv (.str a0.fName), .pv (.int .i64 a0.fType.fKind), .pv (.str a0.fType.fClass), .pv (.int .i64 a0.fType.fN), .pv (.int .i64 a0.fType.fOwn.a0.fKind), .pv (.int .i64 a0.fType.fOwn.a0.fN), .pv (.int .i64 a0.fType.fOwn.a1.fKind), .pv (.int .i64 a0.fType.fOwn.a1.fN), .pv (.int .i64 a0.fType.fOwn.a2.fKind), .pv (.int .i64 a0.fType.fOwn.a2.fN), .pv (.int .i64 a0.fType.fOwn.a3.fKind), .pv (.int .i64 a0.fType.fOwn.a3.fN), .pv (.int .i64 a0.fE.fKind), .pv (.int .i64 a0.fE.fNum), .pv (.str a0.fE.fName), .pv (.vs 4 (eLGExpr a0.fE.fKids)), .pv (.vs 4 (eLGExpr a0.fArgs)), .pv (.vs 23 (eLGStmt a0.fBody)), .pv (.vs 23 (eLGStmt a0.fElse)), .pv (.int .i64 a0.fAt)]))], 1, [], [], 0, []⟩) (imp_sub [0] rfl (by decide) rfl rfl ⟨by kernel_rfl, trivial⟩ ⟨by kernel_rfl, trivial⟩ rfl rfl rfl) ?_
    refine post_next ?_
    refine aw_seq ?_
    refine aw_region ?_
    refine reg_cons (guard_no rfl) (op_assign rfl rfl rfl rfl) ?_
    refine reg_nil ?_
    refine post_imp (s' := ⟨37, [(1, some (.lp 0 0)), (3, some (.pv (.int .i64 1)))], [(0, some (.box 104 [.pv (.int .i64 a0.fKind), .pv (.str a0.fX), .pv (.str a0.fY), .pv (.str a0.fName), .pv (.int .i64 a0.fType.fKind), .pv (.str a0.fType.fClass), .pv (.int .i64 a0.fType.fN), .pv (.int .i64 a0.fType.fOwn.a0.fKind), .pv (.int .i64 a0.fType.fOwn.a0.fN), .pv (.int .i64 a0.fType.fOwn.a1.fKind), .pv (.int .i64 a0.fType.fOwn.a1.fN), .pv (.int .i64 a0.fType.fOwn.a2.fKind), .pv (.int .i64 a0.fType.fOwn.a2.fN), .pv (.int .i64 a0.fType.fOwn.a3.fKind), .pv (.int .i64 a0.fType.fOwn.a3.fN), .pv (.int .i64 a0.fE.fKind), .pv (.int .i64 a0.fE.fNum), .pv (.str a0.fE.fName), .pv (.vs 4 (eLGExpr a0.fE.fKids)), .pv (.vs 4 (eLGExpr a0.fArgs)), .pv (.vs 23 (eLGStmt a0.fBody)), .pv (.vs 23 (eLGStmt a0.fElse)), .pv (.int .i64 a0.fAt)]))], 1, [], [], 0, []⟩) (imp_sub [0] rfl (by decide) rfl rfl ⟨by kernel_rfl, by kernel_rfl, trivial⟩ ⟨by kernel_rfl, trivial⟩ rfl rfl rfl) ?_
    refine post_next ?_
    refine aw_seq ?_
    refine aw_seq ?_
    refine aw_region ?_
    refine reg_cons (guard_no rfl) (op_assign rfl rfl rfl rfl) ?_
    refine reg_nil ?_
    refine post_imp (s' := ⟨37, [(1, some (.lp 0 0)), (3, some (.pv (.int .i64 1))), (4, some (.pv (.int .i64 0)))], [(0, some (.box 104 [.pv (.int .i64 a0.fKind), .pv (.str a0.fX), .pv (.str a0.fY), .pv (.str a0.fName), .pv (.int .i64 a0.fType.fKind), .pv (.str a0.fType.fClass), .pv (.int .i64 a0.fType.fN), .pv (.int .i64 a0.fType.fOwn.a0.fKind), .pv (.int .i64 a0.fType.fOwn.a0.fN), .pv (.int .i64 a0.fType.fOwn.a1.fKind), .pv (.int .i64 a0.fType.fOwn.a1.fN), .pv (.int .i64 a0.fType.fOwn.a2.fKind), .pv (.int .i64 a0.fType.fOwn.a2.fN), .pv (.int .i64 a0.fType.fOwn.a3.fKind), .pv (.int .i64 a0.fType.fOwn.a3.fN), .pv (.int .i64 a0.fE.fKind), .pv (.int .i64 a0.fE.fNum), .pv (.str a0.fE.fName), .pv (.vs 4 (eLGExpr a0.fE.fKids)), .pv (.vs 4 (eLGExpr a0.fArgs)), .pv (.vs 23 (eLGStmt a0.fBody)), .pv (.vs 23 (eLGStmt a0.fElse)), .pv (.int .i64 a0.fAt)]))], 1, [], [], 0, []⟩) (imp_sub [0] rfl (by decide) rfl rfl ⟨by kernel_rfl, by kernel_rfl, by kernel_rfl, trivial⟩ ⟨by kernel_rfl, trivial⟩ rfl rfl rfl) ?_
    refine post_next ?_
    obtain ⟨x34, hF, hK35⟩ := bind_some hF
    refine aw_for ((((a0.fBody.length : Int) : Int) - (0)).toNat + 1) (fun s1 => s1 = ⟨37, [(1, some (.lp 0 0)), (3, some (.pv (.int .i64 x34)))], [(0, some (.box 104 [.pv (.int .i64 a0.fKind), .pv (.str a0.fX), .pv (.str a0.fY), .pv (.str a0.fName), .pv (.int .i64 a0.fType.fKind), .pv (.str a0.fType.fClass), .pv (.int .i64 a0.fType.fN), .pv (.int .i64 a0.fType.fOwn.a0.fKind), .pv (.int .i64 a0.fType.fOwn.a0.fN), .pv (.int .i64 a0.fType.fOwn.a1.fKind), .pv (.int .i64 a0.fType.fOwn.a1.fN), .pv (.int .i64 a0.fType.fOwn.a2.fKind), .pv (.int .i64 a0.fType.fOwn.a2.fN), .pv (.int .i64 a0.fType.fOwn.a3.fKind), .pv (.int .i64 a0.fType.fOwn.a3.fN), .pv (.int .i64 a0.fE.fKind), .pv (.int .i64 a0.fE.fNum), .pv (.str a0.fE.fName), .pv (.vs 4 (eLGExpr a0.fE.fKids)), .pv (.vs 4 (eLGExpr a0.fArgs)), .pv (.vs 23 (eLGStmt a0.fBody)), .pv (.vs 23 (eLGStmt a0.fElse)), .pv (.int .i64 a0.fAt)]))], 1, [], [], 0, []⟩) ?_ ?_
    · refine rnd_loop (α := Int × Int) (fun q => ⟨37, [(1, some (.lp 0 0)), (3, some (.pv (.int .i64 q.1))), (4, some (.pv (.int .i64 q.2)))], [(0, some (.box 104 [.pv (.int .i64 a0.fKind), .pv (.str a0.fX), .pv (.str a0.fY), .pv (.str a0.fName), .pv (.int .i64 a0.fType.fKind), .pv (.str a0.fType.fClass), .pv (.int .i64 a0.fType.fN), .pv (.int .i64 a0.fType.fOwn.a0.fKind), .pv (.int .i64 a0.fType.fOwn.a0.fN), .pv (.int .i64 a0.fType.fOwn.a1.fKind), .pv (.int .i64 a0.fType.fOwn.a1.fN), .pv (.int .i64 a0.fType.fOwn.a2.fKind), .pv (.int .i64 a0.fType.fOwn.a2.fN), .pv (.int .i64 a0.fType.fOwn.a3.fKind), .pv (.int .i64 a0.fType.fOwn.a3.fN), .pv (.int .i64 a0.fE.fKind), .pv (.int .i64 a0.fE.fNum), .pv (.str a0.fE.fName), .pv (.vs 4 (eLGExpr a0.fE.fKids)), .pv (.vs 4 (eLGExpr a0.fArgs)), .pv (.vs 23 (eLGStmt a0.fBody)), .pv (.vs 23 (eLGStmt a0.fElse)), .pv (.int .i64 a0.fAt)]))], 1, [], [], 0, []⟩) (fun k q => ref08_Size_L1 a0 ref08_Size_rec k q.1 q.2 = some x34) (1, 0) (imp_sub [0] rfl (by decide) rfl rfl ⟨by kernel_rfl, by kernel_rfl, by kernel_rfl, trivial⟩ ⟨by kernel_rfl, trivial⟩ rfl rfl rfl) hF (fun q h => by cases h) ?_
      clear hF
      rintro k ⟨x10, x11⟩ hF ih
      refine rnd_succ ?_
      refine aw_seq ?_
      refine aw_seq ?_
      refine aw_region ?_
      refine reg_cons (guard_no rfl) (op_move rfl rfl rfl rfl) ?_
      refine reg_cons (guard_no rfl) (op_field_lp rfl rfl Try_fld_104_7 rfl rfl) ?_
      refine reg_cons (guard_no rfl) (op_load_lp (v := .pv (.vs 23 (eLGStmt a0.fBody))) rfl rfl rfl rfl Try_one_95 rfl rfl) ?_
      refine reg_cons (guard_no rfl) (op_len_vs (n := a0.fBody.length) rfl rfl (lenR eLGStmt_map) Try_slc_95 rfl rfl) ?_
      refine reg_cons (guard_no rfl) (op_int (k := .i64) (m := x11) (n := (a0.fBody.length : Int)) rfl rfl rfl rfl rfl rfl) ?_
      refine reg_nil ?_
      refine post_imp (s' := ⟨37, [(1, some (.lp 0 0)), (3, some (.pv (.int .i64 x10))), (4, some (.pv (.int .i64 x11))), (10, some (.pv (.bool (decide (x11 < (a0.fBody.length : Int))))))], [(0, some (.box 104 [.pv (.int .i64 a0.fKind), .pv (.str a0.fX), .pv (.str a0.fY), .pv (.str a0.fName), .pv (.int .i64 a0.fType.fKind), .pv (.str a0.fType.fClass), .pv (.int .i64 a0.fType.fN), .pv (.int .i64 a0.fType.fOwn.a0.fKind), .pv (.int .i64 a0.fType.fOwn.a0.fN), .pv (.int .i64 a0.fType.fOwn.a1.fKind), .pv (.int .i64 a0.fType.fOwn.a1.fN), .pv (.int .i64 a0.fType.fOwn.a2.fKind), .pv (.int .i64 a0.fType.fOwn.a2.fN), .pv (.int .i64 a0.fType.fOwn.a3.fKind), .pv (.int .i64 a0.fType.fOwn.a3.fN), .pv (.int .i64 a0.fE.fKind), .pv (.int .i64 a0.fE.fNum), .pv (.str a0.fE.fName), .pv (.vs 4 (eLGExpr a0.fE.fKids)), .pv (.vs 4 (eLGExpr a0.fArgs)), .pv (.vs 23 (eLGStmt a0.fBody)), .pv (.vs 23 (eLGStmt a0.fElse)), .pv (.int .i64 a0.fAt)]))], 1, [], [], 0, []⟩) (imp_sub [0] rfl (by decide) rfl rfl ⟨by kernel_rfl, by kernel_rfl, by kernel_rfl, by kernel_rfl, trivial⟩ ⟨by kernel_rfl, trivial⟩ rfl rfl rfl) ?_
      refine post_next ?_
      rcases ite_some hF with ⟨hb23, hF⟩ | ⟨hb23, hF⟩
      · refine aw_cond_t rfl hb23 ?_
        refine aw_skip ?_
        refine post_next ?_
        refine aw_seq ?_
        refine aw_block ?_
        refine aw_region ?_
        refine reg_cons (guard_no rfl) (op_move rfl rfl rfl rfl) ?_
        refine reg_cons (guard_no rfl) (op_field_lp rfl rfl Try_fld_104_7 rfl rfl) ?_
        refine reg_cons (guard_no rfl) (op_load_lp (v := .pv (.vs 23 (eLGStmt a0.fBody))) rfl rfl rfl rfl Try_one_95 rfl rfl) ?_
        refine reg_cons (guard_no rfl) (op_move rfl rfl rfl rfl) ?_
        obtain ⟨y28, h29, hF⟩ := bind_some hF
        refine reg_cons (guard_no rfl) (op_index_vs (k := .i64) rfl rfl rfl (idxR eLGStmt_map h29) Try_slc_95 rfl rfl) ?_
        refine reg_cons (guard_no rfl) (op_load_vp_agg (ps := eGStmt y28) rfl rfl rfl rfl Try_agg_104 rfl rfl) ?_
        obtain ⟨y30, h31, hF⟩ := bind_some hF
        refine reg_cons (guard_no rfl) (op_call 1 rfl (caps := []) (args := [.agg (eGStmt y28)]) (rs := [.p (.int .i64 y30)]) rfl rfl rfl Try_cal_63 (ref08_Size_ih _ _ h31) rfl rfl rfl) ?_
        refine reg_cons (guard_no rfl) (op_int (k := .i64) (m := x10) (n := y30) rfl rfl rfl rfl rfl rfl) ?_
        refine reg_cons (guard_no rfl) (op_assign rfl rfl rfl rfl) ?_
        refine reg_nil ?_
        refine post_imp (s' := ⟨37, [(1, some (.lp 0 0)), (3, some (.pv (.int .i64 (w_i64 (x10 + y30))))), (4, some (.pv (.int .i64 x11)))], [(0, some (.box 104 [.pv (.int .i64 a0.fKind), .pv (.str a0.fX), .pv (.str a0.fY), .pv (.str a0.fName), .pv (.int .i64 a0.fType.fKind), .pv (.str a0.fType.fClass), .pv (.int .i64 a0.fType.fN), .pv (.int .i64 a0.fType.fOwn.a0.fKind), .pv (.int .i64 a0.fType.fOwn.a0.fN), .pv (.int .i64 a0.fType.fOwn.a1.fKind), .pv (.int .i64 a0.fType.fOwn.a1.fN), .pv (.int .i64 a0.fType.fOwn.a2.fKind), .pv (.int .i64 a0.fType.fOwn.a2.fN), .pv (.int .i64 a0.fType.fOwn.a3.fKind), .pv (.int .i64 a0.fType.fOwn.a3.fN), .pv (.int .i64 a0.fE.fKind), .pv (.int .i64 a0.fE.fNum), .pv (.str a0.fE.fName), .pv (.vs 4 (eLGExpr a0.fE.fKids)), .pv (.vs 4 (eLGExpr a0.fArgs)), .pv (.vs 23 (eLGStmt a0.fBody)), .pv (.vs 23 (eLGStmt a0.fElse)), .pv (.int .i64 a0.fAt)]))], 1, [], [], 0, []⟩) (imp_sub [0] rfl (by decide) rfl rfl ⟨by kernel_rfl, by kernel_rfl, by kernel_rfl, trivial⟩ ⟨by kernel_rfl, trivial⟩ rfl rfl rfl) ?_
        refine post_block_normal ?_
        refine post_next ?_
        refine aw_region ?_
        refine reg_cons (guard_no rfl) (op_move rfl rfl rfl rfl) ?_
        refine reg_cons (guard_no rfl) (op_int (k := .i64) (m := x11) (n := 1) rfl rfl rfl rfl rfl rfl) ?_
        refine reg_cons (guard_no rfl) (op_assign rfl rfl rfl rfl) ?_
        refine reg_nil ?_
        refine post_round ?_
        exact rnd_back (ih (w_i64 (x10 + y30), w_i64 (x11 + 1)) hF) (imp_sub [0] rfl (by decide) rfl rfl ⟨by kernel_rfl, by kernel_rfl, by kernel_rfl, trivial⟩ ⟨by kernel_rfl, trivial⟩ rfl rfl rfl)
      · refine aw_cond_f rfl hb23 ?_
        refine aw_exit ?_
        refine post_then_exit ?_
        refine post_then_exit ?_
        obtain rfl := Option.some.inj hF
        exact post_lp_break _ rfl (imp_sub [0] rfl (by decide) rfl rfl ⟨by kernel_rfl, by kernel_rfl, trivial⟩ ⟨by kernel_rfl, trivial⟩ rfl rfl rfl)
    · rintro _ rfl
      have hF := hK35
      clear hK35
      refine post_next ?_
      refine aw_seq ?_
      refine aw_seq ?_
      refine aw_region ?_
      refine reg_cons (guard_no rfl) (op_assign rfl rfl rfl rfl) ?_
      refine reg_nil ?_
      refine post_imp (s' := ⟨37, [(1, some (.lp 0 0)), (3, some (.pv (.int .i64 x34))), (5, some (.pv (.int .i64 0)))], [(0, some (.box 104 [.pv (.int .i64 a0.fKind), .pv (.str a0.fX), .pv (.str a0.fY), .pv (.str a0.fName), .pv (.int .i64 a0.fType.fKind), .pv (.str a0.fType.fClass), .pv (.int .i64 a0.fType.fN), .pv (.int .i64 a0.fType.fOwn.a0.fKind), .pv (.int .i64 a0.fType.fOwn.a0.fN), .pv (.int .i64 a0.fType.fOwn.a1.fKind), .pv (.int .i64 a0.fType.fOwn.a1.fN), .pv (.int .i64 a0.fType.fOwn.a2.fKind), .pv (.int .i64 a0.fType.fOwn.a2.fN), .pv (.int .i64 a0.fType.fOwn.a3.fKind), .pv (.int .i64 a0.fType.fOwn.a3.fN), .pv (.int .i64 a0.fE.fKind), .pv (.int .i64 a0.fE.fNum), .pv (.str a0.fE.fName), .pv (.vs 4 (eLGExpr a0.fE.fKids)), .pv (.vs 4 (eLGExpr a0.fArgs)), .pv (.vs 23 (eLGStmt a0.fBody)), .pv (.vs 23 (eLGStmt a0.fElse)), .pv (.int .i64 a0.fAt)]))], 1, [], [], 0, []⟩) (imp_sub [0] rfl (by decide) rfl rfl ⟨by kernel_rfl, by kernel_rfl, by kernel_rfl, trivial⟩ ⟨by kernel_rfl, trivial⟩ rfl rfl rfl) ?_
      refine post_next ?_
      obtain ⟨x69, hF, hK70⟩ := bind_some hF
      refine aw_for ((((a0.fElse.length : Int) : Int) - (0)).toNat + 1) (fun s1 => s1 = ⟨37, [(3, some (.pv (.int .i64 x69)))], [], 0, [], [], 0, []⟩) ?_ ?_
      · refine rnd_loop (α := Int × Int) (fun q => ⟨37, [(1, some (.lp 0 0)), (3, some (.pv (.int .i64 q.1))), (5, some (.pv (.int .i64 q.2)))], [(0, some (.box 104 [.pv (.int .i64 a0.fKind), .pv (.str a0.fX), .pv (.str a0.fY), .pv (.str a0.fName), .pv (.int .i64 a0.fType.fKind), .pv (.str a0.fType.fClass), .pv (.int .i64 a0.fType.fN), .pv (.int .i64 a0.fType.fOwn.a0.fKind), .pv (.int .i64 a0.fType.fOwn.a0.fN), .pv (.int .i64 a0.fType.fOwn.a1.fKind), .pv (.int .i64 a0.fType.fOwn.a1.fN), .pv (.int .i64 a0.fType.fOwn.a2.fKind), .pv (.int .i64 a0.fType.fOwn.a2.fN), .pv (.int .i64 a0.fType.fOwn.a3.fKind), .pv (.int .i64 a0.fType.fOwn.a3.fN), .pv (.int .i64 a0.fE.fKind), .pv (.int .i64 a0.fE.fNum), .pv (.str a0.fE.fName), .pv (.vs 4 (eLGExpr a0.fE.fKids)), .pv (.vs 4 (eLGExpr a0.fArgs)), .pv (.vs 23 (eLGStmt a0.fBody)), .pv (.vs 23 (eLGStmt a0.fElse)), .pv (.int .i64 a0.fAt)]))], 1, [], [], 0, []⟩) (fun k q => ref08_Size_L2 a0 ref08_Size_rec k q.1 q.2 = some x69) (x34, 0) (imp_sub [0] rfl (by decide) rfl rfl ⟨by kernel_rfl, by kernel_rfl, by kernel_rfl, trivial⟩ ⟨by kernel_rfl, trivial⟩ rfl rfl rfl) hF (fun q h => by cases h) ?_
        clear hF
        rintro k ⟨x45, x46⟩ hF ih
        refine rnd_succ ?_
        refine aw_seq ?_
        refine aw_seq ?_
        refine aw_region ?_
        refine reg_cons (guard_no rfl) (op_move rfl rfl rfl rfl) ?_
        refine reg_cons (guard_no rfl) (op_field_lp rfl rfl Try_fld_104_8 rfl rfl) ?_
        refine reg_cons (guard_no rfl) (op_load_lp (v := .pv (.vs 23 (eLGStmt a0.fElse))) rfl rfl rfl rfl Try_one_95 rfl rfl) ?_
        refine reg_cons (guard_no rfl) (op_len_vs (n := a0.fElse.length) rfl rfl (lenR eLGStmt_map) Try_slc_95 rfl rfl) ?_
        refine reg_cons (guard_no rfl) (op_int (k := .i64) (m := x46) (n := (a0.fElse.length : Int)) rfl rfl rfl rfl rfl rfl) ?_
        refine reg_nil ?_
        refine post_imp (s' := ⟨37, [(1, some (.lp 0 0)), (3, some (.pv (.int .i64 x45))), (5, some (.pv (.int .i64 x46))), (25, some (.pv (.bool (decide (x46 < (a0.fElse.length : Int))))))], [(0, some (.box 104 [.pv (.int .i64 a0.fKind), .pv (.str a0.fX), .pv (.str a0.fY), .pv (.str a0.fName), .pv (.int .i64 a0.fType.fKind), .pv (.str a0.fType.fClass), .pv (.int .i64 a0.fType.fN), .pv (.int .i64 a0.fType.fOwn.a0.fKind), .pv (.int .i64 a0.fType.fOwn.a0.fN), .pv (.int .i64 a0.fType.fOwn.a1.fKind), .pv (.int .i64 a0.fType.fOwn.a1.fN), .pv (.int .i64 a0.fType.fOwn.a2.fKind), .pv (.int .i64 a0.fType.fOwn.a2.fN), .pv (.int .i64 a0.fType.fOwn.a3.fKind), .pv (.int .i64 a0.fType.fOwn.a3.fN), .pv (.int .i64 a0.fE.fKind), .pv (.int .i64 a0.fE.fNum), .pv (.str a0.fE.fName), .pv (.vs 4 (eLGExpr a0.fE.fKids)), .pv (.vs 4 (eLGExpr a0.fArgs)), .pv (.vs 23 (eLGStmt a0.fBody)), .pv (.vs 23 (eLGStmt a0.fElse)), .pv (.int .i64 a0.fAt)]))], 1, [], [], 0, []⟩) (imp_sub [0] rfl (by decide) rfl rfl ⟨by kernel_rfl, by kernel_rfl, by kernel_rfl, by kernel_rfl, trivial⟩ ⟨by kernel_rfl, trivial⟩ rfl rfl rfl) ?_
        refine post_next ?_
        rcases ite_some hF with ⟨hb58, hF⟩ | ⟨hb58, hF⟩
        · refine aw_cond_t rfl hb58 ?_
          refine aw_skip ?_
          refine post_next ?_
          refine aw_seq ?_
          refine aw_block ?_
          refine aw_region ?_
          refine reg_cons (guard_no rfl) (op_move rfl rfl rfl rfl) ?_
          refine reg_cons (guard_no rfl) (op_field_lp rfl rfl Try_fld_104_8 rfl rfl) ?_
          refine reg_cons (guard_no rfl) (op_load_lp (v := .pv (.vs 23 (eLGStmt a0.fElse))) rfl rfl rfl rfl Try_one_95 rfl rfl) ?_
          refine reg_cons (guard_no rfl) (op_move rfl rfl rfl rfl) ?_
          obtain ⟨y63, h64, hF⟩ := bind_some hF
          refine reg_cons (guard_no rfl) (op_index_vs (k := .i64) rfl rfl rfl (idxR eLGStmt_map h64) Try_slc_95 rfl rfl) ?_
          refine reg_cons (guard_no rfl) (op_load_vp_agg (ps := eGStmt y63) rfl rfl rfl rfl Try_agg_104 rfl rfl) ?_
          obtain ⟨y65, h66, hF⟩ := bind_some hF
          refine reg_cons (guard_no rfl) (op_call 1 rfl (caps := []) (args := [.agg (eGStmt y63)]) (rs := [.p (.int .i64 y65)]) rfl rfl rfl Try_cal_63 (ref08_Size_ih _ _ h66) rfl rfl rfl) ?_
          refine reg_cons (guard_no rfl) (op_int (k := .i64) (m := x45) (n := y65) rfl rfl rfl rfl rfl rfl) ?_
          refine reg_cons (guard_no rfl) (op_assign rfl rfl rfl rfl) ?_
          refine reg_nil ?_
          refine post_imp (s' := ⟨37, [(1, some (.lp 0 0)), (3, some (.pv (.int .i64 (w_i64 (x45 + y65))))), (5, some (.pv (.int .i64 x46)))], [(0, some (.box 104 [.pv (.int .i64 a0.fKind), .pv (.str a0.fX), .pv (.str a0.fY), .pv (.str a0.fName), .pv (.int .i64 a0.fType.fKind), .pv (.str a0.fType.fClass), .pv (.int .i64 a0.fType.fN), .pv (.int .i64 a0.fType.fOwn.a0.fKind), .pv (.int .i64 a0.fType.fOwn.a0.fN), .pv (.int .i64 a0.fType.fOwn.a1.fKind), .pv (.int .i64 a0.fType.fOwn.a1.fN), .pv (.int .i64 a0.fType.fOwn.a2.fKind), .pv (.int .i64 a0.fType.fOwn.a2.fN), .pv (.int .i64 a0.fType.fOwn.a3.fKind), .pv (.int .i64 a0.fType.fOwn.a3.fN), .pv (.int .i64 a0.fE.fKind), .pv (.int .i64 a0.fE.fNum), .pv (.str a0.fE.fName), .pv (.vs 4 (eLGExpr a0.fE.fKids)), .pv (.vs 4 (eLGExpr a0.fArgs)), .pv (.vs 23 (eLGStmt a0.fBody)), .pv (.vs 23 (eLGStmt a0.fElse)), .pv (.int .i64 a0.fAt)]))], 1, [], [], 0, []⟩) (imp_sub [0] rfl (by decide) rfl rfl ⟨by kernel_rfl, by kernel_rfl, by kernel_rfl, trivial⟩ ⟨by kernel_rfl, trivial⟩ rfl rfl rfl) ?_
          refine post_block_normal ?_
          refine post_next ?_
          refine aw_region ?_
          refine reg_cons (guard_no rfl) (op_move rfl rfl rfl rfl) ?_
          refine reg_cons (guard_no rfl) (op_int (k := .i64) (m := x46) (n := 1) rfl rfl rfl rfl rfl rfl) ?_
          refine reg_cons (guard_no rfl) (op_assign rfl rfl rfl rfl) ?_
          refine reg_nil ?_
          refine post_round ?_
          exact rnd_back (ih (w_i64 (x45 + y65), w_i64 (x46 + 1)) hF) (imp_sub [0] rfl (by decide) rfl rfl ⟨by kernel_rfl, by kernel_rfl, by kernel_rfl, trivial⟩ ⟨by kernel_rfl, trivial⟩ rfl rfl rfl)
        · refine aw_cond_f rfl hb58 ?_
          refine aw_exit ?_
          refine post_then_exit ?_
          refine post_then_exit ?_
          obtain rfl := Option.some.inj hF
          exact post_lp_break _ rfl (imp_sub [] rfl (by decide) rfl rfl ⟨by kernel_rfl, trivial⟩ trivial rfl rfl rfl)
      · rintro _ rfl
        have hF := hK70
        clear hK70
        refine post_next ?_
        refine aw_seq ?_
        refine aw_region ?_
        refine reg_cons (guard_no rfl) (op_move rfl rfl rfl rfl) ?_
        refine reg_cons (guard_no rfl) (op_assign rfl rfl rfl rfl) ?_
        refine reg_nil ?_
        refine post_imp (s' := ⟨37, [(2, some (.pv (.int .i64 x69)))], [], 0, [], [], 0, []⟩) (imp_sub [] rfl (by decide) rfl rfl ⟨by kernel_rfl, trivial⟩ trivial rfl rfl rfl) ?_
        refine post_next ?_
        refine aw_ret ?_
        obtain rfl := Option.some.inj hF
        exact post_ret rfl rfl (.cons _ _ _ _ _ (.tmp _ _ rfl) (.p _) .nil) (.inl rfl)
theorem ref08_Size_ok {n : Nat} {a0 : GStmt} {r : Int} (hF : ref08_Size n a0 = some r) : Abs.Fn Try.prog 63 [.agg (eGStmt a0)] [.p (.int .i64 r)] := (ref08_Size_ring n) _ _ hF

theorem ref10_Heavy_ok {a0 : List GClass} {r : Bool} (hF : ref10_Heavy a0 = some r) : Abs.Fn Try.prog 26 [.vs 7 (List.map eGClass a0)] [.p (.bool r)] := by
  unfold ref10_Heavy at hF
  refine fn_of_body (n := 106) Try.func26 rfl rfl rfl ?_
  intro w O
  refine aw_seq ?_
  refine aw_region ?_
  refine reg_cons (guard_no rfl) (op_assign rfl rfl rfl rfl) ?_
  refine reg_nil ?_
  refine post_imp (s' := ⟨106, [(0, some (.pv (.vs 7 (List.map eGClass a0))))], [], 0, [], [], 0, []⟩) (imp_sub [] rfl (by decide) rfl rfl ⟨by kernel_rfl, trivial⟩ trivial rfl rfl rfl) ?_
  refine post_next ?_
  refine aw_seq ?_
  refine aw_region ?_
  refine reg_cons (guard_no rfl) (op_assign rfl rfl rfl rfl) ?_
  refine reg_nil ?_
  refine post_imp (s' := ⟨106, [(0, some (.pv (.vs 7 (List.map eGClass a0)))), (3, some (.pv (.int .i64 0)))], [], 0, [], [], 0, []⟩) (imp_sub [] rfl (by decide) rfl rfl ⟨by kernel_rfl, by kernel_rfl, trivial⟩ trivial rfl rfl rfl) ?_
  refine post_next ?_
  refine aw_seq ?_
  refine aw_seq ?_
  refine aw_region ?_
  refine reg_cons (guard_no rfl) (op_assign rfl rfl rfl rfl) ?_
  refine reg_nil ?_
  refine post_imp (s' := ⟨106, [(0, some (.pv (.vs 7 (List.map eGClass a0)))), (3, some (.pv (.int .i64 0))), (4, some (.pv (.int .i64 0)))], [], 0, [], [], 0, []⟩) (imp_sub [] rfl (by decide) rfl rfl ⟨by kernel_rfl, by kernel_rfl, by kernel_rfl, trivial⟩ trivial rfl rfl rfl) ?_
  refine post_next ?_
  obtain ⟨lr767, hF, hK768⟩ := bind_some hF
  refine aw_for ((((a0.length : Int) : Int) - (0)).toNat + 1) (fun s1 => ∃ q, lr767 = .next q ∧ s1 = ⟨106, [(3, some (.pv (.int .i64 q)))], [], 0, [], [], 0, []⟩) ?_ ?_
  · refine rnd_loop (α := Int × Int) (fun q => ⟨106, [(0, some (.pv (.vs 7 (List.map eGClass a0)))), (3, some (.pv (.int .i64 q.1))), (4, some (.pv (.int .i64 q.2)))], [], 0, [], [], 0, []⟩) (fun k q => ref10_Heavy_L1 a0 k q.1 q.2 = some lr767) (0, 0) (imp_sub [] rfl (by decide) rfl rfl ⟨by kernel_rfl, by kernel_rfl, by kernel_rfl, trivial⟩ trivial rfl rfl rfl) hF (fun q h => by cases h) ?_
    clear hF
    rintro k ⟨x254, x255⟩ hF ih
    refine rnd_succ ?_
    refine aw_seq ?_
    refine aw_seq ?_
    refine aw_region ?_
    refine reg_cons (guard_no rfl) (op_move rfl rfl rfl rfl) ?_
    refine reg_cons (guard_no rfl) (op_move rfl rfl rfl rfl) ?_
    refine reg_cons (guard_no rfl) (op_len_vs (n := a0.length) rfl rfl (List.length_map ..) Try_slc_45 rfl rfl) ?_
    refine reg_cons (guard_no rfl) (op_int (k := .i64) (m := x255) (n := (a0.length : Int)) rfl rfl rfl rfl rfl rfl) ?_
    refine reg_nil ?_
    refine post_imp (s' := ⟨106, [(0, some (.pv (.vs 7 (List.map eGClass a0)))), (3, some (.pv (.int .i64 x254))), (4, some (.pv (.int .i64 x255))), (12, some (.pv (.bool (decide (x255 < (a0.length : Int))))))], [], 0, [], [], 0, []⟩) (imp_sub [] rfl (by decide) rfl rfl ⟨by kernel_rfl, by kernel_rfl, by kernel_rfl, by kernel_rfl, trivial⟩ trivial rfl rfl rfl) ?_
    refine post_next ?_
    rcases ite_some hF with ⟨hb511, hF⟩ | ⟨hb511, hF⟩
    · refine aw_cond_t rfl hb511 ?_
      refine aw_skip ?_
      refine post_next ?_
      refine aw_seq ?_
      refine aw_block ?_
      refine aw_seq ?_
      refine aw_region ?_
      refine reg_cons (guard_no rfl) (op_move rfl rfl rfl rfl) ?_
      refine reg_cons (guard_no rfl) (op_move rfl rfl rfl rfl) ?_
      obtain ⟨y514, h515, hF⟩ := bind_some hF
      refine reg_cons (guard_no rfl) (op_index_vs (k := .i64) rfl rfl rfl (idx_map eGClass h515) Try_slc_45 rfl rfl) ?_
      refine reg_cons (guard_no rfl) (op_load_vp_agg (ps := eGClass y514) rfl rfl rfl rfl Try_agg_94 rfl rfl) ?_
      refine reg_cons (guard_no rfl) (op_alloc 0 rfl (ps := [.str (({ fName := [], fParams := [], fSuper := [], fAbove := [], fFields := [], fMethods := [], fAt := 0 } : GClass).fName), .vs 1 (List.map eS (({ fName := [], fParams := [], fSuper := [], fAbove := [], fFields := [], fMethods := [], fAt := 0 } : GClass).fParams)), .str (({ fName := [], fParams := [], fSuper := [], fAbove := [], fFields := [], fMethods := [], fAt := 0 } : GClass).fSuper), .vs 2 (List.map eGOwner (({ fName := [], fParams := [], fSuper := [], fAbove := [], fFields := [], fMethods := [], fAt := 0 } : GClass).fAbove)), .vs 13 (List.map eGVar (({ fName := [], fParams := [], fSuper := [], fAbove := [], fFields := [], fMethods := [], fAt := 0 } : GClass).fFields)), .vs 17 (List.map eGMethod (({ fName := [], fParams := [], fSuper := [], fAbove := [], fFields := [], fMethods := [], fAt := 0 } : GClass).fMethods)), .int .i64 (({ fName := [], fParams := [], fSuper := [], fAbove := [], fFields := [], fMethods := [], fAt := 0 } : GClass).fAt)]) rfl Try_zer_94 (by exact ⟨rfl, trivial, rfl, trivial, trivial, trivial, rfl, trivial⟩) rfl rfl) ?_
      refine reg_cons (guard_no rfl) (op_store_lp (n := 7) rfl rfl rfl rfl rfl (or_agg Try_agg_94) (by rw [Try_non_94]; rfl) rfl rfl rfl) ?_
      refine reg_nil ?_
      refine post_imp (s' := ⟨106, [(0, some (.pv (.vs 7 (List.map eGClass a0)))), (3, some (.pv (.int .i64 x254))), (4, some (.pv (.int .i64 x255))), (5, some (.lp 0 0))], [(0, some (.box 94 [.pv (.str y514.fName), .pv (.vs 1 (List.map eS y514.fParams)), .pv (.str y514.fSuper), .pv (.vs 2 (List.map eGOwner y514.fAbove)), .pv (.vs 13 (List.map eGVar y514.fFields)), .pv (.vs 17 (List.map eGMethod y514.fMethods)), .pv (.int .i64 y514.fAt)]))], 1, [], [], 0, []⟩) (imp_sub [0] rfl (by decide) rfl rfl ⟨by kernel_rfl, by kernel_rfl, by kernel_rfl, by kernel_rfl, trivial⟩ ⟨by kernel_rfl, trivial⟩ rfl rfl rfl) ?_
      refine post_next ?_
      refine aw_seq ?_
      refine aw_seq ?_
      obtain ⟨x520, hF, hK522⟩ := bind_some hF
      refine aw_cut (fun s1 => s1 = ⟨106, [(0, some (.pv (.vs 7 (List.map eGClass a0)))), (3, some (.pv (.int .i64 x254))), (4, some (.pv (.int .i64 x255))), (5, some (.lp 0 0)), (45, some (.pv (.bool x520)))], [(0, some (.box 94 [.pv (.str y514.fName), .pv (.vs 1 (List.map eS y514.fParams)), .pv (.str y514.fSuper), .pv (.vs 2 (List.map eGOwner y514.fAbove)), .pv (.vs 13 (List.map eGVar y514.fFields)), .pv (.vs 17 (List.map eGMethod y514.fMethods)), .pv (.int .i64 y514.fAt)]))], 1, [], [], 0, []⟩) ?_ ?_
      · refine aw_region ?_
        refine reg_cons (guard_no rfl) (op_move rfl rfl rfl rfl) ?_
        refine reg_cons (guard_no rfl) (op_len_vs (n := a0.length) rfl rfl (List.length_map ..) Try_slc_45 rfl rfl) ?_
        refine reg_cons (guard_no rfl) (op_int (k := .i64) (m := (a0.length : Int)) (n := 30) rfl rfl rfl rfl rfl rfl) ?_
        refine reg_cons (guard_no rfl) (op_move rfl rfl rfl rfl) ?_
        rcases ite_some hF with ⟨hb516, hF⟩ | ⟨hb516, hF⟩
        · refine reg_off (guard_off rfl rfl rfl rfl hb516) rfl rfl ?_
          refine reg_off (guard_off rfl rfl rfl rfl hb516) rfl rfl ?_
          refine reg_off (guard_off rfl rfl rfl rfl hb516) rfl rfl ?_
          refine reg_off (guard_off rfl rfl rfl rfl hb516) rfl rfl ?_
          refine reg_cons (guard_no rfl) (op_pick_t rfl rfl hb516 rfl rfl rfl) ?_
          refine reg_cons (guard_no rfl) (op_move rfl rfl rfl rfl) ?_
          refine reg_off (guard_off rfl rfl rfl rfl rfl) rfl rfl ?_
          refine reg_off (guard_off rfl rfl rfl rfl rfl) rfl rfl ?_
          refine reg_off (guard_off rfl rfl rfl rfl rfl) rfl rfl ?_
          refine reg_off (guard_off rfl rfl rfl rfl rfl) rfl rfl ?_
          refine reg_cons (guard_no rfl) (op_pick_t rfl rfl rfl rfl rfl rfl) ?_
          refine reg_cons (guard_no rfl) (op_move rfl rfl rfl rfl) ?_
          refine reg_off (guard_off rfl rfl rfl rfl rfl) rfl rfl ?_
          refine reg_off (guard_off rfl rfl rfl rfl rfl) rfl rfl ?_
          refine reg_off (guard_off rfl rfl rfl rfl rfl) rfl rfl ?_
          refine reg_off (guard_off rfl rfl rfl rfl rfl) rfl rfl ?_
          refine reg_cons (guard_no rfl) (op_pick_t rfl rfl rfl rfl rfl rfl) ?_
          refine reg_cons (guard_no rfl) (op_move rfl rfl rfl rfl) ?_
          refine reg_off (guard_off rfl rfl rfl rfl rfl) rfl rfl ?_
          refine reg_off (guard_off rfl rfl rfl rfl rfl) rfl rfl ?_
          refine reg_off (guard_off rfl rfl rfl rfl rfl) rfl rfl ?_
          refine reg_off (guard_off rfl rfl rfl rfl rfl) rfl rfl ?_
          refine reg_cons (guard_no rfl) (op_pick_t rfl rfl rfl rfl rfl rfl) ?_
          refine reg_nil ?_
          cases hF
          exact post_cut _ rfl (imp_sub [0] rfl (by decide) rfl rfl ⟨by kernel_rfl, by kernel_rfl, by kernel_rfl, by kernel_rfl, by kernel_rfl, trivial⟩ ⟨by kernel_rfl, trivial⟩ rfl rfl rfl)
        · refine reg_cons (guard_on rfl rfl rfl rfl hb516) (op_field_lp rfl rfl Try_fld_94_1 rfl rfl) ?_
          refine reg_cons (guard_on rfl rfl rfl rfl hb516) (op_load_lp (v := .pv (.vs 1 (List.map eS y514.fParams))) rfl rfl rfl rfl Try_one_90 rfl rfl) ?_
          refine reg_cons (guard_on rfl rfl rfl rfl hb516) (op_len_vs (n := y514.fParams.length) rfl rfl (List.length_map ..) Try_slc_90 rfl rfl) ?_
          refine reg_cons (guard_on rfl rfl rfl rfl hb516) (op_int (k := .i64) (m := (y514.fParams.length : Int)) (n := 20) rfl rfl rfl rfl rfl rfl) ?_
          refine reg_cons (guard_no rfl) (op_pick_f rfl rfl hb516 rfl rfl rfl) ?_
          refine reg_cons (guard_no rfl) (op_move rfl rfl rfl rfl) ?_
          rcases ite_some hF with ⟨hb517, hF⟩ | ⟨hb517, hF⟩
          · refine reg_off (guard_off rfl rfl rfl rfl hb517) rfl rfl ?_
            refine reg_off (guard_off rfl rfl rfl rfl hb517) rfl rfl ?_
            refine reg_off (guard_off rfl rfl rfl rfl hb517) rfl rfl ?_
            refine reg_off (guard_off rfl rfl rfl rfl hb517) rfl rfl ?_
            refine reg_cons (guard_no rfl) (op_pick_t rfl rfl hb517 rfl rfl rfl) ?_
            refine reg_cons (guard_no rfl) (op_move rfl rfl rfl rfl) ?_
            refine reg_off (guard_off rfl rfl rfl rfl rfl) rfl rfl ?_
            refine reg_off (guard_off rfl rfl rfl rfl rfl) rfl rfl ?_
            refine reg_off (guard_off rfl rfl rfl rfl rfl) rfl rfl ?_
            refine reg_off (guard_off rfl rfl rfl rfl rfl) rfl rfl ?_
            refine reg_cons (guard_no rfl) (op_pick_t rfl rfl rfl rfl rfl rfl) ?_
            refine reg_cons (guard_no rfl) (op_move rfl rfl rfl rfl) ?_
            refine reg_off (guard_off rfl rfl rfl rfl rfl) rfl rfl ?_
            refine reg_off (guard_off rfl rfl rfl rfl rfl) rfl rfl ?_
            refine reg_off (guard_off rfl rfl rfl rfl rfl) rfl rfl ?_
            refine reg_off (guard_off rfl rfl rfl rfl rfl) rfl rfl ?_
            refine reg_cons (guard_no rfl) (op_pick_t rfl rfl rfl rfl rfl rfl) ?_
            refine reg_nil ?_
            cases hF
            exact post_cut _ rfl (imp_sub [0] rfl (by decide) rfl rfl ⟨by kernel_rfl, by kernel_rfl, by kernel_rfl, by kernel_rfl, by kernel_rfl, trivial⟩ ⟨by kernel_rfl, trivial⟩ rfl rfl rfl)
          · refine reg_cons (guard_on rfl rfl rfl rfl hb517) (op_field_lp rfl rfl Try_fld_94_3 rfl rfl) ?_
            refine reg_cons (guard_on rfl rfl rfl rfl hb517) (op_load_lp (v := .pv (.vs 2 (List.map eGOwner y514.fAbove))) rfl rfl rfl rfl Try_one_52 rfl rfl) ?_
            refine reg_cons (guard_on rfl rfl rfl rfl hb517) (op_len_vs (n := y514.fAbove.length) rfl rfl (List.length_map ..) Try_slc_52 rfl rfl) ?_
            refine reg_cons (guard_on rfl rfl rfl rfl hb517) (op_int (k := .i64) (m := (y514.fAbove.length : Int)) (n := 20) rfl rfl rfl rfl rfl rfl) ?_
            refine reg_cons (guard_no rfl) (op_pick_f rfl rfl hb517 rfl rfl rfl) ?_
            refine reg_cons (guard_no rfl) (op_move rfl rfl rfl rfl) ?_
            rcases ite_some hF with ⟨hb518, hF⟩ | ⟨hb518, hF⟩
            · refine reg_off (guard_off rfl rfl rfl rfl hb518) rfl rfl ?_
              refine reg_off (guard_off rfl rfl rfl rfl hb518) rfl rfl ?_
              refine reg_off (guard_off rfl rfl rfl rfl hb518) rfl rfl ?_
              refine reg_off (guard_off rfl rfl rfl rfl hb518) rfl rfl ?_
              refine reg_cons (guard_no rfl) (op_pick_t rfl rfl hb518 rfl rfl rfl) ?_
              refine reg_cons (guard_no rfl) (op_move rfl rfl rfl rfl) ?_
              refine reg_off (guard_off rfl rfl rfl rfl rfl) rfl rfl ?_
              refine reg_off (guard_off rfl rfl rfl rfl rfl) rfl rfl ?_
              refine reg_off (guard_off rfl rfl rfl rfl rfl) rfl rfl ?_
              refine reg_off (guard_off rfl rfl rfl rfl rfl) rfl rfl ?_
              refine reg_cons (guard_no rfl) (op_pick_t rfl rfl rfl rfl rfl rfl) ?_
              refine reg_nil ?_
              cases hF
              exact post_cut _ rfl (imp_sub [0] rfl (by decide) rfl rfl ⟨by kernel_rfl, by kernel_rfl, by kernel_rfl, by kernel_rfl, by kernel_rfl, trivial⟩ ⟨by kernel_rfl, trivial⟩ rfl rfl rfl)
            · refine reg_cons (guard_on rfl rfl rfl rfl hb518) (op_field_lp rfl rfl Try_fld_94_4 rfl rfl) ?_
              refine reg_cons (guard_on rfl rfl rfl rfl hb518) (op_load_lp (v := .pv (.vs 13 (List.map eGVar y514.fFields))) rfl rfl rfl rfl Try_one_91 rfl rfl) ?_
              refine reg_cons (guard_on rfl rfl rfl rfl hb518) (op_len_vs (n := y514.fFields.length) rfl rfl (List.length_map ..) Try_slc_91 rfl rfl) ?_
              refine reg_cons (guard_on rfl rfl rfl rfl hb518) (op_int (k := .i64) (m := (y514.fFields.length : Int)) (n := 40) rfl rfl rfl rfl rfl rfl) ?_
              refine reg_cons (guard_no rfl) (op_pick_f rfl rfl hb518 rfl rfl rfl) ?_
              refine reg_cons (guard_no rfl) (op_move rfl rfl rfl rfl) ?_
              rcases ite_some hF with ⟨hb519, hF⟩ | ⟨hb519, hF⟩
              · refine reg_off (guard_off rfl rfl rfl rfl hb519) rfl rfl ?_
                refine reg_off (guard_off rfl rfl rfl rfl hb519) rfl rfl ?_
                refine reg_off (guard_off rfl rfl rfl rfl hb519) rfl rfl ?_
                refine reg_off (guard_off rfl rfl rfl rfl hb519) rfl rfl ?_
                refine reg_cons (guard_no rfl) (op_pick_t rfl rfl hb519 rfl rfl rfl) ?_
                refine reg_nil ?_
                cases hF
                exact post_cut _ rfl (imp_sub [0] rfl (by decide) rfl rfl ⟨by kernel_rfl, by kernel_rfl, by kernel_rfl, by kernel_rfl, by kernel_rfl, trivial⟩ ⟨by kernel_rfl, trivial⟩ rfl rfl rfl)
              · refine reg_cons (guard_on rfl rfl rfl rfl hb519) (op_field_lp rfl rfl Try_fld_94_5 rfl rfl) ?_
                refine reg_cons (guard_on rfl rfl rfl rfl hb519) (op_load_lp (v := .pv (.vs 17 (List.map eGMethod y514.fMethods))) rfl rfl rfl rfl Try_one_92 rfl rfl) ?_
                refine reg_cons (guard_on rfl rfl rfl rfl hb519) (op_len_vs (n := y514.fMethods.length) rfl rfl (List.length_map ..) Try_slc_92 rfl rfl) ?_
                refine reg_cons (guard_on rfl rfl rfl rfl hb519) (op_int (k := .i64) (m := (y514.fMethods.length : Int)) (n := 40) rfl rfl rfl rfl rfl rfl) ?_
                refine reg_cons (guard_no rfl) (op_pick_f rfl rfl hb519 rfl rfl rfl) ?_
                refine reg_nil ?_
                cases hF
                exact post_cut _ rfl (imp_sub [0] rfl (by decide) rfl rfl ⟨by kernel_rfl, by kernel_rfl, by kernel_rfl, by kernel_rfl, by kernel_rfl, trivial⟩ ⟨by kernel_rfl, trivial⟩ rfl rfl rfl)
      · rintro _ rfl
        have hF := hK522
        clear hK522
        refine post_next ?_
        rcases ite_some hF with ⟨hb523, hF⟩ | ⟨hb523, hF⟩
        · refine aw_cond_t rfl hb523 ?_
          refine aw_seq ?_
          refine aw_region ?_
          refine reg_cons (guard_no rfl) (op_assign rfl rfl rfl rfl) ?_
          refine reg_nil ?_
          refine post_imp (s' := ⟨106, [(2, some (.pv (.bool true)))], [], 0, [], [], 0, []⟩) (imp_sub [] rfl (by decide) rfl rfl ⟨by kernel_rfl, trivial⟩ trivial rfl rfl rfl) ?_
          refine post_next ?_
          refine aw_ret ?_
          refine post_then_ret ?_
          refine post_block_ret ?_
          refine post_then_ret ?_
          refine post_then_ret ?_
          refine post_lp_ret ?_
          obtain rfl := Option.some.inj hF
          have hF := elim_stop hK768
          refine post_then_ret ?_
          obtain rfl := Option.some.inj hF
          exact post_ret rfl rfl (.cons _ _ _ _ _ (.tmp _ _ rfl) (.p _) .nil) (.inl rfl)
        · refine aw_cond_f rfl hb523 ?_
          refine aw_skip ?_
          refine post_next ?_
          refine aw_seq ?_
          refine aw_region ?_
          refine reg_cons (guard_no rfl) (op_assign rfl rfl rfl rfl) ?_
          refine reg_nil ?_
          refine post_imp (s' := ⟨106, [(0, some (.pv (.vs 7 (List.map eGClass a0)))), (3, some (.pv (.int .i64 x254))), (4, some (.pv (.int .i64 x255))), (5, some (.lp 0 0)), (6, some (.pv (.int .i64 0)))], [(0, some (.box 94 [.pv (.str y514.fName), .pv (.vs 1 (List.map eS y514.fParams)), .pv (.str y514.fSuper), .pv (.vs 2 (List.map eGOwner y514.fAbove)), .pv (.vs 13 (List.map eGVar y514.fFields)), .pv (.vs 17 (List.map eGMethod y514.fMethods)), .pv (.int .i64 y514.fAt)]))], 1, [], [], 0, []⟩) (imp_sub [0] rfl (by decide) rfl rfl ⟨by kernel_rfl, by kernel_rfl, by kernel_rfl, by kernel_rfl, by kernel_rfl, trivial⟩ ⟨by kernel_rfl, trivial⟩ rfl rfl rfl) ?_
          refine post_next ?_
          obtain ⟨lr762, hF, hK763⟩ := bind_some hF
          refine aw_for ((((y514.fMethods.length : Int) : Int) - (0)).toNat + 1) (fun s1 => ∃ q, lr762 = .next q ∧ s1 = ⟨106, [(0, some (.pv (.vs 7 (List.map eGClass a0)))), (3, some (.pv (.int .i64 q))), (4, some (.pv (.int .i64 x255)))], [], 0, [], [], 0, []⟩) ?_ ?_
          · refine rnd_loop (α := Int × Int) (fun q => ⟨106, [(0, some (.pv (.vs 7 (List.map eGClass a0)))), (3, some (.pv (.int .i64 q.1))), (4, some (.pv (.int .i64 x255))), (5, some (.lp 0 0)), (6, some (.pv (.int .i64 q.2)))], [(0, some (.box 94 [.pv (.str y514.fName), .pv (.vs 1 (List.map eS y514.fParams)), .pv (.str y514.fSuper), .pv (.vs 2 (List.map eGOwner y514.fAbove)), .pv (.vs 13 (List.map eGVar y514.fFields)), .pv (.vs 17 (List.map eGMethod y514.fMethods)), .pv (.int .i64 y514.fAt)]))], 1, [], [], 0, []⟩) (fun k q => ref10_Heavy_L2 y514 k q.1 q.2 = some lr762) (x254, 0) (imp_sub [0] rfl (by decide) rfl rfl ⟨by kernel_rfl, by kernel_rfl, by kernel_rfl, by kernel_rfl, by kernel_rfl, trivial⟩ ⟨by kernel_rfl, trivial⟩ rfl rfl rfl) hF (fun q h => by cases h) ?_
            clear hF
            rintro k ⟨x601, x602⟩ hF ih
            refine rnd_succ ?_
            refine aw_seq ?_
            refine aw_seq ?_
            refine aw_region ?_
            refine reg_cons (guard_no rfl) (op_move rfl rfl rfl rfl) ?_
            refine reg_cons (guard_no rfl) (op_field_lp rfl rfl Try_fld_94_5 rfl rfl) ?_
            refine reg_cons (guard_no rfl) (op_load_lp (v := .pv (.vs 17 (List.map eGMethod y514.fMethods))) rfl rfl rfl rfl Try_one_92 rfl rfl) ?_
            refine reg_cons (guard_no rfl) (op_len_vs (n := y514.fMethods.length) rfl rfl (List.length_map ..) Try_slc_92 rfl rfl) ?_
            refine reg_cons (guard_no rfl) (op_int (k := .i64) (m := x602) (n := (y514.fMethods.length : Int)) rfl rfl rfl rfl rfl rfl) ?_
            refine reg_nil ?_
            refine post_imp (s' := ⟨106, [(0, some (.pv (.vs 7 (List.map eGClass a0)))), (3, some (.pv (.int .i64 x601))), (4, some (.pv (.int .i64 x255))), (5, some (.lp 0 0)), (6, some (.pv (.int .i64 x602))), (50, some (.pv (.bool (decide (x602 < (y514.fMethods.length : Int))))))], [(0, some (.box 94 [.pv (.str y514.fName), .pv (.vs 1 (List.map eS y514.fParams)), .pv (.str y514.fSuper), .pv (.vs 2 (List.map eGOwner y514.fAbove)), .pv (.vs 13 (List.map eGVar y514.fFields)), .pv (.vs 17 (List.map eGMethod y514.fMethods)), .pv (.int .i64 y514.fAt)]))], 1, [], [], 0, []⟩) (imp_sub [0] rfl (by decide) rfl rfl ⟨by kernel_rfl, by kernel_rfl, by kernel_rfl, by kernel_rfl, by kernel_rfl, by kernel_rfl, trivial⟩ ⟨by kernel_rfl, trivial⟩ rfl rfl rfl) ?_
            refine post_next ?_
            rcases ite_some hF with ⟨hb682, hF⟩ | ⟨hb682, hF⟩
            · refine aw_cond_t rfl hb682 ?_
              refine aw_skip ?_
              refine post_next ?_
              refine aw_seq ?_
              refine aw_block ?_
              refine aw_seq ?_
              refine aw_region ?_
              refine reg_cons (guard_no rfl) (op_field_lp rfl rfl Try_fld_94_5 rfl rfl) ?_
              refine reg_cons (guard_no rfl) (op_load_lp (v := .pv (.vs 17 (List.map eGMethod y514.fMethods))) rfl rfl rfl rfl Try_one_92 rfl rfl) ?_
              refine reg_cons (guard_no rfl) (op_move rfl rfl rfl rfl) ?_
              obtain ⟨y685, h686, hF⟩ := bind_some hF
              refine reg_cons (guard_no rfl) (op_index_vs (k := .i64) rfl rfl rfl (idx_map eGMethod h686) Try_slc_92 rfl rfl) ?_
              refine reg_cons (guard_no rfl) (op_load_vp_agg (ps := eGMethod y685) rfl rfl rfl rfl Try_agg_97 rfl rfl) ?_
              refine reg_cons (guard_no rfl) (op_alloc 1 rfl (ps := [.str (({ fName := [], fPure := false, fRet := ({ fKind := 0, fClass := [], fN := 0, fOwn := (⟨({ fKind := 0, fN := 0 } : GOwner), ({ fKind := 0, fN := 0 } : GOwner), ({ fKind := 0, fN := 0 } : GOwner), ({ fKind := 0, fN := 0 } : GOwner)⟩ : A4 GOwner) } : GType), fParams := [], fLocals := [], fBody := [], fAt := 0 } : GMethod).fName), .bool (({ fName := [], fPure := false, fRet := ({ fKind := 0, fClass := [], fN := 0, fOwn := (⟨({ fKind := 0, fN := 0 } : GOwner), ({ fKind := 0, fN := 0 } : GOwner), ({ fKind := 0, fN := 0 } : GOwner), ({ fKind := 0, fN := 0 } : GOwner)⟩ : A4 GOwner) } : GType), fParams := [], fLocals := [], fBody := [], fAt := 0 } : GMethod).fPure), .int .i64 ((({ fName := [], fPure := false, fRet := ({ fKind := 0, fClass := [], fN := 0, fOwn := (⟨({ fKind := 0, fN := 0 } : GOwner), ({ fKind := 0, fN := 0 } : GOwner), ({ fKind := 0, fN := 0 } : GOwner), ({ fKind := 0, fN := 0 } : GOwner)⟩ : A4 GOwner) } : GType), fParams := [], fLocals := [], fBody := [], fAt := 0 } : GMethod).fRet).fKind), .str ((({ fName := [], fPure := false, fRet := ({ fKind := 0, fClass := [], fN := 0, fOwn := (⟨({ fKind := 0, fN := 0 } : GOwner), ({ fKind := 0, fN := 0 } : GOwner), ({ fKind := 0, fN := 0 } : GOwner), ({ fKind := 0, fN := 0 } : GOwner)⟩ : A4 GOwner) } : GType), fParams := [], fLocals := [], fBody := [], fAt := 0 } : GMethod).fRet).fClass), .int .i64 ((({ fName := [], fPure := false, fRet := ({ fKind := 0, fClass := [], fN := 0, fOwn := (⟨({ fKind := 0, fN := 0 } : GOwner), ({ fKind := 0, fN := 0 } : GOwner), ({ fKind := 0, fN := 0 } : GOwner), ({ fKind := 0, fN := 0 } : GOwner)⟩ : A4 GOwner) } : GType), fParams := [], fLocals := [], fBody := [], fAt := 0 } : GMethod).fRet).fN), .int .i64 ((((({ fName := [], fPure := false, fRet := ({ fKind := 0, fClass := [], fN := 0, fOwn := (⟨({ fKind := 0, fN := 0 } : GOwner), ({ fKind := 0, fN := 0 } : GOwner), ({ fKind := 0, fN := 0 } : GOwner), ({ fKind := 0, fN := 0 } : GOwner)⟩ : A4 GOwner) } : GType), fParams := [], fLocals := [], fBody := [], fAt := 0 } : GMethod).fRet).fOwn).a0).fKind), .int .i64 ((((({ fName := [], fPure := false, fRet := ({ fKind := 0, fClass := [], fN := 0, fOwn := (⟨({ fKind := 0, fN := 0 } : GOwner), ({ fKind := 0, fN := 0 } : GOwner), ({ fKind := 0, fN := 0 } : GOwner), ({ fKind := 0, fN := 0 } : GOwner)⟩ : A4 GOwner) } : GType), fParams := [], fLocals := [], fBody := [], fAt := 0 } : GMethod).fRet).fOwn).a0).fN), .int .i64 ((((({ fName := [], fPure := false, fRet := ({ fKind := 0, fClass := [], fN := 0, fOwn := (⟨({ fKind := 0, fN := 0 } : GOwner), ({ fKind := 0, fN := 0 } : GOwner), ({ fKind := 0, fN := 0 } : GOwner), ({ fKind := 0, fN := 0 } : GOwner)⟩ : A4 GOwner) } : GType), fParams := [], fLocals := [], fBody := [], fAt := 0 } : GMethod).fRet).fOwn).a1).fKind), .int .i64 ((((({ fName := [], fPure := false, fRet := ({ fKind := 0, fClass := [], fN := 0, fOwn := (⟨({ fKind := 0, fN := 0 } : GOwner), ({ fKind := 0, fN := 0 } : GOwner), ({ fKind := 0, fN := 0 } : GOwner), ({ fKind := 0, fN := 0 } : GOwner)⟩ : A4 GOwner) } : GType), fParams := [], fLocals := [], fBody := [], fAt := 0 } : GMethod).fRet).fOwn).a1).fN), .int .i64 ((((({ fName := [], fPure := false, fRet := ({ fKind := 0, fClass := [], fN := 0, fOwn := (⟨({ fKind := 0, fN := 0 } : GOwner), ({ fKind := 0, fN := 0 } : GOwner), ({ fKind := 0, fN := 0 } : GOwner), ({ fKind := 0, fN := 0 } : GOwner)⟩ : A4 GOwner) } : GType), fParams := [], fLocals := [], fBody := [], fAt := 0 } : GMethod).fRet).fOwn).a2).fKind), .int .i64 ((((({ fName := [], fPure := false, fRet := ({ fKind := 0, fClass := [], fN := 0, fOwn := (⟨({ fKind := 0, fN := 0 } : GOwner), ({ fKind := 0, fN := 0 } : GOwner), ({ fKind := 0, fN := 0 } : GOwner), ({ fKind := 0, fN := 0 } : GOwner)⟩ : A4 GOwner) } : GType), fParams := [], fLocals := [], fBody := [], fAt := 0 } : GMethod).fRet).fOwn).a2).fN), .int .i64 ((((({ fName := [], fPure := false, fRet := ({ fKind := 0, fClass := [], fN := 0, fOwn := (⟨({ fKind := 0, fN := 0 } : GOwner), ({ fKind := 0, fN := 0 } : GOwner), ({ fKind := 0, fN := 0 } : GOwner), ({ fKind := 0, fN := 0 } : GOwner)⟩ : A4 GOwner) } : GType), fParams := [], fLocals := [], fBody := [], fAt := 0 } : GMethod).fRet).fOwn).a3).fKind), .int .i64 ((((({ fName := [], fPure := false, fRet := ({ fKind := 0, fClass := [], fN := 0, fOwn := (⟨({ fKind := 0, fN := 0 } : GOwner), ({ fKind := 0, fN := 0 } : GOwner), ({ fKind := 0, fN := 0 } : GOwner), ({ fKind := 0, fN := 0 } : GOwner)⟩ : A4 GOwner) } : GType), fParams := [], fLocals := [], fBody := [], fAt := 0 } : GMethod).fRet).fOwn).a3).fN), .vs 13 (List.map eGVar (({ fName := [], fPure := false, fRet := ({ fKind := 0, fClass := [], fN := 0, fOwn := (⟨({ fKind := 0, fN := 0 } : GOwner), ({ fKind := 0, fN := 0 } : GOwner), ({ fKind := 0, fN := 0 } : GOwner), ({ fKind := 0, fN := 0 } : GOwner)⟩ : A4 GOwner) } : GType), fParams := [], fLocals := [], fBody := [], fAt := 0 } : GMethod).fParams)), .vs 13 (List.map eGVar (({ fName := [], fPure := false, fRet := ({ fKind := 0, fClass := [], fN := 0, fOwn := (⟨({ fKind := 0, fN := 0 } : GOwner), ({ fKind := 0, fN := 0 } : GOwner), ({ fKind := 0, fN := 0 } : GOwner), ({ fKind := 0, fN := 0 } : GOwner)⟩ : A4 GOwner) } : GType), fParams := [], fLocals := [], fBody := [], fAt := 0 } : GMethod).fLocals)), .vs 23 (eLGStmt (({ fName := [], fPure := false, fRet := ({ fKind := 0, fClass := [], fN := 0, fOwn := (⟨({ fKind := 0, fN := 0 } : GOwner), ({ fKind := 0, fN := 0 } : GOwner), ({ fKind := 0, fN := 0 } : GOwner), ({ fKind := 0, fN := 0 } : GOwner)⟩ : A4 GOwner) } : GType), fParams := [], fLocals := [], fBody := [], fAt := 0 } : GMethod).fBody)), .int .i64 (({ fName := [], fPure := false, fRet := ({ fKind := 0, fClass := [], fN := 0, fOwn := (⟨({ fKind := 0, fN := 0 } : GOwner), ({ fKind := 0, fN := 0 } : GOwner), ({ fKind := 0, fN := 0 } : GOwner), ({ fKind := 0, fN := 0 } : GOwner)⟩ : A4 GOwner) } : GType), fParams := [], fLocals := [], fBody := [], fAt := 0 } : GMethod).fAt)]) rfl Try_zer_97 (by exact ⟨rfl, rfl, rfl, rfl, rfl, rfl, rfl, rfl, rfl, rfl, rfl, rfl, rfl, trivial, trivial, trivial, rfl, trivial⟩) rfl rfl) ?_
              refine reg_cons (guard_no rfl) (op_store_lp (n := 17) rfl rfl rfl rfl rfl (or_agg Try_agg_97) (by rw [Try_non_97]; rfl) rfl rfl rfl) ?_
              refine reg_nil ?_
              refine post_imp (s' := ⟨106, [(0, some (.pv (.vs 7 (List.map eGClass a0)))), (3, some (.pv (.int .i64 x601))), (4, some (.pv (.int .i64 x255))), (5, some (.lp 0 0)), (6, some (.pv (.int .i64 x602))), (7, some (.lp 1 0))], [(0, some (.box 94 [.pv (.str y514.fName), .pv (.vs 1 (List.map eS y514.fParams)), .pv (.str y514.fSuper), .pv (.vs 2 (List.map eGOwner y514.fAbove)), .pv (.vs 13 (List.map eGVar y514.fFields)), .pv (.vs 17 (List.map eGMethod y514.fMethods)), .pv (.int .i64 y514.fAt)])), (1, some (.box 97 [.pv (.str y685.fName), .pv (.bool y685.fPure), .pv (.int .i64 y685.fRet.fKind), .pv (.str y685.fRet.fClass), .pv (.int .i64 y685.fRet.fN), .pv (.int .i64 y685.fRet.fOwn.a0.fKind), .pv (.int .i64 y685.fRet.fOwn.a0.fN), .pv (.int .i64 y685.fRet.fOwn.a1.fKind), .pv (.int .i64 y685.fRet.fOwn.a1.fN), .pv (.int .i64 y685.fRet.fOwn.a2.fKind), .pv (.int .i64 y685.fRet.fOwn.a2.fN), .pv (.int .i64 y685.fRet.fOwn.a3.fKind), .pv (.int .i64 y685.fRet.fOwn.a3.fN), .pv (.vs 13 (List.map eGVar y685.fParams)), .pv (.vs 13 (List.map eGVar y685.fLocals)), .pv (.vs 23 (eLGStmt y685.fBody)), .pv (.int .i64 y685.fAt)]))], 2, [], [], 0, []⟩) (imp_sub [0, 1] rfl (by decide) rfl rfl ⟨by kernel_rfl, by kernel_rfl, by kernel_rfl, by kernel_rfl, by kernel_rfl, by kernel_rfl, trivial⟩ ⟨by kernel_rfl, by kernel_rfl, trivial⟩ rfl rfl rfl) ?_
              refine post_next ?_
              refine aw_seq ?_
              refine aw_seq ?_
              obtain ⟨x692, hF, hK694⟩ := bind_some hF
              refine aw_cut (fun s1 => s1 = ⟨106, [(0, some (.pv (.vs 7 (List.map eGClass a0)))), (3, some (.pv (.int .i64 x601))), (4, some (.pv (.int .i64 x255))), (5, some (.lp 0 0)), (6, some (.pv (.int .i64 x602))), (7, some (.lp 1 0)), (78, some (.pv (.bool x692)))], [(0, some (.box 94 [.pv (.str y514.fName), .pv (.vs 1 (List.map eS y514.fParams)), .pv (.str y514.fSuper), .pv (.vs 2 (List.map eGOwner y514.fAbove)), .pv (.vs 13 (List.map eGVar y514.fFields)), .pv (.vs 17 (List.map eGMethod y514.fMethods)), .pv (.int .i64 y514.fAt)])), (1, some (.box 97 [.pv (.str y685.fName), .pv (.bool y685.fPure), .pv (.int .i64 y685.fRet.fKind), .pv (.str y685.fRet.fClass), .pv (.int .i64 y685.fRet.fN), .pv (.int .i64 y685.fRet.fOwn.a0.fKind), .pv (.int .i64 y685.fRet.fOwn.a0.fN), .pv (.int .i64 y685.fRet.fOwn.a1.fKind), .pv (.int .i64 y685.fRet.fOwn.a1.fN), .pv (.int .i64 y685.fRet.fOwn.a2.fKind), .pv (.int .i64 y685.fRet.fOwn.a2.fN), .pv (.int .i64 y685.fRet.fOwn.a3.fKind), .pv (.int .i64 y685.fRet.fOwn.a3.fN), .pv (.vs 13 (List.map eGVar y685.fParams)), .pv (.vs 13 (List.map eGVar y685.fLocals)), .pv (.vs 23 (eLGStmt y685.fBody)), .pv (.int .i64 y685.fAt)]))], 2, [], [], 0, []⟩) ?_ ?_
              · refine aw_region ?_
                refine reg_cons (guard_no rfl) (op_field_lp rfl rfl Try_fld_97_3 rfl rfl) ?_
                refine reg_cons (guard_no rfl) (op_load_lp (v := .pv (.vs 13 (List.map eGVar y685.fParams))) rfl rfl rfl rfl Try_one_91 rfl rfl) ?_
                refine reg_cons (guard_no rfl) (op_len_vs (n := y685.fParams.length) rfl rfl (List.length_map ..) Try_slc_91 rfl rfl) ?_
                refine reg_cons (guard_no rfl) (op_int (k := .i64) (m := (y685.fParams.length : Int)) (n := 40) rfl rfl rfl rfl rfl rfl) ?_
                refine reg_cons (guard_no rfl) (op_move rfl rfl rfl rfl) ?_
                rcases ite_some hF with ⟨hb687, hF⟩ | ⟨hb687, hF⟩
                · refine reg_off (guard_off rfl rfl rfl rfl hb687) rfl rfl ?_
                  refine reg_off (guard_off rfl rfl rfl rfl hb687) rfl rfl ?_
                  refine reg_off (guard_off rfl rfl rfl rfl hb687) rfl rfl ?_
                  refine reg_off (guard_off rfl rfl rfl rfl hb687) rfl rfl ?_
                  refine reg_cons (guard_no rfl) (op_pick_t rfl rfl hb687 rfl rfl rfl) ?_
                  refine reg_cons (guard_no rfl) (op_move rfl rfl rfl rfl) ?_
                  refine reg_off (guard_off rfl rfl rfl rfl rfl) rfl rfl ?_
                  refine reg_off (guard_off rfl rfl rfl rfl rfl) rfl rfl ?_
                  refine reg_off (guard_off rfl rfl rfl rfl rfl) rfl rfl ?_
                  refine reg_off (guard_off rfl rfl rfl rfl rfl) rfl rfl ?_
                  refine reg_cons (guard_no rfl) (op_pick_t rfl rfl rfl rfl rfl rfl) ?_
                  refine reg_cons (guard_no rfl) (op_move rfl rfl rfl rfl) ?_
                  refine reg_off (guard_off rfl rfl rfl rfl rfl) rfl rfl ?_
                  refine reg_off (guard_off rfl rfl rfl rfl rfl) rfl rfl ?_
                  refine reg_off (guard_off rfl rfl rfl rfl rfl) rfl rfl ?_
                  refine reg_cons (guard_no rfl) (op_pick_t rfl rfl rfl rfl rfl rfl) ?_
                  refine reg_nil ?_
                  cases hF
                  exact post_cut _ rfl (imp_sub [0, 1] rfl (by decide) rfl rfl ⟨by kernel_rfl, by kernel_rfl, by kernel_rfl, by kernel_rfl, by kernel_rfl, by kernel_rfl, by kernel_rfl, trivial⟩ ⟨by kernel_rfl, by kernel_rfl, trivial⟩ rfl rfl rfl)
                · refine reg_cons (guard_on rfl rfl rfl rfl hb687) (op_field_lp rfl rfl Try_fld_97_4 rfl rfl) ?_
                  refine reg_cons (guard_on rfl rfl rfl rfl hb687) (op_load_lp (v := .pv (.vs 13 (List.map eGVar y685.fLocals))) rfl rfl rfl rfl Try_one_91 rfl rfl) ?_
                  refine reg_cons (guard_on rfl rfl rfl rfl hb687) (op_len_vs (n := y685.fLocals.length) rfl rfl (List.length_map ..) Try_slc_91 rfl rfl) ?_
                  refine reg_cons (guard_on rfl rfl rfl rfl hb687) (op_int (k := .i64) (m := (y685.fLocals.length : Int)) (n := 40) rfl rfl rfl rfl rfl rfl) ?_
                  refine reg_cons (guard_no rfl) (op_pick_f rfl rfl hb687 rfl rfl rfl) ?_
                  refine reg_cons (guard_no rfl) (op_move rfl rfl rfl rfl) ?_
                  rcases ite_some hF with ⟨hb688, hF⟩ | ⟨hb688, hF⟩
                  · refine reg_off (guard_off rfl rfl rfl rfl hb688) rfl rfl ?_
                    refine reg_off (guard_off rfl rfl rfl rfl hb688) rfl rfl ?_
                    refine reg_off (guard_off rfl rfl rfl rfl hb688) rfl rfl ?_
                    refine reg_off (guard_off rfl rfl rfl rfl hb688) rfl rfl ?_
                    refine reg_cons (guard_no rfl) (op_pick_t rfl rfl hb688 rfl rfl rfl) ?_
                    refine reg_cons (guard_no rfl) (op_move rfl rfl rfl rfl) ?_
                    refine reg_off (guard_off rfl rfl rfl rfl rfl) rfl rfl ?_
                    refine reg_off (guard_off rfl rfl rfl rfl rfl) rfl rfl ?_
                    refine reg_off (guard_off rfl rfl rfl rfl rfl) rfl rfl ?_
                    refine reg_cons (guard_no rfl) (op_pick_t rfl rfl rfl rfl rfl rfl) ?_
                    refine reg_nil ?_
                    cases hF
                    exact post_cut _ rfl (imp_sub [0, 1] rfl (by decide) rfl rfl ⟨by kernel_rfl, by kernel_rfl, by kernel_rfl, by kernel_rfl, by kernel_rfl, by kernel_rfl, by kernel_rfl, trivial⟩ ⟨by kernel_rfl, by kernel_rfl, trivial⟩ rfl rfl rfl)
                  · refine reg_cons (guard_on rfl rfl rfl rfl hb688) (op_field_lp rfl rfl Try_fld_97_5 rfl rfl) ?_
                    refine reg_cons (guard_on rfl rfl rfl rfl hb688) (op_load_lp (v := .pv (.vs 23 (eLGStmt y685.fBody))) rfl rfl rfl rfl Try_one_95 rfl rfl) ?_
                    refine reg_cons (guard_on rfl rfl rfl rfl hb688) (op_len_vs (n := y685.fBody.length) rfl rfl (lenR eLGStmt_map) Try_slc_95 rfl rfl) ?_
                    refine reg_cons (guard_on rfl rfl rfl rfl hb688) (op_int (k := .i64) (m := (y685.fBody.length : Int)) (n := 500) rfl rfl rfl rfl rfl rfl) ?_
                    refine reg_cons (guard_no rfl) (op_pick_f rfl rfl hb688 rfl rfl rfl) ?_
                    refine reg_cons (guard_no rfl) (op_move rfl rfl rfl rfl) ?_
                    rcases ite_some hF with ⟨hb689, hF⟩ | ⟨hb689, hF⟩
                    · refine reg_off (guard_off rfl rfl rfl rfl hb689) rfl rfl ?_
                      refine reg_off (guard_off rfl rfl rfl rfl hb689) rfl rfl ?_
                      refine reg_off (guard_off rfl rfl rfl rfl hb689) rfl rfl ?_
                      refine reg_cons (guard_no rfl) (op_pick_t rfl rfl hb689 rfl rfl rfl) ?_
                      refine reg_nil ?_
                      cases hF
                      exact post_cut _ rfl (imp_sub [0, 1] rfl (by decide) rfl rfl ⟨by kernel_rfl, by kernel_rfl, by kernel_rfl, by kernel_rfl, by kernel_rfl, by kernel_rfl, by kernel_rfl, trivial⟩ ⟨by kernel_rfl, by kernel_rfl, trivial⟩ rfl rfl rfl)
                    · refine reg_cons (guard_on rfl rfl rfl rfl hb689) (op_load_lp_agg (ps := eGMethod y685) rfl rfl rfl rfl rfl rfl Try_agg_97 rfl rfl) ?_
                      obtain ⟨y690, h691, hF⟩ := bind_some hF
                      refine reg_cons (guard_on rfl rfl rfl rfl hb689) (op_call 2 rfl (caps := []) (args := [.agg (eGMethod y685)]) (rs := [.p (.int .i64 y690)]) rfl rfl rfl Try_cal_61 (ref10_uniques_ok h691) rfl rfl rfl) ?_
                      refine reg_cons (guard_on rfl rfl rfl rfl hb689) (op_int (k := .i64) (m := y690) (n := 8) rfl rfl rfl rfl rfl rfl) ?_
                      refine reg_cons (guard_no rfl) (op_pick_f rfl rfl hb689 rfl rfl rfl) ?_
                      refine reg_nil ?_
                      cases hF
                      exact post_cut _ rfl (imp_sub [0, 1] rfl (by decide) rfl rfl ⟨by kernel_rfl, by kernel_rfl, by kernel_rfl, by kernel_rfl, by kernel_rfl, by kernel_rfl, by kernel_rfl, trivial⟩ ⟨by kernel_rfl, by kernel_rfl, trivial⟩ rfl rfl rfl)
              · rintro _ rfl
                have hF := hK694
                clear hK694
                refine post_next ?_
                rcases ite_some hF with ⟨hb695, hF⟩ | ⟨hb695, hF⟩
                · refine aw_cond_t rfl hb695 ?_
                  refine aw_seq ?_
                  refine aw_region ?_
                  refine reg_cons (guard_no rfl) (op_assign rfl rfl rfl rfl) ?_
                  refine reg_nil ?_
                  refine post_imp (s' := ⟨106, [(2, some (.pv (.bool true)))], [], 0, [], [], 0, []⟩) (imp_sub [] rfl (by decide) rfl rfl ⟨by kernel_rfl, trivial⟩ trivial rfl rfl rfl) ?_
                  refine post_next ?_
                  refine aw_ret ?_
                  refine post_then_ret ?_
                  refine post_block_ret ?_
                  refine post_then_ret ?_
                  refine post_then_ret ?_
                  refine post_lp_ret ?_
                  obtain rfl := Option.some.inj hF
                  have hF := elim_stop hK763
                  refine post_block_ret ?_
                  refine post_then_ret ?_
                  refine post_then_ret ?_
                  refine post_lp_ret ?_
                  obtain rfl := Option.some.inj hF
                  have hF := elim_stop hK768
                  refine post_then_ret ?_
                  obtain rfl := Option.some.inj hF
                  exact post_ret rfl rfl (.cons _ _ _ _ _ (.tmp _ _ rfl) (.p _) .nil) (.inl rfl)
                · refine aw_cond_f rfl hb695 ?_
                  refine aw_skip ?_
                  refine post_next ?_
                  refine aw_seq ?_
                  refine aw_region ?_
                  refine reg_cons (guard_no rfl) (op_assign rfl rfl rfl rfl) ?_
                  refine reg_nil ?_
                  refine post_imp (s' := ⟨106, [(0, some (.pv (.vs 7 (List.map eGClass a0)))), (3, some (.pv (.int .i64 x601))), (4, some (.pv (.int .i64 x255))), (5, some (.lp 0 0)), (6, some (.pv (.int .i64 x602))), (7, some (.lp 1 0)), (8, some (.pv (.int .i64 0)))], [(0, some (.box 94 [.pv (.str y514.fName), .pv (.vs 1 (List.map eS y514.fParams)), .pv (.str y514.fSuper), .pv (.vs 2 (List.map eGOwner y514.fAbove)), .pv (.vs 13 (List.map eGVar y514.fFields)), .pv (.vs 17 (List.map eGMethod y514.fMethods)), .pv (.int .i64 y514.fAt)])), (1, some (.box 97 [.pv (.str y685.fName), .pv (.bool y685.fPure), .pv (.int .i64 y685.fRet.fKind), .pv (.str y685.fRet.fClass), .pv (.int .i64 y685.fRet.fN), .pv (.int .i64 y685.fRet.fOwn.a0.fKind), .pv (.int .i64 y685.fRet.fOwn.a0.fN), .pv (.int .i64 y685.fRet.fOwn.a1.fKind), .pv (.int .i64 y685.fRet.fOwn.a1.fN), .pv (.int .i64 y685.fRet.fOwn.a2.fKind), .pv (.int .i64 y685.fRet.fOwn.a2.fN), .pv (.int .i64 y685.fRet.fOwn.a3.fKind), .pv (.int .i64 y685.fRet.fOwn.a3.fN), .pv (.vs 13 (List.map eGVar y685.fParams)), .pv (.vs 13 (List.map eGVar y685.fLocals)), .pv (.vs 23 (eLGStmt y685.fBody)), .pv (.int .i64 y685.fAt)]))], 2, [], [], 0, []⟩) (imp_sub [0, 1] rfl (by decide) rfl rfl ⟨by kernel_rfl, by kernel_rfl, by kernel_rfl, by kernel_rfl, by kernel_rfl, by kernel_rfl, by kernel_rfl, trivial⟩ ⟨by kernel_rfl, by kernel_rfl, trivial⟩ rfl rfl rfl) ?_
                  refine post_next ?_
                  obtain ⟨lr757, hF, hK758⟩ := bind_some hF
                  refine aw_for ((((y685.fBody.length : Int) : Int) - (0)).toNat + 1) (fun s1 => ∃ q, lr757 = .next q ∧ s1 = ⟨106, [(0, some (.pv (.vs 7 (List.map eGClass a0)))), (3, some (.pv (.int .i64 q))), (4, some (.pv (.int .i64 x255))), (5, some (.lp 0 0)), (6, some (.pv (.int .i64 x602)))], [(0, some (.box 94 [.pv (.str y514.fName), .pv (.vs 1 (List.map eS y514.fParams)), .pv (.str y514.fSuper), .pv (.vs 2 (List.map eGOwner y514.fAbove)), .pv (.vs 13 (List.map eGVar y514.fFields)), .pv (.vs 17 (List.map eGMethod y514.fMethods)), .pv (.int .i64 y514.fAt)]))], 1, [], [], 0, []⟩) ?_ ?_
                  · refine rnd_loop (α := Int × Int) (fun q => ⟨106, [(0, some (.pv (.vs 7 (List.map eGClass a0)))), (3, some (.pv (.int .i64 q.1))), (4, some (.pv (.int .i64 x255))), (5, some (.lp 0 0)), (6, some (.pv (.int .i64 x602))), (7, some (.lp 1 0)), (8, some (.pv (.int .i64 q.2)))], [(0, some (.box 94 [.pv (.str y514.fName), .pv (.vs 1 (List.map eS y514.fParams)), .pv (.str y514.fSuper), .pv (.vs 2 (List.map eGOwner y514.fAbove)), .pv (.vs 13 (List.map eGVar y514.fFields)), .pv (.vs 17 (List.map eGMethod y514.fMethods)), .pv (.int .i64 y514.fAt)])), (1, some (.box 97 [.pv (.str y685.fName), .pv (.bool y685.fPure), .pv (.int .i64 y685.fRet.fKind), .pv (.str y685.fRet.fClass), .pv (.int .i64 y685.fRet.fN), .pv (.int .i64 y685.fRet.fOwn.a0.fKind), .pv (.int .i64 y685.fRet.fOwn.a0.fN), .pv (.int .i64 y685.fRet.fOwn.a1.fKind), .pv (.int .i64 y685.fRet.fOwn.a1.fN), .pv (.int .i64 y685.fRet.fOwn.a2.fKind), .pv (.int .i64 y685.fRet.fOwn.a2.fN), .pv (.int .i64 y685.fRet.fOwn.a3.fKind), .pv (.int .i64 y685.fRet.fOwn.a3.fN), .pv (.vs 13 (List.map eGVar y685.fParams)), .pv (.vs 13 (List.map eGVar y685.fLocals)), .pv (.vs 23 (eLGStmt y685.fBody)), .pv (.int .i64 y685.fAt)]))], 2, [], [], 0, []⟩) (fun k q => ref10_Heavy_L3 y685 k q.1 q.2 = some lr757) (x601, 0) (imp_sub [0, 1] rfl (by decide) rfl rfl ⟨by kernel_rfl, by kernel_rfl, by kernel_rfl, by kernel_rfl, by kernel_rfl, by kernel_rfl, by kernel_rfl, trivial⟩ ⟨by kernel_rfl, by kernel_rfl, trivial⟩ rfl rfl rfl) hF (fun q h => by cases h) ?_
                    clear hF
                    rintro k ⟨x714, x715⟩ hF ih
                    refine rnd_succ ?_
                    refine aw_seq ?_
                    refine aw_seq ?_
                    refine aw_region ?_
                    refine reg_cons (guard_no rfl) (op_move rfl rfl rfl rfl) ?_
                    refine reg_cons (guard_no rfl) (op_field_lp rfl rfl Try_fld_97_5 rfl rfl) ?_
                    refine reg_cons (guard_no rfl) (op_load_lp (v := .pv (.vs 23 (eLGStmt y685.fBody))) rfl rfl rfl rfl Try_one_95 rfl rfl) ?_
                    refine reg_cons (guard_no rfl) (op_len_vs (n := y685.fBody.length) rfl rfl (lenR eLGStmt_map) Try_slc_95 rfl rfl) ?_
                    refine reg_cons (guard_no rfl) (op_int (k := .i64) (m := x715) (n := (y685.fBody.length : Int)) rfl rfl rfl rfl rfl rfl) ?_
                    refine reg_nil ?_
                    refine post_imp (s' := ⟨106, [(0, some (.pv (.vs 7 (List.map eGClass a0)))), (3, some (.pv (.int .i64 x714))), (4, some (.pv (.int .i64 x255))), (5, some (.lp 0 0)), (6, some (.pv (.int .i64 x602))), (7, some (.lp 1 0)), (8, some (.pv (.int .i64 x715))), (83, some (.pv (.bool (decide (x715 < (y685.fBody.length : Int))))))], [(0, some (.box 94 [.pv (.str y514.fName), .pv (.vs 1 (List.map eS y514.fParams)), .pv (.str y514.fSuper), .pv (.vs 2 (List.map eGOwner y514.fAbove)), .pv (.vs 13 (List.map eGVar y514.fFields)), .pv (.vs 17 (List.map eGMethod y514.fMethods)), .pv (.int .i64 y514.fAt)])), (1, some (.box 97 [.pv (.str y685.fName), .pv (.bool y685.fPure), .pv (.int .i64 y685.fRet.fKind), .pv (.str y685.fRet.fClass), .pv (.int .i64 y685.fRet.fN), .pv (.int .i64 y685.fRet.fOwn.a0.fKind), .pv (.int .i64 y685.fRet.fOwn.a0.fN), .pv (.int .i64 y685.fRet.fOwn.a1.fKind), .pv (.int .i64 y685.fRet.fOwn.a1.fN), .pv (.int .i64 y685.fRet.fOwn.a2.fKind), .pv (.int .i64 y685.fRet.fOwn.a2.fN), .pv (.int .i64 y685.fRet.fOwn.a3.fKind), .pv (.int .i64 y685.fRet.fOwn.a3.fN), .pv (.vs 13 (List.map eGVar y685.fParams)), .pv (.vs 13 (List.map eGVar y685.fLocals)), .pv (.vs 23 (eLGStmt y685.fBody)), .pv (.int .i64 y685.fAt)]))], 2, [], [], 0, []⟩) (imp_sub [0, 1] rfl (by decide) rfl rfl ⟨by kernel_rfl, by kernel_rfl, by kernel_rfl, by kernel_rfl, by kernel_rfl, by kernel_rfl, by kernel_rfl, by kernel_rfl, trivial⟩ ⟨by kernel_rfl, by kernel_rfl, trivial⟩ rfl rfl rfl) ?_
                    refine post_next ?_
                    rcases ite_some hF with ⟨hb736, hF⟩ | ⟨hb736, hF⟩
                    · refine aw_cond_t rfl hb736 ?_
                      refine aw_skip ?_
                      refine post_next ?_
                      refine aw_seq ?_
                      refine aw_block ?_
                      refine aw_seq ?_
                      refine aw_seq ?_
                      obtain ⟨x742, hF, hK744⟩ := bind_some hF
                      refine aw_cut (fun s1 => s1 = ⟨106, [(0, some (.pv (.vs 7 (List.map eGClass a0)))), (3, some (.pv (.int .i64 x714))), (4, some (.pv (.int .i64 x255))), (5, some (.lp 0 0)), (6, some (.pv (.int .i64 x602))), (7, some (.lp 1 0)), (8, some (.pv (.int .i64 x715))), (95, some (.pv (.bool x742)))], [(0, some (.box 94 [.pv (.str y514.fName), .pv (.vs 1 (List.map eS y514.fParams)), .pv (.str y514.fSuper), .pv (.vs 2 (List.map eGOwner y514.fAbove)), .pv (.vs 13 (List.map eGVar y514.fFields)), .pv (.vs 17 (List.map eGMethod y514.fMethods)), .pv (.int .i64 y514.fAt)])), (1, some (.box 97 [.pv (.str y685.fName), .pv (.bool y685.fPure), .pv (.int .i64 y685.fRet.fKind), .pv (.str y685.fRet.fClass), .pv (.int .i64 y685.fRet.fN), .pv (.int .i64 y685.fRet.fOwn.a0.fKind), .pv (.int .i64 y685.fRet.fOwn.a0.fN), .pv (.int .i64 y685.fRet.fOwn.a1.fKind), .pv (.int .i64 y685.fRet.fOwn.a1.fN), .pv (.int .i64 y685.fRet.fOwn.a2.fKind), .pv (.int .i64 y685.fRet.fOwn.a2.fN), .pv (.int .i64 y685.fRet.fOwn.a3.fKind), .pv (.int .i64 y685.fRet.fOwn.a3.fN), .pv (.vs 13 (List.map eGVar y685.fParams)), .pv (.vs 13 (List.map eGVar y685.fLocals)), .pv (.vs 23 (eLGStmt y685.fBody)), .pv (.int .i64 y685.fAt)]))], 2, [], [], 0, []⟩) ?_ ?_
                      · refine aw_region ?_
                        refine reg_cons (guard_no rfl) (op_move rfl rfl rfl rfl) ?_
                        refine reg_cons (guard_no rfl) (op_int (k := .i64) (m := x714) (n := 500) rfl rfl rfl rfl rfl rfl) ?_
                        refine reg_cons (guard_no rfl) (op_move rfl rfl rfl rfl) ?_
                        rcases ite_some hF with ⟨hb737, hF⟩ | ⟨hb737, hF⟩
                        · refine reg_off (guard_off rfl rfl rfl rfl hb737) rfl rfl ?_
                          refine reg_off (guard_off rfl rfl rfl rfl hb737) rfl rfl ?_
                          refine reg_off (guard_off rfl rfl rfl rfl hb737) rfl rfl ?_
                          refine reg_off (guard_off rfl rfl rfl rfl hb737) rfl rfl ?_
                          refine reg_off (guard_off rfl rfl rfl rfl hb737) rfl rfl ?_
                          refine reg_off (guard_off rfl rfl rfl rfl hb737) rfl rfl ?_
                          refine reg_cons (guard_no rfl) (op_pick_t rfl rfl hb737 rfl rfl rfl) ?_
                          refine reg_nil ?_
                          cases hF
                          exact post_cut _ rfl (imp_sub [0, 1] rfl (by decide) rfl rfl ⟨by kernel_rfl, by kernel_rfl, by kernel_rfl, by kernel_rfl, by kernel_rfl, by kernel_rfl, by kernel_rfl, by kernel_rfl, trivial⟩ ⟨by kernel_rfl, by kernel_rfl, trivial⟩ rfl rfl rfl)
                        · refine reg_cons (guard_on rfl rfl rfl rfl hb737) (op_field_lp rfl rfl Try_fld_97_5 rfl rfl) ?_
                          refine reg_cons (guard_on rfl rfl rfl rfl hb737) (op_load_lp (v := .pv (.vs 23 (eLGStmt y685.fBody))) rfl rfl rfl rfl Try_one_95 rfl rfl) ?_
                          refine reg_cons (guard_on rfl rfl rfl rfl hb737) (op_move rfl rfl rfl rfl) ?_
                          obtain ⟨y738, h739, hF⟩ := bind_some hF
                          refine reg_cons (guard_on rfl rfl rfl rfl hb737) (op_index_vs (k := .i64) rfl rfl rfl (idxR eLGStmt_map h739) Try_slc_95 rfl rfl) ?_
                          refine reg_cons (guard_on rfl rfl rfl rfl hb737) (op_load_vp_agg (ps := eGStmt y738) rfl rfl rfl rfl Try_agg_104 rfl rfl) ?_
                          obtain ⟨y740, h741, hF⟩ := bind_some hF
                          refine reg_cons (guard_on rfl rfl rfl rfl hb737) (op_call 2 rfl (caps := []) (args := [.agg (eGStmt y738), .int .i64 25]) (rs := [.p (.bool y740)]) rfl rfl rfl Try_cal_62 (ref10_much_ok h741) rfl rfl rfl) ?_
                          refine reg_cons (guard_no rfl) (op_pick_f rfl rfl hb737 rfl rfl rfl) ?_
                          refine reg_nil ?_
                          cases hF
                          exact post_cut _ rfl (imp_sub [0, 1] rfl (by decide) rfl rfl ⟨by kernel_rfl, by kernel_rfl, by kernel_rfl, by kernel_rfl, by kernel_rfl, by kernel_rfl, by kernel_rfl, by kernel_rfl, trivial⟩ ⟨by kernel_rfl, by kernel_rfl, trivial⟩ rfl rfl rfl)
                      · rintro _ rfl
                        have hF := hK744
                        clear hK744
                        refine post_next ?_
                        rcases ite_some hF with ⟨hb745, hF⟩ | ⟨hb745, hF⟩
                        · refine aw_cond_t rfl hb745 ?_
                          refine aw_seq ?_
                          refine aw_region ?_
                          refine reg_cons (guard_no rfl) (op_assign rfl rfl rfl rfl) ?_
                          refine reg_nil ?_
                          refine post_imp (s' := ⟨106, [(2, some (.pv (.bool true)))], [], 0, [], [], 0, []⟩) (imp_sub [] rfl (by decide) rfl rfl ⟨by kernel_rfl, trivial⟩ trivial rfl rfl rfl) ?_
                          refine post_next ?_
                          refine aw_ret ?_
                          refine post_then_ret ?_
                          refine post_block_ret ?_
                          refine post_then_ret ?_
                          refine post_then_ret ?_
                          refine post_lp_ret ?_
                          obtain rfl := Option.some.inj hF
                          have hF := elim_stop hK758
                          refine post_block_ret ?_
                          refine post_then_ret ?_
                          refine post_then_ret ?_
                          refine post_lp_ret ?_
                          obtain rfl := Option.some.inj hF
                          have hF := elim_stop hK763
                          refine post_block_ret ?_
                          refine post_then_ret ?_
                          refine post_then_ret ?_
                          refine post_lp_ret ?_
                          obtain rfl := Option.some.inj hF
                          have hF := elim_stop hK768
                          refine post_then_ret ?_
                          obtain rfl := Option.some.inj hF
                          exact post_ret rfl rfl (.cons _ _ _ _ _ (.tmp _ _ rfl) (.p _) .nil) (.inl rfl)
                        · refine aw_cond_f rfl hb745 ?_
                          refine aw_skip ?_
                          refine post_next ?_
                          refine aw_region ?_
                          refine reg_cons (guard_no rfl) (op_move rfl rfl rfl rfl) ?_
                          refine reg_cons (guard_no rfl) (op_field_lp rfl rfl Try_fld_97_5 rfl rfl) ?_
                          refine reg_cons (guard_no rfl) (op_load_lp (v := .pv (.vs 23 (eLGStmt y685.fBody))) rfl rfl rfl rfl Try_one_95 rfl rfl) ?_
                          refine reg_cons (guard_no rfl) (op_move rfl rfl rfl rfl) ?_
                          obtain ⟨y750, h751, hF⟩ := bind_some hF
                          refine reg_cons (guard_no rfl) (op_index_vs (k := .i64) rfl rfl rfl (idxR eLGStmt_map h751) Try_slc_95 rfl rfl) ?_
                          refine reg_cons (guard_no rfl) (op_load_vp_agg (ps := eGStmt y750) rfl rfl rfl rfl Try_agg_104 rfl rfl) ?_
                          obtain ⟨y752, h753, hF⟩ := bind_some hF
                          refine reg_cons (guard_no rfl) (op_call 2 rfl (caps := []) (args := [.agg (eGStmt y750)]) (rs := [.p (.int .i64 y752)]) rfl rfl rfl Try_cal_63 (ref08_Size_ok h753) rfl rfl rfl) ?_
                          refine reg_cons (guard_no rfl) (op_int (k := .i64) (m := x714) (n := y752) rfl rfl rfl rfl rfl rfl) ?_
                          refine reg_cons (guard_no rfl) (op_assign rfl rfl rfl rfl) ?_
                          refine reg_nil ?_
                          refine post_imp (s' := ⟨106, [(0, some (.pv (.vs 7 (List.map eGClass a0)))), (3, some (.pv (.int .i64 (w_i64 (x714 + y752))))), (4, some (.pv (.int .i64 x255))), (5, some (.lp 0 0)), (6, some (.pv (.int .i64 x602))), (7, some (.lp 1 0)), (8, some (.pv (.int .i64 x715)))], [(0, some (.box 94 [.pv (.str y514.fName), .pv (.vs 1 (List.map eS y514.fParams)), .pv (.str y514.fSuper), .pv (.vs 2 (List.map eGOwner y514.fAbove)), .pv (.vs 13 (List.map eGVar y514.fFields)), .pv (.vs 17 (List.map eGMethod y514.fMethods)), .pv (.int .i64 y514.fAt)])), (1, some (.box 97 [.pv (.str y685.fName), .pv (.bool y685.fPure), .pv (.int .i64 y685.fRet.fKind), .pv (.str y685.fRet.fClass), .pv (.int .i64 y685.fRet.fN), .pv (.int .i64 y685.fRet.fOwn.a0.fKind), .pv (.int .i64 y685.fRet.fOwn.a0.fN), .pv (.int .i64 y685.fRet.fOwn.a1.fKind), .pv (.int .i64 y685.fRet.fOwn.a1.fN), .pv (.int .i64 y685.fRet.fOwn.a2.fKind), .pv (.int .i64 y685.fRet.fOwn.a2.fN), .pv (.int .i64 y685.fRet.fOwn.a3.fKind), .pv (.int .i64 y685.fRet.fOwn.a3.fN), .pv (.vs 13 (List.map eGVar y685.fParams)), .pv (.vs 13 (List.map eGVar y685.fLocals)), .pv (.vs 23 (eLGStmt y685.fBody)), .pv (.int .i64 y685.fAt)]))], 2, [], [], 0, []⟩) (imp_sub [0, 1] rfl (by decide) rfl rfl ⟨by kernel_rfl, by kernel_rfl, by kernel_rfl, by kernel_rfl, by kernel_rfl, by kernel_rfl, by kernel_rfl, trivial⟩ ⟨by kernel_rfl, by kernel_rfl, trivial⟩ rfl rfl rfl) ?_
                          refine post_block_normal ?_
                          refine post_next ?_
                          refine aw_region ?_
                          refine reg_cons (guard_no rfl) (op_move rfl rfl rfl rfl) ?_
                          refine reg_cons (guard_no rfl) (op_int (k := .i64) (m := x715) (n := 1) rfl rfl rfl rfl rfl rfl) ?_
                          refine reg_cons (guard_no rfl) (op_assign rfl rfl rfl rfl) ?_
                          refine reg_nil ?_
                          refine post_round ?_
                          exact rnd_back (ih (w_i64 (x714 + y752), w_i64 (x715 + 1)) hF) (imp_sub [0, 1] rfl (by decide) rfl rfl ⟨by kernel_rfl, by kernel_rfl, by kernel_rfl, by kernel_rfl, by kernel_rfl, by kernel_rfl, by kernel_rfl, trivial⟩ ⟨by kernel_rfl, by kernel_rfl, trivial⟩ rfl rfl rfl)
                    · refine aw_cond_f rfl hb736 ?_
                      refine aw_exit ?_
                      refine post_then_exit ?_
                      refine post_then_exit ?_
                      obtain rfl := Option.some.inj hF
                      exact post_lp_break _ ⟨_, rfl, rfl⟩ (imp_sub [0] rfl (by decide) rfl rfl ⟨by kernel_rfl, by kernel_rfl, by kernel_rfl, by kernel_rfl, by kernel_rfl, trivial⟩ ⟨by kernel_rfl, trivial⟩ rfl rfl rfl)
                  · rintro _ ⟨x756, rfl, rfl⟩
                    have hF := elim_next hK758
                    clear hK758
                    refine post_block_normal ?_
                    refine post_next ?_
                    refine aw_region ?_
                    refine reg_cons (guard_no rfl) (op_move rfl rfl rfl rfl) ?_
                    refine reg_cons (guard_no rfl) (op_int (k := .i64) (m := x602) (n := 1) rfl rfl rfl rfl rfl rfl) ?_
                    refine reg_cons (guard_no rfl) (op_assign rfl rfl rfl rfl) ?_
                    refine reg_nil ?_
                    refine post_round ?_
                    exact rnd_back (ih (x756, w_i64 (x602 + 1)) hF) (imp_sub [0] rfl (by decide) rfl rfl ⟨by kernel_rfl, by kernel_rfl, by kernel_rfl, by kernel_rfl, by kernel_rfl, trivial⟩ ⟨by kernel_rfl, trivial⟩ rfl rfl rfl)
            · refine aw_cond_f rfl hb682 ?_
              refine aw_exit ?_
              refine post_then_exit ?_
              refine post_then_exit ?_
              obtain rfl := Option.some.inj hF
              exact post_lp_break _ ⟨_, rfl, rfl⟩ (imp_sub [] rfl (by decide) rfl rfl ⟨by kernel_rfl, by kernel_rfl, by kernel_rfl, trivial⟩ trivial rfl rfl rfl)
          · rintro _ ⟨x761, rfl, rfl⟩
            have hF := elim_next hK763
            clear hK763
            refine post_block_normal ?_
            refine post_next ?_
            refine aw_region ?_
            refine reg_cons (guard_no rfl) (op_move rfl rfl rfl rfl) ?_
            refine reg_cons (guard_no rfl) (op_int (k := .i64) (m := x255) (n := 1) rfl rfl rfl rfl rfl rfl) ?_
            refine reg_cons (guard_no rfl) (op_assign rfl rfl rfl rfl) ?_
            refine reg_nil ?_
            refine post_round ?_
            exact rnd_back (ih (x761, w_i64 (x255 + 1)) hF) (imp_sub [] rfl (by decide) rfl rfl ⟨by kernel_rfl, by kernel_rfl, by kernel_rfl, trivial⟩ trivial rfl rfl rfl)
    · refine aw_cond_f rfl hb511 ?_
      refine aw_exit ?_
      refine post_then_exit ?_
      refine post_then_exit ?_
      obtain rfl := Option.some.inj hF
      exact post_lp_break _ ⟨_, rfl, rfl⟩ (imp_sub [] rfl (by decide) rfl rfl ⟨by kernel_rfl, trivial⟩ trivial rfl rfl rfl)
  · rintro _ ⟨x766, rfl, rfl⟩
    have hF := elim_next hK768
    clear hK768
    refine post_next ?_
    refine aw_seq ?_
    refine aw_region ?_
    refine reg_cons (guard_no rfl) (op_move rfl rfl rfl rfl) ?_
    refine reg_cons (guard_no rfl) (op_int (k := .i64) (m := x766) (n := 500) rfl rfl rfl rfl rfl rfl) ?_
    refine reg_cons (guard_no rfl) (op_assign rfl rfl rfl rfl) ?_
    refine reg_nil ?_
    refine post_imp (s' := ⟨106, [(2, some (.pv (.bool (decide (x766 > 500)))))], [], 0, [], [], 0, []⟩) (imp_sub [] rfl (by decide) rfl rfl ⟨by kernel_rfl, trivial⟩ trivial rfl rfl rfl) ?_
    refine post_next ?_
    refine aw_ret ?_
    obtain rfl := Option.some.inj hF
    exact post_ret rfl rfl (.cons _ _ _ _ _ (.tmp _ _ rfl) (.p _) .nil) (.inl rfl)
theorem ref35_Great_ok {a0 : List GCell} {r : Bool} (hF : ref35_Great a0 = some r) : Abs.Fn Try.prog 14 [.vs 7 (List.map eGCell a0)] [.p (.bool r)] := by
  unfold ref35_Great at hF
  refine fn_of_body (n := 22) Try.func14 rfl rfl rfl ?_
  intro w O
  refine aw_seq ?_
  refine aw_region ?_
  refine reg_cons (guard_no rfl) (op_assign rfl rfl rfl rfl) ?_
  refine reg_nil ?_
  refine post_imp (s' := ⟨22, [(0, some (.pv (.vs 7 (List.map eGCell a0))))], [], 0, [], [], 0, []⟩) (imp_sub [] rfl (by decide) rfl rfl ⟨by kernel_rfl, trivial⟩ trivial rfl rfl rfl) ?_
  refine post_next ?_
  refine aw_seq ?_
  refine aw_seq ?_
  refine aw_region ?_
  refine reg_cons (guard_no rfl) (op_assign rfl rfl rfl rfl) ?_
  refine reg_nil ?_
  refine post_imp (s' := ⟨22, [(0, some (.pv (.vs 7 (List.map eGCell a0)))), (3, some (.pv (.int .i64 0)))], [], 0, [], [], 0, []⟩) (imp_sub [] rfl (by decide) rfl rfl ⟨by kernel_rfl, by kernel_rfl, trivial⟩ trivial rfl rfl rfl) ?_
  refine post_next ?_
  obtain ⟨lr28, hF, hK29⟩ := bind_some hF
  refine aw_for ((((a0.length : Int) : Int) - (0)).toNat + 1) (fun s1 => ∃ q, lr28 = .next q ∧ s1 = ⟨22, [], [], 0, [], [], 0, []⟩) ?_ ?_
  · refine rnd_loop (α := Int) (fun q => ⟨22, [(0, some (.pv (.vs 7 (List.map eGCell a0)))), (3, some (.pv (.int .i64 q)))], [], 0, [], [], 0, []⟩) (fun k q => ref35_Great_L1 a0 k q = some lr28) 0 (imp_sub [] rfl (by decide) rfl rfl ⟨by kernel_rfl, by kernel_rfl, trivial⟩ trivial rfl rfl rfl) hF (fun q h => by cases h) ?_
    clear hF
    rintro k x9 hF ih
    refine rnd_succ ?_
    refine aw_seq ?_
    refine aw_seq ?_
    refine aw_region ?_
    refine reg_cons (guard_no rfl) (op_move rfl rfl rfl rfl) ?_
    refine reg_cons (guard_no rfl) (op_move rfl rfl rfl rfl) ?_
    refine reg_cons (guard_no rfl) (op_len_vs (n := a0.length) rfl rfl (List.length_map ..) Try_slc_22 rfl rfl) ?_
    refine reg_cons (guard_no rfl) (op_int (k := .i64) (m := x9) (n := (a0.length : Int)) rfl rfl rfl rfl rfl rfl) ?_
    refine reg_nil ?_
    refine post_imp (s' := ⟨22, [(0, some (.pv (.vs 7 (List.map eGCell a0)))), (3, some (.pv (.int .i64 x9))), (7, some (.pv (.bool (decide (x9 < (a0.length : Int))))))], [], 0, [], [], 0, []⟩) (imp_sub [] rfl (by decide) rfl rfl ⟨by kernel_rfl, by kernel_rfl, by kernel_rfl, trivial⟩ trivial rfl rfl rfl) ?_
    refine post_next ?_
    rcases ite_some hF with ⟨hb19, hF⟩ | ⟨hb19, hF⟩
    · refine aw_cond_t rfl hb19 ?_
      refine aw_skip ?_
      refine post_next ?_
      refine aw_seq ?_
      refine aw_block ?_
      refine aw_seq ?_
      obtain ⟨x23, hF, hK25⟩ := bind_some hF
      refine aw_cut (fun s1 => s1 = ⟨22, [(0, some (.pv (.vs 7 (List.map eGCell a0)))), (3, some (.pv (.int .i64 x9))), (21, some (.pv (.bool x23)))], [], 0, [], [], 0, []⟩) ?_ ?_
      · refine aw_region ?_
        refine reg_cons (guard_no rfl) (op_move rfl rfl rfl rfl) ?_
        refine reg_cons (guard_no rfl) (op_len_vs (n := a0.length) rfl rfl (List.length_map ..) Try_slc_22 rfl rfl) ?_
        refine reg_cons (guard_no rfl) (op_int (k := .i64) (m := (a0.length : Int)) (n := 200) rfl rfl rfl rfl rfl rfl) ?_
        refine reg_cons (guard_no rfl) (op_move rfl rfl rfl rfl) ?_
        rcases ite_some hF with ⟨hb20, hF⟩ | ⟨hb20, hF⟩
        · refine reg_off (guard_off rfl rfl rfl rfl hb20) rfl rfl ?_
          refine reg_off (guard_off rfl rfl rfl rfl hb20) rfl rfl ?_
          refine reg_off (guard_off rfl rfl rfl rfl hb20) rfl rfl ?_
          refine reg_off (guard_off rfl rfl rfl rfl hb20) rfl rfl ?_
          refine reg_off (guard_off rfl rfl rfl rfl hb20) rfl rfl ?_
          refine reg_off (guard_off rfl rfl rfl rfl hb20) rfl rfl ?_
          refine reg_off (guard_off rfl rfl rfl rfl hb20) rfl rfl ?_
          refine reg_cons (guard_no rfl) (op_pick_t rfl rfl hb20 rfl rfl rfl) ?_
          refine reg_nil ?_
          cases hF
          exact post_cut _ rfl (imp_sub [] rfl (by decide) rfl rfl ⟨by kernel_rfl, by kernel_rfl, by kernel_rfl, trivial⟩ trivial rfl rfl rfl)
        · refine reg_cons (guard_on rfl rfl rfl rfl hb20) (op_move rfl rfl rfl rfl) ?_
          refine reg_cons (guard_on rfl rfl rfl rfl hb20) (op_move rfl rfl rfl rfl) ?_
          obtain ⟨y21, h22, hF⟩ := bind_some hF
          refine reg_cons (guard_on rfl rfl rfl rfl hb20) (op_index_vs (k := .i64) rfl rfl rfl (idx_map eGCell h22) Try_slc_22 rfl rfl) ?_
          refine reg_cons (guard_on rfl rfl rfl rfl hb20) (op_field_vp rfl rfl Try_fld_30_2 rfl rfl) ?_
          refine reg_cons (guard_on rfl rfl rfl rfl hb20) (op_load_vp (p := .vs 2 (List.map eGVal y21.fFields)) rfl rfl rfl Try_one_28 rfl rfl) ?_
          refine reg_cons (guard_on rfl rfl rfl rfl hb20) (op_len_vs (n := y21.fFields.length) rfl rfl (List.length_map ..) Try_slc_28 rfl rfl) ?_
          refine reg_cons (guard_on rfl rfl rfl rfl hb20) (op_int (k := .i64) (m := (y21.fFields.length : Int)) (n := 60) rfl rfl rfl rfl rfl rfl) ?_
          refine reg_cons (guard_no rfl) (op_pick_f rfl rfl hb20 rfl rfl rfl) ?_
          refine reg_nil ?_
          cases hF
          exact post_cut _ rfl (imp_sub [] rfl (by decide) rfl rfl ⟨by kernel_rfl, by kernel_rfl, by kernel_rfl, trivial⟩ trivial rfl rfl rfl)
      · rintro _ rfl
        have hF := hK25
        clear hK25
        refine post_next ?_
        rcases ite_some hF with ⟨hb26, hF⟩ | ⟨hb26, hF⟩
        · refine aw_cond_t rfl hb26 ?_
          refine aw_seq ?_
          refine aw_region ?_
          refine reg_cons (guard_no rfl) (op_assign rfl rfl rfl rfl) ?_
          refine reg_nil ?_
          refine post_imp (s' := ⟨22, [(2, some (.pv (.bool true)))], [], 0, [], [], 0, []⟩) (imp_sub [] rfl (by decide) rfl rfl ⟨by kernel_rfl, trivial⟩ trivial rfl rfl rfl) ?_
          refine post_next ?_
          refine aw_ret ?_
          refine post_block_ret ?_
          refine post_then_ret ?_
          refine post_then_ret ?_
          refine post_lp_ret ?_
          obtain rfl := Option.some.inj hF
          have hF := elim_stop hK29
          refine post_then_ret ?_
          obtain rfl := Option.some.inj hF
          exact post_ret rfl rfl (.cons _ _ _ _ _ (.tmp _ _ rfl) (.p _) .nil) (.inl rfl)
        · refine aw_cond_f rfl hb26 ?_
          refine aw_skip ?_
          refine post_block_normal ?_
          refine post_next ?_
          refine aw_region ?_
          refine reg_cons (guard_no rfl) (op_move rfl rfl rfl rfl) ?_
          refine reg_cons (guard_no rfl) (op_int (k := .i64) (m := x9) (n := 1) rfl rfl rfl rfl rfl rfl) ?_
          refine reg_cons (guard_no rfl) (op_assign rfl rfl rfl rfl) ?_
          refine reg_nil ?_
          refine post_round ?_
          exact rnd_back (ih (w_i64 (x9 + 1)) hF) (imp_sub [] rfl (by decide) rfl rfl ⟨by kernel_rfl, by kernel_rfl, trivial⟩ trivial rfl rfl rfl)
    · refine aw_cond_f rfl hb19 ?_
      refine aw_exit ?_
      refine post_then_exit ?_
      refine post_then_exit ?_
      obtain rfl := Option.some.inj hF
      exact post_lp_break _ ⟨_, rfl, rfl⟩ (imp_sub [] rfl (by decide) rfl rfl trivial trivial rfl rfl rfl)
  · rintro _ ⟨⟨⟩, rfl, rfl⟩
    have hF := elim_next hK29
    clear hK29
    refine post_next ?_
    refine aw_seq ?_
    refine aw_region ?_
    refine reg_cons (guard_no rfl) (op_assign rfl rfl rfl rfl) ?_
    refine reg_nil ?_
    refine post_imp (s' := ⟨22, [(2, some (.pv (.bool false)))], [], 0, [], [], 0, []⟩) (imp_sub [] rfl (by decide) rfl rfl ⟨by kernel_rfl, trivial⟩ trivial rfl rfl rfl) ?_
    refine post_next ?_
    refine aw_ret ?_
    obtain rfl := Option.some.inj hF
    exact post_ret rfl rfl (.cons _ _ _ _ _ (.tmp _ _ rfl) (.p _) .nil) (.inl rfl)
theorem heap_Ask_ok {a0 : List GCell} {a1 : Int} {r : Int} (hF : heap_Ask a0 a1 = some r) : Abs.Fn Try.prog 22 [.vs 7 (List.map eGCell a0), .int .i64 a1] [.p (.int .i64 r)] := by
  unfold heap_Ask at hF
  refine fn_of_body (n := 24) Try.func22 rfl rfl rfl ?_
  intro w O
  refine aw_seq ?_
  refine aw_region ?_
  refine reg_cons (guard_no rfl) (op_assign rfl rfl rfl rfl) ?_
  refine reg_nil ?_
  refine post_imp (s' := ⟨24, [(0, some (.pv (.vs 7 (List.map eGCell a0)))), (1, some (.pv (.int .i64 a1)))], [], 0, [], [], 0, []⟩) (imp_sub [] rfl (by decide) rfl rfl ⟨by kernel_rfl, by kernel_rfl, trivial⟩ trivial rfl rfl rfl) ?_
  refine post_next ?_
  refine aw_seq ?_
  refine aw_block ?_
  refine aw_seq ?_
  refine aw_region ?_
  refine reg_cons (guard_no rfl) (op_move rfl rfl rfl rfl) ?_
  refine reg_cons (guard_no rfl) (op_int (k := .i64) (m := a1) (n := 0) rfl rfl rfl rfl rfl rfl) ?_
  refine reg_cons (guard_no rfl) (op_assign rfl rfl rfl rfl) ?_
  refine reg_nil ?_
  refine post_imp (s' := ⟨24, [(0, some (.pv (.vs 7 (List.map eGCell a0)))), (1, some (.pv (.int .i64 a1))), (5, some (.pv (.bool (a1 == 0))))], [], 0, [], [], 0, []⟩) (imp_sub [] rfl (by decide) rfl rfl ⟨by kernel_rfl, by kernel_rfl, by kernel_rfl, trivial⟩ trivial rfl rfl rfl) ?_
  refine post_next ?_
  rcases ite_some hF with ⟨hb1, hF⟩ | ⟨hb1, hF⟩
  · refine aw_cond_t rfl hb1 ?_
    refine aw_seq ?_
    refine aw_region ?_
    refine reg_cons (guard_no rfl) (op_assign rfl rfl rfl rfl) ?_
    refine reg_nil ?_
    refine post_imp (s' := ⟨24, [(4, some (.pv (.int .i64 2)))], [], 0, [], [], 0, []⟩) (imp_sub [] rfl (by decide) rfl rfl ⟨by kernel_rfl, trivial⟩ trivial rfl rfl rfl) ?_
    refine post_next ?_
    refine aw_ret ?_
    refine post_block_ret ?_
    refine post_then_ret ?_
    obtain rfl := Option.some.inj hF
    exact post_ret rfl rfl (.cons _ _ _ _ _ (.tmp _ _ rfl) (.p _) .nil) (.inl rfl)
  · refine aw_cond_f rfl hb1 ?_
    refine aw_seq ?_
    obtain ⟨x3, hF, hK5⟩ := bind_some hF
    refine aw_cut (fun s1 => s1 = ⟨24, [(0, some (.pv (.vs 7 (List.map eGCell a0)))), (1, some (.pv (.int .i64 a1))), (8, some (.pv (.bool x3)))], [], 0, [], [], 0, []⟩) ?_ ?_
    · refine aw_region ?_
      refine reg_cons (guard_no rfl) (op_move rfl rfl rfl rfl) ?_
      refine reg_cons (guard_no rfl) (op_int (k := .i64) (m := a1) (n := 0) rfl rfl rfl rfl rfl rfl) ?_
      refine reg_cons (guard_no rfl) (op_move rfl rfl rfl rfl) ?_
      rcases ite_some hF with ⟨hb2, hF⟩ | ⟨hb2, hF⟩
      · refine reg_off (guard_off rfl rfl rfl rfl hb2) rfl rfl ?_
        refine reg_off (guard_off rfl rfl rfl rfl hb2) rfl rfl ?_
        refine reg_off (guard_off rfl rfl rfl rfl hb2) rfl rfl ?_
        refine reg_off (guard_off rfl rfl rfl rfl hb2) rfl rfl ?_
        refine reg_cons (guard_no rfl) (op_pick_t rfl rfl hb2 rfl rfl rfl) ?_
        refine reg_cons (guard_no rfl) (op_assign rfl rfl rfl rfl) ?_
        refine reg_nil ?_
        cases hF
        exact post_cut _ rfl (imp_sub [] rfl (by decide) rfl rfl ⟨by kernel_rfl, by kernel_rfl, by kernel_rfl, trivial⟩ trivial rfl rfl rfl)
      · refine reg_cons (guard_on rfl rfl rfl rfl hb2) (op_move rfl rfl rfl rfl) ?_
        refine reg_cons (guard_on rfl rfl rfl rfl hb2) (op_move rfl rfl rfl rfl) ?_
        refine reg_cons (guard_on rfl rfl rfl rfl hb2) (op_len_vs (n := a0.length) rfl rfl (List.length_map ..) Try_slc_22 rfl rfl) ?_
        refine reg_cons (guard_on rfl rfl rfl rfl hb2) (op_int (k := .i64) (m := a1) (n := (a0.length : Int)) rfl rfl rfl rfl rfl rfl) ?_
        refine reg_cons (guard_no rfl) (op_pick_f rfl rfl hb2 rfl rfl rfl) ?_
        refine reg_cons (guard_no rfl) (op_assign rfl rfl rfl rfl) ?_
        refine reg_nil ?_
        cases hF
        exact post_cut _ rfl (imp_sub [] rfl (by decide) rfl rfl ⟨by kernel_rfl, by kernel_rfl, by kernel_rfl, trivial⟩ trivial rfl rfl rfl)
    · rintro _ rfl
      have hF := hK5
      clear hK5
      refine post_next ?_
      rcases ite_some hF with ⟨hb6, hF⟩ | ⟨hb6, hF⟩
      · refine aw_cond_t rfl hb6 ?_
        refine aw_seq ?_
        refine aw_region ?_
        refine reg_cons (guard_no rfl) (op_assign rfl rfl rfl rfl) ?_
        refine reg_nil ?_
        refine post_imp (s' := ⟨24, [(4, some (.pv (.int .i64 10)))], [], 0, [], [], 0, []⟩) (imp_sub [] rfl (by decide) rfl rfl ⟨by kernel_rfl, trivial⟩ trivial rfl rfl rfl) ?_
        refine post_next ?_
        refine aw_ret ?_
        refine post_block_ret ?_
        refine post_then_ret ?_
        obtain rfl := Option.some.inj hF
        exact post_ret rfl rfl (.cons _ _ _ _ _ (.tmp _ _ rfl) (.p _) .nil) (.inl rfl)
      · refine aw_cond_f rfl hb6 ?_
        refine aw_seq ?_
        refine aw_region ?_
        refine reg_cons (guard_no rfl) (op_move rfl rfl rfl rfl) ?_
        refine reg_cons (guard_no rfl) (op_move rfl rfl rfl rfl) ?_
        refine reg_cons (guard_no rfl) (op_int (k := .i64) (m := a1) (n := 1) rfl rfl rfl rfl rfl rfl) ?_
        obtain ⟨y9, h10, hF⟩ := bind_some hF
        refine reg_cons (guard_no rfl) (op_index_vs (k := .i64) rfl rfl rfl (idx_map eGCell h10) Try_slc_22 rfl rfl) ?_
        refine reg_cons (guard_no rfl) (op_field_vp rfl rfl Try_fld_30_3 rfl rfl) ?_
        refine reg_cons (guard_no rfl) (op_load_vp (p := .bool y9.fDead) rfl rfl rfl Try_one_4 rfl rfl) ?_
        refine reg_cons (guard_no rfl) (op_assign rfl rfl rfl rfl) ?_
        refine reg_nil ?_
        refine post_imp (s' := ⟨24, [(17, some (.pv (.bool y9.fDead)))], [], 0, [], [], 0, []⟩) (imp_sub [] rfl (by decide) rfl rfl ⟨by kernel_rfl, trivial⟩ trivial rfl rfl rfl) ?_
        refine post_next ?_
        rcases ite_some hF with ⟨hb11, hF⟩ | ⟨hb11, hF⟩
        · refine aw_cond_t rfl hb11 ?_
          refine aw_seq ?_
          refine aw_region ?_
          refine reg_cons (guard_no rfl) (op_assign rfl rfl rfl rfl) ?_
          refine reg_nil ?_
          refine post_imp (s' := ⟨24, [(4, some (.pv (.int .i64 7)))], [], 0, [], [], 0, []⟩) (imp_sub [] rfl (by decide) rfl rfl ⟨by kernel_rfl, trivial⟩ trivial rfl rfl rfl) ?_
          refine post_next ?_
          refine aw_ret ?_
          refine post_block_ret ?_
          refine post_then_ret ?_
          obtain rfl := Option.some.inj hF
          exact post_ret rfl rfl (.cons _ _ _ _ _ (.tmp _ _ rfl) (.p _) .nil) (.inl rfl)
        · refine aw_cond_f rfl hb11 ?_
          refine aw_skip ?_
          refine post_block_normal ?_
          refine post_next ?_
          refine aw_seq ?_
          refine aw_region ?_
          refine reg_cons (guard_no rfl) (op_assign rfl rfl rfl rfl) ?_
          refine reg_nil ?_
          refine post_imp (s' := ⟨24, [(4, some (.pv (.int .i64 0)))], [], 0, [], [], 0, []⟩) (imp_sub [] rfl (by decide) rfl rfl ⟨by kernel_rfl, trivial⟩ trivial rfl rfl rfl) ?_
          refine post_next ?_
          refine aw_ret ?_
          obtain rfl := Option.some.inj hF
          exact post_ret rfl rfl (.cons _ _ _ _ _ (.tmp _ _ rfl) (.p _) .nil) (.inl rfl)
theorem law35_awake_ok  {r : Bool} (hF : law35_awake = some r) : Abs.Fn Try.prog 15 [] [.p (.bool r)] := by
  unfold law35_awake at hF
  refine fn_of_body (n := 7) Try.func15 rfl rfl rfl ?_
  intro w O
  refine aw_seq ?_
  refine aw_region ?_
  refine reg_cons (guard_no rfl) (op_assign rfl rfl rfl rfl) ?_
  refine reg_nil ?_
  refine post_imp (s' := ⟨7, [], [], 0, [], [], 0, []⟩) (imp_sub [] rfl (by decide) rfl rfl trivial trivial rfl rfl rfl) ?_
  refine post_next ?_
  refine aw_seq ?_
  refine aw_region ?_
  obtain ⟨y1, h2, hF⟩ := bind_some hF
  refine reg_cons (guard_no rfl) (op_call 0 rfl (caps := []) (args := [.nils, .int .i64 0]) (rs := [.p (.int .i64 y1)]) rfl rfl rfl Try_cal_22 (Fn.nils 0 7 rfl (heap_Ask_ok h2)) rfl rfl rfl) ?_
  refine reg_cons (guard_no rfl) (op_int (k := .i64) (m := y1) (n := 2) rfl rfl rfl rfl rfl rfl) ?_
  refine reg_cons (guard_no rfl) (op_move rfl rfl rfl rfl) ?_
  rcases ite_some hF with ⟨hb3, hF⟩ | ⟨hb3, hF⟩
  · obtain ⟨y4, h5, hF⟩ := bind_some hF
    refine reg_cons (guard_on rfl rfl rfl rfl hb3) (op_call 0 rfl (caps := []) (args := [.nils, .int .i64 1]) (rs := [.p (.int .i64 y4)]) rfl rfl rfl Try_cal_22 (Fn.nils 0 7 rfl (heap_Ask_ok h5)) rfl rfl rfl) ?_
    refine reg_cons (guard_on rfl rfl rfl rfl hb3) (op_int (k := .i64) (m := y4) (n := 10) rfl rfl rfl rfl rfl rfl) ?_
    refine reg_cons (guard_no rfl) (op_pick_t rfl rfl hb3 rfl rfl rfl) ?_
    refine reg_cons (guard_no rfl) (op_assign rfl rfl rfl rfl) ?_
    refine reg_nil ?_
    refine post_imp (s' := ⟨7, [(0, some (.pv (.bool (y4 == 10))))], [], 0, [], [], 0, []⟩) (imp_sub [] rfl (by decide) rfl rfl ⟨by kernel_rfl, trivial⟩ trivial rfl rfl rfl) ?_
    refine post_next ?_
    refine aw_ret ?_
    obtain rfl := Option.some.inj hF
    exact post_ret rfl rfl (.cons _ _ _ _ _ (.tmp _ _ rfl) (.p _) .nil) (.inl rfl)
  · refine reg_off (guard_off rfl rfl rfl rfl hb3) rfl rfl ?_
    refine reg_off (guard_off rfl rfl rfl rfl hb3) rfl rfl ?_
    refine reg_cons (guard_no rfl) (op_pick_f rfl rfl hb3 rfl rfl rfl) ?_
    refine reg_cons (guard_no rfl) (op_assign rfl rfl rfl rfl) ?_
    refine reg_nil ?_
    refine post_imp (s' := ⟨7, [(0, some (.pv (.bool false)))], [], 0, [], [], 0, []⟩) (imp_sub [] rfl (by decide) rfl rfl ⟨by kernel_rfl, trivial⟩ trivial rfl rfl rfl) ?_
    refine post_next ?_
    refine aw_ret ?_
    obtain rfl := Option.some.inj hF
    exact post_ret rfl rfl (.cons _ _ _ _ _ (.tmp _ _ rfl) (.p _) .nil) (.inl rfl)
theorem heap_Live_ok {a0 : List GCell} {r : (List Int)} (hF : heap_Live a0 = some r) : Abs.Fn Try.prog 25 [.vs 7 (List.map eGCell a0)] [.own 3 1 (List.map eI r)] := by
  unfold heap_Live at hF
  refine fn_of_body (n := 23) Try.func25 rfl rfl rfl ?_
  intro w O
  refine aw_seq ?_
  refine aw_region ?_
  refine reg_cons (guard_no rfl) (op_assign rfl rfl rfl rfl) ?_
  refine reg_nil ?_
  refine post_imp (s' := ⟨23, [(0, some (.pv (.vs 7 (List.map eGCell a0))))], [], 0, [], [], 0, []⟩) (imp_sub [] rfl (by decide) rfl rfl ⟨by kernel_rfl, trivial⟩ trivial rfl rfl rfl) ?_
  refine post_next ?_
  refine aw_seq ?_
  refine aw_region ?_
  refine reg_cons (guard_no rfl) (op_assign rfl rfl rfl rfl) ?_
  refine reg_imp (imp_nil_own 3 3 1 0 rfl rfl) ?_
  refine reg_nil ?_
  refine post_imp (s' := ⟨23, [(0, some (.pv (.vs 7 (List.map eGCell a0)))), (3, some (.ls 0))], [(0, some (.row 3 1 (List.map eI [])))], 1, [], [], 0, []⟩) (imp_sub [0] rfl (by decide) rfl rfl ⟨by kernel_rfl, by kernel_rfl, trivial⟩ ⟨by kernel_rfl, trivial⟩ rfl rfl rfl) ?_
  refine post_next ?_
  refine aw_seq ?_
  refine aw_seq ?_
  refine aw_region ?_
  refine reg_cons (guard_no rfl) (op_move rfl rfl rfl rfl) ?_
  refine reg_cons (guard_no rfl) (op_len_vs (n := a0.length) rfl rfl (List.length_map ..) Try_slc_22 rfl rfl) ?_
  refine reg_cons (guard_no rfl) (op_move rfl rfl rfl rfl) ?_
  refine reg_nil ?_
  refine post_imp (s' := ⟨23, [(3, some (.ls 0)), (6, some (.pv (.vs 7 (List.map eGCell a0)))), (7, some (.pv (.int .i64 (a0.length : Int)))), (8, some (.pv (.int .i64 0)))], [(0, some (.row 3 1 (List.map eI [])))], 1, [], [], 0, []⟩) (imp_sub [0] rfl (by decide) rfl rfl ⟨by kernel_rfl, by kernel_rfl, by kernel_rfl, by kernel_rfl, trivial⟩ ⟨by kernel_rfl, trivial⟩ rfl rfl rfl) ?_
  refine post_next ?_
  obtain ⟨x40, hF, hK41⟩ := bind_some hF
  refine aw_for ((((a0.length : Int) : Int) - (0)).toNat + 1) (fun s1 => s1 = ⟨23, [(3, some (.ls 0))], [(0, some (.row 3 1 (List.map eI x40)))], 1, [], [], 0, []⟩) ?_ ?_
  · refine rnd_loop (α := (List Int) × Int) (fun q => ⟨23, [(3, some (.ls 0)), (6, some (.pv (.vs 7 (List.map eGCell a0)))), (7, some (.pv (.int .i64 (a0.length : Int)))), (8, some (.pv (.int .i64 q.2)))], [(0, some (.row 3 1 (List.map eI q.1)))], 1, [], [], 0, []⟩) (fun k q => heap_Live_L1 a0 k q.1 q.2 = some x40) ([], 0) (imp_sub [0] rfl (by decide) rfl rfl ⟨by kernel_rfl, by kernel_rfl, by kernel_rfl, by kernel_rfl, trivial⟩ ⟨by kernel_rfl, trivial⟩ rfl rfl rfl) hF (fun q h => by cases h) ?_
    clear hF
    rintro k ⟨x12, x13⟩ hF ih
    refine rnd_succ ?_
    refine aw_seq ?_
    refine aw_region ?_
    refine reg_cons (guard_no rfl) (op_int (k := .i64) (m := x13) (n := (a0.length : Int)) rfl rfl rfl rfl rfl rfl) ?_
    refine reg_nil ?_
    refine post_imp (s' := ⟨23, [(3, some (.ls 0)), (6, some (.pv (.vs 7 (List.map eGCell a0)))), (7, some (.pv (.int .i64 (a0.length : Int)))), (8, some (.pv (.int .i64 x13))), (9, some (.pv (.bool (decide (x13 < (a0.length : Int))))))], [(0, some (.row 3 1 (List.map eI x12)))], 1, [], [], 0, []⟩) (imp_sub [0] rfl (by decide) rfl rfl ⟨by kernel_rfl, by kernel_rfl, by kernel_rfl, by kernel_rfl, by kernel_rfl, trivial⟩ ⟨by kernel_rfl, trivial⟩ rfl rfl rfl) ?_
    refine post_next ?_
    refine aw_seq ?_
    rcases ite_some hF with ⟨hb27, hF⟩ | ⟨hb27, hF⟩
    · refine aw_cond_t rfl hb27 ?_
      refine aw_skip ?_
      refine post_next ?_
      refine aw_seq ?_
      obtain ⟨x35, hF, hK37⟩ := bind_some hF
      refine aw_cut (fun s1 => s1 = ⟨23, [(3, some (.ls 0)), (6, some (.pv (.vs 7 (List.map eGCell a0)))), (7, some (.pv (.int .i64 (a0.length : Int)))), (8, some (.pv (.int .i64 x13)))], [(0, some (.row 3 1 (List.map eI x35)))], 1, [], [], 0, []⟩) ?_ ?_
      · refine aw_block ?_
        refine aw_seq ?_
        refine aw_region ?_
        refine reg_cons (guard_no rfl) (op_move rfl rfl rfl rfl) ?_
        obtain ⟨y30, h31, hF⟩ := bind_some hF
        refine reg_cons (guard_no rfl) (op_index_vs (k := .i64) rfl rfl rfl (idx_map eGCell h31) Try_slc_22 rfl rfl) ?_
        refine reg_cons (guard_no rfl) (op_load_vp_agg (ps := eGCell y30) rfl rfl rfl rfl Try_agg_30 rfl rfl) ?_
        refine reg_cons (guard_no rfl) (op_alloc 1 rfl (ps := [.str (({ fClass := [], fOwn := (⟨0, 0, 0, 0⟩ : A4 Int), fFields := [], fDead := false } : GCell).fClass), .int .i64 ((({ fClass := [], fOwn := (⟨0, 0, 0, 0⟩ : A4 Int), fFields := [], fDead := false } : GCell).fOwn).a0), .int .i64 ((({ fClass := [], fOwn := (⟨0, 0, 0, 0⟩ : A4 Int), fFields := [], fDead := false } : GCell).fOwn).a1), .int .i64 ((({ fClass := [], fOwn := (⟨0, 0, 0, 0⟩ : A4 Int), fFields := [], fDead := false } : GCell).fOwn).a2), .int .i64 ((({ fClass := [], fOwn := (⟨0, 0, 0, 0⟩ : A4 Int), fFields := [], fDead := false } : GCell).fOwn).a3), .vs 2 (List.map eGVal (({ fClass := [], fOwn := (⟨0, 0, 0, 0⟩ : A4 Int), fFields := [], fDead := false } : GCell).fFields)), .bool (({ fClass := [], fOwn := (⟨0, 0, 0, 0⟩ : A4 Int), fFields := [], fDead := false } : GCell).fDead)]) rfl Try_zer_30 (by exact ⟨rfl, rfl, rfl, rfl, rfl, trivial, rfl, trivial⟩) rfl rfl) ?_
        refine reg_cons (guard_no rfl) (op_assign rfl rfl rfl rfl) ?_
        refine reg_cons (guard_no rfl) (op_store_lp (n := 7) rfl rfl rfl rfl rfl (or_agg Try_agg_30) (by rw [Try_non_30]; rfl) rfl rfl rfl) ?_
        refine reg_nil ?_
        refine post_imp (s' := ⟨23, [(3, some (.ls 0)), (4, some (.pv (.int .i64 x13))), (5, some (.lp 1 0)), (6, some (.pv (.vs 7 (List.map eGCell a0)))), (7, some (.pv (.int .i64 (a0.length : Int)))), (8, some (.pv (.int .i64 x13)))], [(0, some (.row 3 1 (List.map eI x12))), (1, some (.box 30 [.pv (.str y30.fClass), .pv (.int .i64 y30.fOwn.a0), .pv (.int .i64 y30.fOwn.a1), .pv (.int .i64 y30.fOwn.a2), .pv (.int .i64 y30.fOwn.a3), .pv (.vs 2 (List.map eGVal y30.fFields)), .pv (.bool y30.fDead)]))], 2, [], [], 0, []⟩) (imp_sub [0, 1] rfl (by decide) rfl rfl ⟨by kernel_rfl, by kernel_rfl, by kernel_rfl, by kernel_rfl, by kernel_rfl, by kernel_rfl, trivial⟩ ⟨by kernel_rfl, by kernel_rfl, trivial⟩ rfl rfl rfl) ?_
        refine post_next ?_
        refine aw_seq ?_
        refine aw_region ?_
        refine reg_cons (guard_no rfl) (op_field_lp rfl rfl Try_fld_30_3 rfl rfl) ?_
        refine reg_cons (guard_no rfl) (op_load_lp (v := .pv (.bool y30.fDead)) rfl rfl rfl rfl Try_one_4 rfl rfl) ?_
        refine reg_cons (guard_no rfl) (op_not rfl rfl rfl rfl) ?_
        refine reg_nil ?_
        refine post_imp (s' := ⟨23, [(3, some (.ls 0)), (4, some (.pv (.int .i64 x13))), (6, some (.pv (.vs 7 (List.map eGCell a0)))), (7, some (.pv (.int .i64 (a0.length : Int)))), (8, some (.pv (.int .i64 x13))), (15, some (.pv (.bool (!y30.fDead))))], [(0, some (.row 3 1 (List.map eI x12)))], 1, [], [], 0, []⟩) (imp_sub [0] rfl (by decide) rfl rfl ⟨by kernel_rfl, by kernel_rfl, by kernel_rfl, by kernel_rfl, by kernel_rfl, by kernel_rfl, trivial⟩ ⟨by kernel_rfl, trivial⟩ rfl rfl rfl) ?_
        refine post_next ?_
        rcases ite_some hF with ⟨hb32, hF⟩ | ⟨hb32, hF⟩
        · refine aw_cond_t rfl hb32 ?_
          refine aw_region ?_
          refine reg_cons (guard_no rfl) (op_move rfl rfl rfl rfl) ?_
          refine reg_cons (guard_no rfl) (op_move rfl rfl rfl rfl) ?_
          refine reg_cons (guard_no rfl) (op_int (k := .i64) (m := x13) (n := 1) rfl rfl rfl rfl rfl rfl) ?_
          refine reg_cons (guard_no rfl) (op_lit (rows := List.map eI ([w_i64 (x13 + 1)] : List Int)) (zs := [.int .i64 0]) rfl rfl Try_slc_42 Try_zer_3 (by exact ⟨rfl, trivial⟩) rfl rfl rfl rfl rfl rfl rfl rfl) ?_
          obtain ⟨u33, h34, hF⟩ := bind_some hF
          refine reg_cons (guard_no rfl) (op_append 1 rfl rfl rfl rfl rfl Try_slc_42 Try_elm_3 Try_zer_3 rfl rfl rfl (room_map (f := eI) (g := eI) h34) (List.map_append (f := eI) (l₁ := x12) (l₂ := [w_i64 (x13 + 1)])).symm rfl rfl) ?_
          refine reg_cons (guard_no rfl) (op_assign rfl rfl rfl rfl) ?_
          refine reg_nil ?_
          refine post_imp (s' := ⟨23, [(3, some (.ls 0)), (6, some (.pv (.vs 7 (List.map eGCell a0)))), (7, some (.pv (.int .i64 (a0.length : Int)))), (8, some (.pv (.int .i64 x13)))], [(0, some (.row 3 1 (List.map eI (x12 ++ [w_i64 (x13 + 1)]))))], 1, [], [], 0, []⟩) (imp_sub [1] rfl (by decide) rfl rfl ⟨by kernel_rfl, by kernel_rfl, by kernel_rfl, by kernel_rfl, trivial⟩ ⟨by kernel_rfl, trivial⟩ rfl rfl rfl) ?_
          refine post_block_normal ?_
          cases hF
          exact post_cut _ rfl (imp_sub [0] rfl (by decide) rfl rfl ⟨by kernel_rfl, by kernel_rfl, by kernel_rfl, by kernel_rfl, trivial⟩ ⟨by kernel_rfl, trivial⟩ rfl rfl rfl)
        · refine aw_cond_f rfl hb32 ?_
          refine aw_skip ?_
          refine post_block_normal ?_
          cases hF
          exact post_cut _ rfl (imp_sub [0] rfl (by decide) rfl rfl ⟨by kernel_rfl, by kernel_rfl, by kernel_rfl, by kernel_rfl, trivial⟩ ⟨by kernel_rfl, trivial⟩ rfl rfl rfl)
      · rintro _ rfl
        have hF := hK37
        clear hK37
        refine post_next ?_
        refine aw_region ?_
        refine reg_cons (guard_no rfl) (op_int (k := .i64) (m := x13) (n := 1) rfl rfl rfl rfl rfl rfl) ?_
        refine reg_cons (guard_no rfl) (op_move rfl rfl rfl rfl) ?_
        refine reg_nil ?_
        refine post_round ?_
        exact rnd_back (ih (x35, w_i64 (x13 + 1)) hF) (imp_sub [0] rfl (by decide) rfl rfl ⟨by kernel_rfl, by kernel_rfl, by kernel_rfl, by kernel_rfl, trivial⟩ ⟨by kernel_rfl, trivial⟩ rfl rfl rfl)
    · refine aw_cond_f rfl hb27 ?_
      refine aw_exit ?_
      refine post_then_exit ?_
      refine post_then_exit ?_
      obtain rfl := Option.some.inj hF
      exact post_lp_break _ rfl (imp_sub [0] rfl (by decide) rfl rfl ⟨by kernel_rfl, trivial⟩ ⟨by kernel_rfl, trivial⟩ rfl rfl rfl)
  · rintro _ rfl
    have hF := hK41
    clear hK41
    refine post_next ?_
    refine aw_seq ?_
    refine aw_region ?_
    refine reg_cons (guard_no rfl) (op_move rfl rfl rfl rfl) ?_
    refine reg_cons (guard_no rfl) (op_assign rfl rfl rfl rfl) ?_
    refine reg_nil ?_
    refine post_imp (s' := ⟨23, [(2, some (.ls 0))], [(0, some (.row 3 1 (List.map eI x40)))], 1, [], [], 0, []⟩) (imp_sub [0] rfl (by decide) rfl rfl ⟨by kernel_rfl, trivial⟩ ⟨by kernel_rfl, trivial⟩ rfl rfl rfl) ?_
    refine post_next ?_
    refine aw_ret ?_
    obtain rfl := Option.some.inj hF
    exact post_ret rfl rfl (.cons _ _ _ _ _ (.tmp _ _ rfl) (.own _ _ _ _ rfl nolent3) .nil) (.inl rfl)
theorem ref35_Live_ok {a0 : List GCell} {r : (List Int)} (hF : ref35_Live a0 = some r) : Abs.Fn Try.prog 27 [.vs 7 (List.map eGCell a0)] [.own 3 1 (List.map eI r)] := by
  unfold ref35_Live at hF
  refine fn_of_body (n := 23) Try.func27 rfl rfl rfl ?_
  intro w O
  refine aw_seq ?_
  refine aw_region ?_
  refine reg_cons (guard_no rfl) (op_assign rfl rfl rfl rfl) ?_
  refine reg_nil ?_
  refine post_imp (s' := ⟨23, [(0, some (.pv (.vs 7 (List.map eGCell a0))))], [], 0, [], [], 0, []⟩) (imp_sub [] rfl (by decide) rfl rfl ⟨by kernel_rfl, trivial⟩ trivial rfl rfl rfl) ?_
  refine post_next ?_
  refine aw_seq ?_
  refine aw_region ?_
  refine reg_cons (guard_no rfl) (op_assign rfl rfl rfl rfl) ?_
  refine reg_imp (imp_nil_own 3 3 1 0 rfl rfl) ?_
  refine reg_nil ?_
  refine post_imp (s' := ⟨23, [(0, some (.pv (.vs 7 (List.map eGCell a0)))), (3, some (.ls 0))], [(0, some (.row 3 1 (List.map eI [])))], 1, [], [], 0, []⟩) (imp_sub [0] rfl (by decide) rfl rfl ⟨by kernel_rfl, by kernel_rfl, trivial⟩ ⟨by kernel_rfl, trivial⟩ rfl rfl rfl) ?_
  refine post_next ?_
  refine aw_seq ?_
  refine aw_seq ?_
  refine aw_region ?_
  refine reg_cons (guard_no rfl) (op_assign rfl rfl rfl rfl) ?_
  refine reg_nil ?_
  refine post_imp (s' := ⟨23, [(0, some (.pv (.vs 7 (List.map eGCell a0)))), (3, some (.ls 0)), (4, some (.pv (.int .i64 0)))], [(0, some (.row 3 1 (List.map eI [])))], 1, [], [], 0, []⟩) (imp_sub [0] rfl (by decide) rfl rfl ⟨by kernel_rfl, by kernel_rfl, by kernel_rfl, trivial⟩ ⟨by kernel_rfl, trivial⟩ rfl rfl rfl) ?_
  refine post_next ?_
  obtain ⟨x40, hF, hK41⟩ := bind_some hF
  refine aw_for ((((a0.length : Int) : Int) - (0)).toNat + 1) (fun s1 => s1 = ⟨23, [(3, some (.ls 0))], [(0, some (.row 3 1 (List.map eI x40)))], 1, [], [], 0, []⟩) ?_ ?_
  · refine rnd_loop (α := (List Int) × Int) (fun q => ⟨23, [(0, some (.pv (.vs 7 (List.map eGCell a0)))), (3, some (.ls 0)), (4, some (.pv (.int .i64 q.2)))], [(0, some (.row 3 1 (List.map eI q.1)))], 1, [], [], 0, []⟩) (fun k q => ref35_Live_L1 a0 k q.1 q.2 = some x40) ([], 0) (imp_sub [0] rfl (by decide) rfl rfl ⟨by kernel_rfl, by kernel_rfl, by kernel_rfl, trivial⟩ ⟨by kernel_rfl, trivial⟩ rfl rfl rfl) hF (fun q h => by cases h) ?_
    clear hF
    rintro k ⟨x12, x13⟩ hF ih
    refine rnd_succ ?_
    refine aw_seq ?_
    refine aw_seq ?_
    refine aw_region ?_
    refine reg_cons (guard_no rfl) (op_move rfl rfl rfl rfl) ?_
    refine reg_cons (guard_no rfl) (op_move rfl rfl rfl rfl) ?_
    refine reg_cons (guard_no rfl) (op_len_vs (n := a0.length) rfl rfl (List.length_map ..) Try_slc_22 rfl rfl) ?_
    refine reg_cons (guard_no rfl) (op_int (k := .i64) (m := x13) (n := (a0.length : Int)) rfl rfl rfl rfl rfl rfl) ?_
    refine reg_nil ?_
    refine post_imp (s' := ⟨23, [(0, some (.pv (.vs 7 (List.map eGCell a0)))), (3, some (.ls 0)), (4, some (.pv (.int .i64 x13))), (8, some (.pv (.bool (decide (x13 < (a0.length : Int))))))], [(0, some (.row 3 1 (List.map eI x12)))], 1, [], [], 0, []⟩) (imp_sub [0] rfl (by decide) rfl rfl ⟨by kernel_rfl, by kernel_rfl, by kernel_rfl, by kernel_rfl, trivial⟩ ⟨by kernel_rfl, trivial⟩ rfl rfl rfl) ?_
    refine post_next ?_
    rcases ite_some hF with ⟨hb27, hF⟩ | ⟨hb27, hF⟩
    · refine aw_cond_t rfl hb27 ?_
      refine aw_skip ?_
      refine post_next ?_
      refine aw_seq ?_
      obtain ⟨x35, hF, hK37⟩ := bind_some hF
      refine aw_cut (fun s1 => s1 = ⟨23, [(0, some (.pv (.vs 7 (List.map eGCell a0)))), (3, some (.ls 0)), (4, some (.pv (.int .i64 x13)))], [(0, some (.row 3 1 (List.map eI x35)))], 1, [], [], 0, []⟩) ?_ ?_
      · refine aw_block ?_
        refine aw_seq ?_
        refine aw_region ?_
        refine reg_cons (guard_no rfl) (op_move rfl rfl rfl rfl) ?_
        refine reg_cons (guard_no rfl) (op_move rfl rfl rfl rfl) ?_
        obtain ⟨y30, h31, hF⟩ := bind_some hF
        refine reg_cons (guard_no rfl) (op_index_vs (k := .i64) rfl rfl rfl (idx_map eGCell h31) Try_slc_22 rfl rfl) ?_
        refine reg_cons (guard_no rfl) (op_field_vp rfl rfl Try_fld_30_3 rfl rfl) ?_
        refine reg_cons (guard_no rfl) (op_load_vp (p := .bool y30.fDead) rfl rfl rfl Try_one_4 rfl rfl) ?_
        refine reg_cons (guard_no rfl) (op_not rfl rfl rfl rfl) ?_
        refine reg_nil ?_
        refine post_imp (s' := ⟨23, [(0, some (.pv (.vs 7 (List.map eGCell a0)))), (3, some (.ls 0)), (4, some (.pv (.int .i64 x13))), (16, some (.pv (.bool (!y30.fDead))))], [(0, some (.row 3 1 (List.map eI x12)))], 1, [], [], 0, []⟩) (imp_sub [0] rfl (by decide) rfl rfl ⟨by kernel_rfl, by kernel_rfl, by kernel_rfl, by kernel_rfl, trivial⟩ ⟨by kernel_rfl, trivial⟩ rfl rfl rfl) ?_
        refine post_next ?_
        rcases ite_some hF with ⟨hb32, hF⟩ | ⟨hb32, hF⟩
        · refine aw_cond_t rfl hb32 ?_
          refine aw_region ?_
          refine reg_cons (guard_no rfl) (op_move rfl rfl rfl rfl) ?_
          refine reg_cons (guard_no rfl) (op_move rfl rfl rfl rfl) ?_
          refine reg_cons (guard_no rfl) (op_int (k := .i64) (m := x13) (n := 1) rfl rfl rfl rfl rfl rfl) ?_
          refine reg_cons (guard_no rfl) (op_lit (rows := List.map eI ([w_i64 (x13 + 1)] : List Int)) (zs := [.int .i64 0]) rfl rfl Try_slc_42 Try_zer_3 (by exact ⟨rfl, trivial⟩) rfl rfl rfl rfl rfl rfl rfl rfl) ?_
          obtain ⟨u33, h34, hF⟩ := bind_some hF
          refine reg_cons (guard_no rfl) (op_append 1 rfl rfl rfl rfl rfl Try_slc_42 Try_elm_3 Try_zer_3 rfl rfl rfl (room_map (f := eI) (g := eI) h34) (List.map_append (f := eI) (l₁ := x12) (l₂ := [w_i64 (x13 + 1)])).symm rfl rfl) ?_
          refine reg_cons (guard_no rfl) (op_assign rfl rfl rfl rfl) ?_
          refine reg_nil ?_
          refine post_imp (s' := ⟨23, [(0, some (.pv (.vs 7 (List.map eGCell a0)))), (3, some (.ls 0)), (4, some (.pv (.int .i64 x13)))], [(0, some (.row 3 1 (List.map eI (x12 ++ [w_i64 (x13 + 1)]))))], 1, [], [], 0, []⟩) (imp_sub [1] rfl (by decide) rfl rfl ⟨by kernel_rfl, by kernel_rfl, by kernel_rfl, trivial⟩ ⟨by kernel_rfl, trivial⟩ rfl rfl rfl) ?_
          refine post_block_normal ?_
          cases hF
          exact post_cut _ rfl (imp_sub [0] rfl (by decide) rfl rfl ⟨by kernel_rfl, by kernel_rfl, by kernel_rfl, trivial⟩ ⟨by kernel_rfl, trivial⟩ rfl rfl rfl)
        · refine aw_cond_f rfl hb32 ?_
          refine aw_skip ?_
          refine post_block_normal ?_
          cases hF
          exact post_cut _ rfl (imp_sub [0] rfl (by decide) rfl rfl ⟨by kernel_rfl, by kernel_rfl, by kernel_rfl, trivial⟩ ⟨by kernel_rfl, trivial⟩ rfl rfl rfl)
      · rintro _ rfl
        have hF := hK37
        clear hK37
        refine post_next ?_
        refine aw_region ?_
        refine reg_cons (guard_no rfl) (op_move rfl rfl rfl rfl) ?_
        refine reg_cons (guard_no rfl) (op_int (k := .i64) (m := x13) (n := 1) rfl rfl rfl rfl rfl rfl) ?_
        refine reg_cons (guard_no rfl) (op_assign rfl rfl rfl rfl) ?_
        refine reg_nil ?_
        refine post_round ?_
        exact rnd_back (ih (x35, w_i64 (x13 + 1)) hF) (imp_sub [0] rfl (by decide) rfl rfl ⟨by kernel_rfl, by kernel_rfl, by kernel_rfl, trivial⟩ ⟨by kernel_rfl, trivial⟩ rfl rfl rfl)
    · refine aw_cond_f rfl hb27 ?_
      refine aw_exit ?_
      refine post_then_exit ?_
      refine post_then_exit ?_
      obtain rfl := Option.some.inj hF
      exact post_lp_break _ rfl (imp_sub [0] rfl (by decide) rfl rfl ⟨by kernel_rfl, trivial⟩ ⟨by kernel_rfl, trivial⟩ rfl rfl rfl)
  · rintro _ rfl
    have hF := hK41
    clear hK41
    refine post_next ?_
    refine aw_seq ?_
    refine aw_region ?_
    refine reg_cons (guard_no rfl) (op_move rfl rfl rfl rfl) ?_
    refine reg_cons (guard_no rfl) (op_assign rfl rfl rfl rfl) ?_
    refine reg_nil ?_
    refine post_imp (s' := ⟨23, [(2, some (.ls 0))], [(0, some (.row 3 1 (List.map eI x40)))], 1, [], [], 0, []⟩) (imp_sub [0] rfl (by decide) rfl rfl ⟨by kernel_rfl, trivial⟩ ⟨by kernel_rfl, trivial⟩ rfl rfl rfl) ?_
    refine post_next ?_
    refine aw_ret ?_
    obtain rfl := Option.some.inj hF
    exact post_ret rfl rfl (.cons _ _ _ _ _ (.tmp _ _ rfl) (.own _ _ _ _ rfl nolent3) .nil) (.inl rfl)
theorem above_up_ok {a0 : List GClass} {a1 : List UInt8} {r : (List GClass) × (List UInt8)} (hF : above_up a0 a1 = some r) : Abs.Fn Try.prog 67 [.vs 7 (List.map eGClass a0), .str a1] [.clo 81 [.vp ((eL 7 eGClass) r.1)] 9 [.str r.2] []] := by
  unfold above_up at hF
  refine fn_of_body (n := 6) Try.func67 rfl rfl rfl ?_
  intro w O
  refine aw_seq ?_
  refine aw_region ?_
  refine reg_cons (guard_no rfl) (op_box 0 rfl rfl rfl rfl rfl rfl) ?_
  refine reg_cons (guard_no rfl) (op_box 1 rfl rfl rfl rfl rfl rfl) ?_
  refine reg_cons (guard_no rfl) (op_assign rfl rfl rfl rfl) ?_
  refine reg_nil ?_
  refine post_imp (s' := ⟨6, [(2, some (.lp 0 0)), (3, some (.lp 1 0))], [(0, some (.box 45 [.pv (.vs 7 (List.map eGClass a0))])), (1, some (.box 9 [.pv (.str a1)]))], 2, [], [], 0, []⟩) (imp_sub [0, 1] rfl (by decide) rfl rfl ⟨by kernel_rfl, by kernel_rfl, trivial⟩ ⟨by kernel_rfl, by kernel_rfl, trivial⟩ rfl rfl rfl) ?_
  refine post_next ?_
  refine aw_seq ?_
  refine aw_region ?_
  refine reg_cons (guard_no rfl) (op_makeFunc rfl rfl rfl rfl) ?_
  refine reg_cons (guard_no rfl) (op_assign rfl rfl rfl rfl) ?_
  refine reg_nil ?_
  refine post_imp (s' := ⟨6, [(4, some (.fn 81 [.lp 0 0, .lp 1 0]))], [(0, some (.box 45 [.pv (.vs 7 (List.map eGClass a0))])), (1, some (.box 9 [.pv (.str a1)]))], 2, [], [], 0, []⟩) (imp_sub [0, 1] rfl (by decide) rfl rfl ⟨by kernel_rfl, trivial⟩ ⟨by kernel_rfl, by kernel_rfl, trivial⟩ rfl rfl rfl) ?_
  refine post_next ?_
  refine aw_ret ?_
  refine post_imp (imp_freeze_cap 4 0 [.pv (.vp ((eL 7 eGClass) a0)), .lp 1 0] rfl rfl rfl rfl ⟨.inr ⟨rfl, rfl⟩, .inl rfl, trivial⟩) ?_
  obtain rfl := Option.some.inj hF
  exact post_ret rfl rfl (.cons _ _ _ _ _ (.tmp _ _ rfl) (.clo 81 [.vp ((eL 7 eGClass) a0)] [] 1 9 [.str a1] rfl nolent3) .nil) (.inl rfl)
theorem slices_IndexFunc_api_Class_ok {a0 : List GClass} {q1 : GClass → Option Bool} {r : Int} {q1_f : Nat} {q1_c : List PV} (q1_b : callB Try.prog q1_f = true) (q1_h : ∀ (x0 : GClass) (r : Bool), q1 x0 = some r → Abs.Fn Try.prog q1_f ([.agg (eGClass x0)] ++ q1_c) [.p (.bool r)]) (hF : slices_IndexFunc_api_Class a0 q1 = some r) : Abs.Fn Try.prog 83 [.vs 7 (List.map eGClass a0), .fn q1_f q1_c] [.p (.int .i64 r)] := by
  unfold slices_IndexFunc_api_Class at hF
  refine fn_of_body (n := 19) Try.func83 rfl rfl rfl ?_
  intro w O
  refine aw_seq ?_
  refine aw_region ?_
  refine reg_cons (guard_no rfl) (op_assign rfl rfl rfl rfl) ?_
  refine reg_nil ?_
  refine post_imp (s' := ⟨19, [(0, some (.pv (.vs 7 (List.map eGClass a0)))), (1, some (.pv (.fn q1_f q1_c)))], [], 0, [], [], 0, []⟩) (imp_sub [] rfl (by decide) rfl rfl ⟨by kernel_rfl, by kernel_rfl, trivial⟩ trivial rfl rfl rfl) ?_
  refine post_next ?_
  refine aw_seq ?_
  refine aw_seq ?_
  refine aw_region ?_
  refine reg_cons (guard_no rfl) (op_move rfl rfl rfl rfl) ?_
  refine reg_cons (guard_no rfl) (op_len_vs (n := a0.length) rfl rfl (List.length_map ..) Try_slc_45 rfl rfl) ?_
  refine reg_cons (guard_no rfl) (op_move rfl rfl rfl rfl) ?_
  refine reg_nil ?_
  refine post_imp (s' := ⟨19, [(0, some (.pv (.vs 7 (List.map eGClass a0)))), (1, some (.pv (.fn q1_f q1_c))), (7, some (.pv (.int .i64 (a0.length : Int)))), (8, some (.pv (.int .i64 0)))], [], 0, [], [], 0, []⟩) (imp_sub [] rfl (by decide) rfl rfl ⟨by kernel_rfl, by kernel_rfl, by kernel_rfl, by kernel_rfl, trivial⟩ trivial rfl rfl rfl) ?_
  refine post_next ?_
  obtain ⟨lr34, hF, hK35⟩ := bind_some hF
  refine aw_for ((((a0.length : Int) : Int) - (0)).toNat + 1) (fun s1 => ∃ q, lr34 = .next q ∧ s1 = ⟨19, [], [], 0, [], [], 0, []⟩) ?_ ?_
  · refine rnd_loop (α := Int) (fun q => ⟨19, [(0, some (.pv (.vs 7 (List.map eGClass a0)))), (1, some (.pv (.fn q1_f q1_c))), (7, some (.pv (.int .i64 (a0.length : Int)))), (8, some (.pv (.int .i64 q)))], [], 0, [], [], 0, []⟩) (fun k q => slices_IndexFunc_api_Class_L1 a0 q1 k q = some lr34) 0 (imp_sub [] rfl (by decide) rfl rfl ⟨by kernel_rfl, by kernel_rfl, by kernel_rfl, by kernel_rfl, trivial⟩ trivial rfl rfl rfl) hF (fun q h => by cases h) ?_
    clear hF
    rintro k x11 hF ih
    refine rnd_succ ?_
    refine aw_seq ?_
    refine aw_region ?_
    refine reg_cons (guard_no rfl) (op_int (k := .i64) (m := x11) (n := (a0.length : Int)) rfl rfl rfl rfl rfl rfl) ?_
    refine reg_nil ?_
    refine post_imp (s' := ⟨19, [(0, some (.pv (.vs 7 (List.map eGClass a0)))), (1, some (.pv (.fn q1_f q1_c))), (7, some (.pv (.int .i64 (a0.length : Int)))), (8, some (.pv (.int .i64 x11))), (9, some (.pv (.bool (decide (x11 < (a0.length : Int))))))], [], 0, [], [], 0, []⟩) (imp_sub [] rfl (by decide) rfl rfl ⟨by kernel_rfl, by kernel_rfl, by kernel_rfl, by kernel_rfl, by kernel_rfl, trivial⟩ trivial rfl rfl rfl) ?_
    refine post_next ?_
    refine aw_seq ?_
    rcases ite_some hF with ⟨hb23, hF⟩ | ⟨hb23, hF⟩
    · refine aw_cond_t rfl hb23 ?_
      refine aw_skip ?_
      refine post_next ?_
      refine aw_seq ?_
      refine aw_block ?_
      refine aw_seq ?_
      refine aw_region ?_
      refine reg_cons (guard_no rfl) (op_move rfl rfl rfl rfl) ?_
      refine reg_cons (guard_no rfl) (op_assign rfl rfl rfl rfl) ?_
      refine reg_nil ?_
      refine post_imp (s' := ⟨19, [(0, some (.pv (.vs 7 (List.map eGClass a0)))), (1, some (.pv (.fn q1_f q1_c))), (5, some (.pv (.int .i64 x11))), (7, some (.pv (.int .i64 (a0.length : Int)))), (8, some (.pv (.int .i64 x11)))], [], 0, [], [], 0, []⟩) (imp_sub [] rfl (by decide) rfl rfl ⟨by kernel_rfl, by kernel_rfl, by kernel_rfl, by kernel_rfl, by kernel_rfl, trivial⟩ trivial rfl rfl rfl) ?_
      refine post_next ?_
      refine aw_seq ?_
      refine aw_region ?_
      refine reg_cons (guard_no rfl) (op_move rfl rfl rfl rfl) ?_
      refine reg_cons (guard_no rfl) (op_move rfl rfl rfl rfl) ?_
      refine reg_cons (guard_no rfl) (op_move rfl rfl rfl rfl) ?_
      obtain ⟨y28, h29, hF⟩ := bind_some hF
      refine reg_cons (guard_no rfl) (op_index_vs (k := .i64) rfl rfl rfl (idx_map eGClass h29) Try_slc_45 rfl rfl) ?_
      refine reg_cons (guard_no rfl) (op_load_vp_agg (ps := eGClass y28) rfl rfl rfl rfl Try_agg_94 rfl rfl) ?_
      obtain ⟨y30, h31, hF⟩ := bind_some hF
      refine reg_cons (guard_no rfl) (op_call 0 rfl (caps := q1_c) (args := [.agg (eGClass y28)]) (rs := [.p (.bool y30)]) rfl rfl rfl q1_b (q1_h y28 _ h31) rfl rfl rfl) ?_
      refine reg_nil ?_
      refine post_imp (s' := ⟨19, [(0, some (.pv (.vs 7 (List.map eGClass a0)))), (1, some (.pv (.fn q1_f q1_c))), (5, some (.pv (.int .i64 x11))), (7, some (.pv (.int .i64 (a0.length : Int)))), (8, some (.pv (.int .i64 x11))), (16, some (.pv (.bool y30)))], [], 0, [], [], 0, []⟩) (imp_sub [] rfl (by decide) rfl rfl ⟨by kernel_rfl, by kernel_rfl, by kernel_rfl, by kernel_rfl, by kernel_rfl, by kernel_rfl, trivial⟩ trivial rfl rfl rfl) ?_
      refine post_next ?_
      rcases ite_some hF with ⟨hb32, hF⟩ | ⟨hb32, hF⟩
      · refine aw_cond_t rfl hb32 ?_
        refine aw_seq ?_
        refine aw_region ?_
        refine reg_cons (guard_no rfl) (op_move rfl rfl rfl rfl) ?_
        refine reg_cons (guard_no rfl) (op_assign rfl rfl rfl rfl) ?_
        refine reg_nil ?_
        refine post_imp (s' := ⟨19, [(4, some (.pv (.int .i64 x11)))], [], 0, [], [], 0, []⟩) (imp_sub [] rfl (by decide) rfl rfl ⟨by kernel_rfl, trivial⟩ trivial rfl rfl rfl) ?_
        refine post_next ?_
        refine aw_ret ?_
        refine post_block_ret ?_
        refine post_then_ret ?_
        refine post_then_ret ?_
        refine post_lp_ret ?_
        obtain rfl := Option.some.inj hF
        have hF := elim_stop hK35
        refine post_then_ret ?_
        obtain rfl := Option.some.inj hF
        exact post_ret rfl rfl (.cons _ _ _ _ _ (.tmp _ _ rfl) (.p _) .nil) (.inl rfl)
      · refine aw_cond_f rfl hb32 ?_
        refine aw_skip ?_
        refine post_block_normal ?_
        refine post_next ?_
        refine aw_region ?_
        refine reg_cons (guard_no rfl) (op_int (k := .i64) (m := x11) (n := 1) rfl rfl rfl rfl rfl rfl) ?_
        refine reg_cons (guard_no rfl) (op_move rfl rfl rfl rfl) ?_
        refine reg_nil ?_
        refine post_round ?_
        exact rnd_back (ih (w_i64 (x11 + 1)) hF) (imp_sub [] rfl (by decide) rfl rfl ⟨by kernel_rfl, by kernel_rfl, by kernel_rfl, by kernel_rfl, trivial⟩ trivial rfl rfl rfl)
    · refine aw_cond_f rfl hb23 ?_
      refine aw_exit ?_
      refine post_then_exit ?_
      refine post_then_exit ?_
      obtain rfl := Option.some.inj hF
      exact post_lp_break _ ⟨_, rfl, rfl⟩ (imp_sub [] rfl (by decide) rfl rfl trivial trivial rfl rfl rfl)
  · rintro _ ⟨⟨⟩, rfl, rfl⟩
    have hF := elim_next hK35
    clear hK35
    refine post_next ?_
    refine aw_seq ?_
    refine aw_region ?_
    refine reg_cons (guard_no rfl) (op_assign rfl rfl rfl rfl) ?_
    refine reg_nil ?_
    refine post_imp (s' := ⟨19, [(4, some (.pv (.int .i64 (-1))))], [], 0, [], [], 0, []⟩) (imp_sub [] rfl (by decide) rfl rfl ⟨by kernel_rfl, trivial⟩ trivial rfl rfl rfl) ?_
    refine post_next ?_
    refine aw_ret ?_
    obtain rfl := Option.some.inj hF
    exact post_ret rfl rfl (.cons _ _ _ _ _ (.tmp _ _ rfl) (.p _) .nil) (.inl rfl)
theorem table_Find_1_ok {a0 : GClass} {c0 : List UInt8} {r : Bool} (hF : table_Find_1 a0 c0 = some r) : Abs.Fn Try.prog 84 [.agg (eGClass a0), .vp (eS c0)] [.p (.bool r)] := by
  unfold table_Find_1 at hF
  refine fn_of_body (n := 8) Try.func84 rfl rfl rfl ?_
  intro w O
  refine aw_seq ?_
  refine aw_region ?_
  refine reg_cons (guard_no rfl) (op_box 0 rfl rfl rfl rfl rfl rfl) ?_
  refine reg_cons (guard_no rfl) (op_assign rfl rfl rfl rfl) ?_
  refine reg_nil ?_
  refine post_imp (s' := ⟨8, [(1, some (.pv (.vp (eS c0)))), (2, some (.lp 0 0))], [(0, some (.box 94 [.pv (.str a0.fName), .pv (.vs 1 (List.map eS a0.fParams)), .pv (.str a0.fSuper), .pv (.vs 2 (List.map eGOwner a0.fAbove)), .pv (.vs 13 (List.map eGVar a0.fFields)), .pv (.vs 17 (List.map eGMethod a0.fMethods)), .pv (.int .i64 a0.fAt)]))], 1, [], [], 0, []⟩) (imp_sub [0] rfl (by decide) rfl rfl ⟨by kernel_rfl, by kernel_rfl, trivial⟩ ⟨by kernel_rfl, trivial⟩ rfl rfl rfl) ?_
  refine post_next ?_
  refine aw_seq ?_
  refine aw_region ?_
  refine reg_cons (guard_no rfl) (op_field_lp rfl rfl Try_fld_94_0 rfl rfl) ?_
  refine reg_cons (guard_no rfl) (op_load_lp (v := .pv (.str a0.fName)) rfl rfl rfl rfl Try_one_9 rfl rfl) ?_
  refine reg_cons (guard_no rfl) (op_load_vp (p := .str c0) rfl rfl rfl Try_one_9 rfl rfl) ?_
  refine reg_cons (guard_no rfl) (op_str rfl rfl rfl rfl rfl rfl) ?_
  refine reg_cons (guard_no rfl) (op_assign rfl rfl rfl rfl) ?_
  refine reg_nil ?_
  refine post_imp (s' := ⟨8, [(3, some (.pv (.bool (a0.fName == c0))))], [], 0, [], [], 0, []⟩) (imp_sub [] rfl (by decide) rfl rfl ⟨by kernel_rfl, trivial⟩ trivial rfl rfl rfl) ?_
  refine post_next ?_
  refine aw_ret ?_
  obtain rfl := Option.some.inj hF
  exact post_ret rfl rfl (.cons _ _ _ _ _ (.tmp _ _ rfl) (.p _) .nil) (.inl rfl)
theorem table_Find_ok {a0 : List GClass} {a1 : List UInt8} {r : Int} (hF : table_Find a0 a1 = some r) : Abs.Fn Try.prog 71 [.vs 7 (List.map eGClass a0), .str a1] [.p (.int .i64 r)] := by
  unfold table_Find at hF
  refine fn_of_body (n := 8) Try.func71 rfl rfl rfl ?_
  intro w O
  refine aw_seq ?_
  refine aw_region ?_
  refine reg_cons (guard_no rfl) (op_box 0 rfl rfl rfl rfl rfl rfl) ?_
  refine reg_cons (guard_no rfl) (op_assign rfl rfl rfl rfl) ?_
  refine reg_nil ?_
  refine post_imp (s' := ⟨8, [(0, some (.pv (.vs 7 (List.map eGClass a0)))), (3, some (.lp 0 0))], [(0, some (.box 9 [.pv (.str a1)]))], 1, [], [], 0, []⟩) (imp_sub [0] rfl (by decide) rfl rfl ⟨by kernel_rfl, by kernel_rfl, trivial⟩ ⟨by kernel_rfl, trivial⟩ rfl rfl rfl) ?_
  refine post_next ?_
  refine aw_seq ?_
  refine aw_region ?_
  refine reg_cons (guard_no rfl) (op_move rfl rfl rfl rfl) ?_
  refine reg_cons (guard_no rfl) (op_makeFunc rfl rfl rfl rfl) ?_
  obtain ⟨y2, h3, hF⟩ := bind_some hF
  refine reg_cons (guard_no rfl) (op_callB 1 rfl (caps := []) (args := [.vs 7 (List.map eGClass a0), .fn 84 [.vp (eS a1)]]) [(0, some (.box 9 [.pv (.str a1)]))] rfl rfl rfl (FzH.spec ⟨rfl, trivial⟩) rfl rfl Try_cal_83 (slices_IndexFunc_api_Class_ok (q1_f := 84) (q1_c := [.vp (eS a1)]) (q1_b := Try_cal_84) (q1_h := fun _ r h => (table_Find_1_ok h)) h3) rfl rfl rfl) ?_
  refine reg_cons (guard_no rfl) (op_assign rfl rfl rfl rfl) ?_
  refine reg_nil ?_
  refine post_imp (s' := ⟨8, [(4, some (.pv (.int .i64 y2)))], [], 0, [], [], 0, []⟩) (imp_sub [] rfl (by decide) rfl rfl ⟨by kernel_rfl, trivial⟩ trivial rfl rfl rfl) ?_
  refine post_next ?_
  refine aw_ret ?_
  obtain rfl := Option.some.inj hF
  exact post_ret rfl rfl (.cons _ _ _ _ _ (.tmp _ _ rfl) (.p _) .nil) (.inl rfl)
theorem above_up_1_it {rows : List (Int)} {sp : Nat} {c0 : List GClass} {c1 : List UInt8} (hF : above_up_1 rows sp c0 c1 = some (min (sp + 1) rows.length)) : It Try.prog 81 1 [.vp ((eL 7 eGClass) c0)] (some (9, [.str c1])) [] (rows.map (fun z : Int => ([.int .i64 z] : List PV))) sp := by
  unfold above_up_1 at hF
  refine it_of_body (n := 29) Try.func81 rfl rfl rfl ?_
  intro l c hcx
  refine aw_seq ?_
  refine aw_region ?_
  refine reg_cons (guard_no rfl) (op_load_vp (p := .vs 7 (List.map eGClass c0)) rfl rfl rfl Try_one_45 rfl rfl) ?_
  refine reg_cons (guard_no rfl) (op_len_vs (n := c0.length) rfl rfl (List.length_map ..) Try_slc_45 rfl rfl) ?_
  refine reg_cons (guard_no rfl) (op_int (k := .i64) (m := (c0.length : Int)) (n := 1) rfl rfl rfl rfl rfl rfl) ?_
  refine reg_cons (guard_no rfl) (op_move rfl rfl rfl rfl) ?_
  refine reg_nil ?_
  refine post_imp (s' := ⟨29, [(0, some (.pv (.yld l))), (1, some (.pv (.vp ((eL 7 eGClass) c0)))), (2, some (.lp 0 0)), (7, some (.pv (.int .i64 (w_i64 ((c0.length : Int) + 1))))), (8, some (.pv (.int .i64 0)))], [(0, some (.box 9 [.pv (.str c1)]))], 1, [], [], 0, []⟩) (imp_sub [0] rfl (by decide) rfl rfl ⟨by kernel_rfl, by kernel_rfl, by kernel_rfl, by kernel_rfl, by kernel_rfl, trivial⟩ ⟨by kernel_rfl, trivial⟩ rfl rfl rfl) ?_
  refine post_next ?_
  obtain ⟨lr65, hF, hK66⟩ := bind_some hF
  refine aw_for ((((w_i64 ((c0.length : Int) + 1)) : Int) - (0)).toNat + 1) (fun s1 => ∃ q, lr65 = .next q ∧ s1 = ⟨29, [], [], 0, [], [], q, []⟩) ?_ ?_
  · refine rnd_loop (α := Nat × (List UInt8) × Int) (fun q => ⟨29, [(0, some (.pv (.yld l))), (1, some (.pv (.vp ((eL 7 eGClass) c0)))), (2, some (.lp 0 0)), (7, some (.pv (.int .i64 (w_i64 ((c0.length : Int) + 1))))), (8, some (.pv (.int .i64 q.2.2)))], [(0, some (.box 9 [.pv (.str q.2.1)]))], 1, [], [], q.1, []⟩) (fun k q => above_up_1_L1 c0 sp rows k q.1 q.2.1 q.2.2 = some lr65) (0, c1, 0) (imp_sub [0] rfl (by decide) rfl rfl ⟨by kernel_rfl, by kernel_rfl, by kernel_rfl, by kernel_rfl, by kernel_rfl, trivial⟩ ⟨by kernel_rfl, trivial⟩ rfl rfl rfl) hF (fun q h => by cases h) ?_
    clear hF
    rintro k ⟨x19, x20, x21⟩ hF ih
    refine rnd_succ ?_
    refine aw_seq ?_
    refine aw_region ?_
    refine reg_cons (guard_no rfl) (op_int (k := .i64) (m := x21) (n := w_i64 ((c0.length : Int) + 1)) rfl rfl rfl rfl rfl rfl) ?_
    refine reg_nil ?_
    refine post_imp (s' := ⟨29, [(0, some (.pv (.yld l))), (1, some (.pv (.vp ((eL 7 eGClass) c0)))), (2, some (.lp 0 0)), (7, some (.pv (.int .i64 (w_i64 ((c0.length : Int) + 1))))), (8, some (.pv (.int .i64 x21))), (9, some (.pv (.bool (decide (x21 < (w_i64 ((c0.length : Int) + 1)))))))], [(0, some (.box 9 [.pv (.str x20)]))], 1, [], [], x19, []⟩) (imp_sub [0] rfl (by decide) rfl rfl ⟨by kernel_rfl, by kernel_rfl, by kernel_rfl, by kernel_rfl, by kernel_rfl, by kernel_rfl, trivial⟩ ⟨by kernel_rfl, trivial⟩ rfl rfl rfl) ?_
    refine post_next ?_
    refine aw_seq ?_
    rcases ite_some hF with ⟨hb43, hF⟩ | ⟨hb43, hF⟩
    · refine aw_cond_t rfl hb43 ?_
      refine aw_skip ?_
      refine post_next ?_
      refine aw_seq ?_
      refine aw_block ?_
      refine aw_seq ?_
      refine aw_region ?_
      refine reg_cons (guard_no rfl) (op_load_vp (p := .vs 7 (List.map eGClass c0)) rfl rfl rfl Try_one_45 rfl rfl) ?_
      refine reg_cons (guard_no rfl) (op_load_lp (v := .pv (.str x20)) rfl rfl rfl rfl Try_one_9 rfl rfl) ?_
      obtain ⟨y46, h47, hF⟩ := bind_some hF
      refine reg_cons (guard_no rfl) (op_call 1 rfl (caps := []) (args := [.vs 7 (List.map eGClass c0), .str x20]) (rs := [.p (.int .i64 y46)]) rfl rfl rfl Try_cal_71 (table_Find_ok h47) rfl rfl rfl) ?_
      refine reg_cons (guard_no rfl) (op_assign rfl rfl rfl rfl) ?_
      refine reg_nil ?_
      refine post_imp (s' := ⟨29, [(0, some (.pv (.yld l))), (1, some (.pv (.vp ((eL 7 eGClass) c0)))), (2, some (.lp 0 0)), (4, some (.pv (.int .i64 y46))), (7, some (.pv (.int .i64 (w_i64 ((c0.length : Int) + 1))))), (8, some (.pv (.int .i64 x21)))], [(0, some (.box 9 [.pv (.str x20)]))], 1, [], [], x19, []⟩) (imp_sub [0] rfl (by decide) rfl rfl ⟨by kernel_rfl, by kernel_rfl, by kernel_rfl, by kernel_rfl, by kernel_rfl, by kernel_rfl, trivial⟩ ⟨by kernel_rfl, trivial⟩ rfl rfl rfl) ?_
      refine post_next ?_
      refine aw_seq ?_
      refine aw_seq ?_
      obtain ⟨p53, hF, hK54⟩ := bind_some hF
      obtain ⟨x51, x52⟩ := p53
      refine aw_cut (fun s1 => s1 = ⟨29, [(0, some (.pv (.yld l))), (1, some (.pv (.vp ((eL 7 eGClass) c0)))), (2, some (.lp 0 0)), (4, some (.pv (.int .i64 y46))), (7, some (.pv (.int .i64 (w_i64 ((c0.length : Int) + 1))))), (8, some (.pv (.int .i64 x21))), (20, some (.pv (.bool x52)))], [(0, some (.box 9 [.pv (.str x20)]))], 1, [], [], x51, []⟩) ?_ ?_
      · refine aw_region ?_
        refine reg_cons (guard_no rfl) (op_move rfl rfl rfl rfl) ?_
        refine reg_cons (guard_no rfl) (op_int (k := .i64) (m := y46) (n := 0) rfl rfl rfl rfl rfl rfl) ?_
        refine reg_cons (guard_no rfl) (op_move rfl rfl rfl rfl) ?_
        rcases ite_some hF with ⟨hb48, hF⟩ | ⟨hb48, hF⟩
        · refine reg_off (guard_off rfl rfl rfl rfl hb48) rfl rfl ?_
          refine reg_off (guard_off rfl rfl rfl rfl hb48) rfl rfl ?_
          refine reg_off (guard_off rfl rfl rfl rfl hb48) rfl rfl ?_
          refine reg_off (guard_off rfl rfl rfl rfl hb48) rfl rfl ?_
          refine reg_cons (guard_no rfl) (op_pick_t rfl rfl hb48 rfl rfl rfl) ?_
          refine reg_nil ?_
          cases hF
          exact post_cut _ rfl (imp_sub [0] rfl (by decide) rfl rfl ⟨by kernel_rfl, by kernel_rfl, by kernel_rfl, by kernel_rfl, by kernel_rfl, by kernel_rfl, by kernel_rfl, trivial⟩ ⟨by kernel_rfl, trivial⟩ rfl rfl rfl)
        · refine reg_cons (guard_on rfl rfl rfl rfl hb48) (op_move rfl rfl rfl rfl) ?_
          refine reg_cons (guard_on rfl rfl rfl rfl hb48) (op_move rfl rfl rfl rfl) ?_
          obtain ⟨u49, h50, hF⟩ := bind_some hF
          refine reg_cons (guard_on rfl rfl rfl rfl hb48) (op_yield (row := (fun z : Int => ([.int .i64 z] : List PV)) y46) hcx rfl rfl rfl rfl (yck_row (fun z : Int => ([.int .i64 z] : List PV)) h50) (yck_spec h50).2 rfl rfl) ?_
          refine reg_cons (guard_on rfl rfl rfl rfl hb48) (op_not rfl rfl rfl rfl) ?_
          refine reg_cons (guard_no rfl) (op_pick_f rfl rfl hb48 rfl rfl rfl) ?_
          refine reg_nil ?_
          cases hF
          exact post_cut _ rfl (imp_sub [0] rfl (by decide) rfl rfl ⟨by kernel_rfl, by kernel_rfl, by kernel_rfl, by kernel_rfl, by kernel_rfl, by kernel_rfl, by kernel_rfl, trivial⟩ ⟨by kernel_rfl, trivial⟩ rfl rfl rfl)
      · rintro _ rfl
        have hF := hK54
        clear hK54
        refine post_next ?_
        rcases ite_some hF with ⟨hb55, hF⟩ | ⟨hb55, hF⟩
        · refine aw_cond_t rfl hb55 ?_
          refine aw_ret ?_
          refine post_then_ret ?_
          refine post_block_ret ?_
          refine post_then_ret ?_
          refine post_then_ret ?_
          refine post_lp_ret ?_
          obtain rfl := Option.some.inj hF
          have hF := elim_stop hK66
          exact post_it (it_len hF) rfl (.inl rfl)
        · refine aw_cond_f rfl hb55 ?_
          refine aw_skip ?_
          refine post_next ?_
          refine aw_seq ?_
          refine aw_region ?_
          refine reg_cons (guard_no rfl) (op_load_vp (p := .vs 7 (List.map eGClass c0)) rfl rfl rfl Try_one_45 rfl rfl) ?_
          refine reg_cons (guard_no rfl) (op_move rfl rfl rfl rfl) ?_
          obtain ⟨y58, h59, hF⟩ := bind_some hF
          refine reg_cons (guard_no rfl) (op_index_vs (k := .i64) rfl rfl rfl (idx_map eGClass h59) Try_slc_45 rfl rfl) ?_
          refine reg_cons (guard_no rfl) (op_field_vp rfl rfl Try_fld_94_2 rfl rfl) ?_
          refine reg_cons (guard_no rfl) (op_load_vp (p := .str y58.fSuper) rfl rfl rfl Try_one_9 rfl rfl) ?_
          refine reg_cons (guard_no rfl) (op_store_lp (n := 1) rfl rfl rfl rfl rfl (or_one Try_one_9) (by rw [Try_one_9]; rfl) rfl rfl rfl) ?_
          refine reg_nil ?_
          refine post_imp (s' := ⟨29, [(0, some (.pv (.yld l))), (1, some (.pv (.vp ((eL 7 eGClass) c0)))), (2, some (.lp 0 0)), (7, some (.pv (.int .i64 (w_i64 ((c0.length : Int) + 1))))), (8, some (.pv (.int .i64 x21)))], [(0, some (.box 9 [.pv (.str y58.fSuper)]))], 1, [], [], x51, []⟩) (imp_sub [0] rfl (by decide) rfl rfl ⟨by kernel_rfl, by kernel_rfl, by kernel_rfl, by kernel_rfl, by kernel_rfl, trivial⟩ ⟨by kernel_rfl, trivial⟩ rfl rfl rfl) ?_
          refine post_next ?_
          refine aw_seq ?_
          refine aw_region ?_
          refine reg_cons (guard_no rfl) (op_load_lp (v := .pv (.str y58.fSuper)) rfl rfl rfl rfl Try_one_9 rfl rfl) ?_
          refine reg_cons (guard_no rfl) (op_str rfl rfl rfl rfl rfl rfl) ?_
          refine reg_nil ?_
          refine post_imp (s' := ⟨29, [(0, some (.pv (.yld l))), (1, some (.pv (.vp ((eL 7 eGClass) c0)))), (2, some (.lp 0 0)), (7, some (.pv (.int .i64 (w_i64 ((c0.length : Int) + 1))))), (8, some (.pv (.int .i64 x21))), (27, some (.pv (.bool (y58.fSuper == []))))], [(0, some (.box 9 [.pv (.str y58.fSuper)]))], 1, [], [], x51, []⟩) (imp_sub [0] rfl (by decide) rfl rfl ⟨by kernel_rfl, by kernel_rfl, by kernel_rfl, by kernel_rfl, by kernel_rfl, by kernel_rfl, trivial⟩ ⟨by kernel_rfl, trivial⟩ rfl rfl rfl) ?_
          refine post_next ?_
          rcases ite_some hF with ⟨hb60, hF⟩ | ⟨hb60, hF⟩
          · refine aw_cond_t rfl hb60 ?_
            refine aw_ret ?_
            refine post_block_ret ?_
            refine post_then_ret ?_
            refine post_then_ret ?_
            refine post_lp_ret ?_
            obtain rfl := Option.some.inj hF
            have hF := elim_stop hK66
            exact post_it (it_len hF) rfl (.inl rfl)
          · refine aw_cond_f rfl hb60 ?_
            refine aw_skip ?_
            refine post_block_normal ?_
            refine post_next ?_
            refine aw_region ?_
            refine reg_cons (guard_no rfl) (op_int (k := .i64) (m := x21) (n := 1) rfl rfl rfl rfl rfl rfl) ?_
            refine reg_cons (guard_no rfl) (op_move rfl rfl rfl rfl) ?_
            refine reg_nil ?_
            refine post_round ?_
            exact rnd_back (ih (x51, y58.fSuper, w_i64 (x21 + 1)) hF) (imp_sub [0] rfl (by decide) rfl rfl ⟨by kernel_rfl, by kernel_rfl, by kernel_rfl, by kernel_rfl, by kernel_rfl, trivial⟩ ⟨by kernel_rfl, trivial⟩ rfl rfl rfl)
    · refine aw_cond_f rfl hb43 ?_
      refine aw_exit ?_
      refine post_then_exit ?_
      refine post_then_exit ?_
      obtain rfl := Option.some.inj hF
      exact post_lp_break _ ⟨_, rfl, rfl⟩ (imp_sub [] rfl (by decide) rfl rfl trivial trivial rfl rfl rfl)
  · rintro _ ⟨x64, rfl, rfl⟩
    have hF := elim_next hK66
    clear hK66
    exact post_it (it_len hF) rfl (.inr rfl)

theorem slices_Index_int_ok {a0 : List Int} {a1 : Int} {r : Int} (hF : slices_Index_int a0 a1 = some r) : Abs.Fn Try.prog 82 [.vs 1 (List.map eI a0), .int .i64 a1] [.p (.int .i64 r)] := by
  unfold slices_Index_int at hF
  refine fn_of_body (n := 19) Try.func82 rfl rfl rfl ?_
  intro w O
  refine aw_seq ?_
  refine aw_region ?_
  refine reg_cons (guard_no rfl) (op_assign rfl rfl rfl rfl) ?_
  refine reg_nil ?_
  refine post_imp (s' := ⟨19, [(0, some (.pv (.vs 1 (List.map eI a0)))), (1, some (.pv (.int .i64 a1)))], [], 0, [], [], 0, []⟩) (imp_sub [] rfl (by decide) rfl rfl ⟨by kernel_rfl, by kernel_rfl, trivial⟩ trivial rfl rfl rfl) ?_
  refine post_next ?_
  refine aw_seq ?_
  refine aw_seq ?_
  refine aw_region ?_
  refine reg_cons (guard_no rfl) (op_move rfl rfl rfl rfl) ?_
  refine reg_cons (guard_no rfl) (op_len_vs (n := a0.length) rfl rfl (List.length_map ..) Try_slc_42 rfl rfl) ?_
  refine reg_cons (guard_no rfl) (op_move rfl rfl rfl rfl) ?_
  refine reg_nil ?_
  refine post_imp (s' := ⟨19, [(0, some (.pv (.vs 1 (List.map eI a0)))), (1, some (.pv (.int .i64 a1))), (7, some (.pv (.int .i64 (a0.length : Int)))), (8, some (.pv (.int .i64 0)))], [], 0, [], [], 0, []⟩) (imp_sub [] rfl (by decide) rfl rfl ⟨by kernel_rfl, by kernel_rfl, by kernel_rfl, by kernel_rfl, trivial⟩ trivial rfl rfl rfl) ?_
  refine post_next ?_
  obtain ⟨lr22, hF, hK23⟩ := bind_some hF
  refine aw_for ((((a0.length : Int) : Int) - (0)).toNat + 1) (fun s1 => ∃ q, lr22 = .next q ∧ s1 = ⟨19, [], [], 0, [], [], 0, []⟩) ?_ ?_
  · refine rnd_loop (α := Int) (fun q => ⟨19, [(0, some (.pv (.vs 1 (List.map eI a0)))), (1, some (.pv (.int .i64 a1))), (7, some (.pv (.int .i64 (a0.length : Int)))), (8, some (.pv (.int .i64 q)))], [], 0, [], [], 0, []⟩) (fun k q => slices_Index_int_L1 a0 a1 k q = some lr22) 0 (imp_sub [] rfl (by decide) rfl rfl ⟨by kernel_rfl, by kernel_rfl, by kernel_rfl, by kernel_rfl, trivial⟩ trivial rfl rfl rfl) hF (fun q h => by cases h) ?_
    clear hF
    rintro k x7 hF ih
    refine rnd_succ ?_
    refine aw_seq ?_
    refine aw_region ?_
    refine reg_cons (guard_no rfl) (op_int (k := .i64) (m := x7) (n := (a0.length : Int)) rfl rfl rfl rfl rfl rfl) ?_
    refine reg_nil ?_
    refine post_imp (s' := ⟨19, [(0, some (.pv (.vs 1 (List.map eI a0)))), (1, some (.pv (.int .i64 a1))), (7, some (.pv (.int .i64 (a0.length : Int)))), (8, some (.pv (.int .i64 x7))), (9, some (.pv (.bool (decide (x7 < (a0.length : Int))))))], [], 0, [], [], 0, []⟩) (imp_sub [] rfl (by decide) rfl rfl ⟨by kernel_rfl, by kernel_rfl, by kernel_rfl, by kernel_rfl, by kernel_rfl, trivial⟩ trivial rfl rfl rfl) ?_
    refine post_next ?_
    refine aw_seq ?_
    rcases ite_some hF with ⟨hb15, hF⟩ | ⟨hb15, hF⟩
    · refine aw_cond_t rfl hb15 ?_
      refine aw_skip ?_
      refine post_next ?_
      refine aw_seq ?_
      refine aw_block ?_
      refine aw_seq ?_
      refine aw_region ?_
      refine reg_cons (guard_no rfl) (op_move rfl rfl rfl rfl) ?_
      refine reg_cons (guard_no rfl) (op_assign rfl rfl rfl rfl) ?_
      refine reg_nil ?_
      refine post_imp (s' := ⟨19, [(0, some (.pv (.vs 1 (List.map eI a0)))), (1, some (.pv (.int .i64 a1))), (5, some (.pv (.int .i64 x7))), (7, some (.pv (.int .i64 (a0.length : Int)))), (8, some (.pv (.int .i64 x7)))], [], 0, [], [], 0, []⟩) (imp_sub [] rfl (by decide) rfl rfl ⟨by kernel_rfl, by kernel_rfl, by kernel_rfl, by kernel_rfl, by kernel_rfl, trivial⟩ trivial rfl rfl rfl) ?_
      refine post_next ?_
      refine aw_seq ?_
      refine aw_region ?_
      refine reg_cons (guard_no rfl) (op_move rfl rfl rfl rfl) ?_
      refine reg_cons (guard_no rfl) (op_move rfl rfl rfl rfl) ?_
      refine reg_cons (guard_no rfl) (op_move rfl rfl rfl rfl) ?_
      obtain ⟨y18, h19, hF⟩ := bind_some hF
      refine reg_cons (guard_no rfl) (op_index_vs (k := .i64) rfl rfl rfl (idx_map eI h19) Try_slc_42 rfl rfl) ?_
      refine reg_cons (guard_no rfl) (op_load_vp (p := .int .i64 y18) rfl rfl rfl Try_one_3 rfl rfl) ?_
      refine reg_cons (guard_no rfl) (op_int (k := .i64) (m := a1) (n := y18) rfl rfl rfl rfl rfl rfl) ?_
      refine reg_nil ?_
      refine post_imp (s' := ⟨19, [(0, some (.pv (.vs 1 (List.map eI a0)))), (1, some (.pv (.int .i64 a1))), (5, some (.pv (.int .i64 x7))), (7, some (.pv (.int .i64 (a0.length : Int)))), (8, some (.pv (.int .i64 x7))), (16, some (.pv (.bool (a1 == y18))))], [], 0, [], [], 0, []⟩) (imp_sub [] rfl (by decide) rfl rfl ⟨by kernel_rfl, by kernel_rfl, by kernel_rfl, by kernel_rfl, by kernel_rfl, by kernel_rfl, trivial⟩ trivial rfl rfl rfl) ?_
      refine post_next ?_
      rcases ite_some hF with ⟨hb20, hF⟩ | ⟨hb20, hF⟩
      · refine aw_cond_t rfl hb20 ?_
        refine aw_seq ?_
        refine aw_region ?_
        refine reg_cons (guard_no rfl) (op_move rfl rfl rfl rfl) ?_
        refine reg_cons (guard_no rfl) (op_assign rfl rfl rfl rfl) ?_
        refine reg_nil ?_
        refine post_imp (s' := ⟨19, [(4, some (.pv (.int .i64 x7)))], [], 0, [], [], 0, []⟩) (imp_sub [] rfl (by decide) rfl rfl ⟨by kernel_rfl, trivial⟩ trivial rfl rfl rfl) ?_
        refine post_next ?_
        refine aw_ret ?_
        refine post_block_ret ?_
        refine post_then_ret ?_
        refine post_then_ret ?_
        refine post_lp_ret ?_
        obtain rfl := Option.some.inj hF
        have hF := elim_stop hK23
        refine post_then_ret ?_
        obtain rfl := Option.some.inj hF
        exact post_ret rfl rfl (.cons _ _ _ _ _ (.tmp _ _ rfl) (.p _) .nil) (.inl rfl)
      · refine aw_cond_f rfl hb20 ?_
        refine aw_skip ?_
        refine post_block_normal ?_
        refine post_next ?_
        refine aw_region ?_
        refine reg_cons (guard_no rfl) (op_int (k := .i64) (m := x7) (n := 1) rfl rfl rfl rfl rfl rfl) ?_
        refine reg_cons (guard_no rfl) (op_move rfl rfl rfl rfl) ?_
        refine reg_nil ?_
        refine post_round ?_
        exact rnd_back (ih (w_i64 (x7 + 1)) hF) (imp_sub [] rfl (by decide) rfl rfl ⟨by kernel_rfl, by kernel_rfl, by kernel_rfl, by kernel_rfl, trivial⟩ trivial rfl rfl rfl)
    · refine aw_cond_f rfl hb15 ?_
      refine aw_exit ?_
      refine post_then_exit ?_
      refine post_then_exit ?_
      obtain rfl := Option.some.inj hF
      exact post_lp_break _ ⟨_, rfl, rfl⟩ (imp_sub [] rfl (by decide) rfl rfl trivial trivial rfl rfl rfl)
  · rintro _ ⟨⟨⟩, rfl, rfl⟩
    have hF := elim_next hK23
    clear hK23
    refine post_next ?_
    refine aw_seq ?_
    refine aw_region ?_
    refine reg_cons (guard_no rfl) (op_assign rfl rfl rfl rfl) ?_
    refine reg_nil ?_
    refine post_imp (s' := ⟨19, [(4, some (.pv (.int .i64 (-1))))], [], 0, [], [], 0, []⟩) (imp_sub [] rfl (by decide) rfl rfl ⟨by kernel_rfl, trivial⟩ trivial rfl rfl rfl) ?_
    refine post_next ?_
    refine aw_ret ?_
    obtain rfl := Option.some.inj hF
    exact post_ret rfl rfl (.cons _ _ _ _ _ (.tmp _ _ rfl) (.p _) .nil) (.inl rfl)
theorem slices_Contains_int_ok {a0 : List Int} {a1 : Int} {r : Bool} (hF : slices_Contains_int a0 a1 = some r) : Abs.Fn Try.prog 68 [.vs 1 (List.map eI a0), .int .i64 a1] [.p (.bool r)] := by
  unfold slices_Contains_int at hF
  refine fn_of_body (n := 9) Try.func68 rfl rfl rfl ?_
  intro w O
  refine aw_seq ?_
  refine aw_region ?_
  refine reg_cons (guard_no rfl) (op_assign rfl rfl rfl rfl) ?_
  refine reg_nil ?_
  refine post_imp (s' := ⟨9, [(0, some (.pv (.vs 1 (List.map eI a0)))), (1, some (.pv (.int .i64 a1)))], [], 0, [], [], 0, []⟩) (imp_sub [] rfl (by decide) rfl rfl ⟨by kernel_rfl, by kernel_rfl, trivial⟩ trivial rfl rfl rfl) ?_
  refine post_next ?_
  refine aw_seq ?_
  refine aw_region ?_
  refine reg_cons (guard_no rfl) (op_move rfl rfl rfl rfl) ?_
  refine reg_cons (guard_no rfl) (op_move rfl rfl rfl rfl) ?_
  obtain ⟨y1, h2, hF⟩ := bind_some hF
  refine reg_cons (guard_no rfl) (op_call 0 rfl (caps := []) (args := [.vs 1 (List.map eI a0), .int .i64 a1]) (rs := [.p (.int .i64 y1)]) rfl rfl rfl Try_cal_82 (slices_Index_int_ok h2) rfl rfl rfl) ?_
  refine reg_cons (guard_no rfl) (op_int (k := .i64) (m := y1) (n := 0) rfl rfl rfl rfl rfl rfl) ?_
  refine reg_cons (guard_no rfl) (op_assign rfl rfl rfl rfl) ?_
  refine reg_nil ?_
  refine post_imp (s' := ⟨9, [(4, some (.pv (.bool (decide (y1 ≥ 0)))))], [], 0, [], [], 0, []⟩) (imp_sub [] rfl (by decide) rfl rfl ⟨by kernel_rfl, trivial⟩ trivial rfl rfl rfl) ?_
  refine post_next ?_
  refine aw_ret ?_
  obtain rfl := Option.some.inj hF
  exact post_ret rfl rfl (.cons _ _ _ _ _ (.tmp _ _ rfl) (.p _) .nil) (.inl rfl)
theorem above_Chain_ok {a0 : List GClass} {a1 : List UInt8} {r : (List Int)} (hF : above_Chain a0 a1 = some r) : Abs.Fn Try.prog 40 [.vs 7 (List.map eGClass a0), .str a1] [.own 3 1 (List.map eI r)] := by
  unfold above_Chain at hF
  refine fn_of_body (n := 19) Try.func40 rfl rfl rfl ?_
  intro w O
  refine aw_seq ?_
  refine aw_region ?_
  refine reg_cons (guard_no rfl) (op_assign rfl rfl rfl rfl) ?_
  refine reg_nil ?_
  refine post_imp (s' := ⟨19, [(0, some (.pv (.vs 7 (List.map eGClass a0)))), (1, some (.pv (.str a1)))], [], 0, [], [], 0, []⟩) (imp_sub [] rfl (by decide) rfl rfl ⟨by kernel_rfl, by kernel_rfl, trivial⟩ trivial rfl rfl rfl) ?_
  refine post_next ?_
  refine aw_seq ?_
  refine aw_region ?_
  refine reg_cons (guard_no rfl) (op_alloc 0 rfl (ps := [.nils]) rfl Try_zer_42 (by exact ⟨rfl, trivial⟩) rfl rfl) ?_
  refine reg_imp (imp_nil_box 0 0 42 3 1 1 rfl rfl rfl) ?_
  refine reg_nil ?_
  refine post_imp (s' := ⟨19, [(0, some (.pv (.vs 7 (List.map eGClass a0)))), (1, some (.pv (.str a1))), (5, some (.lp 0 0))], [(0, some (.box 42 [.ls 1])), (1, some (.row 3 1 (List.map eI [])))], 2, [], [], 0, []⟩) (imp_sub [0, 1] rfl (by decide) rfl rfl ⟨by kernel_rfl, by kernel_rfl, by kernel_rfl, trivial⟩ ⟨by kernel_rfl, by kernel_rfl, trivial⟩ rfl rfl rfl) ?_
  refine post_next ?_
  refine aw_seq ?_
  refine aw_seq ?_
  refine aw_region ?_
  refine reg_cons (guard_no rfl) (op_move rfl rfl rfl rfl) ?_
  refine reg_cons (guard_no rfl) (op_move rfl rfl rfl rfl) ?_
  obtain ⟨y3, h4, hF⟩ := bind_some hF
  refine reg_cons (guard_no rfl) (op_call 2 rfl (caps := []) (args := [.vs 7 (List.map eGClass a0), .str a1]) (rs := [.clo 81 [.vp ((eL 7 eGClass) y3.1)] 9 [.str y3.2] []]) rfl rfl rfl Try_cal_67 (above_up_ok h4) rfl rfl rfl) ?_
  refine reg_nil ?_
  refine post_imp (s' := ⟨19, [(5, some (.lp 0 0)), (9, some (.fn 81 [.pv (.vp ((eL 7 eGClass) y3.1)), .lp 2 0]))], [(0, some (.box 42 [.ls 1])), (1, some (.row 3 1 (List.map eI []))), (2, some (.box 9 [.pv (.str y3.2)]))], 3, [], [], 0, []⟩) (imp_sub [0, 1, 2] rfl (by decide) rfl rfl ⟨by kernel_rfl, by kernel_rfl, trivial⟩ ⟨by kernel_rfl, by kernel_rfl, by kernel_rfl, trivial⟩ rfl rfl rfl) ?_
  refine post_next ?_
  refine aw_block ?_
  refine aw_imp (s' := ⟨19, [(5, some (.lp 0 0)), (9, some (.fn 81 [.pv (.vp ((eL 7 eGClass) y3.1)), .lp 2 0]))], [(0, some (.box 42 [.ls 1])), (1, some (.row 3 1 (List.map eI []))), (2, some (.box 9 [.pv (.str y3.2)]))], 3, [], [], 0, []⟩) (imp_sub [0, 1, 2] rfl (by decide) rfl rfl ⟨by kernel_rfl, by kernel_rfl, trivial⟩ ⟨by kernel_rfl, by kernel_rfl, by kernel_rfl, trivial⟩ rfl rfl rfl) ?_
  obtain ⟨rows33, hR34, hF⟩ := bind_some hF
  obtain ⟨lr35, hL36, hF⟩ := bind_some hF
  refine aw_rangeFunc (X := Int) (Q := (List Int)) (E := (List Int)) (pre := [.vp ((eL 7 eGClass) y3.1)]) (bx := (some (9, [.str y3.2]))) (post := []) (kt := [5]) (psl := [10]) (some 2) [(6, 0)] (fun z : Int => ([.int .i64 z] : List PV)) rows33 above_Chain_B1 [] lr35 hL36 (fun q => ⟨19, [(5, some (.lp 0 0))], [(0, some (.box 42 [.ls 1])), (1, some (.row 3 1 (List.map eI q)))], 3, [], [], 0, []⟩) (fun z => ((.exit 0), ⟨19, [(5, some (.lp 0 0))], [(0, some (.box 42 [.ls 1])), (1, some (.row 3 1 (List.map eI z)))], 2, [], [], 0, []⟩)) ⟨_, _, rfl, rfl, rfl⟩ Try_cal_81 (fun sp => above_up_1_it (itR_up_ok hR34 sp)) (fun _ => rfl) rfl rfl (asg_region ⟨⟨rfl, rfl, _, rfl, rfl, rfl⟩, trivial⟩) (by decide) rfl rfl (fun q => ⟨rfl, rfl, rfl, rfl⟩) (fun z => ⟨rfl, rfl, rfl, rfl⟩) (fun z => rfl) rfl rfl ⟨rfl, trivial⟩ ⟨⟨rfl, rfl, rfl⟩, ⟨rfl, rfl, rfl⟩, trivial⟩ ?_ ?_ ?_
  · rintro l37 c38 x23 x13 r40 hc39 hF
    refine aw_block ?_
    refine aw_seq ?_
    refine aw_seq ?_
    refine aw_region ?_
    refine reg_cons (guard_no rfl) (op_load_lp (v := .ls 1) rfl rfl rfl rfl Try_one_42 rfl rfl) ?_
    refine reg_cons (guard_no rfl) (op_move rfl rfl rfl rfl) ?_
    obtain ⟨y26, h27, hF⟩ := bind_some hF
    refine reg_cons (guard_no rfl) (op_callB 3 rfl (caps := []) (args := [.vs 1 (List.map eI x13), .int .i64 x23]) [(1, some (.row 3 1 (List.map eI x13)))] rfl rfl rfl (FzH.spec ⟨rfl, trivial⟩) rfl rfl Try_cal_68 (slices_Contains_int_ok h27) rfl rfl rfl) ?_
    refine reg_nil ?_
    refine post_imp (s' := ⟨19, [(5, some (.lp 0 0)), (6, some (.pv (.int .i64 x23))), (13, some (.pv (.bool y26)))], [(0, some (.box 42 [.ls 1])), (1, some (.row 3 1 (List.map eI x13)))], 2, [], [], 0, [5]⟩) (imp_sub [0, 1] rfl (by decide) rfl rfl ⟨by kernel_rfl, by kernel_rfl, by kernel_rfl, trivial⟩ ⟨by kernel_rfl, by kernel_rfl, trivial⟩ rfl rfl rfl) ?_
    refine post_next ?_
    rcases ite_some hF with ⟨hb28, hF⟩ | ⟨hb28, hF⟩
    · refine aw_cond_t rfl hb28 ?_
      refine aw_exit ?_
      refine post_then_exit ?_
      refine post_block_other rfl ?_
      obtain rfl := Option.some.inj hF
      exact post_rnd_exit x13 rfl rfl (imp_sub [0, 1] rfl (by decide) rfl rfl ⟨by kernel_rfl, trivial⟩ ⟨by kernel_rfl, by kernel_rfl, trivial⟩ rfl rfl rfl)
    · refine aw_cond_f rfl hb28 ?_
      refine aw_skip ?_
      refine post_next ?_
      refine aw_region ?_
      refine reg_cons (guard_no rfl) (op_load_lp (v := .ls 1) rfl rfl rfl rfl Try_one_42 rfl rfl) ?_
      refine reg_cons (guard_no rfl) (op_move rfl rfl rfl rfl) ?_
      refine reg_cons (guard_no rfl) (op_lit (rows := List.map eI ([x23] : List Int)) (zs := [.int .i64 0]) rfl rfl Try_slc_42 Try_zer_3 (by exact ⟨rfl, trivial⟩) rfl rfl rfl rfl rfl rfl rfl rfl) ?_
      obtain ⟨u29, h30, hF⟩ := bind_some hF
      refine reg_cons (guard_no rfl) (op_append 2 rfl rfl rfl rfl rfl Try_slc_42 Try_elm_3 Try_zer_3 rfl rfl rfl (room_map (f := eI) (g := eI) h30) (List.map_append (f := eI) (l₁ := x13) (l₂ := [x23])).symm rfl rfl) ?_
      refine reg_cons (guard_no rfl) (op_store_lp (n := 1) rfl rfl rfl rfl rfl (or_one Try_one_42) (by rw [Try_one_42]; rfl) rfl rfl rfl) ?_
      refine reg_nil ?_
      refine post_imp (s' := ⟨19, [(5, some (.lp 0 0))], [(0, some (.box 42 [.ls 1])), (1, some (.row 3 1 (List.map eI (x13 ++ [x23]))))], 2, [], [], 0, [5]⟩) (imp_sub [0, 2] rfl (by decide) rfl rfl ⟨by kernel_rfl, trivial⟩ ⟨by kernel_rfl, by kernel_rfl, trivial⟩ rfl rfl rfl) ?_
      refine post_block_normal ?_
      obtain rfl := Option.some.inj hF
      exact post_rnd (x13 ++ [x23]) rfl (imp_sub [0, 1, 1000000] rfl (by decide) rfl rfl ⟨by kernel_rfl, trivial⟩ ⟨by kernel_rfl, by kernel_rfl, trivial⟩ rfl rfl rfl)
  · rintro x13 rfl
    have hF := elim_next hF
    refine post_block_normal ?_
    refine post_next ?_
    refine aw_seq ?_
    refine aw_region ?_
    refine reg_cons (guard_no rfl) (op_load_lp (v := .ls 1) rfl rfl rfl rfl Try_one_42 rfl rfl) ?_
    refine reg_cons (guard_no rfl) (op_assign rfl rfl rfl rfl) ?_
    refine reg_nil ?_
    refine post_imp (s' := ⟨19, [(4, some (.ls 0))], [(0, some (.row 3 1 (List.map eI x13)))], 1, [], [], 0, []⟩) (imp_sub [1] rfl (by decide) rfl rfl ⟨by kernel_rfl, trivial⟩ ⟨by kernel_rfl, trivial⟩ rfl rfl rfl) ?_
    refine post_next ?_
    refine aw_ret ?_
    obtain rfl := Option.some.inj hF
    exact post_ret rfl rfl (.cons _ _ _ _ _ (.tmp _ _ rfl) (.own _ _ _ _ rfl nolent3) .nil) (.inl rfl)
  · rintro x32 rfl
    have hF := elim_stop hF
    show Post _ _ (.exit 0) _
    refine post_block_exit ?_
    refine post_next ?_
    refine aw_seq ?_
    refine aw_region ?_
    refine reg_cons (guard_no rfl) (op_load_lp (v := .ls 1) rfl rfl rfl rfl Try_one_42 rfl rfl) ?_
    refine reg_cons (guard_no rfl) (op_assign rfl rfl rfl rfl) ?_
    refine reg_nil ?_
    refine post_imp (s' := ⟨19, [(4, some (.ls 0))], [(0, some (.row 3 1 (List.map eI x32)))], 1, [], [], 0, []⟩) (imp_sub [1] rfl (by decide) rfl rfl ⟨by kernel_rfl, trivial⟩ ⟨by kernel_rfl, trivial⟩ rfl rfl rfl) ?_
    refine post_next ?_
    refine aw_ret ?_
    obtain rfl := Option.some.inj hF
    exact post_ret rfl rfl (.cons _ _ _ _ _ (.tmp _ _ rfl) (.own _ _ _ _ rfl nolent3) .nil) (.inl rfl)
theorem slices_Backward_int_ok {a0 : List Int} {r : (List Int)} (hF : slices_Backward_int a0 = some r) : Abs.Fn Try.prog 72 [.vs 1 (List.map eI a0)] [.p (.fn 85 [.vp ((eL 1 eI) r)])] := by
  unfold slices_Backward_int at hF
  refine fn_of_body (n := 4) Try.func72 rfl rfl rfl ?_
  intro w O
  refine aw_seq ?_
  refine aw_region ?_
  refine reg_cons (guard_no rfl) (op_box 0 rfl rfl rfl rfl rfl rfl) ?_
  refine reg_cons (guard_no rfl) (op_assign rfl rfl rfl rfl) ?_
  refine reg_nil ?_
  refine post_imp (s' := ⟨4, [(1, some (.lp 0 0))], [(0, some (.box 42 [.pv (.vs 1 (List.map eI a0))]))], 1, [], [], 0, []⟩) (imp_sub [0] rfl (by decide) rfl rfl ⟨by kernel_rfl, trivial⟩ ⟨by kernel_rfl, trivial⟩ rfl rfl rfl) ?_
  refine post_next ?_
  refine aw_seq ?_
  refine aw_region ?_
  refine reg_cons (guard_no rfl) (op_makeFunc rfl rfl rfl rfl) ?_
  refine reg_cons (guard_no rfl) (op_assign rfl rfl rfl rfl) ?_
  refine reg_nil ?_
  refine post_imp (s' := ⟨4, [(2, some (.fn 85 [.lp 0 0]))], [(0, some (.box 42 [.pv (.vs 1 (List.map eI a0))]))], 1, [], [], 0, []⟩) (imp_sub [0] rfl (by decide) rfl rfl ⟨by kernel_rfl, trivial⟩ ⟨by kernel_rfl, trivial⟩ rfl rfl rfl) ?_
  refine post_next ?_
  refine aw_ret ?_
  refine post_imp (imp_freeze [(0, some (.box 42 [.pv (.vs 1 (List.map eI a0))]))] [(2, some (.pv (.fn 85 [.vp ((eL 1 eI) a0)])))] (FzH.spec ⟨rfl, trivial⟩) ⟨⟨_, rfl, rfl⟩, trivial⟩) ?_
  obtain rfl := Option.some.inj hF
  exact post_ret rfl rfl (.cons _ _ _ _ _ (.tmp _ _ rfl) (.p _) .nil) (.inl rfl)
theorem slices_Backward_int_1_it {rows : List (Int × Int)} {sp : Nat} {c0 : List Int} (hF : slices_Backward_int_1 rows sp c0 = some (min (sp + 1) rows.length)) : It Try.prog 85 2 [.vp ((eL 1 eI) c0)] none [] (rows.map (fun z : Int × Int => ([.int .i64 z.1, .int .i64 z.2] : List PV))) sp := by
  unfold slices_Backward_int_1 at hF
  refine it_of_body (n := 19) Try.func85 rfl rfl rfl ?_
  intro l c hcx
  refine aw_seq ?_
  refine aw_region ?_
  refine reg_cons (guard_no rfl) (op_load_vp (p := .vs 1 (List.map eI c0)) rfl rfl rfl Try_one_42 rfl rfl) ?_
  refine reg_cons (guard_no rfl) (op_len_vs (n := c0.length) rfl rfl (List.length_map ..) Try_slc_42 rfl rfl) ?_
  refine reg_cons (guard_no rfl) (op_int (k := .i64) (m := (c0.length : Int)) (n := 1) rfl rfl rfl rfl rfl rfl) ?_
  refine reg_cons (guard_no rfl) (op_assign rfl rfl rfl rfl) ?_
  refine reg_nil ?_
  refine post_imp (s' := ⟨19, [(0, some (.pv (.yld l))), (1, some (.pv (.vp ((eL 1 eI) c0)))), (3, some (.pv (.int .i64 (w_i64 ((c0.length : Int) - 1)))))], [], 0, [], [], 0, []⟩) (imp_sub [] rfl (by decide) rfl rfl ⟨by kernel_rfl, by kernel_rfl, by kernel_rfl, trivial⟩ trivial rfl rfl rfl) ?_
  refine post_next ?_
  obtain ⟨lr38, hF, hK39⟩ := bind_some hF
  refine aw_for ((((w_i64 ((c0.length : Int) - 1)) : Int) - (0)).toNat + 2) (fun s1 => ∃ q, lr38 = .next q ∧ s1 = ⟨19, [], [], 0, [], [], q, []⟩) ?_ ?_
  · refine rnd_loop (α := Nat × Int) (fun q => ⟨19, [(0, some (.pv (.yld l))), (1, some (.pv (.vp ((eL 1 eI) c0)))), (3, some (.pv (.int .i64 q.2)))], [], 0, [], [], q.1, []⟩) (fun k q => slices_Backward_int_1_L1 c0 sp rows k q.1 q.2 = some lr38) (0, w_i64 ((c0.length : Int) - 1)) (imp_sub [] rfl (by decide) rfl rfl ⟨by kernel_rfl, by kernel_rfl, by kernel_rfl, trivial⟩ trivial rfl rfl rfl) hF (fun q h => by cases h) ?_
    clear hF
    rintro k ⟨x11, x12⟩ hF ih
    refine rnd_succ ?_
    refine aw_seq ?_
    refine aw_seq ?_
    refine aw_region ?_
    refine reg_cons (guard_no rfl) (op_move rfl rfl rfl rfl) ?_
    refine reg_cons (guard_no rfl) (op_int (k := .i64) (m := x12) (n := 0) rfl rfl rfl rfl rfl rfl) ?_
    refine reg_nil ?_
    refine post_imp (s' := ⟨19, [(0, some (.pv (.yld l))), (1, some (.pv (.vp ((eL 1 eI) c0)))), (3, some (.pv (.int .i64 x12))), (8, some (.pv (.bool (decide (x12 ≥ 0)))))], [], 0, [], [], x11, []⟩) (imp_sub [] rfl (by decide) rfl rfl ⟨by kernel_rfl, by kernel_rfl, by kernel_rfl, by kernel_rfl, trivial⟩ trivial rfl rfl rfl) ?_
    refine post_next ?_
    rcases ite_some hF with ⟨hb25, hF⟩ | ⟨hb25, hF⟩
    · refine aw_cond_t rfl hb25 ?_
      refine aw_skip ?_
      refine post_next ?_
      refine aw_seq ?_
      refine aw_block ?_
      refine aw_seq ?_
      refine aw_region ?_
      refine reg_cons (guard_no rfl) (op_move rfl rfl rfl rfl) ?_
      refine reg_cons (guard_no rfl) (op_move rfl rfl rfl rfl) ?_
      refine reg_cons (guard_no rfl) (op_load_vp (p := .vs 1 (List.map eI c0)) rfl rfl rfl Try_one_42 rfl rfl) ?_
      refine reg_cons (guard_no rfl) (op_move rfl rfl rfl rfl) ?_
      obtain ⟨y30, h31, hF⟩ := bind_some hF
      refine reg_cons (guard_no rfl) (op_index_vs (k := .i64) rfl rfl rfl (idx_map eI h31) Try_slc_42 rfl rfl) ?_
      refine reg_cons (guard_no rfl) (op_load_vp (p := .int .i64 y30) rfl rfl rfl Try_one_3 rfl rfl) ?_
      obtain ⟨u32, h33, hF⟩ := bind_some hF
      refine reg_cons (guard_no rfl) (op_yield (row := (fun z : Int × Int => ([.int .i64 z.1, .int .i64 z.2] : List PV)) (x12, y30)) hcx rfl rfl rfl rfl (yck_row (fun z : Int × Int => ([.int .i64 z.1, .int .i64 z.2] : List PV)) h33) (yck_spec h33).2 rfl rfl) ?_
      refine reg_cons (guard_no rfl) (op_not rfl rfl rfl rfl) ?_
      refine reg_nil ?_
      refine post_imp (s' := ⟨19, [(0, some (.pv (.yld l))), (1, some (.pv (.vp ((eL 1 eI) c0)))), (3, some (.pv (.int .i64 x12))), (18, some (.pv (.bool (!(!(x11 == sp))))))], [], 0, [], [], (x11 + 1), []⟩) (imp_sub [] rfl (by decide) rfl rfl ⟨by kernel_rfl, by kernel_rfl, by kernel_rfl, by kernel_rfl, trivial⟩ trivial rfl rfl rfl) ?_
      refine post_next ?_
      rcases ite_some hF with ⟨hb34, hF⟩ | ⟨hb34, hF⟩
      · refine aw_cond_t rfl hb34 ?_
        refine aw_ret ?_
        refine post_block_ret ?_
        refine post_then_ret ?_
        refine post_then_ret ?_
        refine post_lp_ret ?_
        obtain rfl := Option.some.inj hF
        have hF := elim_stop hK39
        exact post_it (it_len hF) rfl (.inl rfl)
      · refine aw_cond_f rfl hb34 ?_
        refine aw_skip ?_
        refine post_block_normal ?_
        refine post_next ?_
        refine aw_region ?_
        refine reg_cons (guard_no rfl) (op_move rfl rfl rfl rfl) ?_
        refine reg_cons (guard_no rfl) (op_int (k := .i64) (m := x12) (n := 1) rfl rfl rfl rfl rfl rfl) ?_
        refine reg_cons (guard_no rfl) (op_assign rfl rfl rfl rfl) ?_
        refine reg_nil ?_
        refine post_round ?_
        exact rnd_back (ih ((x11 + 1), w_i64 (x12 - 1)) hF) (imp_sub [] rfl (by decide) rfl rfl ⟨by kernel_rfl, by kernel_rfl, by kernel_rfl, trivial⟩ trivial rfl rfl rfl)
    · refine aw_cond_f rfl hb25 ?_
      refine aw_exit ?_
      refine post_then_exit ?_
      refine post_then_exit ?_
      obtain rfl := Option.some.inj hF
      exact post_lp_break _ ⟨_, rfl, rfl⟩ (imp_sub [] rfl (by decide) rfl rfl trivial trivial rfl rfl rfl)
  · rintro _ ⟨x37, rfl, rfl⟩
    have hF := elim_next hK39
    clear hK39
    exact post_it (it_len hF) rfl (.inr rfl)

end Go.Proofs.Ytpbbeljmmabeeaa
