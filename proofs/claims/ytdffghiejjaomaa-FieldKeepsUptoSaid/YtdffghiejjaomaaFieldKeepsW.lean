/- A part of the proof that the law FieldKeeps gives true for every input. -/
import Derived.Test.YtdffghiejjaomaaFieldKeepsT
import Derived.Test.YtdffghiejjaomaaFieldKeepsX
import Derived.Test.YtdffghiejjaomaaFieldKeepsI
import Derived.Test.YtdffghiejjaomaaFieldKeepsW2
/- Each Go function computes its plain function. -/
namespace Go.Proofs.Ytdffghiejjaomaa
open Go.RowKit Go.Abs
set_option maxRecDepth 100000
set_option maxHeartbeats 4000000
theorem field_Check_ok {a0 : List GClass} {r : GFault} (hF : field_Check a0 = some r) : Abs.Fn Try.prog 47 [.vs 7 (List.map eGClass a0)] [.p (.agg (eGFault r))] := by
  unfold field_Check at hF
  refine fn_of_body (n := 67) Try.func47 rfl rfl rfl ?_
  intro w O
  refine aw_seq ?_
  refine aw_region ?_
  refine reg_cons (guard_no rfl) (op_alloc 0 rfl (ps := (eGFault zGFault)) rfl Try_zer_54 (by exact ⟨rfl, rfl, trivial⟩) rfl rfl) ?_
  refine reg_nil ?_
  refine post_imp (s' := ⟨67, [(0, some (.pv (.vs 7 (List.map eGClass a0)))), (2, some (.lp 0 0))], [(0, some (.box 54 (bxv (eGFault zGFault))))], 1, [], [], 0, []⟩) (imps [0] ⟨by kernel_rfl, by kernel_rfl, trivial⟩ ⟨by kernel_rfl, trivial⟩) ?_
  refine post_next ?_
  iterate 2 (refine aw_seq ?_)
  refine aw_region ?_
  refine rmv ?_
  refine reg_cons (guard_no rfl) (op_len_vs (n := a0.length) rfl rfl (List.length_map ..) Try_slc_48 rfl rfl) ?_
  refine rmv ?_
  refine reg_nil ?_
  refine post_imp (s' := ⟨67, [(0, some (.pv (.vs 7 (List.map eGClass a0)))), (2, some (.lp 0 0)), (12, some (.pv (.vs 7 (List.map eGClass a0)))), (13, some (.pv (.int .i64 (a0.length : Int)))), (14, some (.pv (.int .i64 0)))], [(0, some (.box 54 (bxv (eGFault zGFault))))], 1, [], [], 0, []⟩) (imps [0] ⟨by kernel_rfl, by kernel_rfl, by kernel_rfl, by kernel_rfl, by kernel_rfl, trivial⟩ ⟨by kernel_rfl, trivial⟩) ?_
  refine post_next ?_
  obtain ⟨lr769, hF, hK770⟩ := bind_some hF
  refine aw_for ((((a0.length : Int) : Int) - (0)).toNat + 1) (fun s1 => ∃ q, lr769 = .next q ∧ s1 = ⟨67, [(2, some (.lp 0 0))], [(0, some (.box 54 (bxv (eGFault zGFault))))], 1, [], [], 0, []⟩) ?_ ?_
  · refine rnd_loop (α := Int) (fun q => ⟨67, [(0, some (.pv (.vs 7 (List.map eGClass a0)))), (2, some (.lp 0 0)), (12, some (.pv (.vs 7 (List.map eGClass a0)))), (13, some (.pv (.int .i64 (a0.length : Int)))), (14, some (.pv (.int .i64 q)))], [(0, some (.box 54 (bxv (eGFault zGFault))))], 1, [], [], 0, []⟩) (fun k q => field_Check_L1 a0 k q = some lr769) 0 (imps [0] ⟨by kernel_rfl, by kernel_rfl, by kernel_rfl, by kernel_rfl, by kernel_rfl, trivial⟩ ⟨by kernel_rfl, trivial⟩) hF (fun q h => by cases h) ?_
    clear hF
    rintro k x256 hF ih
    refine rnd_succ ?_
    refine aw_seq ?_
    refine aw_region ?_
    refine reg_cons (guard_no rfl) (op_int (k := .i64) (m := x256) (n := (a0.length : Int)) rfl rfl rfl rfl rfl rfl) ?_
    refine reg_nil ?_
    refine post_imp (s' := ⟨67, [(0, some (.pv (.vs 7 (List.map eGClass a0)))), (2, some (.lp 0 0)), (12, some (.pv (.vs 7 (List.map eGClass a0)))), (13, some (.pv (.int .i64 (a0.length : Int)))), (14, some (.pv (.int .i64 x256))), (15, some (.pv (.bool (decide (x256 < (a0.length : Int))))))], [(0, some (.box 54 (bxv (eGFault zGFault))))], 1, [], [], 0, []⟩) (imps [0] ⟨by kernel_rfl, by kernel_rfl, by kernel_rfl, by kernel_rfl, by kernel_rfl, by kernel_rfl, trivial⟩ ⟨by kernel_rfl, trivial⟩) ?_
    refine post_next ?_
    refine aw_seq ?_
    rcases ite_some hF with ⟨hb513, hF⟩ | ⟨hb513, hF⟩
    · refine aw_cond_t rfl hb513 ?_
      refine aw_skip ?_
      refine post_next ?_
      refine aw_seq ?_
      refine aw_block ?_
      refine aw_seq ?_
      refine aw_region ?_
      refine rmv ?_
      obtain ⟨y516, h517, hF⟩ := bind_some hF
      refine reg_cons (guard_no rfl) (op_index_vs (k := .i64) rfl rfl rfl (idx_map eGClass h517) Try_slc_48 rfl rfl) ?_
      refine reg_cons (guard_no rfl) (op_load_vp_agg (ps := eGClass y516) rfl rfl rfl rfl Try_agg_95 rfl rfl) ?_
      refine reg_cons (guard_no rfl) (op_alloc 1 rfl (ps := (eGClass zGClass)) rfl Try_zer_95 (by exact ⟨rfl, trivial, rfl, trivial, trivial, trivial, rfl, trivial⟩) rfl rfl) ?_
      refine ras ?_
      refine reg_cons (guard_no rfl) (op_store_lp (n := 7) rfl rfl rfl rfl rfl (or_agg Try_agg_95) (by rw [Try_non_95]; rfl) rfl rfl rfl) ?_
      refine reg_nil ?_
      refine post_imp (s' := ⟨67, [(0, some (.pv (.vs 7 (List.map eGClass a0)))), (2, some (.lp 0 0)), (3, some (.pv (.int .i64 x256))), (4, some (.lp 1 0)), (12, some (.pv (.vs 7 (List.map eGClass a0)))), (13, some (.pv (.int .i64 (a0.length : Int)))), (14, some (.pv (.int .i64 x256)))], [(0, some (.box 54 (bxv (eGFault zGFault)))), (1, some (.box 95 (bxv (eGClass y516))))], 2, [], [], 0, []⟩) (imps [0, 1] ⟨by kernel_rfl, by kernel_rfl, by kernel_rfl, by kernel_rfl, by kernel_rfl, by kernel_rfl, by kernel_rfl, trivial⟩ ⟨by kernel_rfl, by kernel_rfl, trivial⟩) ?_
      refine post_next ?_
      refine aw_seq ?_
      refine aw_region ?_
      refine reg_cons (guard_no rfl) (op_makeMap 2 rfl rfl Try_map_106 rfl rfl) ?_
      refine ras ?_
      refine reg_nil ?_
      refine post_imp (s' := ⟨67, [(0, some (.pv (.vs 7 (List.map eGClass a0)))), (2, some (.lp 0 0)), (3, some (.pv (.int .i64 x256))), (4, some (.lp 1 0)), (5, some (.ls 2)), (12, some (.pv (.vs 7 (List.map eGClass a0)))), (13, some (.pv (.int .i64 (a0.length : Int)))), (14, some (.pv (.int .i64 x256)))], [(0, some (.box 54 (bxv (eGFault zGFault)))), (1, some (.box 95 (bxv (eGClass y516)))), (2, some (.dict Try.prog 106 0 (fun _ => 0)))], 3, [], [], 0, []⟩) (imps [0, 1, 2] ⟨by kernel_rfl, by kernel_rfl, by kernel_rfl, by kernel_rfl, by kernel_rfl, by kernel_rfl, by kernel_rfl, by kernel_rfl, trivial⟩ ⟨by kernel_rfl, by kernel_rfl, by kernel_rfl, trivial⟩) ?_
      refine post_next ?_
      iterate 2 (refine aw_seq ?_)
      refine aw_region ?_
      refine rmv ?_
      refine reg_cons (guard_no rfl) (op_field_lp rfl rfl Try_fld_95_0 rfl rfl) ?_
      refine reg_cons (guard_no rfl) (op_load_lp (v := .pv (.str y516.fName)) rfl rfl rfl rfl Try_one_9 rfl rfl) ?_
      obtain ⟨y520, h521, hF⟩ := bind_some hF
      refine reg_cons (guard_no rfl) (op_call 3 rfl (caps := []) (args := [.vs 7 (List.map eGClass a0), .str y516.fName]) (rs := [.p (.vs 1 (List.map eI y520))]) rfl rfl rfl Try_cal_33 (Fn.frozen (above_Chain_ok h521)) rfl rfl rfl) ?_
      refine reg_cons (guard_no rfl) (op_len_vs (n := y520.length) rfl rfl (List.length_map ..) Try_slc_50 rfl rfl) ?_
      refine rmv ?_
      refine reg_nil ?_
      refine post_imp (s' := ⟨67, [(0, some (.pv (.vs 7 (List.map eGClass a0)))), (2, some (.lp 0 0)), (3, some (.pv (.int .i64 x256))), (4, some (.lp 1 0)), (5, some (.ls 2)), (12, some (.pv (.vs 7 (List.map eGClass a0)))), (13, some (.pv (.int .i64 (a0.length : Int)))), (14, some (.pv (.int .i64 x256))), (23, some (.pv (.vs 1 (List.map eI y520)))), (24, some (.pv (.int .i64 (y520.length : Int)))), (25, some (.pv (.int .i64 0)))], [(0, some (.box 54 (bxv (eGFault zGFault)))), (1, some (.box 95 (bxv (eGClass y516)))), (2, some (.dict Try.prog 106 0 (fun _ => 0)))], 3, [], [], 0, []⟩) (imps [0, 1, 2] ⟨by kernel_rfl, by kernel_rfl, by kernel_rfl, by kernel_rfl, by kernel_rfl, by kernel_rfl, by kernel_rfl, by kernel_rfl, by kernel_rfl, by kernel_rfl, by kernel_rfl, trivial⟩ ⟨by kernel_rfl, by kernel_rfl, by kernel_rfl, trivial⟩) ?_
      refine post_next ?_
      obtain ⟨lr731, hF, hK732⟩ := bind_some hF
      refine aw_for ((((y520.length : Int) : Int) - (0)).toNat + 1) (fun s1 => s1 = ⟨67, [(0, some (.pv (.vs 7 (List.map eGClass a0)))), (2, some (.lp 0 0)), (4, some (.lp 1 0)), (5, some (.ls 2)), (12, some (.pv (.vs 7 (List.map eGClass a0)))), (13, some (.pv (.int .i64 (a0.length : Int)))), (14, some (.pv (.int .i64 x256)))], [(0, some (.box 54 (bxv (eGFault zGFault)))), (1, some (.box 95 (bxv (eGClass y516)))), (2, some (.dict Try.prog 106 lr731.1 lr731.2))], 3, [], [], 0, []⟩) ?_ ?_
      · refine rnd_loop (α := Nat × (List UInt8 → Int) × Int) (fun q => ⟨67, [(0, some (.pv (.vs 7 (List.map eGClass a0)))), (2, some (.lp 0 0)), (3, some (.pv (.int .i64 x256))), (4, some (.lp 1 0)), (5, some (.ls 2)), (12, some (.pv (.vs 7 (List.map eGClass a0)))), (13, some (.pv (.int .i64 (a0.length : Int)))), (14, some (.pv (.int .i64 x256))), (23, some (.pv (.vs 1 (List.map eI y520)))), (24, some (.pv (.int .i64 (y520.length : Int)))), (25, some (.pv (.int .i64 q.2.2)))], [(0, some (.box 54 (bxv (eGFault zGFault)))), (1, some (.box 95 (bxv (eGClass y516)))), (2, some (.dict Try.prog 106 q.1 q.2.1))], 3, [], [], 0, []⟩) (fun k q => field_Check_L2 a0 x256 y520 k q.1 q.2.1 q.2.2 = some lr731) (0, (fun _ => 0), 0) (imps [0, 1, 2] ⟨by kernel_rfl, by kernel_rfl, by kernel_rfl, by kernel_rfl, by kernel_rfl, by kernel_rfl, by kernel_rfl, by kernel_rfl, by kernel_rfl, by kernel_rfl, by kernel_rfl, trivial⟩ ⟨by kernel_rfl, by kernel_rfl, by kernel_rfl, trivial⟩) hF (fun q h => by cases h) ?_
        clear hF
        rintro k ⟨x588, x589, x590⟩ hF ih
        refine rnd_succ ?_
        refine aw_seq ?_
        refine aw_region ?_
        refine reg_cons (guard_no rfl) (op_int (k := .i64) (m := x590) (n := (y520.length : Int)) rfl rfl rfl rfl rfl rfl) ?_
        refine reg_nil ?_
        refine post_imp (s' := ⟨67, [(0, some (.pv (.vs 7 (List.map eGClass a0)))), (2, some (.lp 0 0)), (3, some (.pv (.int .i64 x256))), (4, some (.lp 1 0)), (5, some (.ls 2)), (12, some (.pv (.vs 7 (List.map eGClass a0)))), (13, some (.pv (.int .i64 (a0.length : Int)))), (14, some (.pv (.int .i64 x256))), (23, some (.pv (.vs 1 (List.map eI y520)))), (24, some (.pv (.int .i64 (y520.length : Int)))), (25, some (.pv (.int .i64 x590))), (26, some (.pv (.bool (decide (x590 < (y520.length : Int))))))], [(0, some (.box 54 (bxv (eGFault zGFault)))), (1, some (.box 95 (bxv (eGClass y516)))), (2, some (.dict Try.prog 106 x588 x589))], 3, [], [], 0, []⟩) (imps [0, 1, 2] ⟨by kernel_rfl, by kernel_rfl, by kernel_rfl, by kernel_rfl, by kernel_rfl, by kernel_rfl, by kernel_rfl, by kernel_rfl, by kernel_rfl, by kernel_rfl, by kernel_rfl, by kernel_rfl, trivial⟩ ⟨by kernel_rfl, by kernel_rfl, by kernel_rfl, trivial⟩) ?_
        refine post_next ?_
        refine aw_seq ?_
        rcases ite_some hF with ⟨hb660, hF⟩ | ⟨hb660, hF⟩
        · refine aw_cond_t rfl hb660 ?_
          refine aw_skip ?_
          refine post_next ?_
          refine aw_seq ?_
          obtain ⟨p724, hF, hK725⟩ := bind_some hF
          obtain ⟨x722, x723⟩ := p724
          refine aw_cut (fun s1 => s1 = ⟨67, [(0, some (.pv (.vs 7 (List.map eGClass a0)))), (2, some (.lp 0 0)), (3, some (.pv (.int .i64 x256))), (4, some (.lp 1 0)), (5, some (.ls 2)), (12, some (.pv (.vs 7 (List.map eGClass a0)))), (13, some (.pv (.int .i64 (a0.length : Int)))), (14, some (.pv (.int .i64 x256))), (23, some (.pv (.vs 1 (List.map eI y520)))), (24, some (.pv (.int .i64 (y520.length : Int)))), (25, some (.pv (.int .i64 x590)))], [(0, some (.box 54 (bxv (eGFault zGFault)))), (1, some (.box 95 (bxv (eGClass y516)))), (2, some (.dict Try.prog 106 x722 x723))], 3, [], [], 0, []⟩) ?_ ?_
          · refine aw_block ?_
            refine aw_seq ?_
            refine aw_region ?_
            obtain ⟨y663, h664, hF⟩ := bind_some hF
            refine reg_cons (guard_no rfl) (op_index_vs (k := .i64) rfl rfl rfl (idx_map eI h664) Try_slc_50 rfl rfl) ?_
            refine reg_cons (guard_no rfl) (op_load_vp (p := .int .i64 y663) rfl rfl rfl Try_one_3 rfl rfl) ?_
            refine ras ?_
            refine reg_nil ?_
            refine post_imp (s' := ⟨67, [(0, some (.pv (.vs 7 (List.map eGClass a0)))), (2, some (.lp 0 0)), (3, some (.pv (.int .i64 x256))), (4, some (.lp 1 0)), (5, some (.ls 2)), (7, some (.pv (.int .i64 y663))), (12, some (.pv (.vs 7 (List.map eGClass a0)))), (13, some (.pv (.int .i64 (a0.length : Int)))), (14, some (.pv (.int .i64 x256))), (23, some (.pv (.vs 1 (List.map eI y520)))), (24, some (.pv (.int .i64 (y520.length : Int)))), (25, some (.pv (.int .i64 x590)))], [(0, some (.box 54 (bxv (eGFault zGFault)))), (1, some (.box 95 (bxv (eGClass y516)))), (2, some (.dict Try.prog 106 x588 x589))], 3, [], [], 0, []⟩) (imps [0, 1, 2] ⟨by kernel_rfl, by kernel_rfl, by kernel_rfl, by kernel_rfl, by kernel_rfl, by kernel_rfl, by kernel_rfl, by kernel_rfl, by kernel_rfl, by kernel_rfl, by kernel_rfl, by kernel_rfl, trivial⟩ ⟨by kernel_rfl, by kernel_rfl, by kernel_rfl, trivial⟩) ?_
            refine post_next ?_
            iterate 2 (refine aw_seq ?_)
            refine aw_region ?_
            iterate 2 (refine rmv ?_)
            refine reg_cons (guard_no rfl) (op_int (k := .i64) (m := y663) (n := x256) rfl rfl rfl rfl rfl rfl) ?_
            refine reg_nil ?_
            refine post_imp (s' := ⟨67, [(0, some (.pv (.vs 7 (List.map eGClass a0)))), (2, some (.lp 0 0)), (3, some (.pv (.int .i64 x256))), (4, some (.lp 1 0)), (5, some (.ls 2)), (7, some (.pv (.int .i64 y663))), (12, some (.pv (.vs 7 (List.map eGClass a0)))), (13, some (.pv (.int .i64 (a0.length : Int)))), (14, some (.pv (.int .i64 x256))), (23, some (.pv (.vs 1 (List.map eI y520)))), (24, some (.pv (.int .i64 (y520.length : Int)))), (25, some (.pv (.int .i64 x590))), (31, some (.pv (.bool (y663 == x256))))], [(0, some (.box 54 (bxv (eGFault zGFault)))), (1, some (.box 95 (bxv (eGClass y516)))), (2, some (.dict Try.prog 106 x588 x589))], 3, [], [], 0, []⟩) (imps [0, 1, 2] ⟨by kernel_rfl, by kernel_rfl, by kernel_rfl, by kernel_rfl, by kernel_rfl, by kernel_rfl, by kernel_rfl, by kernel_rfl, by kernel_rfl, by kernel_rfl, by kernel_rfl, by kernel_rfl, by kernel_rfl, trivial⟩ ⟨by kernel_rfl, by kernel_rfl, by kernel_rfl, trivial⟩) ?_
            refine post_next ?_
            rcases ite_some hF with ⟨hb665, hF⟩ | ⟨hb665, hF⟩
            · refine aw_cond_t rfl hb665 ?_
              refine aw_exit ?_
              refine post_then_exit ?_
              refine post_block_exit ?_
              cases hF
              exact post_cut _ rfl (imps [0, 1, 2] ⟨by kernel_rfl, by kernel_rfl, by kernel_rfl, by kernel_rfl, by kernel_rfl, by kernel_rfl, by kernel_rfl, by kernel_rfl, by kernel_rfl, by kernel_rfl, by kernel_rfl, trivial⟩ ⟨by kernel_rfl, by kernel_rfl, by kernel_rfl, trivial⟩)
            refine aw_cond_f rfl hb665 ?_
            refine aw_skip ?_
            refine post_next ?_
            refine aw_seq ?_
            refine aw_region ?_
            iterate 2 (refine rmv ?_)
            obtain ⟨y668, h669, hF⟩ := bind_some hF
            refine reg_cons (guard_no rfl) (op_index_vs (k := .i64) rfl rfl rfl (idx_map eGClass h669) Try_slc_48 rfl rfl) ?_
            refine reg_cons (guard_no rfl) (op_field_vp rfl rfl Try_fld_95_4 rfl rfl) ?_
            refine reg_cons (guard_no rfl) (op_load_vp (p := .vs 13 (List.map eGVar y668.fFields)) rfl rfl rfl Try_one_92 rfl rfl) ?_
            refine reg_cons (guard_no rfl) (op_len_vs (n := y668.fFields.length) rfl rfl (List.length_map ..) Try_slc_92 rfl rfl) ?_
            refine rmv ?_
            refine reg_nil ?_
            refine post_imp (s' := ⟨67, [(0, some (.pv (.vs 7 (List.map eGClass a0)))), (2, some (.lp 0 0)), (3, some (.pv (.int .i64 x256))), (4, some (.lp 1 0)), (5, some (.ls 2)), (12, some (.pv (.vs 7 (List.map eGClass a0)))), (13, some (.pv (.int .i64 (a0.length : Int)))), (14, some (.pv (.int .i64 x256))), (23, some (.pv (.vs 1 (List.map eI y520)))), (24, some (.pv (.int .i64 (y520.length : Int)))), (25, some (.pv (.int .i64 x590))), (36, some (.pv (.vs 13 (List.map eGVar y668.fFields)))), (37, some (.pv (.int .i64 (y668.fFields.length : Int)))), (38, some (.pv (.int .i64 0)))], [(0, some (.box 54 (bxv (eGFault zGFault)))), (1, some (.box 95 (bxv (eGClass y516)))), (2, some (.dict Try.prog 106 x588 x589))], 3, [], [], 0, []⟩) (imps [0, 1, 2] ⟨by kernel_rfl, by kernel_rfl, by kernel_rfl, by kernel_rfl, by kernel_rfl, by kernel_rfl, by kernel_rfl, by kernel_rfl, by kernel_rfl, by kernel_rfl, by kernel_rfl, by kernel_rfl, by kernel_rfl, by kernel_rfl, trivial⟩ ⟨by kernel_rfl, by kernel_rfl, by kernel_rfl, trivial⟩) ?_
            refine post_next ?_
            obtain ⟨lr720, hF, hK721⟩ := bind_some hF
            refine aw_for ((((y668.fFields.length : Int) : Int) - (0)).toNat + 1) (fun s1 => s1 = ⟨67, [(0, some (.pv (.vs 7 (List.map eGClass a0)))), (2, some (.lp 0 0)), (3, some (.pv (.int .i64 x256))), (4, some (.lp 1 0)), (5, some (.ls 2)), (12, some (.pv (.vs 7 (List.map eGClass a0)))), (13, some (.pv (.int .i64 (a0.length : Int)))), (14, some (.pv (.int .i64 x256))), (23, some (.pv (.vs 1 (List.map eI y520)))), (24, some (.pv (.int .i64 (y520.length : Int)))), (25, some (.pv (.int .i64 x590)))], [(0, some (.box 54 (bxv (eGFault zGFault)))), (1, some (.box 95 (bxv (eGClass y516)))), (2, some (.dict Try.prog 106 lr720.1 lr720.2))], 3, [], [], 0, []⟩) ?_ ?_
            · refine rnd_loop (α := Nat × (List UInt8 → Int) × Int) (fun q => ⟨67, [(0, some (.pv (.vs 7 (List.map eGClass a0)))), (2, some (.lp 0 0)), (3, some (.pv (.int .i64 x256))), (4, some (.lp 1 0)), (5, some (.ls 2)), (12, some (.pv (.vs 7 (List.map eGClass a0)))), (13, some (.pv (.int .i64 (a0.length : Int)))), (14, some (.pv (.int .i64 x256))), (23, some (.pv (.vs 1 (List.map eI y520)))), (24, some (.pv (.int .i64 (y520.length : Int)))), (25, some (.pv (.int .i64 x590))), (36, some (.pv (.vs 13 (List.map eGVar y668.fFields)))), (37, some (.pv (.int .i64 (y668.fFields.length : Int)))), (38, some (.pv (.int .i64 q.2.2)))], [(0, some (.box 54 (bxv (eGFault zGFault)))), (1, some (.box 95 (bxv (eGClass y516)))), (2, some (.dict Try.prog 106 q.1 q.2.1))], 3, [], [], 0, []⟩) (fun k q => field_Check_L3 y668 k q.1 q.2.1 q.2.2 = some lr720) (x588, x589, 0) (imps [0, 1, 2] ⟨by kernel_rfl, by kernel_rfl, by kernel_rfl, by kernel_rfl, by kernel_rfl, by kernel_rfl, by kernel_rfl, by kernel_rfl, by kernel_rfl, by kernel_rfl, by kernel_rfl, by kernel_rfl, by kernel_rfl, by kernel_rfl, trivial⟩ ⟨by kernel_rfl, by kernel_rfl, by kernel_rfl, trivial⟩) hF (fun q h => by cases h) ?_
              clear hF
              rintro k ⟨x683, x684, x685⟩ hF ih
              refine rnd_succ ?_
              refine aw_seq ?_
              refine aw_region ?_
              refine reg_cons (guard_no rfl) (op_int (k := .i64) (m := x685) (n := (y668.fFields.length : Int)) rfl rfl rfl rfl rfl rfl) ?_
              refine reg_nil ?_
              refine post_imp (s' := ⟨67, [(0, some (.pv (.vs 7 (List.map eGClass a0)))), (2, some (.lp 0 0)), (3, some (.pv (.int .i64 x256))), (4, some (.lp 1 0)), (5, some (.ls 2)), (12, some (.pv (.vs 7 (List.map eGClass a0)))), (13, some (.pv (.int .i64 (a0.length : Int)))), (14, some (.pv (.int .i64 x256))), (23, some (.pv (.vs 1 (List.map eI y520)))), (24, some (.pv (.int .i64 (y520.length : Int)))), (25, some (.pv (.int .i64 x590))), (36, some (.pv (.vs 13 (List.map eGVar y668.fFields)))), (37, some (.pv (.int .i64 (y668.fFields.length : Int)))), (38, some (.pv (.int .i64 x685))), (39, some (.pv (.bool (decide (x685 < (y668.fFields.length : Int))))))], [(0, some (.box 54 (bxv (eGFault zGFault)))), (1, some (.box 95 (bxv (eGClass y516)))), (2, some (.dict Try.prog 106 x683 x684))], 3, [], [], 0, []⟩) (imps [0, 1, 2] ⟨by kernel_rfl, by kernel_rfl, by kernel_rfl, by kernel_rfl, by kernel_rfl, by kernel_rfl, by kernel_rfl, by kernel_rfl, by kernel_rfl, by kernel_rfl, by kernel_rfl, by kernel_rfl, by kernel_rfl, by kernel_rfl, by kernel_rfl, trivial⟩ ⟨by kernel_rfl, by kernel_rfl, by kernel_rfl, trivial⟩) ?_
              refine post_next ?_
              refine aw_seq ?_
              rcases ite_some hF with ⟨hb702, hF⟩ | ⟨hb702, hF⟩
              · refine aw_cond_t rfl hb702 ?_
                refine aw_skip ?_
                refine post_next ?_
                refine aw_seq ?_
                refine aw_block ?_
                refine aw_seq ?_
                refine aw_region ?_
                obtain ⟨y705, h706, hF⟩ := bind_some hF
                refine reg_cons (guard_no rfl) (op_index_vs (k := .i64) rfl rfl rfl (idx_map eGVar h706) Try_slc_92 rfl rfl) ?_
                refine reg_cons (guard_no rfl) (op_load_vp_agg (ps := eGVar y705) rfl rfl rfl rfl Try_agg_69 rfl rfl) ?_
                refine reg_cons (guard_no rfl) (op_alloc 3 rfl (ps := (eGVar zGVar)) rfl Try_zer_69 (by exact ⟨rfl, rfl, rfl, rfl, rfl, rfl, rfl, rfl, rfl, rfl, rfl, rfl, rfl, trivial⟩) rfl rfl) ?_
                refine reg_cons (guard_no rfl) (op_store_lp (n := 13) rfl rfl rfl rfl rfl (or_agg Try_agg_69) (by rw [Try_non_69]; rfl) rfl rfl rfl) ?_
                refine reg_nil ?_
                refine post_imp (s' := ⟨67, [(0, some (.pv (.vs 7 (List.map eGClass a0)))), (2, some (.lp 0 0)), (3, some (.pv (.int .i64 x256))), (4, some (.lp 1 0)), (5, some (.ls 2)), (9, some (.lp 3 0)), (12, some (.pv (.vs 7 (List.map eGClass a0)))), (13, some (.pv (.int .i64 (a0.length : Int)))), (14, some (.pv (.int .i64 x256))), (23, some (.pv (.vs 1 (List.map eI y520)))), (24, some (.pv (.int .i64 (y520.length : Int)))), (25, some (.pv (.int .i64 x590))), (36, some (.pv (.vs 13 (List.map eGVar y668.fFields)))), (37, some (.pv (.int .i64 (y668.fFields.length : Int)))), (38, some (.pv (.int .i64 x685)))], [(0, some (.box 54 (bxv (eGFault zGFault)))), (1, some (.box 95 (bxv (eGClass y516)))), (2, some (.dict Try.prog 106 x683 x684)), (3, some (.box 69 (bxv (eGVar y705))))], 4, [], [], 0, []⟩) (imps [0, 1, 2, 3] ⟨by kernel_rfl, by kernel_rfl, by kernel_rfl, by kernel_rfl, by kernel_rfl, by kernel_rfl, by kernel_rfl, by kernel_rfl, by kernel_rfl, by kernel_rfl, by kernel_rfl, by kernel_rfl, by kernel_rfl, by kernel_rfl, by kernel_rfl, trivial⟩ ⟨by kernel_rfl, by kernel_rfl, by kernel_rfl, by kernel_rfl, trivial⟩) ?_
                refine post_next ?_
                refine aw_region ?_
                refine rmv ?_
                refine reg_cons (guard_no rfl) (op_field_lp rfl rfl Try_fld_69_0 rfl rfl) ?_
                refine reg_cons (guard_no rfl) (op_load_lp (v := .pv (.str y705.fName)) rfl rfl rfl rfl Try_one_9 rfl rfl) ?_
                obtain ⟨y711, h712, hF⟩ := bind_some hF
                refine reg_cons (guard_no rfl) (op_lookup rfl rfl rfl rfl Try_map_106 Try_zer_3 h712 rfl rfl) ?_
                refine reg_cons (guard_no rfl) (op_int (k := .i64) (m := y711) (n := 1) rfl rfl rfl rfl rfl rfl) ?_
                obtain ⟨y713, h714, hF⟩ := bind_some hF
                refine reg_cons (guard_no rfl) (op_mapUpdate rfl rfl rfl rfl rfl Try_map_106 h714 rfl) ?_
                refine reg_nil ?_
                refine post_imp (s' := ⟨67, [(0, some (.pv (.vs 7 (List.map eGClass a0)))), (2, some (.lp 0 0)), (3, some (.pv (.int .i64 x256))), (4, some (.lp 1 0)), (5, some (.ls 2)), (12, some (.pv (.vs 7 (List.map eGClass a0)))), (13, some (.pv (.int .i64 (a0.length : Int)))), (14, some (.pv (.int .i64 x256))), (23, some (.pv (.vs 1 (List.map eI y520)))), (24, some (.pv (.int .i64 (y520.length : Int)))), (25, some (.pv (.int .i64 x590))), (36, some (.pv (.vs 13 (List.map eGVar y668.fFields)))), (37, some (.pv (.int .i64 (y668.fFields.length : Int)))), (38, some (.pv (.int .i64 x685)))], [(0, some (.box 54 (bxv (eGFault zGFault)))), (1, some (.box 95 (bxv (eGClass y516)))), (2, some (.dict Try.prog 106 (x683 + 1) y713))], 3, [], [], 0, []⟩) (imps [0, 1, 2] ⟨by kernel_rfl, by kernel_rfl, by kernel_rfl, by kernel_rfl, by kernel_rfl, by kernel_rfl, by kernel_rfl, by kernel_rfl, by kernel_rfl, by kernel_rfl, by kernel_rfl, by kernel_rfl, by kernel_rfl, by kernel_rfl, trivial⟩ ⟨by kernel_rfl, by kernel_rfl, by kernel_rfl, trivial⟩) ?_
                refine post_block_normal ?_
                refine post_next ?_
                refine aw_region ?_
                refine reg_cons (guard_no rfl) (op_int (k := .i64) (m := x685) (n := 1) rfl rfl rfl rfl rfl rfl) ?_
                refine rmv ?_
                refine reg_nil ?_
                refine post_round ?_
                exact rnd_back (ih ((x683 + 1), y713, w_i64 (x685 + 1)) hF) (imps [0, 1, 2] ⟨by kernel_rfl, by kernel_rfl, by kernel_rfl, by kernel_rfl, by kernel_rfl, by kernel_rfl, by kernel_rfl, by kernel_rfl, by kernel_rfl, by kernel_rfl, by kernel_rfl, by kernel_rfl, by kernel_rfl, by kernel_rfl, trivial⟩ ⟨by kernel_rfl, by kernel_rfl, by kernel_rfl, trivial⟩)
              refine aw_cond_f rfl hb702 ?_
              refine aw_exit ?_
              iterate 2 (refine post_then_exit ?_)
              obtain rfl := Option.some.inj hF
              exact post_lp_break _ rfl (imps [0, 1, 2] ⟨by kernel_rfl, by kernel_rfl, by kernel_rfl, by kernel_rfl, by kernel_rfl, by kernel_rfl, by kernel_rfl, by kernel_rfl, by kernel_rfl, by kernel_rfl, by kernel_rfl, trivial⟩ ⟨by kernel_rfl, by kernel_rfl, by kernel_rfl, trivial⟩)
            rintro _ rfl
            have hF := hK721
            clear hK721
            obtain ⟨x718, x719⟩ := lr720
            refine post_block_normal ?_
            cases hF
            exact post_cut _ rfl (imps [0, 1, 2] ⟨by kernel_rfl, by kernel_rfl, by kernel_rfl, by kernel_rfl, by kernel_rfl, by kernel_rfl, by kernel_rfl, by kernel_rfl, by kernel_rfl, by kernel_rfl, by kernel_rfl, trivial⟩ ⟨by kernel_rfl, by kernel_rfl, by kernel_rfl, trivial⟩)
          rintro _ rfl
          have hF := hK725
          clear hK725
          refine post_next ?_
          refine aw_region ?_
          refine reg_cons (guard_no rfl) (op_int (k := .i64) (m := x590) (n := 1) rfl rfl rfl rfl rfl rfl) ?_
          refine rmv ?_
          refine reg_nil ?_
          refine post_round ?_
          exact rnd_back (ih (x722, x723, w_i64 (x590 + 1)) hF) (imps [0, 1, 2] ⟨by kernel_rfl, by kernel_rfl, by kernel_rfl, by kernel_rfl, by kernel_rfl, by kernel_rfl, by kernel_rfl, by kernel_rfl, by kernel_rfl, by kernel_rfl, by kernel_rfl, trivial⟩ ⟨by kernel_rfl, by kernel_rfl, by kernel_rfl, trivial⟩)
        refine aw_cond_f rfl hb660 ?_
        refine aw_exit ?_
        iterate 2 (refine post_then_exit ?_)
        obtain rfl := Option.some.inj hF
        exact post_lp_break _ rfl (imps [0, 1, 2] ⟨by kernel_rfl, by kernel_rfl, by kernel_rfl, by kernel_rfl, by kernel_rfl, by kernel_rfl, by kernel_rfl, trivial⟩ ⟨by kernel_rfl, by kernel_rfl, by kernel_rfl, trivial⟩)
      rintro _ rfl
      have hF := hK732
      clear hK732
      obtain ⟨x729, x730⟩ := lr731
      refine post_next ?_
      refine aw_seq ?_
      refine aw_region ?_
      refine reg_cons (guard_no rfl) (op_field_lp rfl rfl Try_fld_95_4 rfl rfl) ?_
      refine reg_cons (guard_no rfl) (op_load_lp (v := .pv (.vs 13 (List.map eGVar y516.fFields))) rfl rfl rfl rfl Try_one_92 rfl rfl) ?_
      refine reg_cons (guard_no rfl) (op_len_vs (n := y516.fFields.length) rfl rfl (List.length_map ..) Try_slc_92 rfl rfl) ?_
      refine rmv ?_
      refine reg_nil ?_
      refine post_imp (s' := ⟨67, [(0, some (.pv (.vs 7 (List.map eGClass a0)))), (2, some (.lp 0 0)), (5, some (.ls 1)), (12, some (.pv (.vs 7 (List.map eGClass a0)))), (13, some (.pv (.int .i64 (a0.length : Int)))), (14, some (.pv (.int .i64 x256))), (50, some (.pv (.vs 13 (List.map eGVar y516.fFields)))), (51, some (.pv (.int .i64 (y516.fFields.length : Int)))), (52, some (.pv (.int .i64 0)))], [(0, some (.box 54 (bxv (eGFault zGFault)))), (1, some (.dict Try.prog 106 x729 x730))], 2, [], [], 0, []⟩) (imps [0, 2] ⟨by kernel_rfl, by kernel_rfl, by kernel_rfl, by kernel_rfl, by kernel_rfl, by kernel_rfl, by kernel_rfl, by kernel_rfl, by kernel_rfl, trivial⟩ ⟨by kernel_rfl, by kernel_rfl, trivial⟩) ?_
      refine post_next ?_
      obtain ⟨lr766, hF, hK767⟩ := bind_some hF
      refine aw_for ((((y516.fFields.length : Int) : Int) - (0)).toNat + 1) (fun s1 => ∃ q, lr766 = .next q ∧ s1 = ⟨67, [(0, some (.pv (.vs 7 (List.map eGClass a0)))), (2, some (.lp 0 0)), (12, some (.pv (.vs 7 (List.map eGClass a0)))), (13, some (.pv (.int .i64 (a0.length : Int)))), (14, some (.pv (.int .i64 x256)))], [(0, some (.box 54 (bxv (eGFault zGFault))))], 1, [], [], 0, []⟩) ?_ ?_
      · refine rnd_loop (α := Int) (fun q => ⟨67, [(0, some (.pv (.vs 7 (List.map eGClass a0)))), (2, some (.lp 0 0)), (5, some (.ls 1)), (12, some (.pv (.vs 7 (List.map eGClass a0)))), (13, some (.pv (.int .i64 (a0.length : Int)))), (14, some (.pv (.int .i64 x256))), (50, some (.pv (.vs 13 (List.map eGVar y516.fFields)))), (51, some (.pv (.int .i64 (y516.fFields.length : Int)))), (52, some (.pv (.int .i64 q)))], [(0, some (.box 54 (bxv (eGFault zGFault)))), (1, some (.dict Try.prog 106 x729 x730))], 2, [], [], 0, []⟩) (fun k q => field_Check_L4 x730 y516 k q = some lr766) 0 (imps [0, 1] ⟨by kernel_rfl, by kernel_rfl, by kernel_rfl, by kernel_rfl, by kernel_rfl, by kernel_rfl, by kernel_rfl, by kernel_rfl, by kernel_rfl, trivial⟩ ⟨by kernel_rfl, by kernel_rfl, trivial⟩) hF (fun q h => by cases h) ?_
        clear hF
        rintro k x743 hF ih
        refine rnd_succ ?_
        refine aw_seq ?_
        refine aw_region ?_
        refine reg_cons (guard_no rfl) (op_int (k := .i64) (m := x743) (n := (y516.fFields.length : Int)) rfl rfl rfl rfl rfl rfl) ?_
        refine reg_nil ?_
        refine post_imp (s' := ⟨67, [(0, some (.pv (.vs 7 (List.map eGClass a0)))), (2, some (.lp 0 0)), (5, some (.ls 1)), (12, some (.pv (.vs 7 (List.map eGClass a0)))), (13, some (.pv (.int .i64 (a0.length : Int)))), (14, some (.pv (.int .i64 x256))), (50, some (.pv (.vs 13 (List.map eGVar y516.fFields)))), (51, some (.pv (.int .i64 (y516.fFields.length : Int)))), (52, some (.pv (.int .i64 x743))), (53, some (.pv (.bool (decide (x743 < (y516.fFields.length : Int))))))], [(0, some (.box 54 (bxv (eGFault zGFault)))), (1, some (.dict Try.prog 106 x729 x730))], 2, [], [], 0, []⟩) (imps [0, 1] ⟨by kernel_rfl, by kernel_rfl, by kernel_rfl, by kernel_rfl, by kernel_rfl, by kernel_rfl, by kernel_rfl, by kernel_rfl, by kernel_rfl, by kernel_rfl, trivial⟩ ⟨by kernel_rfl, by kernel_rfl, trivial⟩) ?_
        refine post_next ?_
        refine aw_seq ?_
        rcases ite_some hF with ⟨hb755, hF⟩ | ⟨hb755, hF⟩
        · refine aw_cond_t rfl hb755 ?_
          refine aw_skip ?_
          refine post_next ?_
          refine aw_seq ?_
          refine aw_block ?_
          refine aw_seq ?_
          refine aw_region ?_
          obtain ⟨y758, h759, hF⟩ := bind_some hF
          refine reg_cons (guard_no rfl) (op_index_vs (k := .i64) rfl rfl rfl (idx_map eGVar h759) Try_slc_92 rfl rfl) ?_
          refine reg_cons (guard_no rfl) (op_load_vp_agg (ps := eGVar y758) rfl rfl rfl rfl Try_agg_69 rfl rfl) ?_
          refine reg_cons (guard_no rfl) (op_alloc 2 rfl (ps := (eGVar zGVar)) rfl Try_zer_69 (by exact ⟨rfl, rfl, rfl, rfl, rfl, rfl, rfl, rfl, rfl, rfl, rfl, rfl, rfl, trivial⟩) rfl rfl) ?_
          refine reg_cons (guard_no rfl) (op_store_lp (n := 13) rfl rfl rfl rfl rfl (or_agg Try_agg_69) (by rw [Try_non_69]; rfl) rfl rfl rfl) ?_
          refine reg_nil ?_
          refine post_imp (s' := ⟨67, [(0, some (.pv (.vs 7 (List.map eGClass a0)))), (2, some (.lp 0 0)), (5, some (.ls 1)), (11, some (.lp 2 0)), (12, some (.pv (.vs 7 (List.map eGClass a0)))), (13, some (.pv (.int .i64 (a0.length : Int)))), (14, some (.pv (.int .i64 x256))), (50, some (.pv (.vs 13 (List.map eGVar y516.fFields)))), (51, some (.pv (.int .i64 (y516.fFields.length : Int)))), (52, some (.pv (.int .i64 x743)))], [(0, some (.box 54 (bxv (eGFault zGFault)))), (1, some (.dict Try.prog 106 x729 x730)), (2, some (.box 69 (bxv (eGVar y758))))], 3, [], [], 0, []⟩) (imps [0, 1, 2] ⟨by kernel_rfl, by kernel_rfl, by kernel_rfl, by kernel_rfl, by kernel_rfl, by kernel_rfl, by kernel_rfl, by kernel_rfl, by kernel_rfl, by kernel_rfl, trivial⟩ ⟨by kernel_rfl, by kernel_rfl, by kernel_rfl, trivial⟩) ?_
          refine post_next ?_
          refine aw_seq ?_
          refine aw_region ?_
          refine rmv ?_
          refine reg_cons (guard_no rfl) (op_field_lp rfl rfl Try_fld_69_0 rfl rfl) ?_
          refine reg_cons (guard_no rfl) (op_load_lp (v := .pv (.str y758.fName)) rfl rfl rfl rfl Try_one_9 rfl rfl) ?_
          obtain ⟨y762, h763, hF⟩ := bind_some hF
          refine reg_cons (guard_no rfl) (op_lookup rfl rfl rfl rfl Try_map_106 Try_zer_3 h763 rfl rfl) ?_
          refine reg_cons (guard_no rfl) (op_int (k := .i64) (m := y762) (n := 0) rfl rfl rfl rfl rfl rfl) ?_
          refine reg_nil ?_
          refine post_imp (s' := ⟨67, [(0, some (.pv (.vs 7 (List.map eGClass a0)))), (2, some (.lp 0 0)), (5, some (.ls 1)), (11, some (.lp 2 0)), (12, some (.pv (.vs 7 (List.map eGClass a0)))), (13, some (.pv (.int .i64 (a0.length : Int)))), (14, some (.pv (.int .i64 x256))), (50, some (.pv (.vs 13 (List.map eGVar y516.fFields)))), (51, some (.pv (.int .i64 (y516.fFields.length : Int)))), (52, some (.pv (.int .i64 x743))), (60, some (.pv (.bool (decide (y762 > 0)))))], [(0, some (.box 54 (bxv (eGFault zGFault)))), (1, some (.dict Try.prog 106 x729 x730)), (2, some (.box 69 (bxv (eGVar y758))))], 3, [], [], 0, []⟩) (imps [0, 1, 2] ⟨by kernel_rfl, by kernel_rfl, by kernel_rfl, by kernel_rfl, by kernel_rfl, by kernel_rfl, by kernel_rfl, by kernel_rfl, by kernel_rfl, by kernel_rfl, by kernel_rfl, trivial⟩ ⟨by kernel_rfl, by kernel_rfl, by kernel_rfl, trivial⟩) ?_
          refine post_next ?_
          rcases ite_some hF with ⟨hb764, hF⟩ | ⟨hb764, hF⟩
          · refine aw_cond_t rfl hb764 ?_
            refine aw_seq ?_
            refine aw_region ?_
            refine reg_cons (guard_no rfl) (op_field_lp rfl rfl Try_fld_69_2 rfl rfl) ?_
            refine reg_cons (guard_no rfl) (op_load_lp (v := .pv (.int .i64 y758.fAt)) rfl rfl rfl rfl Try_one_3 rfl rfl) ?_
            refine reg_cons (guard_no rfl) (op_build (zs := (eGFault zGFault)) (r := eGFault ({ fErr := 7, fAt := y758.fAt } : GFault)) rfl Try_zer_54 (by exact ⟨rfl, rfl, trivial⟩) Try_plc_54 rfl rfl rfl rfl) ?_
            refine reg_cons (guard_no rfl) (op_store_lp (n := 2) rfl rfl rfl rfl rfl (or_agg Try_agg_54) (by rw [Try_non_54]; rfl) rfl rfl rfl) ?_
            refine reg_nil ?_
            refine post_imp (s' := ⟨67, [(2, some (.lp 0 0))], [(0, some (.box 54 (bxv (eGFault ({ fErr := 7, fAt := y758.fAt } : GFault)))))], 1, [], [], 0, []⟩) (imps [0] ⟨by kernel_rfl, trivial⟩ ⟨by kernel_rfl, trivial⟩) ?_
            refine post_next ?_
            refine aw_ret ?_
            refine post_block_ret ?_
            iterate 2 (refine post_then_ret ?_)
            refine post_lp_ret ?_
            obtain rfl := Option.some.inj hF
            have hF := elim_stop hK767
            refine post_block_ret ?_
            iterate 2 (refine post_then_ret ?_)
            refine post_lp_ret ?_
            obtain rfl := Option.some.inj hF
            have hF := elim_stop hK770
            refine post_then_ret ?_
            obtain rfl := Option.some.inj hF
            exact post_ret rfl rfl (.cons _ _ _ _ _ (.agg _ _ _ _ _ 2 _ _ rfl rfl Try_agg_54 rfl rfl rfl) (.p _) .nil) (.inl rfl)
          refine aw_cond_f rfl hb764 ?_
          refine aw_skip ?_
          refine post_block_normal ?_
          refine post_next ?_
          refine aw_region ?_
          refine reg_cons (guard_no rfl) (op_int (k := .i64) (m := x743) (n := 1) rfl rfl rfl rfl rfl rfl) ?_
          refine rmv ?_
          refine reg_nil ?_
          refine post_round ?_
          exact rnd_back (ih (w_i64 (x743 + 1)) hF) (imps [0, 1] ⟨by kernel_rfl, by kernel_rfl, by kernel_rfl, by kernel_rfl, by kernel_rfl, by kernel_rfl, by kernel_rfl, by kernel_rfl, by kernel_rfl, trivial⟩ ⟨by kernel_rfl, by kernel_rfl, trivial⟩)
        refine aw_cond_f rfl hb755 ?_
        refine aw_exit ?_
        iterate 2 (refine post_then_exit ?_)
        obtain rfl := Option.some.inj hF
        exact post_lp_break _ ⟨_, rfl, rfl⟩ (imps [0] ⟨by kernel_rfl, by kernel_rfl, by kernel_rfl, by kernel_rfl, by kernel_rfl, trivial⟩ ⟨by kernel_rfl, trivial⟩)
      rintro _ ⟨⟨⟩, rfl, rfl⟩
      have hF := elim_next hK767
      clear hK767
      refine post_block_normal ?_
      refine post_next ?_
      refine aw_region ?_
      refine reg_cons (guard_no rfl) (op_int (k := .i64) (m := x256) (n := 1) rfl rfl rfl rfl rfl rfl) ?_
      refine rmv ?_
      refine reg_nil ?_
      refine post_round ?_
      exact rnd_back (ih (w_i64 (x256 + 1)) hF) (imps [0] ⟨by kernel_rfl, by kernel_rfl, by kernel_rfl, by kernel_rfl, by kernel_rfl, trivial⟩ ⟨by kernel_rfl, trivial⟩)
    refine aw_cond_f rfl hb513 ?_
    refine aw_exit ?_
    iterate 2 (refine post_then_exit ?_)
    obtain rfl := Option.some.inj hF
    exact post_lp_break _ ⟨_, rfl, rfl⟩ (imps [0] ⟨by kernel_rfl, trivial⟩ ⟨by kernel_rfl, trivial⟩)
  rintro _ ⟨⟨⟩, rfl, rfl⟩
  have hF := elim_next hK770
  clear hK770
  refine post_next ?_
  refine aw_seq ?_
  refine aw_region ?_
  refine reg_cons (guard_no rfl) (op_build (zs := (eGFault zGFault)) (r := eGFault ({ fErr := 0, fAt := 0 } : GFault)) rfl Try_zer_54 (by exact ⟨rfl, rfl, trivial⟩) Try_plc_54 rfl rfl rfl rfl) ?_
  refine reg_cons (guard_no rfl) (op_store_lp (n := 2) rfl rfl rfl rfl rfl (or_agg Try_agg_54) (by rw [Try_non_54]; rfl) rfl rfl rfl) ?_
  refine reg_nil ?_
  refine post_imp (s' := ⟨67, [(2, some (.lp 0 0))], [(0, some (.box 54 (bxv (eGFault ({ fErr := 0, fAt := 0 } : GFault)))))], 1, [], [], 0, []⟩) (imps [0] ⟨by kernel_rfl, trivial⟩ ⟨by kernel_rfl, trivial⟩) ?_
  refine post_next ?_
  refine aw_ret ?_
  obtain rfl := Option.some.inj hF
  exact post_ret rfl rfl (.cons _ _ _ _ _ (.agg _ _ _ _ _ 2 _ _ rfl rfl Try_agg_54 rfl rfl rfl) (.p _) .nil) (.inl rfl)
theorem ref14_Below_ok {a0 : List GClass} {a1 : List UInt8} {a2 : List UInt8} {r : Bool} (hF : ref14_Below a0 a1 a2 = some r) : Abs.Fn Try.prog 43 [.vs 7 (List.map eGClass a0), .str a1, .str a2] [.p (.bool r)] := by
  unfold ref14_Below at hF
  refine fn_of_body (n := 20) Try.func43 rfl rfl rfl ?_
  intro w O
  refine aw_seq ?_
  refine aw_region ?_
  refine ras ?_
  refine reg_nil ?_
  refine post_imp (s' := ⟨20, [(0, some (.pv (.vs 7 (List.map eGClass a0)))), (1, some (.pv (.str a1))), (2, some (.pv (.str a2)))], [], 0, [], [], 0, []⟩) (imps [] ⟨by kernel_rfl, by kernel_rfl, by kernel_rfl, trivial⟩ trivial) ?_
  refine post_next ?_
  refine aw_seq ?_
  refine aw_region ?_
  iterate 2 (refine rmv ?_)
  obtain ⟨y3, h4, hF⟩ := bind_some hF
  refine reg_cons (guard_no rfl) (op_call 0 rfl (caps := []) (args := [.vs 7 (List.map eGClass a0), .str a2]) (rs := [.p (.int .i64 y3)]) rfl rfl rfl Try_cal_64 (ref13_Find_ok h4) rfl rfl rfl) ?_
  refine ras ?_
  refine reg_nil ?_
  refine post_imp (s' := ⟨20, [(0, some (.pv (.vs 7 (List.map eGClass a0)))), (1, some (.pv (.str a1))), (7, some (.pv (.int .i64 y3)))], [], 0, [], [], 0, []⟩) (imps [] ⟨by kernel_rfl, by kernel_rfl, by kernel_rfl, trivial⟩ trivial) ?_
  refine post_next ?_
  refine aw_seq ?_
  refine aw_region ?_
  refine rmv ?_
  refine reg_cons (guard_no rfl) (op_int (k := .i64) (m := y3) (n := 0) rfl rfl rfl rfl rfl rfl) ?_
  refine rmv ?_
  rcases ite_some hF with ⟨hb5, hF⟩ | ⟨hb5, hF⟩
  · refine reg_cons (guard_on rfl rfl rfl rfl hb5) (op_move rfl rfl rfl rfl) ?_
    refine reg_cons (guard_on rfl rfl rfl rfl hb5) (op_move rfl rfl rfl rfl) ?_
    obtain ⟨y6, h7, hF⟩ := bind_some hF
    refine reg_cons (guard_on rfl rfl rfl rfl hb5) (op_call 0 rfl (caps := []) (args := [.vs 7 (List.map eGClass a0), .str a1]) (rs := [.p (.vs 1 (List.map eI y6))]) rfl rfl rfl Try_cal_34 (Fn.frozen (ref14_Chain_ok h7)) rfl rfl rfl) ?_
    refine reg_cons (guard_on rfl rfl rfl rfl hb5) (op_move rfl rfl rfl rfl) ?_
    obtain ⟨y8, h9, hF⟩ := bind_some hF
    refine reg_cons (guard_on rfl rfl rfl rfl hb5) (op_call 0 rfl (caps := []) (args := [.vs 1 (List.map eI y6), .int .i64 y3]) (rs := [.p (.bool y8)]) rfl rfl rfl Try_cal_65 (ref14_has_ok h9) rfl rfl rfl) ?_
    refine rpt hb5 ?_
    refine ras ?_
    refine reg_nil ?_
    refine post_imp (s' := ⟨20, [(6, some (.pv (.bool y8)))], [], 0, [], [], 0, []⟩) (imps [] ⟨by kernel_rfl, trivial⟩ trivial) ?_
    refine post_next ?_
    refine aw_ret ?_
    obtain rfl := Option.some.inj hF
    exact post_ret rfl rfl (.cons _ _ _ _ _ (.tmp _ _ rfl) (.p _) .nil) (.inl rfl)
  iterate 5 (refine rgo_f hb5 ?_)
  refine rpf hb5 ?_
  refine ras ?_
  refine reg_nil ?_
  refine post_imp (s' := ⟨20, [(6, some (.pv (.bool false)))], [], 0, [], [], 0, []⟩) (imps [] ⟨by kernel_rfl, trivial⟩ trivial) ?_
  refine post_next ?_
  refine aw_ret ?_
  obtain rfl := Option.some.inj hF
  exact post_ret rfl rfl (.cons _ _ _ _ _ (.tmp _ _ rfl) (.p _) .nil) (.inl rfl)
theorem slices_Backward_int_ok {a0 : List Int} {r : (List Int)} (hF : slices_Backward_int a0 = some r) : Abs.Fn Try.prog 66 [.vs 1 (List.map eI a0)] [.p (.fn 81 [.vp ((eL 1 eI) r)])] := by
  unfold slices_Backward_int at hF
  refine fn_of_body (n := 4) Try.func66 rfl rfl rfl ?_
  intro w O
  refine aw_seq ?_
  refine aw_region ?_
  refine reg_cons (guard_no rfl) (op_box 0 rfl rfl rfl rfl rfl rfl) ?_
  refine ras ?_
  refine reg_nil ?_
  refine post_imp (s' := ⟨4, [(1, some (.lp 0 0))], [(0, some (.box 50 [.pv (.vs 1 (List.map eI a0))]))], 1, [], [], 0, []⟩) (imps [0] ⟨by kernel_rfl, trivial⟩ ⟨by kernel_rfl, trivial⟩) ?_
  refine post_next ?_
  refine aw_seq ?_
  refine aw_region ?_
  refine reg_cons (guard_no rfl) (op_makeFunc rfl rfl rfl rfl) ?_
  refine ras ?_
  refine reg_nil ?_
  refine post_imp (s' := ⟨4, [(2, some (.fn 81 [.lp 0 0]))], [(0, some (.box 50 [.pv (.vs 1 (List.map eI a0))]))], 1, [], [], 0, []⟩) (imps [0] ⟨by kernel_rfl, trivial⟩ ⟨by kernel_rfl, trivial⟩) ?_
  refine post_next ?_
  refine aw_ret ?_
  refine post_imp (imp_freeze [(0, some (.box 50 [.pv (.vs 1 (List.map eI a0))]))] [(2, some (.pv (.fn 81 [.vp ((eL 1 eI) a0)])))] (FzH.spec ⟨rfl, trivial⟩) ⟨⟨_, rfl, rfl⟩, trivial⟩) ?_
  obtain rfl := Option.some.inj hF
  exact post_ret rfl rfl (.cons _ _ _ _ _ (.tmp _ _ rfl) (.p _) .nil) (.inl rfl)
theorem slices_Backward_int_1_it {rows : List (Int × Int)} {sp : Nat} {c0 : List Int} (hF : slices_Backward_int_1 rows sp c0 = some (min (sp + 1) rows.length)) : It Try.prog 81 2 [.vp ((eL 1 eI) c0)] none [] (rows.map (fun z : Int × Int => ([.int .i64 z.1, .int .i64 z.2] : List PV))) sp := by
  unfold slices_Backward_int_1 at hF
  refine it_of_body (n := 19) Try.func81 rfl rfl rfl ?_
  intro l c hcx
  refine aw_seq ?_
  refine aw_region ?_
  refine reg_cons (guard_no rfl) (op_load_vp (p := .vs 1 (List.map eI c0)) rfl rfl rfl Try_one_50 rfl rfl) ?_
  refine reg_cons (guard_no rfl) (op_len_vs (n := c0.length) rfl rfl (List.length_map ..) Try_slc_50 rfl rfl) ?_
  refine reg_cons (guard_no rfl) (op_int (k := .i64) (m := (c0.length : Int)) (n := 1) rfl rfl rfl rfl rfl rfl) ?_
  refine ras ?_
  refine reg_nil ?_
  refine post_imp (s' := ⟨19, [(0, some (.pv (.yld l))), (1, some (.pv (.vp ((eL 1 eI) c0)))), (3, some (.pv (.int .i64 (w_i64 ((c0.length : Int) - 1)))))], [], 0, [], [], 0, []⟩) (imps [] ⟨by kernel_rfl, by kernel_rfl, by kernel_rfl, trivial⟩ trivial) ?_
  refine post_next ?_
  obtain ⟨lr38, hF, hK39⟩ := bind_some hF
  refine aw_for ((((w_i64 ((c0.length : Int) - 1)) : Int) - (0)).toNat + 2) (fun s1 => ∃ q, lr38 = .next q ∧ s1 = ⟨19, [], [], 0, [], [], q, []⟩) ?_ ?_
  · refine rnd_loop (α := Nat × Int) (fun q => ⟨19, [(0, some (.pv (.yld l))), (1, some (.pv (.vp ((eL 1 eI) c0)))), (3, some (.pv (.int .i64 q.2)))], [], 0, [], [], q.1, []⟩) (fun k q => slices_Backward_int_1_L1 c0 sp rows k q.1 q.2 = some lr38) (0, w_i64 ((c0.length : Int) - 1)) (imps [] ⟨by kernel_rfl, by kernel_rfl, by kernel_rfl, trivial⟩ trivial) hF (fun q h => by cases h) ?_
    clear hF
    rintro k ⟨x11, x12⟩ hF ih
    refine rnd_succ ?_
    iterate 2 (refine aw_seq ?_)
    refine aw_region ?_
    refine rmv ?_
    refine reg_cons (guard_no rfl) (op_int (k := .i64) (m := x12) (n := 0) rfl rfl rfl rfl rfl rfl) ?_
    refine reg_nil ?_
    refine post_imp (s' := ⟨19, [(0, some (.pv (.yld l))), (1, some (.pv (.vp ((eL 1 eI) c0)))), (3, some (.pv (.int .i64 x12))), (8, some (.pv (.bool (decide (x12 ≥ 0)))))], [], 0, [], [], x11, []⟩) (imps [] ⟨by kernel_rfl, by kernel_rfl, by kernel_rfl, by kernel_rfl, trivial⟩ trivial) ?_
    refine post_next ?_
    rcases ite_some hF with ⟨hb25, hF⟩ | ⟨hb25, hF⟩
    · refine aw_cond_t rfl hb25 ?_
      refine aw_skip ?_
      refine post_next ?_
      refine aw_seq ?_
      refine aw_block ?_
      refine aw_seq ?_
      refine aw_region ?_
      iterate 2 (refine rmv ?_)
      refine reg_cons (guard_no rfl) (op_load_vp (p := .vs 1 (List.map eI c0)) rfl rfl rfl Try_one_50 rfl rfl) ?_
      refine rmv ?_
      obtain ⟨y30, h31, hF⟩ := bind_some hF
      refine reg_cons (guard_no rfl) (op_index_vs (k := .i64) rfl rfl rfl (idx_map eI h31) Try_slc_50 rfl rfl) ?_
      refine reg_cons (guard_no rfl) (op_load_vp (p := .int .i64 y30) rfl rfl rfl Try_one_3 rfl rfl) ?_
      obtain ⟨u32, h33, hF⟩ := bind_some hF
      refine reg_cons (guard_no rfl) (op_yield (row := (fun z : Int × Int => ([.int .i64 z.1, .int .i64 z.2] : List PV)) (x12, y30)) hcx rfl rfl rfl rfl (yck_row (fun z : Int × Int => ([.int .i64 z.1, .int .i64 z.2] : List PV)) h33) (yck_spec h33).2 rfl rfl) ?_
      refine reg_cons (guard_no rfl) (op_not rfl rfl rfl rfl) ?_
      refine reg_nil ?_
      refine post_imp (s' := ⟨19, [(0, some (.pv (.yld l))), (1, some (.pv (.vp ((eL 1 eI) c0)))), (3, some (.pv (.int .i64 x12))), (18, some (.pv (.bool (!(!(x11 == sp))))))], [], 0, [], [], (x11 + 1), []⟩) (imps [] ⟨by kernel_rfl, by kernel_rfl, by kernel_rfl, by kernel_rfl, trivial⟩ trivial) ?_
      refine post_next ?_
      rcases ite_some hF with ⟨hb34, hF⟩ | ⟨hb34, hF⟩
      · refine aw_cond_t rfl hb34 ?_
        refine aw_ret ?_
        refine post_block_ret ?_
        iterate 2 (refine post_then_ret ?_)
        refine post_lp_ret ?_
        obtain rfl := Option.some.inj hF
        have hF := elim_stop hK39
        exact post_it (it_len hF) rfl (.inl rfl)
      refine aw_cond_f rfl hb34 ?_
      refine aw_skip ?_
      refine post_block_normal ?_
      refine post_next ?_
      refine aw_region ?_
      refine rmv ?_
      refine reg_cons (guard_no rfl) (op_int (k := .i64) (m := x12) (n := 1) rfl rfl rfl rfl rfl rfl) ?_
      refine ras ?_
      refine reg_nil ?_
      refine post_round ?_
      exact rnd_back (ih ((x11 + 1), w_i64 (x12 - 1)) hF) (imps [] ⟨by kernel_rfl, by kernel_rfl, by kernel_rfl, trivial⟩ trivial)
    refine aw_cond_f rfl hb25 ?_
    refine aw_exit ?_
    iterate 2 (refine post_then_exit ?_)
    obtain rfl := Option.some.inj hF
    exact post_lp_break _ ⟨_, rfl, rfl⟩ (imps [] trivial trivial)
  rintro _ ⟨x37, rfl, rfl⟩
  have hF := elim_next hK39
  clear hK39
  exact post_it (it_len hF) rfl (.inr rfl)

theorem field_All_ok {a0 : List GClass} {a1 : List UInt8} {r : (List GSlot_field)} (hF : field_All a0 a1 = some r) : Abs.Fn Try.prog 40 [.vs 7 (List.map eGClass a0), .str a1] [.own 71 14 (List.map eGSlot_field r)] := by
  unfold field_All at hF
  refine fn_of_body (n := 38) Try.func40 rfl rfl rfl ?_
  intro w O
  refine aw_seq ?_
  refine aw_region ?_
  refine reg_cons (guard_no rfl) (op_box 0 rfl rfl rfl rfl rfl rfl) ?_
  refine ras ?_
  refine reg_nil ?_
  refine post_imp (s' := ⟨38, [(1, some (.pv (.str a1))), (2, some (.lp 0 0))], [(0, some (.box 48 [.pv (.vs 7 (List.map eGClass a0))]))], 1, [], [], 0, []⟩) (imps [0] ⟨by kernel_rfl, by kernel_rfl, trivial⟩ ⟨by kernel_rfl, trivial⟩) ?_
  refine post_next ?_
  refine aw_seq ?_
  refine aw_region ?_
  refine reg_cons (guard_no rfl) (op_alloc 1 rfl (ps := [.nils]) rfl Try_zer_61 (by exact ⟨rfl, trivial⟩) rfl rfl) ?_
  refine reg_imp (imp_nil_box 1 0 61 71 14 2 rfl rfl rfl) ?_
  refine reg_nil ?_
  refine post_imp (s' := ⟨38, [(1, some (.pv (.str a1))), (2, some (.lp 0 0)), (5, some (.lp 1 0))], [(0, some (.box 48 [.pv (.vs 7 (List.map eGClass a0))])), (1, some (.box 61 [.ls 2])), (2, some (.row 71 14 (List.map eGSlot_field [])))], 3, [], [], 0, []⟩) (imps [0, 1, 2] ⟨by kernel_rfl, by kernel_rfl, by kernel_rfl, trivial⟩ ⟨by kernel_rfl, by kernel_rfl, by kernel_rfl, trivial⟩) ?_
  refine post_next ?_
  iterate 2 (refine aw_seq ?_)
  refine aw_region ?_
  refine reg_cons (guard_no rfl) (op_load_lp (v := .pv (.vs 7 (List.map eGClass a0))) rfl rfl rfl rfl Try_one_48 rfl rfl) ?_
  refine rmv ?_
  obtain ⟨y5, h6, hF⟩ := bind_some hF
  refine reg_cons (guard_no rfl) (op_call 3 rfl (caps := []) (args := [.vs 7 (List.map eGClass a0), .str a1]) (rs := [.p (.vs 1 (List.map eI y5))]) rfl rfl rfl Try_cal_33 (Fn.frozen (above_Chain_ok h6)) rfl rfl rfl) ?_
  obtain ⟨y7, h8, hF⟩ := bind_some hF
  refine reg_cons (guard_no rfl) (op_call 3 rfl (caps := []) (args := [.vs 1 (List.map eI y5)]) (rs := [.p (.fn 81 [.vp ((eL 1 eI) y7)])]) rfl rfl rfl Try_cal_66 (slices_Backward_int_ok h8) rfl rfl rfl) ?_
  refine reg_nil ?_
  refine post_imp (s' := ⟨38, [(2, some (.lp 0 0)), (5, some (.lp 1 0)), (13, some (.pv (.fn 81 [.vp ((eL 1 eI) y7)])))], [(0, some (.box 48 [.pv (.vs 7 (List.map eGClass a0))])), (1, some (.box 61 [.ls 2])), (2, some (.row 71 14 (List.map eGSlot_field [])))], 3, [], [], 0, []⟩) (imps [0, 1, 2] ⟨by kernel_rfl, by kernel_rfl, by kernel_rfl, trivial⟩ ⟨by kernel_rfl, by kernel_rfl, by kernel_rfl, trivial⟩) ?_
  refine post_next ?_
  refine aw_block ?_
  refine aw_imp (s' := ⟨38, [(2, some (.lp 0 0)), (5, some (.lp 1 0)), (13, some (.pv (.fn 81 [.vp ((eL 1 eI) y7)])))], [(0, some (.box 48 [.pv (.vs 7 (List.map eGClass a0))])), (1, some (.box 61 [.ls 2])), (2, some (.row 71 14 (List.map eGSlot_field [])))], 3, [], [], 0, []⟩) (imps [0, 1, 2] ⟨by kernel_rfl, by kernel_rfl, by kernel_rfl, trivial⟩ ⟨by kernel_rfl, by kernel_rfl, by kernel_rfl, trivial⟩) ?_
  obtain ⟨rows171, hR172, hF⟩ := bind_some hF
  obtain ⟨lr173, hL174, hF⟩ := bind_some hF
  refine aw_rangeFunc (X := (Int × Int)) (Q := (List GSlot_field)) (E := Unit) (pre := [.vp ((eL 1 eI) y7)]) (bx := none) (post := []) (kt := [2, 5]) (psl := [14, 15]) none (fun z : Int × Int => ([.int .i64 z.1, .int .i64 z.2] : List PV)) rows171 (field_All_B1 a0) [] lr173 hL174 (fun q => ⟨38, [(2, some (.lp 0 0)), (5, some (.lp 1 0))], [(0, some (.box 48 [.pv (.vs 7 (List.map eGClass a0))])), (1, some (.box 61 [.ls 2])), (2, some (.row 71 14 (List.map eGSlot_field q)))], 3, [], [], 0, []⟩) (fun _ => (.ret, ⟨38, [], [], 0, [], [], 0, []⟩)) ⟨rfl, rfl⟩ Try_cal_81 (fun sp => slices_Backward_int_1_it (itR_back_ok hR172 sp)) (fun _ => rfl) rfl rfl (by decide) rfl (fun x q => ⟨38, [(2, some (.lp 0 0)), (5, some (.lp 1 0)), (7, some (.pv (.int .i64 x.2))), (14, some (.pv (.int .i64 x.1))), (15, some (.pv (.int .i64 x.2)))], [(0, some (.box 48 [.pv (.vs 7 (List.map eGClass a0))])), (1, some (.box 61 [.ls 2])), (2, some (.row 71 14 (List.map eGSlot_field q)))], 3, [], [], 0, [2, 5]⟩) (fun q => ⟨rfl, rfl, rfl, rfl⟩) (fun z => ⟨rfl, rfl, rfl, rfl⟩) (fun z => rfl) rfl rfl ⟨rfl, rfl, trivial⟩ ⟨⟨rfl, rfl, rfl⟩, ⟨rfl, rfl, rfl⟩, ⟨rfl, rfl, rfl⟩, trivial⟩ ?_ ?_ ?_ ?_
  · rintro l175 c176 ⟨x117, x118⟩ x62 hc177
    refine aw_region ?_
    refine ras ?_
    refine reg_nil ?_
    exact post_cut1 (imps [0, 1, 2] ⟨by kernel_rfl, by kernel_rfl, by kernel_rfl, by kernel_rfl, by kernel_rfl, trivial⟩ ⟨by kernel_rfl, by kernel_rfl, by kernel_rfl, trivial⟩)
  · rintro l175 c176 ⟨x117, x118⟩ x62 r178 hc177 hF
    refine aw_block ?_
    refine aw_seq ?_
    refine aw_region ?_
    refine reg_cons (guard_no rfl) (op_load_lp (v := .pv (.vs 7 (List.map eGClass a0))) rfl rfl rfl rfl Try_one_48 rfl rfl) ?_
    refine rmv ?_
    obtain ⟨y121, h122, hF⟩ := bind_some hF
    refine reg_cons (guard_no rfl) (op_index_vs (k := .i64) rfl rfl rfl (idx_map eGClass h122) Try_slc_48 rfl rfl) ?_
    refine reg_cons (guard_no rfl) (op_field_vp rfl rfl Try_fld_95_4 rfl rfl) ?_
    refine reg_cons (guard_no rfl) (op_load_vp (p := .vs 13 (List.map eGVar y121.fFields)) rfl rfl rfl Try_one_92 rfl rfl) ?_
    refine reg_cons (guard_no rfl) (op_len_vs (n := y121.fFields.length) rfl rfl (List.length_map ..) Try_slc_92 rfl rfl) ?_
    refine rmv ?_
    refine reg_nil ?_
    refine post_imp (s' := ⟨38, [(2, some (.lp 0 0)), (5, some (.lp 1 0)), (7, some (.pv (.int .i64 x118))), (20, some (.pv (.vs 13 (List.map eGVar y121.fFields)))), (21, some (.pv (.int .i64 (y121.fFields.length : Int)))), (22, some (.pv (.int .i64 0)))], [(0, some (.box 48 [.pv (.vs 7 (List.map eGClass a0))])), (1, some (.box 61 [.ls 2])), (2, some (.row 71 14 (List.map eGSlot_field x62)))], 3, [], [], 0, [2, 5]⟩) (imps [0, 1, 2] ⟨by kernel_rfl, by kernel_rfl, by kernel_rfl, by kernel_rfl, by kernel_rfl, by kernel_rfl, trivial⟩ ⟨by kernel_rfl, by kernel_rfl, by kernel_rfl, trivial⟩) ?_
    refine post_next ?_
    obtain ⟨x168, hF, hK169⟩ := bind_some hF
    refine aw_for ((((y121.fFields.length : Int) : Int) - (0)).toNat + 1) (fun s1 => s1 = ⟨38, [(2, some (.lp 0 0)), (5, some (.lp 1 0))], [(0, some (.box 48 [.pv (.vs 7 (List.map eGClass a0))])), (1, some (.box 61 [.ls 2])), (2, some (.row 71 14 (List.map eGSlot_field x168)))], 3, [], [], 0, [2, 5]⟩) ?_ ?_
    · refine rnd_loop (α := (List GSlot_field) × Int) (fun q => ⟨38, [(2, some (.lp 0 0)), (5, some (.lp 1 0)), (7, some (.pv (.int .i64 x118))), (20, some (.pv (.vs 13 (List.map eGVar y121.fFields)))), (21, some (.pv (.int .i64 (y121.fFields.length : Int)))), (22, some (.pv (.int .i64 q.2)))], [(0, some (.box 48 [.pv (.vs 7 (List.map eGClass a0))])), (1, some (.box 61 [.ls 2])), (2, some (.row 71 14 (List.map eGSlot_field q.1)))], 3, [], [], 0, [2, 5]⟩) (fun k q => field_All_L2 a0 x118 y121 k q.1 q.2 = some x168) (x62, 0) (imps [0, 1, 2] ⟨by kernel_rfl, by kernel_rfl, by kernel_rfl, by kernel_rfl, by kernel_rfl, by kernel_rfl, trivial⟩ ⟨by kernel_rfl, by kernel_rfl, by kernel_rfl, trivial⟩) hF (fun q h => by cases h) ?_
      clear hF
      rintro k ⟨x136, x137⟩ hF ih
      refine rnd_succ ?_
      refine aw_seq ?_
      refine aw_region ?_
      refine reg_cons (guard_no rfl) (op_int (k := .i64) (m := x137) (n := (y121.fFields.length : Int)) rfl rfl rfl rfl rfl rfl) ?_
      refine reg_nil ?_
      refine post_imp (s' := ⟨38, [(2, some (.lp 0 0)), (5, some (.lp 1 0)), (7, some (.pv (.int .i64 x118))), (20, some (.pv (.vs 13 (List.map eGVar y121.fFields)))), (21, some (.pv (.int .i64 (y121.fFields.length : Int)))), (22, some (.pv (.int .i64 x137))), (23, some (.pv (.bool (decide (x137 < (y121.fFields.length : Int))))))], [(0, some (.box 48 [.pv (.vs 7 (List.map eGClass a0))])), (1, some (.box 61 [.ls 2])), (2, some (.row 71 14 (List.map eGSlot_field x136)))], 3, [], [], 0, [2, 5]⟩) (imps [0, 1, 2] ⟨by kernel_rfl, by kernel_rfl, by kernel_rfl, by kernel_rfl, by kernel_rfl, by kernel_rfl, by kernel_rfl, trivial⟩ ⟨by kernel_rfl, by kernel_rfl, by kernel_rfl, trivial⟩) ?_
      refine post_next ?_
      refine aw_seq ?_
      rcases ite_some hF with ⟨hb153, hF⟩ | ⟨hb153, hF⟩
      · refine aw_cond_t rfl hb153 ?_
        refine aw_skip ?_
        refine post_next ?_
        refine aw_seq ?_
        refine aw_block ?_
        refine aw_seq ?_
        refine aw_region ?_
        obtain ⟨y156, h157, hF⟩ := bind_some hF
        refine reg_cons (guard_no rfl) (op_index_vs (k := .i64) rfl rfl rfl (idx_map eGVar h157) Try_slc_92 rfl rfl) ?_
        refine reg_cons (guard_no rfl) (op_load_vp_agg (ps := eGVar y156) rfl rfl rfl rfl Try_agg_69 rfl rfl) ?_
        refine reg_cons (guard_no rfl) (op_alloc 3 rfl (ps := (eGVar zGVar)) rfl Try_zer_69 (by exact ⟨rfl, rfl, rfl, rfl, rfl, rfl, rfl, rfl, rfl, rfl, rfl, rfl, rfl, trivial⟩) rfl rfl) ?_
        refine reg_cons (guard_no rfl) (op_store_lp (n := 13) rfl rfl rfl rfl rfl (or_agg Try_agg_69) (by rw [Try_non_69]; rfl) rfl rfl rfl) ?_
        refine reg_nil ?_
        refine post_imp (s' := ⟨38, [(2, some (.lp 0 0)), (5, some (.lp 1 0)), (7, some (.pv (.int .i64 x118))), (9, some (.lp 3 0)), (20, some (.pv (.vs 13 (List.map eGVar y121.fFields)))), (21, some (.pv (.int .i64 (y121.fFields.length : Int)))), (22, some (.pv (.int .i64 x137)))], [(0, some (.box 48 [.pv (.vs 7 (List.map eGClass a0))])), (1, some (.box 61 [.ls 2])), (2, some (.row 71 14 (List.map eGSlot_field x136))), (3, some (.box 69 (bxv (eGVar y156))))], 4, [], [], 0, [2, 5]⟩) (imps [0, 1, 2, 3] ⟨by kernel_rfl, by kernel_rfl, by kernel_rfl, by kernel_rfl, by kernel_rfl, by kernel_rfl, by kernel_rfl, trivial⟩ ⟨by kernel_rfl, by kernel_rfl, by kernel_rfl, by kernel_rfl, trivial⟩) ?_
        refine post_next ?_
        refine aw_imp (imp_names 1) ?_
        refine dr_start ⟨_, _, _⟩ rfl ?_
        refine dr_cons { need := [(5, .lp 1 0)], hneed := [(1, .box 61 [.ls 2])], dst := some 26, val := some (.ls 2) } (fun m h => step_on (guard_no rfl) (op_load_lp (v := .ls 2) rfl h.1.1 h.2.1.1 rfl Try_one_61 rfl rfl) rfl) ⟨⟨rfl, trivial⟩, ⟨rfl, trivial⟩, trivial⟩ ?_
        refine dr_cons { need := [(2, .lp 0 0)], hneed := [(0, .box 48 [.pv (.vs 7 (List.map eGClass a0))])], dst := some 27, val := some (.pv (.vs 7 (List.map eGClass a0))) } (fun m h => step_on (guard_no rfl) (op_load_lp (v := .pv (.vs 7 (List.map eGClass a0))) rfl h.1.1 h.2.1.1 rfl Try_one_48 rfl rfl) rfl) ⟨⟨rfl, trivial⟩, ⟨rfl, trivial⟩, trivial⟩ ?_
        refine drm ?_
        obtain ⟨y162, h163, hF⟩ := bind_some hF
        refine dr_cons { need := [(27, .pv (.vs 7 (List.map eGClass a0))), (28, .pv (.int .i64 x118))], dst := some 29, val := some (.pv (.vp (eGClass y162))) } (fun m h => step_on (guard_no rfl) (op_index_vs (k := .i64) rfl h.1.1 h.1.2.1 (idx_map eGClass h163) Try_slc_48 rfl rfl) rfl) ⟨⟨rfl, rfl, trivial⟩, trivial, trivial⟩ ?_
        refine dr_cons { need := [(29, .pv (.vp (eGClass y162)))], dst := some 30, val := some (.pv (.vp (List.drop 0 (eGClass y162)))) } (fun m h => step_on (guard_no rfl) (op_field_vp rfl h.1.1 Try_fld_95_0 rfl rfl) rfl) ⟨⟨rfl, trivial⟩, trivial, trivial⟩ ?_
        refine dr_cons { need := [(30, .pv (.vp (List.drop 0 (eGClass y162))))], dst := some 31, val := some (.pv (.str y162.fName)) } (fun m h => step_on (guard_no rfl) (op_load_vp (p := .str y162.fName) rfl h.1.1 rfl Try_one_9 rfl rfl) rfl) ⟨⟨rfl, trivial⟩, trivial, trivial⟩ ?_
        refine dr_cons { need := [(9, .lp 3 0)], hneed := [(3, .box 69 (bxv (eGVar y156)))], dst := some 32, val := some (.pv (.agg (eGVar y156))) } (fun m h => step_on (guard_no rfl) (op_load_lp_agg (ps := eGVar y156) rfl h.1.1 h.2.1.1 rfl rfl rfl Try_agg_69 rfl rfl) rfl) ⟨⟨rfl, trivial⟩, ⟨rfl, trivial⟩, trivial⟩ ?_
        refine dr_cons { need := [(32, .pv (.agg (eGVar y156))), (31, .pv (.str y162.fName))], dst := some 33, val := some (.pv (.agg (eGSlot_field ({ fClass := y162.fName, fVar := y156 } : GSlot_field)))) } (fun m h => step_on (guard_no rfl) (op_build (zs := (eGSlot_field zGSlot_field)) (r := eGSlot_field ({ fClass := y162.fName, fVar := y156 } : GSlot_field)) rfl Try_zer_71 (by exact ⟨rfl, rfl, rfl, rfl, rfl, rfl, rfl, rfl, rfl, rfl, rfl, rfl, rfl, rfl, trivial⟩) Try_plc_71 (evs_cons h.1.2.1 (evs_cons h.1.1 evs_nil)) rfl rfl rfl) rfl) ⟨⟨rfl, rfl, trivial⟩, trivial, trivial⟩ ?_
        refine dr_cons { need := [(33, .pv (.agg (eGSlot_field ({ fClass := y162.fName, fVar := y156 } : GSlot_field))))], dst := some 34, val := some (.pv (.vs 14 (List.map eGSlot_field [({ fClass := y162.fName, fVar := y156 } : GSlot_field)]))) } (fun m h => step_on (guard_no rfl) (op_lit (rows := List.map eGSlot_field ([({ fClass := y162.fName, fVar := y156 } : GSlot_field)] : List GSlot_field)) (zs := (eGSlot_field zGSlot_field)) rfl rfl Try_slc_61 Try_zer_71 (by exact ⟨rfl, rfl, rfl, rfl, rfl, rfl, rfl, rfl, rfl, rfl, rfl, rfl, rfl, rfl, trivial⟩) rfl rfl rfl (evs_cons h.1.1 evs_nil) rfl rfl rfl rfl) rfl) ⟨⟨rfl, trivial⟩, trivial, trivial⟩ ?_
        obtain ⟨u164, h165, hF⟩ := bind_some hF
        refine dr_cons { need := [(26, .ls 2), (34, .pv (.vs 14 (List.map eGSlot_field [({ fClass := y162.fName, fVar := y156 } : GSlot_field)])))], hneed := [(2, .row 71 14 (List.map eGSlot_field x136))], names := [4], dst := some 35, val := some (.ls 4), upd := [(4, some (.row 71 14 (List.map eGSlot_field (x136 ++ [({ fClass := y162.fName, fVar := y156 } : GSlot_field)])))), (2, none)] } (fun m h => step_on (guard_no rfl) (op_append 4 (fresh_free h.2.2.1) rfl h.1.1 h.2.1.1 h.1.2.1 Try_slc_61 Try_elm_71 Try_zer_71 rfl rfl rfl (room_map (f := eGSlot_field) (g := eGSlot_field) h165) (List.map_append (f := eGSlot_field) (l₁ := x136) (l₂ := [({ fClass := y162.fName, fVar := y156 } : GSlot_field)])).symm rfl rfl) rfl) ⟨⟨rfl, rfl, trivial⟩, ⟨rfl, trivial⟩, ⟨rfl, trivial⟩⟩ ?_
        refine dr_cons { need := [(5, .lp 1 0), (35, .ls 4)], hneed := [(1, .box 61 [.ls 2])], upd := [(1, some (.box 61 [.ls 4]))] } (fun m h => step_on (guard_no rfl) (op_store_lp (n := 1) rfl h.1.1 h.1.2.1 rfl h.2.1.1 (or_one Try_one_61) (by rw [Try_one_61]; rfl) rfl rfl rfl) rfl) ⟨⟨rfl, rfl, trivial⟩, ⟨rfl, trivial⟩, trivial⟩ ?_
        refine dr_nil Try_mixed rfl (by kernel_rfl) ?_
        refine post_imp (s' := ⟨38, [(2, some (.lp 0 0)), (5, some (.lp 1 0)), (7, some (.pv (.int .i64 x118))), (20, some (.pv (.vs 13 (List.map eGVar y121.fFields)))), (21, some (.pv (.int .i64 (y121.fFields.length : Int)))), (22, some (.pv (.int .i64 x137)))], [(0, some (.box 48 [.pv (.vs 7 (List.map eGClass a0))])), (1, some (.box 61 [.ls 2])), (2, some (.row 71 14 (List.map eGSlot_field (x136 ++ [({ fClass := y162.fName, fVar := y156 } : GSlot_field)]))))], 3, [], [], 0, [2, 5]⟩) (imps [0, 1, 4] ⟨by kernel_rfl, by kernel_rfl, by kernel_rfl, by kernel_rfl, by kernel_rfl, by kernel_rfl, trivial⟩ ⟨by kernel_rfl, by kernel_rfl, by kernel_rfl, trivial⟩) ?_
        refine post_block_normal ?_
        refine post_next ?_
        refine aw_region ?_
        refine reg_cons (guard_no rfl) (op_int (k := .i64) (m := x137) (n := 1) rfl rfl rfl rfl rfl rfl) ?_
        refine rmv ?_
        refine reg_nil ?_
        refine post_round ?_
        exact rnd_back (ih ((x136 ++ [({ fClass := y162.fName, fVar := y156 } : GSlot_field)]), w_i64 (x137 + 1)) hF) (imps [0, 1, 2] ⟨by kernel_rfl, by kernel_rfl, by kernel_rfl, by kernel_rfl, by kernel_rfl, by kernel_rfl, trivial⟩ ⟨by kernel_rfl, by kernel_rfl, by kernel_rfl, trivial⟩)
      refine aw_cond_f rfl hb153 ?_
      refine aw_exit ?_
      iterate 2 (refine post_then_exit ?_)
      obtain rfl := Option.some.inj hF
      exact post_lp_break _ rfl (imps [0, 1, 2] ⟨by kernel_rfl, by kernel_rfl, trivial⟩ ⟨by kernel_rfl, by kernel_rfl, by kernel_rfl, trivial⟩)
    rintro _ rfl
    have hF := hK169
    clear hK169
    refine post_block_normal ?_
    obtain rfl := Option.some.inj hF
    exact post_rnd x168 rfl (imps [0, 1, 2] ⟨by kernel_rfl, by kernel_rfl, trivial⟩ ⟨by kernel_rfl, by kernel_rfl, by kernel_rfl, trivial⟩)
  · rintro x62 rfl
    have hF := elim_next hF
    refine post_block_normal ?_
    refine post_next ?_
    refine aw_seq ?_
    refine aw_region ?_
    refine reg_cons (guard_no rfl) (op_load_lp (v := .ls 2) rfl rfl rfl rfl Try_one_61 rfl rfl) ?_
    refine ras ?_
    refine reg_nil ?_
    refine post_imp (s' := ⟨38, [(4, some (.ls 0))], [(0, some (.row 71 14 (List.map eGSlot_field x62)))], 1, [], [], 0, []⟩) (imps [2] ⟨by kernel_rfl, trivial⟩ ⟨by kernel_rfl, trivial⟩) ?_
    refine post_next ?_
    refine aw_ret ?_
    obtain rfl := Option.some.inj hF
    exact post_ret rfl rfl (.cons _ _ _ _ _ (.tmp _ _ rfl) (.own _ _ _ _ rfl nolent3) .nil) (.inl rfl)
  rintro ⟨⟩ rfl
  have hF := elim_stop hF
  cases hF
theorem field_named_ok {a0 : List UInt8} {r : (List UInt8)} (hF : field_named a0 = some r) : Abs.Fn Try.prog 72 [.str a0] [.p (.fn 91 [.vp (eS r)])] := by
  unfold field_named at hF
  refine fn_of_body (n := 4) Try.func72 rfl rfl rfl ?_
  intro w O
  refine aw_seq ?_
  refine aw_region ?_
  refine reg_cons (guard_no rfl) (op_box 0 rfl rfl rfl rfl rfl rfl) ?_
  refine ras ?_
  refine reg_nil ?_
  refine post_imp (s' := ⟨4, [(1, some (.lp 0 0))], [(0, some (.box 9 [.pv (.str a0)]))], 1, [], [], 0, []⟩) (imps [0] ⟨by kernel_rfl, trivial⟩ ⟨by kernel_rfl, trivial⟩) ?_
  refine post_next ?_
  refine aw_seq ?_
  refine aw_region ?_
  refine reg_cons (guard_no rfl) (op_makeFunc rfl rfl rfl rfl) ?_
  refine ras ?_
  refine reg_nil ?_
  refine post_imp (s' := ⟨4, [(2, some (.fn 91 [.lp 0 0]))], [(0, some (.box 9 [.pv (.str a0)]))], 1, [], [], 0, []⟩) (imps [0] ⟨by kernel_rfl, trivial⟩ ⟨by kernel_rfl, trivial⟩) ?_
  refine post_next ?_
  refine aw_ret ?_
  refine post_imp (imp_freeze [(0, some (.box 9 [.pv (.str a0)]))] [(2, some (.pv (.fn 91 [.vp (eS a0)])))] (FzH.spec ⟨rfl, trivial⟩) ⟨⟨_, rfl, rfl⟩, trivial⟩) ?_
  obtain rfl := Option.some.inj hF
  exact post_ret rfl rfl (.cons _ _ _ _ _ (.tmp _ _ rfl) (.p _) .nil) (.inl rfl)
theorem slices_IndexFunc_field_Slot_ok {a0 : List GSlot_field} {q1 : GSlot_field → Option Bool} {r : Int} {q1_f : Nat} {q1_c : List PV} (q1_b : callB Try.prog q1_f = true) (q1_h : ∀ (x0 : GSlot_field) (r : Bool), q1 x0 = some r → Abs.Fn Try.prog q1_f ([.agg (eGSlot_field x0)] ++ q1_c) [.p (.bool r)]) (hF : slices_IndexFunc_field_Slot a0 q1 = some r) : Abs.Fn Try.prog 71 [.vs 14 (List.map eGSlot_field a0), .fn q1_f q1_c] [.p (.int .i64 r)] := by
  unfold slices_IndexFunc_field_Slot at hF
  refine fn_of_body (n := 19) Try.func71 rfl rfl rfl ?_
  intro w O
  refine aw_seq ?_
  refine aw_region ?_
  refine ras ?_
  refine reg_nil ?_
  refine post_imp (s' := ⟨19, [(0, some (.pv (.vs 14 (List.map eGSlot_field a0)))), (1, some (.pv (.fn q1_f q1_c)))], [], 0, [], [], 0, []⟩) (imps [] ⟨by kernel_rfl, by kernel_rfl, trivial⟩ trivial) ?_
  refine post_next ?_
  iterate 2 (refine aw_seq ?_)
  refine aw_region ?_
  refine rmv ?_
  refine reg_cons (guard_no rfl) (op_len_vs (n := a0.length) rfl rfl (List.length_map ..) Try_slc_61 rfl rfl) ?_
  refine rmv ?_
  refine reg_nil ?_
  refine post_imp (s' := ⟨19, [(0, some (.pv (.vs 14 (List.map eGSlot_field a0)))), (1, some (.pv (.fn q1_f q1_c))), (7, some (.pv (.int .i64 (a0.length : Int)))), (8, some (.pv (.int .i64 0)))], [], 0, [], [], 0, []⟩) (imps [] ⟨by kernel_rfl, by kernel_rfl, by kernel_rfl, by kernel_rfl, trivial⟩ trivial) ?_
  refine post_next ?_
  obtain ⟨lr34, hF, hK35⟩ := bind_some hF
  refine aw_for ((((a0.length : Int) : Int) - (0)).toNat + 1) (fun s1 => ∃ q, lr34 = .next q ∧ s1 = ⟨19, [], [], 0, [], [], 0, []⟩) ?_ ?_
  · refine rnd_loop (α := Int) (fun q => ⟨19, [(0, some (.pv (.vs 14 (List.map eGSlot_field a0)))), (1, some (.pv (.fn q1_f q1_c))), (7, some (.pv (.int .i64 (a0.length : Int)))), (8, some (.pv (.int .i64 q)))], [], 0, [], [], 0, []⟩) (fun k q => slices_IndexFunc_field_Slot_L1 a0 q1 k q = some lr34) 0 (imps [] ⟨by kernel_rfl, by kernel_rfl, by kernel_rfl, by kernel_rfl, trivial⟩ trivial) hF (fun q h => by cases h) ?_
    clear hF
    rintro k x11 hF ih
    refine rnd_succ ?_
    refine aw_seq ?_
    refine aw_region ?_
    refine reg_cons (guard_no rfl) (op_int (k := .i64) (m := x11) (n := (a0.length : Int)) rfl rfl rfl rfl rfl rfl) ?_
    refine reg_nil ?_
    refine post_imp (s' := ⟨19, [(0, some (.pv (.vs 14 (List.map eGSlot_field a0)))), (1, some (.pv (.fn q1_f q1_c))), (7, some (.pv (.int .i64 (a0.length : Int)))), (8, some (.pv (.int .i64 x11))), (9, some (.pv (.bool (decide (x11 < (a0.length : Int))))))], [], 0, [], [], 0, []⟩) (imps [] ⟨by kernel_rfl, by kernel_rfl, by kernel_rfl, by kernel_rfl, by kernel_rfl, trivial⟩ trivial) ?_
    refine post_next ?_
    refine aw_seq ?_
    rcases ite_some hF with ⟨hb23, hF⟩ | ⟨hb23, hF⟩
    · refine aw_cond_t rfl hb23 ?_
      refine aw_skip ?_
      refine post_next ?_
      refine aw_seq ?_
      refine aw_block ?_
      refine aw_seq ?_
      refine aw_region ?_
      refine rmv ?_
      refine ras ?_
      refine reg_nil ?_
      refine post_imp (s' := ⟨19, [(0, some (.pv (.vs 14 (List.map eGSlot_field a0)))), (1, some (.pv (.fn q1_f q1_c))), (5, some (.pv (.int .i64 x11))), (7, some (.pv (.int .i64 (a0.length : Int)))), (8, some (.pv (.int .i64 x11)))], [], 0, [], [], 0, []⟩) (imps [] ⟨by kernel_rfl, by kernel_rfl, by kernel_rfl, by kernel_rfl, by kernel_rfl, trivial⟩ trivial) ?_
      refine post_next ?_
      refine aw_seq ?_
      refine aw_region ?_
      iterate 3 (refine rmv ?_)
      obtain ⟨y28, h29, hF⟩ := bind_some hF
      refine reg_cons (guard_no rfl) (op_index_vs (k := .i64) rfl rfl rfl (idx_map eGSlot_field h29) Try_slc_61 rfl rfl) ?_
      refine reg_cons (guard_no rfl) (op_load_vp_agg (ps := eGSlot_field y28) rfl rfl rfl rfl Try_agg_71 rfl rfl) ?_
      obtain ⟨y30, h31, hF⟩ := bind_some hF
      refine reg_cons (guard_no rfl) (op_call 0 rfl (caps := q1_c) (args := [.agg (eGSlot_field y28)]) (rs := [.p (.bool y30)]) rfl rfl rfl q1_b (q1_h y28 _ h31) rfl rfl rfl) ?_
      refine reg_nil ?_
      refine post_imp (s' := ⟨19, [(0, some (.pv (.vs 14 (List.map eGSlot_field a0)))), (1, some (.pv (.fn q1_f q1_c))), (5, some (.pv (.int .i64 x11))), (7, some (.pv (.int .i64 (a0.length : Int)))), (8, some (.pv (.int .i64 x11))), (16, some (.pv (.bool y30)))], [], 0, [], [], 0, []⟩) (imps [] ⟨by kernel_rfl, by kernel_rfl, by kernel_rfl, by kernel_rfl, by kernel_rfl, by kernel_rfl, trivial⟩ trivial) ?_
      refine post_next ?_
      rcases ite_some hF with ⟨hb32, hF⟩ | ⟨hb32, hF⟩
      · refine aw_cond_t rfl hb32 ?_
        refine aw_seq ?_
        refine aw_region ?_
        refine rmv ?_
        refine ras ?_
        refine reg_nil ?_
        refine post_imp (s' := ⟨19, [(4, some (.pv (.int .i64 x11)))], [], 0, [], [], 0, []⟩) (imps [] ⟨by kernel_rfl, trivial⟩ trivial) ?_
        refine post_next ?_
        refine aw_ret ?_
        refine post_block_ret ?_
        iterate 2 (refine post_then_ret ?_)
        refine post_lp_ret ?_
        obtain rfl := Option.some.inj hF
        have hF := elim_stop hK35
        refine post_then_ret ?_
        obtain rfl := Option.some.inj hF
        exact post_ret rfl rfl (.cons _ _ _ _ _ (.tmp _ _ rfl) (.p _) .nil) (.inl rfl)
      refine aw_cond_f rfl hb32 ?_
      refine aw_skip ?_
      refine post_block_normal ?_
      refine post_next ?_
      refine aw_region ?_
      refine reg_cons (guard_no rfl) (op_int (k := .i64) (m := x11) (n := 1) rfl rfl rfl rfl rfl rfl) ?_
      refine rmv ?_
      refine reg_nil ?_
      refine post_round ?_
      exact rnd_back (ih (w_i64 (x11 + 1)) hF) (imps [] ⟨by kernel_rfl, by kernel_rfl, by kernel_rfl, by kernel_rfl, trivial⟩ trivial)
    refine aw_cond_f rfl hb23 ?_
    refine aw_exit ?_
    iterate 2 (refine post_then_exit ?_)
    obtain rfl := Option.some.inj hF
    exact post_lp_break _ ⟨_, rfl, rfl⟩ (imps [] trivial trivial)
  rintro _ ⟨⟨⟩, rfl, rfl⟩
  have hF := elim_next hK35
  clear hK35
  refine post_next ?_
  refine aw_seq ?_
  refine aw_region ?_
  refine ras ?_
  refine reg_nil ?_
  refine post_imp (s' := ⟨19, [(4, some (.pv (.int .i64 (-1))))], [], 0, [], [], 0, []⟩) (imps [] ⟨by kernel_rfl, trivial⟩ trivial) ?_
  refine post_next ?_
  refine aw_ret ?_
  obtain rfl := Option.some.inj hF
  exact post_ret rfl rfl (.cons _ _ _ _ _ (.tmp _ _ rfl) (.p _) .nil) (.inl rfl)
theorem field_named_1_ok {a0 : GSlot_field} {c0 : List UInt8} {r : Bool} (hF : field_named_1 a0 c0 = some r) : Abs.Fn Try.prog 91 [.agg (eGSlot_field a0), .vp (eS c0)] [.p (.bool r)] := by
  unfold field_named_1 at hF
  refine fn_of_body (n := 9) Try.func91 rfl rfl rfl ?_
  intro w O
  refine aw_seq ?_
  refine aw_region ?_
  refine reg_cons (guard_no rfl) (op_box 0 rfl rfl rfl rfl rfl rfl) ?_
  refine ras ?_
  refine reg_nil ?_
  refine post_imp (s' := ⟨9, [(1, some (.pv (.vp (eS c0)))), (2, some (.lp 0 0))], [(0, some (.box 71 (bxv (eGSlot_field a0))))], 1, [], [], 0, []⟩) (imps [0] ⟨by kernel_rfl, by kernel_rfl, trivial⟩ ⟨by kernel_rfl, trivial⟩) ?_
  refine post_next ?_
  refine aw_seq ?_
  refine aw_region ?_
  refine reg_cons (guard_no rfl) (op_field_lp rfl rfl Try_fld_71_1 rfl rfl) ?_
  refine reg_cons (guard_no rfl) (op_field_lp rfl rfl Try_fld_69_0 rfl rfl) ?_
  refine reg_cons (guard_no rfl) (op_load_lp (v := .pv (.str a0.fVar.fName)) rfl rfl rfl rfl Try_one_9 rfl rfl) ?_
  refine reg_cons (guard_no rfl) (op_load_vp (p := .str c0) rfl rfl rfl Try_one_9 rfl rfl) ?_
  refine reg_cons (guard_no rfl) (op_str rfl rfl rfl rfl rfl rfl) ?_
  refine ras ?_
  refine reg_nil ?_
  refine post_imp (s' := ⟨9, [(3, some (.pv (.bool (a0.fVar.fName == c0))))], [], 0, [], [], 0, []⟩) (imps [] ⟨by kernel_rfl, trivial⟩ trivial) ?_
  refine post_next ?_
  refine aw_ret ?_
  obtain rfl := Option.some.inj hF
  exact post_ret rfl rfl (.cons _ _ _ _ _ (.tmp _ _ rfl) (.p _) .nil) (.inl rfl)
theorem field_Find_ok {a0 : List GClass} {a1 : List UInt8} {a2 : List UInt8} {r : Int} (hF : field_Find a0 a1 a2 = some r) : Abs.Fn Try.prog 48 [.vs 7 (List.map eGClass a0), .str a1, .str a2] [.p (.int .i64 r)] := by
  unfold field_Find at hF
  refine fn_of_body (n := 13) Try.func48 rfl rfl rfl ?_
  intro w O
  refine aw_seq ?_
  refine aw_region ?_
  refine ras ?_
  refine reg_nil ?_
  refine post_imp (s' := ⟨13, [(0, some (.pv (.vs 7 (List.map eGClass a0)))), (1, some (.pv (.str a1))), (2, some (.pv (.str a2)))], [], 0, [], [], 0, []⟩) (imps [] ⟨by kernel_rfl, by kernel_rfl, by kernel_rfl, trivial⟩ trivial) ?_
  refine post_next ?_
  refine aw_seq ?_
  refine aw_region ?_
  iterate 2 (refine rmv ?_)
  obtain ⟨y1, h2, hF⟩ := bind_some hF
  refine reg_cons (guard_no rfl) (op_call 0 rfl (caps := []) (args := [.vs 7 (List.map eGClass a0), .str a1]) (rs := [.p (.vs 14 (List.map eGSlot_field y1))]) rfl rfl rfl Try_cal_40 (Fn.frozen (field_All_ok h2)) rfl rfl rfl) ?_
  refine rmv ?_
  obtain ⟨y3, h4, hF⟩ := bind_some hF
  refine reg_cons (guard_no rfl) (op_call 0 rfl (caps := []) (args := [.str a2]) (rs := [.p (.fn 91 [.vp (eS y3)])]) rfl rfl rfl Try_cal_72 (field_named_ok h4) rfl rfl rfl) ?_
  obtain ⟨y6, h7, hF⟩ := bind_some hF
  refine reg_cons (guard_no rfl) (op_call 0 rfl (caps := []) (args := [.vs 14 (List.map eGSlot_field y1), .fn 91 [.vp (eS y3)]]) (rs := [.p (.int .i64 y6)]) rfl rfl rfl Try_cal_71 (slices_IndexFunc_field_Slot_ok (q1_f := 91) (q1_c := [.vp (eS y3)]) (q1_b := Try_cal_91) (q1_h := fun _ r h => (field_named_1_ok h)) h7) rfl rfl rfl) ?_
  refine ras ?_
  refine reg_nil ?_
  refine post_imp (s' := ⟨13, [(6, some (.pv (.int .i64 y6)))], [], 0, [], [], 0, []⟩) (imps [] ⟨by kernel_rfl, trivial⟩ trivial) ?_
  refine post_next ?_
  refine aw_ret ?_
  obtain rfl := Option.some.inj hF
  exact post_ret rfl rfl (.cons _ _ _ _ _ (.tmp _ _ rfl) (.p _) .nil) (.inl rfl)
theorem law16_awake_ok  {r : Bool} (hF : law16_awake = some r) : Abs.Fn Try.prog 39 [] [.p (.bool r)] := by
  unfold law16_awake at hF
  refine fn_of_body (n := 22) Try.func39 rfl rfl rfl ?_
  intro w O
  refine aw_seq ?_
  refine aw_region ?_
  refine ras ?_
  refine reg_nil ?_
  refine post_imp (s' := ⟨22, [], [], 0, [], [], 0, []⟩) (imps [] trivial trivial) ?_
  refine post_next ?_
  refine aw_seq ?_
  refine aw_region ?_
  refine reg_cons (guard_no rfl) (op_build (zs := (eGVar zGVar)) (r := eGVar ({ fName := [102], fType := zGType, fAt := 0 } : GVar)) rfl Try_zer_69 (by exact ⟨rfl, rfl, rfl, rfl, rfl, rfl, rfl, rfl, rfl, rfl, rfl, rfl, rfl, trivial⟩) Try_plc_69 rfl rfl rfl rfl) ?_
  refine reg_cons (guard_no rfl) (op_lit (rows := List.map eGVar ([({ fName := [102], fType := zGType, fAt := 0 } : GVar)] : List GVar)) (zs := (eGVar zGVar)) rfl rfl Try_slc_92 Try_zer_69 (by exact ⟨rfl, rfl, rfl, rfl, rfl, rfl, rfl, rfl, rfl, rfl, rfl, rfl, rfl, trivial⟩) rfl rfl rfl rfl rfl rfl rfl rfl) ?_
  refine reg_cons (guard_no rfl) (op_build (zs := (eGClass zGClass)) (r := eGClass ({ fName := [65], fParams := [], fSuper := [], fAbove := [], fFields := [({ fName := [102], fType := zGType, fAt := 0 } : GVar)], fMethods := [], fAt := 0 } : GClass)) rfl Try_zer_95 (by exact ⟨rfl, trivial, rfl, trivial, trivial, trivial, rfl, trivial⟩) Try_plc_95 rfl rfl rfl rfl) ?_
  refine reg_cons (guard_no rfl) (op_build (zs := (eGVar zGVar)) (r := eGVar ({ fName := [103], fType := zGType, fAt := 0 } : GVar)) rfl Try_zer_69 (by exact ⟨rfl, rfl, rfl, rfl, rfl, rfl, rfl, rfl, rfl, rfl, rfl, rfl, rfl, trivial⟩) Try_plc_69 rfl rfl rfl rfl) ?_
  refine reg_cons (guard_no rfl) (op_lit (rows := List.map eGVar ([({ fName := [103], fType := zGType, fAt := 0 } : GVar)] : List GVar)) (zs := (eGVar zGVar)) rfl rfl Try_slc_92 Try_zer_69 (by exact ⟨rfl, rfl, rfl, rfl, rfl, rfl, rfl, rfl, rfl, rfl, rfl, rfl, rfl, trivial⟩) rfl rfl rfl rfl rfl rfl rfl rfl) ?_
  refine reg_cons (guard_no rfl) (op_build (zs := (eGClass zGClass)) (r := eGClass ({ fName := [66], fParams := [], fSuper := [65], fAbove := [], fFields := [({ fName := [103], fType := zGType, fAt := 0 } : GVar)], fMethods := [], fAt := 0 } : GClass)) rfl Try_zer_95 (by exact ⟨rfl, trivial, rfl, trivial, trivial, trivial, rfl, trivial⟩) Try_plc_95 rfl rfl rfl rfl) ?_
  refine reg_cons (guard_no rfl) (op_lit (rows := List.map eGClass ([({ fName := [65], fParams := [], fSuper := [], fAbove := [], fFields := [({ fName := [102], fType := zGType, fAt := 0 } : GVar)], fMethods := [], fAt := 0 } : GClass), ({ fName := [66], fParams := [], fSuper := [65], fAbove := [], fFields := [({ fName := [103], fType := zGType, fAt := 0 } : GVar)], fMethods := [], fAt := 0 } : GClass)] : List GClass)) (zs := (eGClass zGClass)) rfl rfl Try_slc_48 Try_zer_95 (by exact ⟨rfl, trivial, rfl, trivial, trivial, trivial, rfl, trivial⟩) rfl rfl rfl rfl rfl rfl rfl rfl) ?_
  refine ras ?_
  refine reg_nil ?_
  refine post_imp (s' := ⟨22, [(1, some (.pv (.vs 7 (List.map eGClass [({ fName := [65], fParams := [], fSuper := [], fAbove := [], fFields := [({ fName := [102], fType := zGType, fAt := 0 } : GVar)], fMethods := [], fAt := 0 } : GClass), ({ fName := [66], fParams := [], fSuper := [65], fAbove := [], fFields := [({ fName := [103], fType := zGType, fAt := 0 } : GVar)], fMethods := [], fAt := 0 } : GClass)]))))], [], 0, [], [], 0, []⟩) (imps [] ⟨by kernel_rfl, trivial⟩ trivial) ?_
  refine post_next ?_
  refine aw_seq ?_
  refine aw_region ?_
  refine rmv ?_
  obtain ⟨y1, h2, hF⟩ := bind_some hF
  refine reg_cons (guard_no rfl) (op_call 0 rfl (caps := []) (args := [.vs 7 (List.map eGClass [({ fName := [65], fParams := [], fSuper := [], fAbove := [], fFields := [({ fName := [102], fType := zGType, fAt := 0 } : GVar)], fMethods := [], fAt := 0 } : GClass), ({ fName := [66], fParams := [], fSuper := [65], fAbove := [], fFields := [({ fName := [103], fType := zGType, fAt := 0 } : GVar)], fMethods := [], fAt := 0 } : GClass)]), .str [66], .str [103]]) (rs := [.p (.int .i64 y1)]) rfl rfl rfl Try_cal_48 (field_Find_ok h2) rfl rfl rfl) ?_
  refine reg_cons (guard_no rfl) (op_int (k := .i64) (m := y1) (n := 1) rfl rfl rfl rfl rfl rfl) ?_
  refine rmv ?_
  rcases ite_some hF with ⟨hb3, hF⟩ | ⟨hb3, hF⟩
  · refine reg_cons (guard_on rfl rfl rfl rfl hb3) (op_move rfl rfl rfl rfl) ?_
    obtain ⟨y4, h5, hF⟩ := bind_some hF
    refine reg_cons (guard_on rfl rfl rfl rfl hb3) (op_call 0 rfl (caps := []) (args := [.vs 7 (List.map eGClass [({ fName := [65], fParams := [], fSuper := [], fAbove := [], fFields := [({ fName := [102], fType := zGType, fAt := 0 } : GVar)], fMethods := [], fAt := 0 } : GClass), ({ fName := [66], fParams := [], fSuper := [65], fAbove := [], fFields := [({ fName := [103], fType := zGType, fAt := 0 } : GVar)], fMethods := [], fAt := 0 } : GClass)]), .str [66], .str [102]]) (rs := [.p (.int .i64 y4)]) rfl rfl rfl Try_cal_48 (field_Find_ok h5) rfl rfl rfl) ?_
    refine reg_cons (guard_on rfl rfl rfl rfl hb3) (op_int (k := .i64) (m := y4) (n := 0) rfl rfl rfl rfl rfl rfl) ?_
    refine rpt hb3 ?_
    refine rmv ?_
    rcases ite_some hF with ⟨hb6, hF⟩ | ⟨hb6, hF⟩
    · refine reg_cons (guard_on rfl rfl rfl rfl hb6) (op_move rfl rfl rfl rfl) ?_
      obtain ⟨y7, h8, hF⟩ := bind_some hF
      refine reg_cons (guard_on rfl rfl rfl rfl hb6) (op_call 0 rfl (caps := []) (args := [.vs 7 (List.map eGClass [({ fName := [65], fParams := [], fSuper := [], fAbove := [], fFields := [({ fName := [102], fType := zGType, fAt := 0 } : GVar)], fMethods := [], fAt := 0 } : GClass), ({ fName := [66], fParams := [], fSuper := [65], fAbove := [], fFields := [({ fName := [103], fType := zGType, fAt := 0 } : GVar)], fMethods := [], fAt := 0 } : GClass)]), .str [65], .str [103]]) (rs := [.p (.int .i64 y7)]) rfl rfl rfl Try_cal_48 (field_Find_ok h8) rfl rfl rfl) ?_
      refine reg_cons (guard_on rfl rfl rfl rfl hb6) (op_int (k := .i64) (m := y7) (n := (-1)) rfl rfl rfl rfl rfl rfl) ?_
      refine rpt hb6 ?_
      refine ras ?_
      refine reg_nil ?_
      refine post_imp (s' := ⟨22, [(0, some (.pv (.bool (y7 == (-1)))))], [], 0, [], [], 0, []⟩) (imps [] ⟨by kernel_rfl, trivial⟩ trivial) ?_
      refine post_next ?_
      refine aw_ret ?_
      obtain rfl := Option.some.inj hF
      exact post_ret rfl rfl (.cons _ _ _ _ _ (.tmp _ _ rfl) (.p _) .nil) (.inl rfl)
    iterate 3 (refine rgo_f hb6 ?_)
    refine rpf hb6 ?_
    refine ras ?_
    refine reg_nil ?_
    refine post_imp (s' := ⟨22, [(0, some (.pv (.bool false)))], [], 0, [], [], 0, []⟩) (imps [] ⟨by kernel_rfl, trivial⟩ trivial) ?_
    refine post_next ?_
    refine aw_ret ?_
    obtain rfl := Option.some.inj hF
    exact post_ret rfl rfl (.cons _ _ _ _ _ (.tmp _ _ rfl) (.p _) .nil) (.inl rfl)
  iterate 3 (refine rgo_f hb3 ?_)
  refine rpf hb3 ?_
  refine rmv ?_
  iterate 3 (refine rgo_f rfl ?_)
  refine rpf rfl ?_
  refine ras ?_
  refine reg_nil ?_
  refine post_imp (s' := ⟨22, [(0, some (.pv (.bool false)))], [], 0, [], [], 0, []⟩) (imps [] ⟨by kernel_rfl, trivial⟩ trivial) ?_
  refine post_next ?_
  refine aw_ret ?_
  obtain rfl := Option.some.inj hF
  exact post_ret rfl rfl (.cons _ _ _ _ _ (.tmp _ _ rfl) (.p _) .nil) (.inl rfl)
theorem law16_FieldKeeps_ok {a0 : List GClass} {a1 : List UInt8} {a2 : List UInt8} {r : Bool} (hF : law16_FieldKeeps a0 a1 a2 = some r) : Abs.Fn Try.prog 10 [.vs 7 (List.map eGClass a0), .str a1, .str a2] [.p (.bool r)] := by
  unfold law16_FieldKeeps at hF
  refine fn_of_body (n := 83) Try.func10 rfl rfl rfl ?_
  intro w O
  refine aw_seq ?_
  refine aw_region ?_
  refine ras ?_
  refine reg_nil ?_
  refine post_imp (s' := ⟨83, [(0, some (.pv (.vs 7 (List.map eGClass a0)))), (1, some (.pv (.str a1))), (2, some (.pv (.str a2)))], [], 0, [], [], 0, []⟩) (imps [] ⟨by kernel_rfl, by kernel_rfl, by kernel_rfl, trivial⟩ trivial) ?_
  refine post_next ?_
  iterate 2 (refine aw_seq ?_)
  obtain ⟨x17, hF, hK19⟩ := bind_some hF
  refine aw_cut (fun s1 => s1 = ⟨83, [(0, some (.pv (.vs 7 (List.map eGClass a0)))), (1, some (.pv (.str a1))), (2, some (.pv (.str a2))), (37, some (.pv (.bool x17)))], [], 0, [], [], 0, []⟩) ?_ ?_
  · refine aw_region ?_
    refine rmv ?_
    obtain ⟨y3, h4, hF⟩ := bind_some hF
    refine reg_cons (guard_no rfl) (op_call 0 rfl (caps := []) (args := [.vs 7 (List.map eGClass a0)]) (rs := [.p (.bool y3)]) rfl rfl rfl Try_cal_38 (law16_great_ok h4) rfl rfl rfl) ?_
    refine rmv ?_
    rcases ite_some hF with ⟨hb5, hF⟩ | ⟨hb5, hF⟩
    · refine rgo_t hb5 ?_
      iterate 3 (refine rgo_t hb5 ?_)
      refine rpt hb5 ?_
      refine rmv ?_
      iterate 4 (refine rgo_t rfl ?_)
      refine rpt rfl ?_
      refine rmv ?_
      iterate 4 (refine rgo_t rfl ?_)
      refine rpt rfl ?_
      refine rmv ?_
      iterate 5 (refine rgo_t rfl ?_)
      refine rpt rfl ?_
      refine reg_nil ?_
      cases hF
      exact post_cut _ rfl (imps [] ⟨by kernel_rfl, by kernel_rfl, by kernel_rfl, by kernel_rfl, trivial⟩ trivial)
    refine reg_cons (guard_on rfl rfl rfl rfl hb5) (op_move rfl rfl rfl rfl) ?_
    obtain ⟨y6, h7, hF⟩ := bind_some hF
    refine reg_cons (guard_on rfl rfl rfl rfl hb5) (op_call 0 rfl (caps := []) (args := [.vs 7 (List.map eGClass a0)]) (rs := [.p (.agg (eGFault y6))]) rfl rfl rfl Try_cal_46 (ref13_Check_ok h7) rfl rfl rfl) ?_
    refine reg_cons (guard_on rfl rfl rfl rfl hb5) (op_field1 (p := .int .i64 y6.fErr) rfl rfl Try_ftb_54_0 Try_one_52 rfl rfl rfl) ?_
    refine reg_cons (guard_on rfl rfl rfl rfl hb5) (op_int (k := .i64) (m := y6.fErr) (n := 0) rfl rfl rfl rfl rfl rfl) ?_
    refine rpf hb5 ?_
    refine rmv ?_
    rcases ite_some hF with ⟨hb8, hF⟩ | ⟨hb8, hF⟩
    · refine rgo_t hb8 ?_
      iterate 3 (refine rgo_t hb8 ?_)
      refine rpt hb8 ?_
      refine rmv ?_
      iterate 4 (refine rgo_t rfl ?_)
      refine rpt rfl ?_
      refine rmv ?_
      iterate 5 (refine rgo_t rfl ?_)
      refine rpt rfl ?_
      refine reg_nil ?_
      cases hF
      exact post_cut _ rfl (imps [] ⟨by kernel_rfl, by kernel_rfl, by kernel_rfl, by kernel_rfl, trivial⟩ trivial)
    refine reg_cons (guard_on rfl rfl rfl rfl hb8) (op_move rfl rfl rfl rfl) ?_
    obtain ⟨y9, h10, hF⟩ := bind_some hF
    refine reg_cons (guard_on rfl rfl rfl rfl hb8) (op_call 0 rfl (caps := []) (args := [.vs 7 (List.map eGClass a0)]) (rs := [.p (.agg (eGFault y9))]) rfl rfl rfl Try_cal_36 (ref14_Check_ok h10) rfl rfl rfl) ?_
    refine reg_cons (guard_on rfl rfl rfl rfl hb8) (op_field1 (p := .int .i64 y9.fErr) rfl rfl Try_ftb_54_0 Try_one_52 rfl rfl rfl) ?_
    refine reg_cons (guard_on rfl rfl rfl rfl hb8) (op_int (k := .i64) (m := y9.fErr) (n := 0) rfl rfl rfl rfl rfl rfl) ?_
    refine rpf hb8 ?_
    refine rmv ?_
    rcases ite_some hF with ⟨hb11, hF⟩ | ⟨hb11, hF⟩
    · refine rgo_t hb11 ?_
      iterate 3 (refine rgo_t hb11 ?_)
      refine rpt hb11 ?_
      refine rmv ?_
      iterate 5 (refine rgo_t rfl ?_)
      refine rpt rfl ?_
      refine reg_nil ?_
      cases hF
      exact post_cut _ rfl (imps [] ⟨by kernel_rfl, by kernel_rfl, by kernel_rfl, by kernel_rfl, trivial⟩ trivial)
    refine reg_cons (guard_on rfl rfl rfl rfl hb11) (op_move rfl rfl rfl rfl) ?_
    obtain ⟨y12, h13, hF⟩ := bind_some hF
    refine reg_cons (guard_on rfl rfl rfl rfl hb11) (op_call 0 rfl (caps := []) (args := [.vs 7 (List.map eGClass a0)]) (rs := [.p (.agg (eGFault y12))]) rfl rfl rfl Try_cal_47 (field_Check_ok h13) rfl rfl rfl) ?_
    refine reg_cons (guard_on rfl rfl rfl rfl hb11) (op_field1 (p := .int .i64 y12.fErr) rfl rfl Try_ftb_54_0 Try_one_52 rfl rfl rfl) ?_
    refine reg_cons (guard_on rfl rfl rfl rfl hb11) (op_int (k := .i64) (m := y12.fErr) (n := 0) rfl rfl rfl rfl rfl rfl) ?_
    refine rpf hb11 ?_
    refine rmv ?_
    rcases ite_some hF with ⟨hb14, hF⟩ | ⟨hb14, hF⟩
    · refine rgo_t hb14 ?_
      iterate 4 (refine rgo_t hb14 ?_)
      refine rpt hb14 ?_
      refine reg_nil ?_
      cases hF
      exact post_cut _ rfl (imps [] ⟨by kernel_rfl, by kernel_rfl, by kernel_rfl, by kernel_rfl, trivial⟩ trivial)
    iterate 3 (refine reg_cons (guard_on rfl rfl rfl rfl hb14) (op_move rfl rfl rfl rfl) ?_)
    obtain ⟨y15, h16, hF⟩ := bind_some hF
    refine reg_cons (guard_on rfl rfl rfl rfl hb14) (op_call 0 rfl (caps := []) (args := [.vs 7 (List.map eGClass a0), .str a1, .str a2]) (rs := [.p (.bool y15)]) rfl rfl rfl Try_cal_43 (ref14_Below_ok h16) rfl rfl rfl) ?_
    refine reg_cons (guard_on rfl rfl rfl rfl hb14) (op_not rfl rfl rfl rfl) ?_
    refine rpf hb14 ?_
    refine reg_nil ?_
    cases hF
    exact post_cut _ rfl (imps [] ⟨by kernel_rfl, by kernel_rfl, by kernel_rfl, by kernel_rfl, trivial⟩ trivial)
  rintro _ rfl
  have hF := hK19
  clear hK19
  refine post_next ?_
  rcases ite_some hF with ⟨hb20, hF⟩ | ⟨hb20, hF⟩
  · refine aw_cond_t rfl hb20 ?_
    refine aw_seq ?_
    refine aw_region ?_
    obtain ⟨y21, h22, hF⟩ := bind_some hF
    refine reg_cons (guard_no rfl) (op_call 0 rfl (caps := []) (args := []) (rs := [.p (.bool y21)]) rfl rfl rfl Try_cal_39 (law16_awake_ok h22) rfl rfl rfl) ?_
    refine ras ?_
    refine reg_nil ?_
    refine post_imp (s' := ⟨83, [(6, some (.pv (.bool y21)))], [], 0, [], [], 0, []⟩) (imps [] ⟨by kernel_rfl, trivial⟩ trivial) ?_
    refine post_next ?_
    refine aw_ret ?_
    refine post_then_ret ?_
    obtain rfl := Option.some.inj hF
    exact post_ret rfl rfl (.cons _ _ _ _ _ (.tmp _ _ rfl) (.p _) .nil) (.inl rfl)
  refine aw_cond_f rfl hb20 ?_
  refine aw_skip ?_
  refine post_next ?_
  refine aw_seq ?_
  refine aw_region ?_
  iterate 2 (refine rmv ?_)
  obtain ⟨y27, h28, hF⟩ := bind_some hF
  refine reg_cons (guard_no rfl) (op_call 0 rfl (caps := []) (args := [.vs 7 (List.map eGClass a0), .str a1]) (rs := [.p (.vs 14 (List.map eGSlot_field y27))]) rfl rfl rfl Try_cal_40 (Fn.frozen (field_All_ok h28)) rfl rfl rfl) ?_
  iterate 2 (refine rmv ?_)
  obtain ⟨y29, h30, hF⟩ := bind_some hF
  refine reg_cons (guard_no rfl) (op_call 0 rfl (caps := []) (args := [.vs 7 (List.map eGClass a0), .str a2]) (rs := [.p (.vs 14 (List.map eGSlot_field y29))]) rfl rfl rfl Try_cal_40 (Fn.frozen (field_All_ok h30)) rfl rfl rfl) ?_
  iterate 2 (refine ras ?_)
  refine reg_nil ?_
  refine post_imp (s' := ⟨83, [(0, some (.pv (.vs 7 (List.map eGClass a0)))), (1, some (.pv (.str a1))), (7, some (.pv (.vs 14 (List.map eGSlot_field y27)))), (8, some (.pv (.vs 14 (List.map eGSlot_field y29))))], [], 0, [], [], 0, []⟩) (imps [] ⟨by kernel_rfl, by kernel_rfl, by kernel_rfl, by kernel_rfl, trivial⟩ trivial) ?_
  refine post_next ?_
  iterate 2 (refine aw_seq ?_)
  refine aw_region ?_
  refine rmv ?_
  refine reg_cons (guard_no rfl) (op_len_vs (n := y27.length) rfl rfl (List.length_map ..) Try_slc_61 rfl rfl) ?_
  refine rmv ?_
  refine reg_cons (guard_no rfl) (op_len_vs (n := y29.length) rfl rfl (List.length_map ..) Try_slc_61 rfl rfl) ?_
  refine reg_cons (guard_no rfl) (op_int (k := .i64) (m := (y27.length : Int)) (n := (y29.length : Int)) rfl rfl rfl rfl rfl rfl) ?_
  refine reg_nil ?_
  refine post_imp (s' := ⟨83, [(0, some (.pv (.vs 7 (List.map eGClass a0)))), (1, some (.pv (.str a1))), (7, some (.pv (.vs 14 (List.map eGSlot_field y27)))), (8, some (.pv (.vs 14 (List.map eGSlot_field y29)))), (49, some (.pv (.bool (decide ((y27.length : Int) < (y29.length : Int))))))], [], 0, [], [], 0, []⟩) (imps [] ⟨by kernel_rfl, by kernel_rfl, by kernel_rfl, by kernel_rfl, by kernel_rfl, trivial⟩ trivial) ?_
  refine post_next ?_
  rcases ite_some hF with ⟨hb31, hF⟩ | ⟨hb31, hF⟩
  · refine aw_cond_t rfl hb31 ?_
    refine aw_seq ?_
    refine aw_region ?_
    refine ras ?_
    refine reg_nil ?_
    refine post_imp (s' := ⟨83, [(6, some (.pv (.bool false)))], [], 0, [], [], 0, []⟩) (imps [] ⟨by kernel_rfl, trivial⟩ trivial) ?_
    refine post_next ?_
    refine aw_ret ?_
    refine post_then_ret ?_
    obtain rfl := Option.some.inj hF
    exact post_ret rfl rfl (.cons _ _ _ _ _ (.tmp _ _ rfl) (.p _) .nil) (.inl rfl)
  refine aw_cond_f rfl hb31 ?_
  refine aw_skip ?_
  refine post_next ?_
  iterate 2 (refine aw_seq ?_)
  refine aw_region ?_
  refine ras ?_
  refine reg_nil ?_
  refine post_imp (s' := ⟨83, [(0, some (.pv (.vs 7 (List.map eGClass a0)))), (1, some (.pv (.str a1))), (7, some (.pv (.vs 14 (List.map eGSlot_field y27)))), (8, some (.pv (.vs 14 (List.map eGSlot_field y29)))), (9, some (.pv (.int .i64 0)))], [], 0, [], [], 0, []⟩) (imps [] ⟨by kernel_rfl, by kernel_rfl, by kernel_rfl, by kernel_rfl, by kernel_rfl, trivial⟩ trivial) ?_
  refine post_next ?_
  obtain ⟨lr65, hF, hK66⟩ := bind_some hF
  refine aw_for ((((y29.length : Int) : Int) - (0)).toNat + 1) (fun s1 => ∃ q, lr65 = .next q ∧ s1 = ⟨83, [(0, some (.pv (.vs 7 (List.map eGClass a0)))), (1, some (.pv (.str a1))), (7, some (.pv (.vs 14 (List.map eGSlot_field y27))))], [], 0, [], [], 0, []⟩) ?_ ?_
  · refine rnd_loop (α := Int) (fun q => ⟨83, [(0, some (.pv (.vs 7 (List.map eGClass a0)))), (1, some (.pv (.str a1))), (7, some (.pv (.vs 14 (List.map eGSlot_field y27)))), (8, some (.pv (.vs 14 (List.map eGSlot_field y29)))), (9, some (.pv (.int .i64 q)))], [], 0, [], [], 0, []⟩) (fun k q => law16_FieldKeeps_L1 y27 y29 k q = some lr65) 0 (imps [] ⟨by kernel_rfl, by kernel_rfl, by kernel_rfl, by kernel_rfl, by kernel_rfl, trivial⟩ trivial) hF (fun q h => by cases h) ?_
    clear hF
    rintro k x42 hF ih
    refine rnd_succ ?_
    iterate 2 (refine aw_seq ?_)
    refine aw_region ?_
    iterate 2 (refine rmv ?_)
    refine reg_cons (guard_no rfl) (op_len_vs (n := y29.length) rfl rfl (List.length_map ..) Try_slc_61 rfl rfl) ?_
    refine reg_cons (guard_no rfl) (op_int (k := .i64) (m := x42) (n := (y29.length : Int)) rfl rfl rfl rfl rfl rfl) ?_
    refine reg_nil ?_
    refine post_imp (s' := ⟨83, [(0, some (.pv (.vs 7 (List.map eGClass a0)))), (1, some (.pv (.str a1))), (7, some (.pv (.vs 14 (List.map eGSlot_field y27)))), (8, some (.pv (.vs 14 (List.map eGSlot_field y29)))), (9, some (.pv (.int .i64 x42))), (53, some (.pv (.bool (decide (x42 < (y29.length : Int))))))], [], 0, [], [], 0, []⟩) (imps [] ⟨by kernel_rfl, by kernel_rfl, by kernel_rfl, by kernel_rfl, by kernel_rfl, by kernel_rfl, trivial⟩ trivial) ?_
    refine post_next ?_
    rcases ite_some hF with ⟨hb54, hF⟩ | ⟨hb54, hF⟩
    · refine aw_cond_t rfl hb54 ?_
      refine aw_skip ?_
      refine post_next ?_
      refine aw_seq ?_
      refine aw_block ?_
      refine aw_seq ?_
      refine dr_start ⟨_, _, _⟩ rfl ?_
      iterate 2 (refine drm ?_)
      obtain ⟨y59, h60, hF⟩ := bind_some hF
      refine dr_cons { need := [(56, .pv (.vs 14 (List.map eGSlot_field y27))), (57, .pv (.int .i64 x42))], dst := some 58, val := some (.pv (.vp (eGSlot_field y59))) } (fun m h => step_on (guard_no rfl) (op_index_vs (k := .i64) rfl h.1.1 h.1.2.1 (idx_map eGSlot_field h60) Try_slc_61 rfl rfl) rfl) ⟨⟨rfl, rfl, trivial⟩, trivial, trivial⟩ ?_
      refine dr_cons { need := [(58, .pv (.vp (eGSlot_field y59)))], dst := some 59, val := some (.pv (.agg (eGSlot_field y59))) } (fun m h => step_on (guard_no rfl) (op_load_vp_agg (ps := eGSlot_field y59) rfl h.1.1 rfl rfl Try_agg_71 rfl rfl) rfl) ⟨⟨rfl, trivial⟩, trivial, trivial⟩ ?_
      iterate 2 (refine drm ?_)
      obtain ⟨y61, h62, hF⟩ := bind_some hF
      refine dr_cons { need := [(60, .pv (.vs 14 (List.map eGSlot_field y29))), (61, .pv (.int .i64 x42))], dst := some 62, val := some (.pv (.vp (eGSlot_field y61))) } (fun m h => step_on (guard_no rfl) (op_index_vs (k := .i64) rfl h.1.1 h.1.2.1 (idx_map eGSlot_field h62) Try_slc_61 rfl rfl) rfl) ⟨⟨rfl, rfl, trivial⟩, trivial, trivial⟩ ?_
      refine dr_cons { need := [(62, .pv (.vp (eGSlot_field y61)))], dst := some 63, val := some (.pv (.agg (eGSlot_field y61))) } (fun m h => step_on (guard_no rfl) (op_load_vp_agg (ps := eGSlot_field y61) rfl h.1.1 rfl rfl Try_agg_71 rfl rfl) rfl) ⟨⟨rfl, trivial⟩, trivial, trivial⟩ ?_
      refine dr_cons { need := [(59, .pv (.agg (eGSlot_field y59))), (63, .pv (.agg (eGSlot_field y61)))], dst := some 64, val := some (.pv (.bool (!(bGSlot_field y59 y61)))) } (fun m h => step_on (guard_no rfl) (op_eqAgg_neq (r := bGSlot_field y59 y61) rfl h.1.1 h.1.2.1 Try_eqt_71 rfl rfl rfl rfl rfl) rfl) ⟨⟨rfl, rfl, trivial⟩, trivial, trivial⟩ ?_
      refine dr_nil Try_mixed rfl (by kernel_rfl) ?_
      refine post_imp (s' := ⟨83, [(0, some (.pv (.vs 7 (List.map eGClass a0)))), (1, some (.pv (.str a1))), (7, some (.pv (.vs 14 (List.map eGSlot_field y27)))), (8, some (.pv (.vs 14 (List.map eGSlot_field y29)))), (9, some (.pv (.int .i64 x42))), (64, some (.pv (.bool (!(bGSlot_field y59 y61)))))], [], 0, [], [], 0, []⟩) (imps [] ⟨by kernel_rfl, by kernel_rfl, by kernel_rfl, by kernel_rfl, by kernel_rfl, by kernel_rfl, trivial⟩ trivial) ?_
      refine post_next ?_
      rcases ite_some hF with ⟨hb63, hF⟩ | ⟨hb63, hF⟩
      · refine aw_cond_t rfl hb63 ?_
        refine aw_seq ?_
        refine aw_region ?_
        refine ras ?_
        refine reg_nil ?_
        refine post_imp (s' := ⟨83, [(6, some (.pv (.bool false)))], [], 0, [], [], 0, []⟩) (imps [] ⟨by kernel_rfl, trivial⟩ trivial) ?_
        refine post_next ?_
        refine aw_ret ?_
        refine post_block_ret ?_
        iterate 2 (refine post_then_ret ?_)
        refine post_lp_ret ?_
        obtain rfl := Option.some.inj hF
        have hF := elim_stop hK66
        refine post_then_ret ?_
        obtain rfl := Option.some.inj hF
        exact post_ret rfl rfl (.cons _ _ _ _ _ (.tmp _ _ rfl) (.p _) .nil) (.inl rfl)
      refine aw_cond_f rfl hb63 ?_
      refine aw_skip ?_
      refine post_block_normal ?_
      refine post_next ?_
      refine aw_region ?_
      refine rmv ?_
      refine reg_cons (guard_no rfl) (op_int (k := .i64) (m := x42) (n := 1) rfl rfl rfl rfl rfl rfl) ?_
      refine ras ?_
      refine reg_nil ?_
      refine post_round ?_
      exact rnd_back (ih (w_i64 (x42 + 1)) hF) (imps [] ⟨by kernel_rfl, by kernel_rfl, by kernel_rfl, by kernel_rfl, by kernel_rfl, trivial⟩ trivial)
    refine aw_cond_f rfl hb54 ?_
    refine aw_exit ?_
    iterate 2 (refine post_then_exit ?_)
    obtain rfl := Option.some.inj hF
    exact post_lp_break _ ⟨_, rfl, rfl⟩ (imps [] ⟨by kernel_rfl, by kernel_rfl, by kernel_rfl, trivial⟩ trivial)
  rintro _ ⟨⟨⟩, rfl, rfl⟩
  have hF := elim_next hK66
  clear hK66
  refine post_next ?_
  iterate 2 (refine aw_seq ?_)
  refine aw_region ?_
  refine ras ?_
  refine reg_nil ?_
  refine post_imp (s' := ⟨83, [(0, some (.pv (.vs 7 (List.map eGClass a0)))), (1, some (.pv (.str a1))), (7, some (.pv (.vs 14 (List.map eGSlot_field y27)))), (10, some (.pv (.int .i64 0)))], [], 0, [], [], 0, []⟩) (imps [] ⟨by kernel_rfl, by kernel_rfl, by kernel_rfl, by kernel_rfl, trivial⟩ trivial) ?_
  refine post_next ?_
  obtain ⟨lr100, hF, hK101⟩ := bind_some hF
  refine aw_for ((((y27.length : Int) : Int) - (0)).toNat + 1) (fun s1 => ∃ q, lr100 = .next q ∧ s1 = ⟨83, [], [], 0, [], [], 0, []⟩) ?_ ?_
  · refine rnd_loop (α := Int) (fun q => ⟨83, [(0, some (.pv (.vs 7 (List.map eGClass a0)))), (1, some (.pv (.str a1))), (7, some (.pv (.vs 14 (List.map eGSlot_field y27)))), (10, some (.pv (.int .i64 q)))], [], 0, [], [], 0, []⟩) (fun k q => law16_FieldKeeps_L2 a0 a1 y27 k q = some lr100) 0 (imps [] ⟨by kernel_rfl, by kernel_rfl, by kernel_rfl, by kernel_rfl, trivial⟩ trivial) hF (fun q h => by cases h) ?_
    clear hF
    rintro k x77 hF ih
    refine rnd_succ ?_
    iterate 2 (refine aw_seq ?_)
    refine aw_region ?_
    iterate 2 (refine rmv ?_)
    refine reg_cons (guard_no rfl) (op_len_vs (n := y27.length) rfl rfl (List.length_map ..) Try_slc_61 rfl rfl) ?_
    refine reg_cons (guard_no rfl) (op_int (k := .i64) (m := x77) (n := (y27.length : Int)) rfl rfl rfl rfl rfl rfl) ?_
    refine reg_nil ?_
    refine post_imp (s' := ⟨83, [(0, some (.pv (.vs 7 (List.map eGClass a0)))), (1, some (.pv (.str a1))), (7, some (.pv (.vs 14 (List.map eGSlot_field y27)))), (10, some (.pv (.int .i64 x77))), (68, some (.pv (.bool (decide (x77 < (y27.length : Int))))))], [], 0, [], [], 0, []⟩) (imps [] ⟨by kernel_rfl, by kernel_rfl, by kernel_rfl, by kernel_rfl, by kernel_rfl, trivial⟩ trivial) ?_
    refine post_next ?_
    rcases ite_some hF with ⟨hb89, hF⟩ | ⟨hb89, hF⟩
    · refine aw_cond_t rfl hb89 ?_
      refine aw_skip ?_
      refine post_next ?_
      refine aw_seq ?_
      refine aw_block ?_
      refine aw_seq ?_
      refine aw_region ?_
      iterate 4 (refine rmv ?_)
      obtain ⟨y94, h95, hF⟩ := bind_some hF
      refine reg_cons (guard_no rfl) (op_index_vs (k := .i64) rfl rfl rfl (idx_map eGSlot_field h95) Try_slc_61 rfl rfl) ?_
      refine reg_cons (guard_no rfl) (op_field_vp rfl rfl Try_fld_71_1 rfl rfl) ?_
      refine reg_cons (guard_no rfl) (op_field_vp rfl rfl Try_fld_69_0 rfl rfl) ?_
      refine reg_cons (guard_no rfl) (op_load_vp (p := .str y94.fVar.fName) rfl rfl rfl Try_one_9 rfl rfl) ?_
      obtain ⟨y96, h97, hF⟩ := bind_some hF
      refine reg_cons (guard_no rfl) (op_call 0 rfl (caps := []) (args := [.vs 7 (List.map eGClass a0), .str a1, .str y94.fVar.fName]) (rs := [.p (.int .i64 y96)]) rfl rfl rfl Try_cal_48 (field_Find_ok h97) rfl rfl rfl) ?_
      refine rmv ?_
      refine reg_cons (guard_no rfl) (op_int (k := .i64) (m := y96) (n := x77) rfl rfl rfl rfl rfl rfl) ?_
      refine reg_nil ?_
      refine post_imp (s' := ⟨83, [(0, some (.pv (.vs 7 (List.map eGClass a0)))), (1, some (.pv (.str a1))), (7, some (.pv (.vs 14 (List.map eGSlot_field y27)))), (10, some (.pv (.int .i64 x77))), (81, some (.pv (.bool (y96 != x77))))], [], 0, [], [], 0, []⟩) (imps [] ⟨by kernel_rfl, by kernel_rfl, by kernel_rfl, by kernel_rfl, by kernel_rfl, trivial⟩ trivial) ?_
      refine post_next ?_
      rcases ite_some hF with ⟨hb98, hF⟩ | ⟨hb98, hF⟩
      · refine aw_cond_t rfl hb98 ?_
        refine aw_seq ?_
        refine aw_region ?_
        refine ras ?_
        refine reg_nil ?_
        refine post_imp (s' := ⟨83, [(6, some (.pv (.bool false)))], [], 0, [], [], 0, []⟩) (imps [] ⟨by kernel_rfl, trivial⟩ trivial) ?_
        refine post_next ?_
        refine aw_ret ?_
        refine post_block_ret ?_
        iterate 2 (refine post_then_ret ?_)
        refine post_lp_ret ?_
        obtain rfl := Option.some.inj hF
        have hF := elim_stop hK101
        refine post_then_ret ?_
        obtain rfl := Option.some.inj hF
        exact post_ret rfl rfl (.cons _ _ _ _ _ (.tmp _ _ rfl) (.p _) .nil) (.inl rfl)
      refine aw_cond_f rfl hb98 ?_
      refine aw_skip ?_
      refine post_block_normal ?_
      refine post_next ?_
      refine aw_region ?_
      refine rmv ?_
      refine reg_cons (guard_no rfl) (op_int (k := .i64) (m := x77) (n := 1) rfl rfl rfl rfl rfl rfl) ?_
      refine ras ?_
      refine reg_nil ?_
      refine post_round ?_
      exact rnd_back (ih (w_i64 (x77 + 1)) hF) (imps [] ⟨by kernel_rfl, by kernel_rfl, by kernel_rfl, by kernel_rfl, trivial⟩ trivial)
    refine aw_cond_f rfl hb89 ?_
    refine aw_exit ?_
    iterate 2 (refine post_then_exit ?_)
    obtain rfl := Option.some.inj hF
    exact post_lp_break _ ⟨_, rfl, rfl⟩ (imps [] trivial trivial)
  rintro _ ⟨⟨⟩, rfl, rfl⟩
  have hF := elim_next hK101
  clear hK101
  refine post_next ?_
  refine aw_seq ?_
  refine aw_region ?_
  obtain ⟨y102, h103, hF⟩ := bind_some hF
  refine reg_cons (guard_no rfl) (op_call 0 rfl (caps := []) (args := []) (rs := [.p (.bool y102)]) rfl rfl rfl Try_cal_39 (law16_awake_ok h103) rfl rfl rfl) ?_
  refine ras ?_
  refine reg_nil ?_
  refine post_imp (s' := ⟨83, [(6, some (.pv (.bool y102)))], [], 0, [], [], 0, []⟩) (imps [] ⟨by kernel_rfl, trivial⟩ trivial) ?_
  refine post_next ?_
  refine aw_ret ?_
  obtain rfl := Option.some.inj hF
  exact post_ret rfl rfl (.cons _ _ _ _ _ (.tmp _ _ rfl) (.p _) .nil) (.inl rfl)
end Go.Proofs.Ytdffghiejjaomaa
